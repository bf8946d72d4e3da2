/- near.Between: searches from both ends. -/
import Derived.Test.YtegkdbicomedjaaFNear3
import Derived.Test.YtegkdbicomedjaaPNear3
namespace Go.Proofs.Ytegkdbicomedjaa
open Go Go.RowKit Fly
set_option linter.unusedVariables false
set_option linter.unusedSimpArgs false


/-- Two things that are kept as one each. -/
theorem Sub.flatTwo {segs out1 out2 r : List Seg} (h : Sub segs (out1 ++ (out2 ++ r))) : Sub segs (out1.flatten :: out2.flatten :: r) := by
  obtain ⟨q, h⟩ := h
  exact ⟨q, by simpa using h⟩
theorem Sub.openAt {segs s1 out : List Seg} {m : Seg} [p : Pick segs m s1] (hp : m.Perm out.flatten) : Sub segs (out ++ s1) := Sub.pickF hp Sub.refl
theorem D0_dg {n s u : Nat} (hs : s < n) (hu : u < n) : dg (D0 n s) u = if s = u then 0 else INF := by
  unfold D0; rw [dg_set (by simpa using hs)]; split
  · rfl
  · rw [dg_eq (by simpa using hu)]; simp
/-- What a step of one of the searches leaves. -/
def MeetΦ (n : Nat) (A : Option Addr) (l : List Arc) (cap : Nat) (back : Bool) (s t bx bdx bY bdy bb : Nat) (ox : List Nat) (dy yy : List Int) (Ty : List (Option Int)) (oy : List Nat) (u : Value) (own : List Seg) : Prop :=
  ∃ (ok : Bool) (a : Int) (dx2 xx2 : List Int) (Tx2 : List (Option Int)) (ox2 : List Nat) (mx my : Seg) (best : Int), u = .tuple #[.int .u64 a, .bool ok] ∧ own = [mx, my, [(bb, blk [.int .u64 best] 30)]] ∧ SRep n A l cap back bx bdx dx2 xx2 Tx2 mx ∧ SRep n A l cap (!back) bY bdy dy yy Ty my ∧
    Both n l every back s t dx2 xx2 Tx2 ox2 dy yy Ty oy best ∧ (ok = false → topR Tx2 = none) ∧ (ok = true → (∀ (u : Nat) (x : Int), Tx2[u]? = some (some x) → a ≤ x) ∧ free n ox2 < free n ox) ∧ free n ox2 ≤ free n ox ∧ 0 ≤ a ∧ a ≤ INF

theorem row_min {e : List Arc} {dx dy : List Int} {v j i u : Nat} {bst : Int} (hj : j < (rowOf e v).length) (hr : (rowOf e v)[j] = (i : Int)) (hi : i < e.length) (hu : e[i].dst.toNat = u) (h : ∀ (i : Nat) (h : i < e.length), (i : Int) ∈ (rowOf e v).take j → bst ≤ dg dx e[i].dst.toNat + dg dy e[i].dst.toNat) :
    ∀ (k : Nat) (h : k < e.length), (k : Int) ∈ (rowOf e v).take (j + 1) → min bst (dadd (dg dx u) (dg dy u)) ≤ dg dx e[k].dst.toNat + dg dy e[k].dst.toNat := fun k hk hm => by
  rcases take_next hj hr hm with h' | rfl
  · exact Int.le_trans (Int.min_le_left _ _) (h k hk h')
  · rw [hu]; exact Int.le_trans (Int.min_le_right _ _) (dadd_le _ _)
theorem min_or {n u : Nat} {dx dy : List Int} {best bst : Int} (hu : u < n) (h : bst = best ∨ ∃ u, u < n ∧ bst = dadd (dg dx u) (dg dy u)) : min bst (dadd (dg dx u) (dg dy u)) = best ∨ ∃ w, w < n ∧ min bst (dadd (dg dx u) (dg dy u)) = dadd (dg dx w) (dg dy w) := by
  rcases Int.le_total bst (dadd (dg dx u) (dg dy u)) with h' | h'
  · rw [Int.min_eq_left h']; exact h
  · rw [Int.min_eq_right h']; exact .inr ⟨u, hu, rfl⟩

set_option maxRecDepth 100000 in
set_option maxHeartbeats 4000000 in
theorem meet_spec (n : Nat) (A : Option Addr) (l : List Arc) (cap : Nat) (back : Bool) (s t bx bdx bY bdY bb : Nat) (dx xx : List Int) (Tx : List (Option Int)) (ox : List Nat) (dy yy : List Int) (Ty : List (Option Int)) (oy : List Nat) (best : Int) (mx my : Seg) (w : World)
    (hr : Ro (Fr w [mx, my, [(bb, blk [.int .u64 best] 30)]]) w A (l.flatMap arcCs)) (hg : GOk n l) (hB : Both n l every back s t dx xx Tx ox dy yy Ty oy best) (hSx : SRep n A l cap back bx bdx dx xx Tx mx) (hSy : SRep n A l cap (!back) bY bdY dy yy Ty my) (hw : Owns w [mx, my, [(bb, blk [.int .u64 best] 30)]]) :
    Meets Try.prog 40 [.pointer (some ⟨bx, 0, none⟩), .pointer (some ⟨bY, 0, none⟩), .pointer (some ⟨bb, 0, none⟩)] w [mx, my, [(bb, blk [.int .u64 best] 30)]] (MeetΦ n A l cap back s t bx bdx bY bdY bb ox dy yy Ty oy) := by
  have hn1 := hg.n1
  have hlen := hg.len
  have hml : (l.map (trn back)).length = l.length := List.length_map _
  refine f_enter Try.func40 rfl Try.ntmps40 rfl hw ?_
  refine f_seq fun K1 kh1 => ?_
  refine f_region ?_
  refine f_stepP rfl rfl rfl (o_assign rfl) ?_
  refine f_stepP rfl rfl rfl (o_assign rfl) ?_
  refine f_done ?_
  refine f_tn (kh1 _ _ ?_)
  clear kh1
  refine f_seq fun K2 kh2 => ?_
  refine f_region ?_
  refine f_stepP rfl rfl rfl (o_move rfl) ?_
  refine f_step rfl rfl rfl (o_callM [mx] _ Try.call41 rfl (Sub.pick Sub.refl) (fun w_ hp_ => next_spec n A l cap back every s bx bdx dx xx Tx ox mx 35 [] w_ (hr.up hp_) hg hSx hB.x Try.call35 (fun w' _ i _ => free_spec i w') hp_.owns) ?_)
  rintro v15 m15 hN
  rcases hN with ⟨hnone, rfl, mx2, rfl, hSx2⟩ | ⟨v, a, dx2, xx2, Tx2, mx2, ht, rfl, rfl, hSx2, hvn, hvo, hdv0, hSS2, hTa, hle, hdv, ha0, hai, hch⟩
  · dsimp only [List.cons_append, List.nil_append]
    refine f_stepP rfl rfl rfl (o_move rfl) ?_
    refine f_stepP rfl rfl rfl (o_extract rfl rfl) ?_
    refine f_stepP rfl rfl rfl (o_extract rfl rfl) ?_
    refine f_stepP rfl rfl rfl (o_extract rfl rfl) ?_
    refine f_stepP rfl rfl rfl (o_assign rfl) ?_
    refine f_stepP rfl rfl rfl (o_assign rfl) ?_
    refine f_stepP rfl rfl rfl (o_assign rfl) ?_
    refine f_done ?_
    refine f_tn (kh2 _ _ ?_)
    clear kh2
    refine f_seq fun K3 kh3 => ?_
    refine f_seq fun K4 kh4 => ?_
    refine f_region ?_
    refine f_stepP rfl rfl rfl (o_move rfl) ?_
    refine f_done ?_
    refine f_tn (kh4 _ _ ?_)
    clear kh4
    refine f_condF rfl ?_
    refine f_skip ?_
    refine f_tn (kh3 _ _ ?_)
    clear kh3
    refine f_seq fun K5 kh5 => ?_
    refine f_region ?_
    refine f_stepP rfl rfl rfl (o_move rfl) ?_
    refine f_stepP rfl rfl rfl (o_move rfl) ?_
    refine f_stepP rfl rfl rfl (o_assign rfl) ?_
    refine f_stepP rfl rfl rfl (o_assign rfl) ?_
    refine f_done ?_
    refine f_tn (kh5 _ _ ?_)
    clear kh5
    refine f_ret ?_
    exact f_fin2 [mx2, my, [(bb, blk [.int .u64 best] 30)]] Try.results40 rfl rfl (by repeat (first | exact Sub.nil | refine Sub.pick ?_ | refine Sub.castO rfl ?_)) ⟨false, 0, dx, xx, Tx, ox, mx2, my, best, rfl, rfl, hSx2, hSy, hB, fun _ => hnone, fun h => by (cases h), Nat.le_refl _, by decide, by decide⟩
  have hb0 := hB.b0
  have hkx := hSS2.ld
  have hky := hB.y.ld
  dsimp only [List.cons_append, List.nil_append]
  obtain ⟨box, bbx, bHx, vsx, msx, hmx, hmpx, hRx, hHx⟩ := hSx2
  refine f_subL (Sub.openAt (m := mx2) hmpx) ?_
  unfold ssegs
  dsimp only [List.cons_append, List.nil_append]
  obtain ⟨boY, bbY, bHY, vsY, msY, hmY, hmpY, hRY, hHY⟩ := hSy
  refine f_subL (Sub.openAt (m := my) hmpY) ?_
  unfold ssegs
  dsimp only [List.cons_append, List.nil_append]
  refine f_stepP rfl rfl rfl (o_move rfl) ?_
  refine f_stepP rfl rfl rfl (o_extract rfl rfl) ?_
  refine f_stepP rfl rfl rfl (o_extract rfl rfl) ?_
  refine f_stepP rfl rfl rfl (o_extract rfl rfl) ?_
  refine f_stepP rfl rfl rfl (o_assign rfl) ?_
  refine f_stepP rfl rfl rfl (o_assign rfl) ?_
  refine f_stepP rfl rfl rfl (o_assign rfl) ?_
  refine f_done ?_
  refine f_tn (kh2 _ _ ?_)
  clear kh2
  refine f_seq fun K6 kh6 => ?_
  refine f_seq fun K7 kh7 => ?_
  refine f_region ?_
  refine f_stepP rfl rfl rfl (o_move rfl) ?_
  refine f_done ?_
  refine f_tn (kh7 _ _ ?_)
  clear kh7
  refine f_condT rfl ?_
  refine f_meet (α := Unit) [0, 1, 2, 7, 8, 9] (fun _ => []) (fun _ => [[(bx, blk (scells n A l.length cap back box bdx bbx (.pointer (some ⟨bHx, 0, none⟩))) 70)], [(box, blk vsx 28)], msx.flatten, [(bdx, blk (u64s dx2) 30)], [(bbx, blk (ints xx2) 3)], hmx, [(bY, blk (scells n A l.length cap (!back) boY bdY bbY (.pointer (some ⟨bHY, 0, none⟩))) 70)], [(boY, blk vsY 28)], msY.flatten, [(bdY, blk (u64s dy) 30)], [(bbY, blk (ints yy) 3)], hmY, [(bb, blk [.int .u64 (min best (dadd (dg dx2 v) (dg dy v)))] 30)]]) (fun _ => True) ?_ ?_
  · intro K8 kh8
    refine f_regionH [[(bx, blk (scells n A l.length cap back box bdx bbx (.pointer (some ⟨bHx, 0, none⟩))) 70)], [(bdx, blk (u64s dx2) 30)], [(bY, blk (scells n A l.length cap (!back) boY bdY bbY (.pointer (some ⟨bHY, 0, none⟩))) 70)], [(bdY, blk (u64s dy) 30)]] rfl ?_
    refine f_take 1 rfl (by decide +kernel) rfl rfl rfl (by repeat (first | exact Sub.nil | refine Sub.pick ?_ | refine Sub.castO rfl ?_ | refine Sub.skip ?_)) (o_move rfl) ?_
    refine f_take 2 rfl (by decide +kernel) rfl rfl rfl (by repeat (first | exact Sub.nil | refine Sub.pick ?_ | refine Sub.castO rfl ?_ | refine Sub.skip ?_)) (o_nil rfl) ?_
    refine f_take 3 rfl (by decide +kernel) rfl rfl rfl (by repeat (first | exact Sub.nil | refine Sub.pick ?_ | refine Sub.castO rfl ?_ | refine Sub.skip ?_)) (o_field fa70_3 rfl) ?_
    refine f_take 4 rfl (by decide +kernel) rfl rfl rfl (by repeat (first | exact Sub.nil | refine Sub.pick ?_ | refine Sub.castO rfl ?_ | refine Sub.skip ?_)) (o_load Try.isAgg38 rfl (rdA rfl)) ?_
    refine f_take 5 rfl (by decide +kernel) rfl rfl rfl (by repeat (first | exact Sub.nil | refine Sub.pick ?_ | refine Sub.castO rfl ?_ | refine Sub.skip ?_)) (o_move rfl) ?_
    refine f_take 6 rfl (by decide +kernel) rfl rfl rfl (by repeat (first | exact Sub.nil | refine Sub.pick ?_ | refine Sub.castO rfl ?_ | refine Sub.skip ?_)) (o_idx sl38 rfl rfl (v) ⟨by omega, by omega, by first | omega | (simp; done) | (simp; omega)⟩) ?_
    refine f_take 7 rfl (by decide +kernel) rfl rfl rfl (by repeat (first | exact Sub.nil | refine Sub.pick ?_ | refine Sub.castO rfl ?_ | refine Sub.skip ?_)) (o_load Try.isAgg30 rfl (rdA (u64s_at (dg_at (by omega))))) ?_
    refine f_take 8 rfl (by decide +kernel) rfl rfl rfl (by repeat (first | exact Sub.nil | refine Sub.pick ?_ | refine Sub.castO rfl ?_ | refine Sub.skip ?_)) (o_move rfl) ?_
    refine f_take 9 rfl (by decide +kernel) rfl rfl rfl (by repeat (first | exact Sub.nil | refine Sub.pick ?_ | refine Sub.castO rfl ?_ | refine Sub.skip ?_)) (o_nil rfl) ?_
    refine f_take 10 rfl (by decide +kernel) rfl rfl rfl (by repeat (first | exact Sub.nil | refine Sub.pick ?_ | refine Sub.castO rfl ?_ | refine Sub.skip ?_)) (o_field fa70_3 rfl) ?_
    refine f_take 11 rfl (by decide +kernel) rfl rfl rfl (by repeat (first | exact Sub.nil | refine Sub.pick ?_ | refine Sub.castO rfl ?_ | refine Sub.skip ?_)) (o_load Try.isAgg38 rfl (rdA rfl)) ?_
    refine f_take 12 rfl (by decide +kernel) rfl rfl rfl (by repeat (first | exact Sub.nil | refine Sub.pick ?_ | refine Sub.castO rfl ?_ | refine Sub.skip ?_)) (o_move rfl) ?_
    refine f_take 13 rfl (by decide +kernel) rfl rfl rfl (by repeat (first | exact Sub.nil | refine Sub.pick ?_ | refine Sub.castO rfl ?_ | refine Sub.skip ?_)) (o_idx sl38 rfl rfl (v) ⟨by omega, by omega, by first | omega | (simp; done) | (simp; omega)⟩) ?_
    refine f_take 14 rfl (by decide +kernel) rfl rfl rfl (by repeat (first | exact Sub.nil | refine Sub.pick ?_ | refine Sub.castO rfl ?_ | refine Sub.skip ?_)) (o_load Try.isAgg30 rfl (rdA (u64s_at (dg_at (by omega))))) ?_
    refine f_two 0 15 rfl rfl (by decide +kernel) rfl rfl rfl rfl rfl rfl ?_ ?_
    · skip
      refine (o_load Try.isAgg30 rfl (rdA rfl)).does ⟨(by repeat (first | exact Sub.nil | refine Sub.pick ?_ | refine Sub.castO rfl ?_ | refine Sub.skip ?_)), ?_⟩
      refine f_only 15 rfl (by decide +kernel) rfl rfl rfl (o_call Try.call18 rfl (fun w_ hp_ => Add_spec (dg dx2 v) (dg dy v) w_ (hSS2.rng v hvn) (hB.y.rng v hvn)) ?_)
      rintro _ _ ⟨rfl, rfl⟩
      dsimp only [List.cons_append, List.nil_append]
      refine ⟨(by repeat (first | exact Sub.nil | refine Sub.pick ?_ | refine Sub.castO rfl ?_ | refine Sub.skip ?_)), ?_⟩
      refine f_take 16 rfl (by decide +kernel) rfl rfl rfl (by repeat (first | exact Sub.nil | refine Sub.pick ?_ | refine Sub.castO rfl ?_ | refine Sub.skip ?_)) (o_min rfl rfl) ?_
      refine f_only0 17 rfl (by decide +kernel) rfl rfl (o_store Try.sizeOf30 rfl rfl rfl rfl (by first | exact Nat.le_of_ble_eq_true rfl | (simp; done) | (simp; omega)) _ rfl ⟨(by repeat (first | exact Sub.nil | refine Sub.pick ?_ | refine Sub.castO rfl ?_ | refine Sub.skip ?_)), ?_⟩)
      refine f_over (by decide +kernel) ?_
      refine f_tn (kh8 _ _ (()) trivial ?_ ?_ ?_)
      · exact (by repeat (first | exact trivial | refine ⟨rfl, ?_⟩))
      · exact (by repeat (first | exact trivial | refine ⟨rfl, ?_⟩))
      · repeat (first | exact Sub.nil | refine Sub.pick ?_ | refine Sub.castO rfl ?_ | refine Sub.skip ?_)
    · skip
      refine (o_call Try.call18 rfl (fun w_ hp_ => Add_spec (dg dx2 v) (dg dy v) w_ (hSS2.rng v hvn) (hB.y.rng v hvn)) ?_)
      rintro _ _ ⟨rfl, rfl⟩
      dsimp only [List.cons_append, List.nil_append]
      refine ⟨(by repeat (first | exact Sub.nil | refine Sub.pick ?_ | refine Sub.castO rfl ?_ | refine Sub.skip ?_)), ?_⟩
      refine f_only 0 rfl (by decide +kernel) rfl rfl rfl ((o_load Try.isAgg30 rfl (rdA rfl)).does ⟨(by repeat (first | exact Sub.nil | refine Sub.pick ?_ | refine Sub.castO rfl ?_ | refine Sub.skip ?_)), ?_⟩)
      refine f_take 16 rfl (by decide +kernel) rfl rfl rfl (by repeat (first | exact Sub.nil | refine Sub.pick ?_ | refine Sub.castO rfl ?_ | refine Sub.skip ?_)) (o_min rfl rfl) ?_
      refine f_only0 17 rfl (by decide +kernel) rfl rfl (o_store Try.sizeOf30 rfl rfl rfl rfl (by first | exact Nat.le_of_ble_eq_true rfl | (simp; done) | (simp; omega)) _ rfl ⟨(by repeat (first | exact Sub.nil | refine Sub.pick ?_ | refine Sub.castO rfl ?_ | refine Sub.skip ?_)), ?_⟩)
      refine f_over (by decide +kernel) ?_
      refine f_tn (kh8 _ _ (()) trivial ?_ ?_ ?_)
      · exact (by repeat (first | exact trivial | refine ⟨rfl, ?_⟩))
      · exact (by repeat (first | exact trivial | refine ⟨rfl, ?_⟩))
      · repeat (first | exact Sub.nil | refine Sub.pick ?_ | refine Sub.castO rfl ?_ | refine Sub.skip ?_)
  · rintro _ _
    refine f_seq fun K9 kh9 => ?_
    have hrows := rowsOf_len n (l.map (trn back))
    obtain ⟨rv, rm, rG, hrv, hro, hrp, _⟩ := hRx.split (i := v) (by omega)
    rw [rowsOf_get] at hro
    obtain ⟨Ar, cr, rfl, hcr⟩ := hro.val
    refine f_subC (Sub.splitF hrp) ?_
    have hrl : (rowOf (l.map (trn back)) v).length ≤ 8192 := by unfold rowOf; rw [idxs_length]; exact Nat.le_trans List.countP_le_length (by omega)
    refine f_region ?_
    refine f_stepP rfl rfl rfl (o_move rfl) ?_
    refine f_stepP rfl rfl rfl (o_nil rfl) ?_
    refine f_stepP rfl rfl rfl (o_field fa70_2 rfl) ?_
    refine f_stepP rfl rfl rfl (o_load Try.isAgg67 rfl (rdA rfl)) ?_
    refine f_stepP rfl rfl rfl (o_move rfl) ?_
    refine f_stepP rfl rfl rfl (o_idx sl67 rfl rfl (v) ⟨by omega, by omega, by first | omega | (simp; done) | (simp; omega)⟩) ?_
    refine f_stepP rfl rfl rfl (o_load Try.isAgg28 rfl (rdA hrv)) ?_
    refine f_stepP rfl rfl rfl (o_len sl28 rfl) ?_
    refine f_stepP rfl rfl rfl (o_move rfl) ?_
    refine f_done ?_
    refine f_tn (kh9 _ _ ?_)
    clear kh9
    refine f_block ?_
    refine f_loop (α := Nat × Int) [0, 1, 2, 8, 9, 43, 44] (fun ⟨j, bst⟩ => [(45, .int .i64 (j : Int))]) (fun ⟨j, bst⟩ => [[(bx, blk (scells n A l.length cap back box bdx bbx (.pointer (some ⟨bHx, 0, none⟩))) 70)], [(box, blk vsx 28)], rm, rG, [(bdx, blk (u64s dx2) 30)], [(bbx, blk (ints xx2) 3)], hmx, [(bY, blk (scells n A l.length cap (!back) boY bdY bbY (.pointer (some ⟨bHY, 0, none⟩))) 70)], [(boY, blk vsY 28)], msY.flatten, [(bdY, blk (u64s dy) 30)], [(bbY, blk (ints yy) 3)], hmY, [(bb, blk [.int .u64 bst] 30)]]) (fun ⟨j, bst⟩ => j ≤ (rowOf (l.map (trn back)) v).length ∧ bst ≤ best ∧ (∀ (i : Nat) (h : i < (l.map (trn back)).length), (i : Int) ∈ (rowOf (l.map (trn back)) v).take j → bst ≤ dg dx2 (l.map (trn back))[i].dst.toNat + dg dy (l.map (trn back))[i].dst.toNat) ∧ (bst = best ∨ ∃ u, u < n ∧ bst = dadd (dg dx2 u) (dg dy u))) (fun ⟨j, bst⟩ => (rowOf (l.map (trn back)) v).length - j) (0, min best (dadd (dg dx2 v) (dg dy v))) ?_ ?_ ?_ ?_
    · exact (by repeat (first | exact trivial | refine ⟨rfl, ?_⟩))
    · repeat (first | exact Sub.nil | refine Sub.pick ?_ | refine Sub.castO rfl ?_ | refine Sub.skip ?_)
    · exact ⟨Nat.zero_le _, Int.min_le_left _ _, fun i h hm => by simp at hm, min_or (best := best) hvn (.inl rfl)⟩
    · rintro ⟨j, bst⟩ ⟨hjl, hbb, hbl, hbu⟩
      refine f_seq fun K10 kh10 => ?_
      refine f_region ?_
      refine f_stepP rfl rfl rfl (o_lss rfl rfl) ?_
      refine f_done ?_
      refine f_tn (kh10 _ _ ?_)
      clear kh10
      refine f_seq fun K11 kh11 => ?_
      refine f_cond rfl (fun c46 => ?_) (fun c46 => ?_)
      · skip
        refine f_skip ?_
        refine f_tn (kh11 _ _ ?_)
        clear kh11
        refine f_seq fun K12 kh12 => ?_
        refine f_block ?_
        refine f_seq fun K13 kh13 => ?_
        refine f_region ?_
        have hj : j < (rowOf (l.map (trn back)) v).length := by omega
        obtain ⟨br, spr, rfl, rfl, _⟩ := hro.upd (by omega)
        obtain ⟨i, hi, hri, hsrc⟩ := rowOf_at hj
        have hil : i < l.length := by omega
        obtain ⟨u, hu, hun⟩ : ∃ u : Nat, (trn back l[i]).dst = (u : Int) ∧ u < n := ⟨(trn back l[i]).dst.toNat, by have := hg.good i hil; cases back <;> simp [trn] <;> omega, by have := hg.good i hil; cases back <;> simp [trn] <;> omega⟩
        have hud : (l.map (trn back))[i].dst.toNat = u := by rw [trn_get _ hil, hu]; rfl
        have hr0 := hr
        obtain ⟨bl, off, rfl, hS', hc⟩ := hr (flat_ne arcCs arcCs_len (by omega) hil)
        refine f_stepP rfl rfl rfl (o_idx sl28 rfl rfl (j) ⟨by omega, by omega, by first | omega | (simp; done) | (simp; omega)⟩) ?_
        refine f_stepP rfl rfl rfl (o_load Try.isAgg3 rfl (rdA (v := .int .i64 (i : Int)) (app_get (by rw [ints_get hj, hri])))) ?_
        refine f_stepP rfl rfl rfl (o_assign rfl) ?_
        refine f_done ?_
        refine f_tn (kh13 _ _ ?_)
        clear kh13
        refine f_seq fun K14 kh14 => ?_
        refine f_region ?_
        refine f_stepP rfl rfl rfl (o_move rfl) ?_
        refine f_stepP rfl rfl rfl (o_move rfl) ?_
        refine f_step rfl rfl rfl (o_call Try.call42 rfl (fun w_ hp_ => far_spec n (some ⟨bl, off, none⟩) l cap back bx box bdx bbx i (.pointer (some ⟨bHx, 0, none⟩)) w_ (roOwn (b := bx) hp_ (fun j v hj => hj)) (hr0.up0 hp_) hil hlen) ?_)
        rintro _ _ ⟨rfl, rfl⟩
        rw [hu]
        dsimp only [List.cons_append, List.nil_append]
        refine f_stepP rfl rfl rfl (o_assign rfl) ?_
        refine f_done ?_
        refine f_tn (kh14 _ _ ?_)
        clear kh14
        refine f_regionH [[(bx, blk (scells n (some ⟨bl, off, none⟩) l.length cap back box bdx bbx (.pointer (some ⟨bHx, 0, none⟩))) 70)], [(bdx, blk (u64s dx2) 30)], [(bY, blk (scells n (some ⟨bl, off, none⟩) l.length cap (!back) boY bdY bbY (.pointer (some ⟨bHY, 0, none⟩))) 70)], [(bdY, blk (u64s dy) 30)]] rfl ?_
        refine f_take 1 rfl (by decide +kernel) rfl rfl rfl (by repeat (first | exact Sub.nil | refine Sub.pick ?_ | refine Sub.castO rfl ?_ | refine Sub.skip ?_)) (o_move rfl) ?_
        refine f_take 2 rfl (by decide +kernel) rfl rfl rfl (by repeat (first | exact Sub.nil | refine Sub.pick ?_ | refine Sub.castO rfl ?_ | refine Sub.skip ?_)) (o_nil rfl) ?_
        refine f_take 3 rfl (by decide +kernel) rfl rfl rfl (by repeat (first | exact Sub.nil | refine Sub.pick ?_ | refine Sub.castO rfl ?_ | refine Sub.skip ?_)) (o_field fa70_3 rfl) ?_
        refine f_take 4 rfl (by decide +kernel) rfl rfl rfl (by repeat (first | exact Sub.nil | refine Sub.pick ?_ | refine Sub.castO rfl ?_ | refine Sub.skip ?_)) (o_load Try.isAgg38 rfl (rdA rfl)) ?_
        refine f_take 5 rfl (by decide +kernel) rfl rfl rfl (by repeat (first | exact Sub.nil | refine Sub.pick ?_ | refine Sub.castO rfl ?_ | refine Sub.skip ?_)) (o_move rfl) ?_
        refine f_take 6 rfl (by decide +kernel) rfl rfl rfl (by repeat (first | exact Sub.nil | refine Sub.pick ?_ | refine Sub.castO rfl ?_ | refine Sub.skip ?_)) (o_idx sl38 rfl rfl (u) ⟨by omega, by omega, by first | omega | (simp; done) | (simp; omega)⟩) ?_
        refine f_take 7 rfl (by decide +kernel) rfl rfl rfl (by repeat (first | exact Sub.nil | refine Sub.pick ?_ | refine Sub.castO rfl ?_ | refine Sub.skip ?_)) (o_load Try.isAgg30 rfl (rdA (u64s_at (dg_at (by omega))))) ?_
        refine f_take 8 rfl (by decide +kernel) rfl rfl rfl (by repeat (first | exact Sub.nil | refine Sub.pick ?_ | refine Sub.castO rfl ?_ | refine Sub.skip ?_)) (o_move rfl) ?_
        refine f_take 9 rfl (by decide +kernel) rfl rfl rfl (by repeat (first | exact Sub.nil | refine Sub.pick ?_ | refine Sub.castO rfl ?_ | refine Sub.skip ?_)) (o_nil rfl) ?_
        refine f_take 10 rfl (by decide +kernel) rfl rfl rfl (by repeat (first | exact Sub.nil | refine Sub.pick ?_ | refine Sub.castO rfl ?_ | refine Sub.skip ?_)) (o_field fa70_3 rfl) ?_
        refine f_take 11 rfl (by decide +kernel) rfl rfl rfl (by repeat (first | exact Sub.nil | refine Sub.pick ?_ | refine Sub.castO rfl ?_ | refine Sub.skip ?_)) (o_load Try.isAgg38 rfl (rdA rfl)) ?_
        refine f_take 12 rfl (by decide +kernel) rfl rfl rfl (by repeat (first | exact Sub.nil | refine Sub.pick ?_ | refine Sub.castO rfl ?_ | refine Sub.skip ?_)) (o_move rfl) ?_
        refine f_take 13 rfl (by decide +kernel) rfl rfl rfl (by repeat (first | exact Sub.nil | refine Sub.pick ?_ | refine Sub.castO rfl ?_ | refine Sub.skip ?_)) (o_idx sl38 rfl rfl (u) ⟨by omega, by omega, by first | omega | (simp; done) | (simp; omega)⟩) ?_
        refine f_take 14 rfl (by decide +kernel) rfl rfl rfl (by repeat (first | exact Sub.nil | refine Sub.pick ?_ | refine Sub.castO rfl ?_ | refine Sub.skip ?_)) (o_load Try.isAgg30 rfl (rdA (u64s_at (dg_at (by omega))))) ?_
        refine f_two 0 15 rfl rfl (by decide +kernel) rfl rfl rfl rfl rfl rfl ?_ ?_
        · skip
          refine (o_load Try.isAgg30 rfl (rdA rfl)).does ⟨(by repeat (first | exact Sub.nil | refine Sub.pick ?_ | refine Sub.castO rfl ?_ | refine Sub.skip ?_)), ?_⟩
          refine f_only 15 rfl (by decide +kernel) rfl rfl rfl (o_call Try.call18 rfl (fun w_ hp_ => Add_spec (dg dx2 u) (dg dy u) w_ (hSS2.rng u hun) (hB.y.rng u hun)) ?_)
          rintro _ _ ⟨rfl, rfl⟩
          dsimp only [List.cons_append, List.nil_append]
          refine ⟨(by repeat (first | exact Sub.nil | refine Sub.pick ?_ | refine Sub.castO rfl ?_ | refine Sub.skip ?_)), ?_⟩
          refine f_take 16 rfl (by decide +kernel) rfl rfl rfl (by repeat (first | exact Sub.nil | refine Sub.pick ?_ | refine Sub.castO rfl ?_ | refine Sub.skip ?_)) (o_min rfl rfl) ?_
          refine f_only0 17 rfl (by decide +kernel) rfl rfl (o_store Try.sizeOf30 rfl rfl rfl rfl (by first | exact Nat.le_of_ble_eq_true rfl | (simp; done) | (simp; omega)) _ rfl ⟨(by repeat (first | exact Sub.nil | refine Sub.pick ?_ | refine Sub.castO rfl ?_ | refine Sub.skip ?_)), ?_⟩)
          refine f_over (by decide +kernel) ?_
          refine f_bn ?_
          refine f_tn (kh12 _ _ ?_)
          clear kh12
          refine f_region ?_
          refine f_stepP rfl rfl rfl (o_add rfl rfl _ (wrap_i64 (by omega))) ?_
          refine f_stepP rfl rfl rfl (o_move rfl) ?_
          refine f_done ?_
          refine f_tn (f_again (j + 1, min bst (dadd (dg dx2 u) (dg dy u))) (by first | omega | (dsimp only; omega) | (simp; omega)) ⟨by omega, Int.le_trans (Int.min_le_left _ _) hbb, row_min hj hri hi hud hbl, min_or hun hbu⟩ ?_ ?_ ?_)
          · exact (by repeat (first | exact trivial | refine ⟨rfl, ?_⟩))
          · exact (by repeat (first | exact trivial | refine ⟨rfl, ?_⟩))
          · repeat (first | exact Sub.nil | refine Sub.pick ?_ | refine Sub.castO rfl ?_ | refine Sub.skip ?_)
        · skip
          refine (o_call Try.call18 rfl (fun w_ hp_ => Add_spec (dg dx2 u) (dg dy u) w_ (hSS2.rng u hun) (hB.y.rng u hun)) ?_)
          rintro _ _ ⟨rfl, rfl⟩
          dsimp only [List.cons_append, List.nil_append]
          refine ⟨(by repeat (first | exact Sub.nil | refine Sub.pick ?_ | refine Sub.castO rfl ?_ | refine Sub.skip ?_)), ?_⟩
          refine f_only 0 rfl (by decide +kernel) rfl rfl rfl ((o_load Try.isAgg30 rfl (rdA rfl)).does ⟨(by repeat (first | exact Sub.nil | refine Sub.pick ?_ | refine Sub.castO rfl ?_ | refine Sub.skip ?_)), ?_⟩)
          refine f_take 16 rfl (by decide +kernel) rfl rfl rfl (by repeat (first | exact Sub.nil | refine Sub.pick ?_ | refine Sub.castO rfl ?_ | refine Sub.skip ?_)) (o_min rfl rfl) ?_
          refine f_only0 17 rfl (by decide +kernel) rfl rfl (o_store Try.sizeOf30 rfl rfl rfl rfl (by first | exact Nat.le_of_ble_eq_true rfl | (simp; done) | (simp; omega)) _ rfl ⟨(by repeat (first | exact Sub.nil | refine Sub.pick ?_ | refine Sub.castO rfl ?_ | refine Sub.skip ?_)), ?_⟩)
          refine f_over (by decide +kernel) ?_
          refine f_bn ?_
          refine f_tn (kh12 _ _ ?_)
          clear kh12
          refine f_region ?_
          refine f_stepP rfl rfl rfl (o_add rfl rfl _ (wrap_i64 (by omega))) ?_
          refine f_stepP rfl rfl rfl (o_move rfl) ?_
          refine f_done ?_
          refine f_tn (f_again (j + 1, min bst (dadd (dg dx2 u) (dg dy u))) (by first | omega | (dsimp only; omega) | (simp; omega)) ⟨by omega, Int.le_trans (Int.min_le_left _ _) hbb, row_min hj hri hi hud hbl, min_or hun hbu⟩ ?_ ?_ ?_)
          · exact (by repeat (first | exact trivial | refine ⟨rfl, ?_⟩))
          · exact (by repeat (first | exact trivial | refine ⟨rfl, ?_⟩))
          · repeat (first | exact Sub.nil | refine Sub.pick ?_ | refine Sub.castO rfl ?_ | refine Sub.skip ?_)
      · skip
        refine f_exit ?_
        refine f_te ?_
        clear kh11
        refine f_te ?_
        refine f_be ?_
        refine f_tn (kh6 _ _ ?_)
        clear kh6
        refine f_seq fun K15 kh15 => ?_
        refine f_region ?_
        refine f_stepP rfl rfl rfl (o_move rfl) ?_
        refine f_stepP rfl rfl rfl (o_move rfl) ?_
        refine f_stepP rfl rfl rfl (o_assign rfl) ?_
        refine f_stepP rfl rfl rfl (o_assign rfl) ?_
        refine f_done ?_
        refine f_tn (kh15 _ _ ?_)
        clear kh15
        refine f_ret ?_
        exact f_fin2 [(ssegs bx box bdx bbx bHx n A l.length cap back vsx msx.flatten dx2 xx2 hmx).flatten, (ssegs bY boY bdY bbY bHY n A l.length cap (!back) vsY msY.flatten dy yy hmY).flatten, [(bb, blk [.int .u64 bst] 30)]] Try.results40 rfl rfl (Sub.transF (Sub.joinF (m := rm) (G' := rG) hrp.symm) (Sub.flatTwo (by unfold ssegs; dsimp only [List.cons_append, List.nil_append]; repeat (first | exact Sub.nil | refine Sub.pick ?_ | refine Sub.castO rfl ?_)))) ⟨true, a, dx2, xx2, Tx2, v :: ox, _, _, bst, rfl, rfl, SRep_mk hRx hHx rfl, SRep_mk hRY hHY rfl, hB.step hvn hSS2 hle hch hbb (fun i h e => hbl i h (by rw [List.take_of_length_le (by omega), ← e]; exact rowOf_mem h)) hbu, fun h => by (cases h), fun _ => ⟨hTa, free_cons hvn hvo⟩, Nat.le_of_lt (free_cons hvn hvo), ha0, Int.le_of_lt hai⟩


/-- What Between answers. -/
def BtwΦ (N : Int) (l : List Arc) (s t : Int) (u : Value) (own : List Seg) : Prop :=
  ∃ x, u = .tuple #[.int .u64 x, .int .i64 (nlooked N l [s, t])] ∧ own = [] ∧ (nlooked N l [s, t] ≠ 0 → x = 0) ∧ (nlooked N l [s, t] = 0 → 0 ≤ x ∧ IsB (l.map (trn false)) every s.toNat t.toNat x)

set_option maxRecDepth 100000 in
set_option maxHeartbeats 4000000 in
theorem Between_spec (N : Int) (A : Option Addr) (l : List Arc) (cap : Nat) (s t : Int) (w : World) (hr : Ro (Fr w []) w A (l.flatMap arcCs)) (hl : l.length ≤ 9223372036854775807) (hN : I64 N) (hok : ∀ x ∈ l, ArcOk x) :
    Meets Try.prog 19 [.agg #[.int .i64 N, .slice A l.length cap], .int .i64 s, .int .i64 t] w [] (BtwΦ N l s t) := by
  refine f_enter Try.func19 rfl Try.ntmps19 rfl Owns.nil ?_
  refine f_seq fun K1 kh1 => ?_
  refine f_region ?_
  refine f_step rfl rfl rfl (o_box rfl rfl fun b3 => ?_)
  refine f_stepP rfl rfl rfl (o_assign rfl) ?_
  refine f_stepP rfl rfl rfl (o_assign rfl) ?_
  refine f_done ?_
  refine f_tn (kh1 _ _ ?_)
  clear kh1
  refine f_seq fun K2 kh2 => ?_
  refine f_seq fun K3 kh3 => ?_
  refine f_region ?_
  refine f_stepP rfl rfl rfl (o_loadA (vs := [_, _]) Try.isAgg24 Try.sizeOf24 rfl rfl ⟨(rdA rfl), (rdA rfl), trivial⟩) ?_
  refine f_stepP rfl rfl rfl (o_move rfl) ?_
  refine f_stepP rfl rfl rfl (o_move rfl) ?_
  refine f_step rfl rfl rfl (o_sliceN (len := 2) el28 (by omega) rfl rfl fun b20 => ?_)
  refine f_step rfl rfl rfl (o_call Try.call32 rfl (fun w_ hp_ => looked_spec N A l cap (some ⟨b20, 0, none⟩) [s, t] 2 w_ (hr.up0 hp_) (roOwn (b := b20) hp_ (cs := ints [s, t]) (fun j v hj => hj)) hl hN hok (by simp)) ?_)
  rintro _ _ ⟨rfl, rfl⟩
  dsimp only [List.cons_append, List.nil_append]
  refine f_stepP rfl rfl rfl (o_assign rfl) ?_
  refine f_done ?_
  refine f_tn (kh3 _ _ ?_)
  clear kh3
  refine f_seq fun K4 kh4 => ?_
  refine f_region ?_
  refine f_stepP rfl rfl rfl (o_move rfl) ?_
  refine f_stepP rfl rfl rfl (o_neq rfl rfl) ?_
  refine f_done ?_
  refine f_tn (kh4 _ _ ?_)
  clear kh4
  refine f_cond rfl (fun c23 => ?_) (fun c23 => ?_)
  · skip
    refine f_seq fun K5 kh5 => ?_
    refine f_region ?_
    refine f_stepP rfl rfl rfl (o_move rfl) ?_
    refine f_stepP rfl rfl rfl (o_assign rfl) ?_
    refine f_stepP rfl rfl rfl (o_assign rfl) ?_
    refine f_done ?_
    refine f_tn (kh5 _ _ ?_)
    clear kh5
    refine f_ret ?_
    refine f_tr ?_
    exact f_fin2 [] Try.results19 rfl rfl Sub.nil ⟨0, rfl, rfl, fun _ => rfl, fun h => absurd h c23⟩
  · skip
    have hz : nlooked N l [s, t] = 0 := by simpa using c23
    obtain ⟨hg0, hv⟩ := nlooked_zero hz
    have hv1 := hv s (by simp)
    have hv2 := hv t (by simp)
    obtain ⟨n, rfl⟩ : ∃ n : Nat, N = n := ⟨N.toNat, by omega⟩
    obtain ⟨ks, rfl⟩ : ∃ k : Nat, s = k := ⟨s.toNat, by omega⟩
    obtain ⟨kt, rfl⟩ : ∃ k : Nat, t = k := ⟨t.toNat, by omega⟩
    have hg := gok_of hg0 hok
    have hks : ks < n := by omega
    have hkt : kt < n := by omega
    have hn1 := hg.n1
    have hdl : ∀ k, (D0 n k).length = n := fun k => by simp [D0]
    have hsx := SS_begin (e := l.map (trn false)) (p := every) hks
    have hsy := SS_begin (e := l.map (trn true)) (p := every) hkt
    have hB0 := Both.start (back := false) hks hkt hsx hsy (fun u hu => D0_dg hks hu) (fun u hu => D0_dg hkt hu)
    refine f_skip ?_
    refine f_tn (kh2 _ _ ?_)
    clear kh2
    refine f_seq fun K6 kh6 => ?_
    refine f_regionH [[(b3, blk [.int .i64 (n : Int), .slice A l.length cap] 24)]] rfl ?_
    refine f_take 0 rfl (by decide +kernel) rfl rfl rfl (by repeat (first | exact Sub.nil | refine Sub.pick ?_ | refine Sub.castO rfl ?_ | refine Sub.skip ?_)) (o_loadA (vs := [_, _]) Try.isAgg24 Try.sizeOf24 rfl rfl ⟨(rdA rfl), (rdA rfl), trivial⟩) ?_
    refine f_take 1 rfl (by decide +kernel) rfl rfl rfl (by repeat (first | exact Sub.nil | refine Sub.pick ?_ | refine Sub.castO rfl ?_ | refine Sub.skip ?_)) (o_move rfl) ?_
    refine f_take 3 rfl (by decide +kernel) rfl rfl rfl (by repeat (first | exact Sub.nil | refine Sub.pick ?_ | refine Sub.castO rfl ?_ | refine Sub.skip ?_)) (o_loadA (vs := [_, _]) Try.isAgg24 Try.sizeOf24 rfl rfl ⟨(rdA rfl), (rdA rfl), trivial⟩) ?_
    refine f_take 4 rfl (by decide +kernel) rfl rfl rfl (by repeat (first | exact Sub.nil | refine Sub.pick ?_ | refine Sub.castO rfl ?_ | refine Sub.skip ?_)) (o_move rfl) ?_
    refine f_only 2 rfl (by decide +kernel) rfl rfl rfl (o_call Try.call33 rfl (fun w_ hp_ => begin_spec n A l cap false ks w_ (hr.up0 hp_) hg hks) ?_)
    rintro _ _ ⟨bx, bdx, mx0, rfl, rfl, hSx0⟩
    dsimp only [List.cons_append, List.nil_append]
    refine ⟨(by repeat (first | exact Sub.nil | refine Sub.pick ?_ | refine Sub.castO rfl ?_ | refine Sub.skip ?_)), ?_⟩
    refine f_only 5 rfl (by decide +kernel) rfl rfl rfl (o_call Try.call33 rfl (fun w_ hp_ => begin_spec n A l cap true kt w_ (hr.up0 hp_) hg hkt) ?_)
    rintro _ _ ⟨bY, bdY, my0, rfl, rfl, hSy0⟩
    dsimp only [List.cons_append, List.nil_append]
    refine ⟨(by repeat (first | exact Sub.nil | refine Sub.pick ?_ | refine Sub.castO rfl ?_ | refine Sub.skip ?_)), ?_⟩
    refine f_only 6 rfl (by decide +kernel) rfl rfl rfl ((o_assign rfl).does ⟨(by repeat (first | exact Sub.nil | refine Sub.pick ?_ | refine Sub.castO rfl ?_ | refine Sub.skip ?_)), ?_⟩)
    refine f_only 7 rfl (by decide +kernel) rfl rfl rfl ((o_assign rfl).does ⟨(by repeat (first | exact Sub.nil | refine Sub.pick ?_ | refine Sub.castO rfl ?_ | refine Sub.skip ?_)), ?_⟩)
    obtain ⟨box, bbx, bHx, vsx, msx, hmx, hmpx, hRx, hHx⟩ := hSx0
    refine f_subH (Sub.openAt (m := mx0) hmpx) ?_
    unfold ssegs
    dsimp only [List.cons_append, List.nil_append]
    obtain ⟨boY, bbY, bHY, vsY, msY, hmY, hmpY, hRY, hHY⟩ := hSy0
    refine f_subH (Sub.openAt (m := my0) hmpY) ?_
    unfold ssegs
    dsimp only [List.cons_append, List.nil_append]
    refine f_over (by decide +kernel) ?_
    refine f_tn (kh6 _ _ ?_)
    clear kh6
    refine f_meet (α := Nat) [9, 10] (fun b11 => [(11, .pointer (some ⟨b11, 0, none⟩))]) (fun b11 => [[(b11, blk [.int .u64 (dadd (dg (D0 n ks) kt) (dg (D0 n kt) ks))] 30)], [(bx, blk (scells n A l.length cap false box bdx bbx (.pointer (some ⟨bHx, 0, none⟩))) 70)], [(box, blk vsx 28)], msx.flatten, [(bdx, blk (u64s (D0 n ks)) 30)], [(bbx, blk (ints (B0 n)) 3)], hmx, [(bY, blk (scells n A l.length cap true boY bdY bbY (.pointer (some ⟨bHY, 0, none⟩))) 70)], [(boY, blk vsY 28)], msY.flatten, [(bdY, blk (u64s (D0 n kt)) 30)], [(bbY, blk (ints (B0 n)) 3)], hmY]) (fun b11 => True) ?_ ?_
    · intro K7 kh7
      refine f_regionH [[(bx, blk (scells n A l.length cap false box bdx bbx (.pointer (some ⟨bHx, 0, none⟩))) 70)], [(bdx, blk (u64s (D0 n ks)) 30)], [(bY, blk (scells n A l.length cap true boY bdY bbY (.pointer (some ⟨bHY, 0, none⟩))) 70)], [(bdY, blk (u64s (D0 n kt)) 30)]] rfl ?_
      refine f_take 0 rfl (by decide +kernel) rfl rfl rfl (by repeat (first | exact Sub.nil | refine Sub.pick ?_ | refine Sub.castO rfl ?_ | refine Sub.skip ?_)) (o_move rfl) ?_
      refine f_take 1 rfl (by decide +kernel) rfl rfl rfl (by repeat (first | exact Sub.nil | refine Sub.pick ?_ | refine Sub.castO rfl ?_ | refine Sub.skip ?_)) (o_nil rfl) ?_
      refine f_take 2 rfl (by decide +kernel) rfl rfl rfl (by repeat (first | exact Sub.nil | refine Sub.pick ?_ | refine Sub.castO rfl ?_ | refine Sub.skip ?_)) (o_field fa70_3 rfl) ?_
      refine f_take 3 rfl (by decide +kernel) rfl rfl rfl (by repeat (first | exact Sub.nil | refine Sub.pick ?_ | refine Sub.castO rfl ?_ | refine Sub.skip ?_)) (o_load Try.isAgg38 rfl (rdA rfl)) ?_
      refine f_take 4 rfl (by decide +kernel) rfl rfl rfl (by repeat (first | exact Sub.nil | refine Sub.pick ?_ | refine Sub.castO rfl ?_ | refine Sub.skip ?_)) (o_move rfl) ?_
      refine f_take 5 rfl (by decide +kernel) rfl rfl rfl (by repeat (first | exact Sub.nil | refine Sub.pick ?_ | refine Sub.castO rfl ?_ | refine Sub.skip ?_)) (o_idx sl38 rfl rfl (kt) ⟨by omega, by omega, by first | omega | (simp; done) | (simp; omega)⟩) ?_
      refine f_take 6 rfl (by decide +kernel) rfl rfl rfl (by repeat (first | exact Sub.nil | refine Sub.pick ?_ | refine Sub.castO rfl ?_ | refine Sub.skip ?_)) (o_load Try.isAgg30 rfl (rdA (u64s_at (dg_at (by rw [hdl]; exact hkt))))) ?_
      refine f_take 7 rfl (by decide +kernel) rfl rfl rfl (by repeat (first | exact Sub.nil | refine Sub.pick ?_ | refine Sub.castO rfl ?_ | refine Sub.skip ?_)) (o_move rfl) ?_
      refine f_take 8 rfl (by decide +kernel) rfl rfl rfl (by repeat (first | exact Sub.nil | refine Sub.pick ?_ | refine Sub.castO rfl ?_ | refine Sub.skip ?_)) (o_nil rfl) ?_
      refine f_take 9 rfl (by decide +kernel) rfl rfl rfl (by repeat (first | exact Sub.nil | refine Sub.pick ?_ | refine Sub.castO rfl ?_ | refine Sub.skip ?_)) (o_field fa70_3 rfl) ?_
      refine f_take 10 rfl (by decide +kernel) rfl rfl rfl (by repeat (first | exact Sub.nil | refine Sub.pick ?_ | refine Sub.castO rfl ?_ | refine Sub.skip ?_)) (o_load Try.isAgg38 rfl (rdA rfl)) ?_
      refine f_take 11 rfl (by decide +kernel) rfl rfl rfl (by repeat (first | exact Sub.nil | refine Sub.pick ?_ | refine Sub.castO rfl ?_ | refine Sub.skip ?_)) (o_move rfl) ?_
      refine f_take 12 rfl (by decide +kernel) rfl rfl rfl (by repeat (first | exact Sub.nil | refine Sub.pick ?_ | refine Sub.castO rfl ?_ | refine Sub.skip ?_)) (o_idx sl38 rfl rfl (ks) ⟨by omega, by omega, by first | omega | (simp; done) | (simp; omega)⟩) ?_
      refine f_take 13 rfl (by decide +kernel) rfl rfl rfl (by repeat (first | exact Sub.nil | refine Sub.pick ?_ | refine Sub.castO rfl ?_ | refine Sub.skip ?_)) (o_load Try.isAgg30 rfl (rdA (u64s_at (dg_at (by rw [hdl]; exact hks))))) ?_
      refine f_two 14 15 rfl rfl (by decide +kernel) rfl rfl rfl rfl rfl rfl ?_ ?_
      · skip
        refine (o_call Try.call18 rfl (fun w_ hp_ => Add_spec (dg (D0 n ks) kt) (dg (D0 n kt) ks) w_ ((SS_begin (e := l.map (trn false)) (p := every) hks).rng kt hkt) ((SS_begin (e := l.map (trn true)) (p := every) hkt).rng ks hks)) ?_)
        rintro _ _ ⟨rfl, rfl⟩
        dsimp only [List.cons_append, List.nil_append]
        refine ⟨(by repeat (first | exact Sub.nil | refine Sub.pick ?_ | refine Sub.castO rfl ?_ | refine Sub.skip ?_)), ?_⟩
        refine f_only 15 rfl (by decide +kernel) rfl rfl rfl (o_alloc Try.zeroValue30 rfl fun b11 => ⟨(by repeat (first | exact Sub.nil | refine Sub.pick ?_ | refine Sub.castO rfl ?_ | refine Sub.skip ?_)), ?_⟩)
        refine f_only0 16 rfl (by decide +kernel) rfl rfl (o_store Try.sizeOf30 rfl rfl rfl rfl (by first | exact Nat.le_of_ble_eq_true rfl | (simp; done) | (simp; omega)) _ rfl ⟨(by repeat (first | exact Sub.nil | refine Sub.pick ?_ | refine Sub.castO rfl ?_ | refine Sub.skip ?_)), ?_⟩)
        refine f_over (by decide +kernel) ?_
        refine f_tn (kh7 _ _ (b11) trivial ?_ ?_ ?_)
        · exact (by repeat (first | exact trivial | refine ⟨rfl, ?_⟩))
        · exact (by repeat (first | exact trivial | refine ⟨rfl, ?_⟩))
        · repeat (first | exact Sub.nil | refine Sub.pick ?_ | refine Sub.castO rfl ?_ | refine Sub.skip ?_)
      · skip
        refine (o_alloc Try.zeroValue30 rfl fun b11 => ⟨(by repeat (first | exact Sub.nil | refine Sub.pick ?_ | refine Sub.castO rfl ?_ | refine Sub.skip ?_)), ?_⟩)
        refine f_only 14 rfl (by decide +kernel) rfl rfl rfl (o_call Try.call18 rfl (fun w_ hp_ => Add_spec (dg (D0 n ks) kt) (dg (D0 n kt) ks) w_ ((SS_begin (e := l.map (trn false)) (p := every) hks).rng kt hkt) ((SS_begin (e := l.map (trn true)) (p := every) hkt).rng ks hks)) ?_)
        rintro _ _ ⟨rfl, rfl⟩
        dsimp only [List.cons_append, List.nil_append]
        refine ⟨(by repeat (first | exact Sub.nil | refine Sub.pick ?_ | refine Sub.castO rfl ?_ | refine Sub.skip ?_)), ?_⟩
        refine f_only0 16 rfl (by decide +kernel) rfl rfl (o_store Try.sizeOf30 rfl rfl rfl rfl (by first | exact Nat.le_of_ble_eq_true rfl | (simp; done) | (simp; omega)) _ rfl ⟨(by repeat (first | exact Sub.nil | refine Sub.pick ?_ | refine Sub.castO rfl ?_ | refine Sub.skip ?_)), ?_⟩)
        refine f_over (by decide +kernel) ?_
        refine f_tn (kh7 _ _ (b11) trivial ?_ ?_ ?_)
        · exact (by repeat (first | exact trivial | refine ⟨rfl, ?_⟩))
        · exact (by repeat (first | exact trivial | refine ⟨rfl, ?_⟩))
        · repeat (first | exact Sub.nil | refine Sub.pick ?_ | refine Sub.castO rfl ?_ | refine Sub.skip ?_)
    · rintro b11 _
      refine f_seq fun K8 kh8 => ?_
      refine f_subC (out := [(ssegs bx box bdx bbx bHx n A l.length cap false vsx msx.flatten (D0 n ks) (B0 n) hmx).flatten, (ssegs bY boY bdY bbY bHY n A l.length cap true vsY msY.flatten (D0 n kt) (B0 n) hmY).flatten, [(b11, blk [.int .u64 (dadd (dg (D0 n ks) kt) (dg (D0 n kt) ks))] 30)]]) (Sub.flatTwo (by unfold ssegs; dsimp only [List.cons_append, List.nil_append]; repeat (first | exact Sub.nil | refine Sub.pick ?_ | refine Sub.castO rfl ?_))) ?_
      refine f_region ?_
      refine f_stepP rfl rfl rfl (o_func rfl rfl) ?_
      refine f_stepP rfl rfl rfl (o_assign rfl) ?_
      refine f_done ?_
      refine f_tn (kh8 _ _ ?_)
      clear kh8
      refine f_block ?_
      refine f_loop (α := List Int × List Int × List (Option Int) × List Nat × List Int × List Int × List (Option Int) × List Nat × Int × Seg × Seg) [9, 10, 11, 12] (fun ⟨dx, xx, Tx, ox, dy, yy, Ty, oy, best, mx, my⟩ => []) (fun ⟨dx, xx, Tx, ox, dy, yy, Ty, oy, best, mx, my⟩ => [mx, my, [(b11, blk [.int .u64 best] 30)]]) (fun ⟨dx, xx, Tx, ox, dy, yy, Ty, oy, best, mx, my⟩ => Both n l every false ks kt dx xx Tx ox dy yy Ty oy best ∧ SRep n A l cap false bx bdx dx xx Tx mx ∧ SRep n A l cap true bY bdY dy yy Ty my) (fun ⟨dx, xx, Tx, ox, dy, yy, Ty, oy, best, mx, my⟩ => free n ox + free n oy) (D0 n ks, B0 n, T0 n ks, [], D0 n kt, B0 n, T0 n kt, [], dadd (dg (D0 n ks) kt) (dg (D0 n kt) ks), (ssegs bx box bdx bbx bHx n A l.length cap false vsx msx.flatten (D0 n ks) (B0 n) hmx).flatten, (ssegs bY boY bdY bbY bHY n A l.length cap true vsY msY.flatten (D0 n kt) (B0 n) hmY).flatten) ?_ ?_ ?_ ?_
      · exact (by repeat (first | exact trivial | refine ⟨rfl, ?_⟩))
      · repeat (first | exact Sub.nil | refine Sub.pick ?_ | refine Sub.castO rfl ?_ | refine Sub.skip ?_)
      · exact ⟨hB0, SRep_mk hRx hHx rfl, SRep_mk hRY hHY rfl⟩
      · rintro ⟨dx, xx, Tx, ox, dy, yy, Ty, oy, best, mx, my⟩ ⟨hB, hSx, hSy⟩
        refine f_block ?_
        refine f_seq fun K9 kh9 => ?_
        refine f_region ?_
        refine f_stepP rfl rfl rfl (o_move rfl) ?_
        refine f_stepP rfl rfl rfl (o_move rfl) ?_
        refine f_stepP rfl rfl rfl (o_move rfl) ?_
        refine f_step rfl rfl rfl (o_callV [mx, my, [(b11, blk [.int .u64 best] 30)]] _ Try.call40 rfl rfl (Sub.pick (Sub.pick (Sub.pick Sub.refl))) (fun w_ hp_ => meet_spec n A l cap false ks kt bx bdx bY bdY b11 dx xx Tx ox dy yy Ty oy best mx my w_ (hr.up hp_) hg hB hSx hSy hp_.owns) ?_)
        rintro _ _ ⟨ok, a, dx2, xx2, Tx2, ox2, mx2, my2, best2, rfl, rfl, hSx2, hSy2, hB2, hn2, hk2, hf2, ha2⟩
        dsimp only [List.cons_append, List.nil_append]
        refine f_stepP rfl rfl rfl (o_move rfl) ?_
        refine f_stepP rfl rfl rfl (o_extract rfl rfl) ?_
        refine f_stepP rfl rfl rfl (o_extract rfl rfl) ?_
        refine f_stepP rfl rfl rfl (o_assign rfl) ?_
        refine f_stepP rfl rfl rfl (o_assign rfl) ?_
        refine f_done ?_
        refine f_tn (kh9 _ _ ?_)
        clear kh9
        refine f_seq fun K10 kh10 => ?_
        refine f_region ?_
        refine f_stepP rfl rfl rfl (o_move rfl) ?_
        refine f_stepP rfl rfl rfl (o_move rfl) ?_
        refine f_stepP rfl rfl rfl (o_move rfl) ?_
        refine f_step rfl rfl rfl (o_callV [my2, mx2, [(b11, blk [.int .u64 best2] 30)]] _ Try.call40 rfl rfl (Sub.pick (Sub.pick (Sub.pick Sub.refl))) (fun w_ hp_ => meet_spec n A l cap true kt ks bY bdY bx bdx b11 dy yy Ty oy dx2 xx2 Tx2 ox2 best2 my2 mx2 w_ (hr.up hp_) hg hB2.swap hSy2 hSx2 hp_.owns) ?_)
        rintro _ _ ⟨is, b, dy3, yy3, Ty3, oy3, my3, mx3, best3, rfl, rfl, hSy3, hSx3, hB3, hn3, hk3, hf3, hb3⟩
        dsimp only [List.cons_append, List.nil_append]
        refine f_stepP rfl rfl rfl (o_move rfl) ?_
        refine f_stepP rfl rfl rfl (o_extract rfl rfl) ?_
        refine f_stepP rfl rfl rfl (o_extract rfl rfl) ?_
        refine f_stepP rfl rfl rfl (o_assign rfl) ?_
        refine f_stepP rfl rfl rfl (o_assign rfl) ?_
        refine f_done ?_
        refine f_tn (kh10 _ _ ?_)
        clear kh10
        refine f_seq fun K11 kh11 => ?_
        refine f_regionH [[(b11, blk [.int .u64 best3] 30)]] rfl ?_
        refine f_take 0 rfl (by decide +kernel) rfl rfl rfl (by repeat (first | exact Sub.nil | refine Sub.pick ?_ | refine Sub.castO rfl ?_ | refine Sub.skip ?_)) (o_move rfl) ?_
        refine f_take 1 rfl (by decide +kernel) rfl rfl rfl (by repeat (first | exact Sub.nil | refine Sub.pick ?_ | refine Sub.castO rfl ?_ | refine Sub.skip ?_)) (o_not rfl) ?_
        refine f_take 2 rfl (by decide +kernel) rfl rfl rfl (by repeat (first | exact Sub.nil | refine Sub.pick ?_ | refine Sub.castO rfl ?_ | refine Sub.skip ?_)) (o_move rfl) ?_
        refine f_splitHB 63 rfl (fun g63 => ?_) (fun g63 => ?_)
        · skip
          refine f_takeN 3 rfl (by decide +kernel) rfl rfl rfl rfl rfl rfl (by repeat (first | exact Sub.nil | refine Sub.pick ?_ | refine Sub.castO rfl ?_ | refine Sub.skip ?_)) ?_
          refine f_takeN 4 rfl (by decide +kernel) rfl rfl rfl rfl rfl rfl (by repeat (first | exact Sub.nil | refine Sub.pick ?_ | refine Sub.castO rfl ?_ | refine Sub.skip ?_)) ?_
          refine f_take 5 rfl (by decide +kernel) rfl rfl rfl (by repeat (first | exact Sub.nil | refine Sub.pick ?_ | refine Sub.castO rfl ?_ | refine Sub.skip ?_)) (o_pickT rfl rfl) ?_
          refine f_take 6 rfl (by decide +kernel) rfl rfl rfl (by repeat (first | exact Sub.nil | refine Sub.pick ?_ | refine Sub.castO rfl ?_ | refine Sub.skip ?_)) (o_move rfl) ?_
          refine f_takeN 7 rfl (by decide +kernel) rfl rfl rfl rfl rfl rfl (by repeat (first | exact Sub.nil | refine Sub.pick ?_ | refine Sub.castO rfl ?_ | refine Sub.skip ?_)) ?_
          refine f_takeN 8 rfl (by decide +kernel) rfl rfl rfl rfl rfl rfl (by repeat (first | exact Sub.nil | refine Sub.pick ?_ | refine Sub.castO rfl ?_ | refine Sub.skip ?_)) ?_
          refine f_takeN 9 rfl (by decide +kernel) rfl rfl rfl rfl rfl rfl (by repeat (first | exact Sub.nil | refine Sub.pick ?_ | refine Sub.castO rfl ?_ | refine Sub.skip ?_)) ?_
          refine f_takeN 10 rfl (by decide +kernel) rfl rfl rfl rfl rfl rfl (by repeat (first | exact Sub.nil | refine Sub.pick ?_ | refine Sub.castO rfl ?_ | refine Sub.skip ?_)) ?_
          refine f_takeN 11 rfl (by decide +kernel) rfl rfl rfl rfl rfl rfl (by repeat (first | exact Sub.nil | refine Sub.pick ?_ | refine Sub.castO rfl ?_ | refine Sub.skip ?_)) ?_
          refine f_take 12 rfl (by decide +kernel) rfl rfl rfl (by repeat (first | exact Sub.nil | refine Sub.pick ?_ | refine Sub.castO rfl ?_ | refine Sub.skip ?_)) (o_pickT rfl rfl) ?_
          refine f_over (by decide +kernel) ?_
          refine f_tn (kh11 _ _ ?_)
          clear kh11
          refine f_condT rfl ?_
          refine f_seq fun K12 kh12 => ?_
          refine f_region ?_
          refine f_stepP rfl rfl rfl (o_load Try.isAgg30 rfl (rdA rfl)) ?_
          refine f_stepP rfl rfl rfl (o_assign rfl) ?_
          refine f_stepP rfl rfl rfl (o_assign rfl) ?_
          refine f_done ?_
          refine f_tn (kh12 _ _ ?_)
          clear kh12
          refine f_ret ?_
          refine f_br ?_
          refine f_tr ?_
          refine f_br ?_
          have hD := hB2.x.done (hn2 (by simpa using g63)) (hg.src _) (hg.dst _) (hg.wt _)
          exact f_fin2 [] Try.results19 rfl rfl Sub.nil ⟨best3, by rw [hz], rfl, fun h => absurd hz h, fun _ => ⟨hB3.b0.1, hB3.swap.over hkt hD⟩⟩
        · skip
          refine f_takeY 3 rfl (by decide +kernel) rfl rfl rfl rfl rfl (by repeat (first | exact Sub.nil | refine Sub.pick ?_ | refine Sub.castO rfl ?_ | refine Sub.skip ?_)) (o_move rfl) ?_
          refine f_takeY 4 rfl (by decide +kernel) rfl rfl rfl rfl rfl (by repeat (first | exact Sub.nil | refine Sub.pick ?_ | refine Sub.castO rfl ?_ | refine Sub.skip ?_)) (o_not rfl) ?_
          refine f_take 5 rfl (by decide +kernel) rfl rfl rfl (by repeat (first | exact Sub.nil | refine Sub.pick ?_ | refine Sub.castO rfl ?_ | refine Sub.skip ?_)) (o_pickF rfl rfl) ?_
          refine f_take 6 rfl (by decide +kernel) rfl rfl rfl (by repeat (first | exact Sub.nil | refine Sub.pick ?_ | refine Sub.castO rfl ?_ | refine Sub.skip ?_)) (o_move rfl) ?_
          refine f_splitHB 67 rfl (fun g67 => ?_) (fun g67 => ?_)
          · skip
            refine f_takeN 7 rfl (by decide +kernel) rfl rfl rfl rfl rfl rfl (by repeat (first | exact Sub.nil | refine Sub.pick ?_ | refine Sub.castO rfl ?_ | refine Sub.skip ?_)) ?_
            refine f_takeN 8 rfl (by decide +kernel) rfl rfl rfl rfl rfl rfl (by repeat (first | exact Sub.nil | refine Sub.pick ?_ | refine Sub.castO rfl ?_ | refine Sub.skip ?_)) ?_
            refine f_takeN 9 rfl (by decide +kernel) rfl rfl rfl rfl rfl rfl (by repeat (first | exact Sub.nil | refine Sub.pick ?_ | refine Sub.castO rfl ?_ | refine Sub.skip ?_)) ?_
            refine f_takeN 10 rfl (by decide +kernel) rfl rfl rfl rfl rfl rfl (by repeat (first | exact Sub.nil | refine Sub.pick ?_ | refine Sub.castO rfl ?_ | refine Sub.skip ?_)) ?_
            refine f_takeN 11 rfl (by decide +kernel) rfl rfl rfl rfl rfl rfl (by repeat (first | exact Sub.nil | refine Sub.pick ?_ | refine Sub.castO rfl ?_ | refine Sub.skip ?_)) ?_
            refine f_take 12 rfl (by decide +kernel) rfl rfl rfl (by repeat (first | exact Sub.nil | refine Sub.pick ?_ | refine Sub.castO rfl ?_ | refine Sub.skip ?_)) (o_pickT rfl rfl) ?_
            refine f_over (by decide +kernel) ?_
            refine f_tn (kh11 _ _ ?_)
            clear kh11
            refine f_condT rfl ?_
            refine f_seq fun K13 kh13 => ?_
            refine f_region ?_
            refine f_stepP rfl rfl rfl (o_load Try.isAgg30 rfl (rdA rfl)) ?_
            refine f_stepP rfl rfl rfl (o_assign rfl) ?_
            refine f_stepP rfl rfl rfl (o_assign rfl) ?_
            refine f_done ?_
            refine f_tn (kh13 _ _ ?_)
            clear kh13
            refine f_ret ?_
            refine f_br ?_
            refine f_tr ?_
            refine f_br ?_
            have hD := hB3.x.done (hn3 (by simpa using g67)) (hg.src _) (hg.dst _) (hg.wt _)
            exact f_fin2 [] Try.results19 rfl rfl Sub.nil ⟨best3, by rw [hz], rfl, fun h => absurd hz h, fun _ => ⟨hB3.b0.1, (hB3.over hks hD).turn⟩⟩
          · skip
            refine f_takeY 7 rfl (by decide +kernel) rfl rfl rfl rfl rfl (by repeat (first | exact Sub.nil | refine Sub.pick ?_ | refine Sub.castO rfl ?_ | refine Sub.skip ?_)) (o_move rfl) ?_
            refine f_takeY 8 rfl (by decide +kernel) rfl rfl rfl rfl rfl (by repeat (first | exact Sub.nil | refine Sub.pick ?_ | refine Sub.castO rfl ?_ | refine Sub.skip ?_)) (o_move rfl) ?_
            refine f_takeY 10 rfl (by decide +kernel) rfl rfl rfl rfl rfl (by repeat (first | exact Sub.nil | refine Sub.pick ?_ | refine Sub.castO rfl ?_ | refine Sub.skip ?_)) (o_load Try.isAgg30 rfl (rdA rfl)) ?_
            refine f_onlyY 9 rfl (by decide +kernel) rfl rfl rfl rfl rfl (o_call Try.call18 rfl (fun w_ hp_ => Add_spec a b w_ ha2 hb3) ?_)
            rintro _ _ ⟨rfl, rfl⟩
            dsimp only [List.cons_append, List.nil_append]
            refine ⟨(by repeat (first | exact Sub.nil | refine Sub.pick ?_ | refine Sub.castO rfl ?_ | refine Sub.skip ?_)), ?_⟩
            refine f_takeY 11 rfl (by decide +kernel) rfl rfl rfl rfl rfl (by repeat (first | exact Sub.nil | refine Sub.pick ?_ | refine Sub.castO rfl ?_ | refine Sub.skip ?_)) (o_geq rfl rfl) ?_
            refine f_take 12 rfl (by decide +kernel) rfl rfl rfl (by repeat (first | exact Sub.nil | refine Sub.pick ?_ | refine Sub.castO rfl ?_ | refine Sub.skip ?_)) (o_pickF rfl rfl) ?_
            refine f_over (by decide +kernel) ?_
            refine f_tn (kh11 _ _ ?_)
            clear kh11
            refine f_cond rfl (fun c73 => ?_) (fun c73 => ?_)
            · skip
              refine f_seq fun K14 kh14 => ?_
              refine f_region ?_
              refine f_stepP rfl rfl rfl (o_load Try.isAgg30 rfl (rdA rfl)) ?_
              refine f_stepP rfl rfl rfl (o_assign rfl) ?_
              refine f_stepP rfl rfl rfl (o_assign rfl) ?_
              refine f_done ?_
              refine f_tn (kh14 _ _ ?_)
              clear kh14
              refine f_ret ?_
              refine f_br ?_
              refine f_tr ?_
              refine f_br ?_
              exact f_fin2 [] Try.results19 rfl rfl Sub.nil ⟨best3, by rw [hz], rfl, fun h => absurd hz h, fun _ => ⟨hB3.b0.1, hB3.swap.stop (fun b => hg.dst b) (fun b => hg.wt b) hks hkt ha2.2 hb3.2 (hk2 (by simpa using g63)).1 (hk3 (by simpa using g67)).1 c73⟩⟩
            · skip
              refine f_skip ?_
              refine f_bn ?_
              refine f_tn (f_again (dx2, xx2, Tx2, ox2, dy3, yy3, Ty3, oy3, best3, mx3, my3) (by have := (hk2 (by simpa using g63)).2; dsimp only; omega) ⟨hB3.swap, hSx3, hSy3⟩ ?_ ?_ ?_)
              · exact (by repeat (first | exact trivial | refine ⟨rfl, ?_⟩))
              · exact (by repeat (first | exact trivial | refine ⟨rfl, ?_⟩))
              · repeat (first | exact Sub.nil | refine Sub.pick ?_ | refine Sub.castO rfl ?_ | refine Sub.skip ?_)

end Go.Proofs.Ytegkdbicomedjaa
