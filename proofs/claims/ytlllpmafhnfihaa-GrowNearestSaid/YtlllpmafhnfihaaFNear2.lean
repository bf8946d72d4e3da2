/- The search of package near: begin, far, next, all. -/
import Derived.Test.YtlllpmafhnfihaaFNear
import Derived.Test.YtlllpmafhnfihaaPNear2
namespace Go.Proofs.Ytlllpmafhnfihaa
open Go Go.RowKit Fly
set_option linter.unusedVariables false
set_option linter.unusedSimpArgs false


theorem looks_new {n s : Nat} (hs : s < n) : (lowerR (List.replicate n none) (s : Int) 0).1 = (List.replicate n none).set s (some 0) := by
  rw [lower_new (by simpa using hs) (by rw [List.getElem?_replicate, if_pos hs])]
theorem u64s_rep (n : Nat) (x : Int) : List.replicate n (Value.int .u64 x) = u64s (List.replicate n x) := by simp [u64s]
theorem ints_repl (n : Nat) (x : Int) : List.replicate n (Value.int .i64 x) = ints (List.replicate n x) := by simp [ints]
theorem SRep_mk {n : Nat} {A : Option Addr} {l : List Arc} {cap len : Nat} {back : Bool} {bx bo bd bb bH : Nat} {vs : List Value} {ms : List Seg} {d by_ : List Int} {T : List (Option Int)} {hm : Seg} (hR : RowsI 3 (rowsOf n (l.map (trn back))) vs ms) (hH : HRep T bH hm) (hl : len = l.length) :
    SRep n A l cap back bx bd d by_ T (ssegs bx bo bd bb bH n A len cap back vs ms.flatten d by_ hm).flatten := by
  subst hl; exact ⟨bo, bb, bH, vs, ms, hm, List.Perm.refl _, hR, hH⟩
def D0 (n s : Nat) : List Int := (List.replicate n INF).set s 0
def B0 (n : Nat) : List Int := List.replicate n (-1)
def T0 (n s : Nat) : List (Option Int) := (List.replicate n none).set s (some 0)
theorem SS_begin {n s : Nat} {e : List Arc} {p : Nat → Bool} (hs : s < n) : SS n e p s (D0 n s) (B0 n) (T0 n s) [] (RF e []) :=
  (SS.begin hs).weaken fun j ⟨_, h⟩ => by simp at h
/-- What next answers. -/
def NextΦ (n : Nat) (A : Option Addr) (l : List Arc) (cap : Nat) (back : Bool) (p : Nat → Bool) (s bx bd : Nat) (d by_ : List Int) (T : List (Option Int)) (o : List Nat) (u : Value) (own : List Seg) : Prop :=
  (topR T = none ∧ u = .tuple #[.int .i64 0, .int .u64 0, .bool false] ∧ ∃ m', own = [m'] ∧ SRep n A l cap back bx bd d by_ T m') ∨
  ∃ (v : Nat) (a : Int) (d' by' : List Int) (T' : List (Option Int)) (m' : Seg), topR T = some (v, a) ∧ u = .tuple #[.int .i64 (v : Int), .int .u64 a, .bool true] ∧ own = [m'] ∧ SRep n A l cap back bx bd d' by' T' m' ∧ v < n ∧ v ∉ o ∧ dg d v = a ∧
    SS n (l.map (trn back)) p s d' by' T' (v :: o) (RF (l.map (trn back)) (v :: o)) ∧ (∀ (u : Nat) (x : Int), T'[u]? = some (some x) → a ≤ x) ∧ (∀ u, dg d' u ≤ dg d u) ∧ dg d' v = a ∧ 0 ≤ a ∧ a < INF ∧
    (∀ u, dg d' u = dg d u ∨ ∃ (i : Nat) (h : i < (l.map (trn back)).length), (l.map (trn back))[i].src.toNat = v ∧ (l.map (trn back))[i].dst.toNat = u)

set_option maxRecDepth 100000 in
set_option maxHeartbeats 4000000 in
theorem begin_spec (n : Nat) (A : Option Addr) (l : List Arc) (cap : Nat) (back : Bool) (s : Nat) (w : World) (hr : Ro (Fr w []) w A (l.flatMap arcCs)) (hg : GOk n l) (hs : s < n) :
    Meets Try.prog 39 [.agg #[.int .i64 (n : Int), .slice A l.length cap], .int .i64 (s : Int), .bool back] w [] (fun u own' => ∃ bx bd m, u = .pointer (some ⟨bx, 0, none⟩) ∧ own' = [m] ∧ SRep n A l cap back bx bd (D0 n s) (B0 n) (T0 n s) m) := by
  have hn1 := hg.n1
  have hlen := hg.len
  refine f_enter Try.func39 rfl Try.ntmps39 rfl Owns.nil ?_
  refine f_seq fun K1 kh1 => ?_
  refine f_region ?_
  refine f_step rfl rfl rfl (o_box rfl rfl fun b3 => ?_)
  refine f_stepP rfl rfl rfl (o_assign rfl) ?_
  refine f_done ?_
  refine f_tn (kh1 _ _ ?_)
  clear kh1
  refine f_meet (α := Nat × Nat × Nat × Nat × List Value × List Seg) [1, 3] (fun ⟨bx, bo, bd, bb, vs, ms⟩ => [(7, .pointer (some ⟨bx, 0, none⟩))]) (fun ⟨bx, bo, bd, bb, vs, ms⟩ => [[(bx, blk (scells n A l.length cap back bo bd bb (.pointer none)) 80)], [(bo, blk vs 28)], ms.flatten, [(bd, blk (List.replicate n (.int .u64 18446744073709551615)) 49)], [(bb, blk (List.replicate n (.int .i64 (-1))) 3)], [(b3, blk [.int .i64 (n : Int), .slice A l.length cap] 24)]]) (fun ⟨bx, bo, bd, bb, vs, ms⟩ => RowsI 3 (rowsOf n (l.map (trn back))) vs ms) ?_ ?_
  · intro K2 kh2
    refine f_regionH [[(b3, blk [.int .i64 (n : Int), .slice A l.length cap] 24)]] rfl ?_
    refine f_take 0 rfl (by decide +kernel) rfl rfl rfl (by repeat (first | exact Sub.nil | refine Sub.pick ?_ | refine Sub.castO rfl ?_ | refine Sub.skip ?_)) (o_loadA (vs := [_, _]) Try.isAgg24 Try.sizeOf24 rfl rfl ⟨(rdA rfl), (rdA rfl), trivial⟩) ?_
    refine f_take 1 rfl (by decide +kernel) rfl rfl rfl (by repeat (first | exact Sub.nil | refine Sub.pick ?_ | refine Sub.castO rfl ?_ | refine Sub.skip ?_)) (o_move rfl) ?_
    refine f_take 2 rfl (by decide +kernel) rfl rfl rfl (by repeat (first | exact Sub.nil | refine Sub.pick ?_ | refine Sub.castO rfl ?_ | refine Sub.skip ?_)) (o_loadA (vs := [_, _]) Try.isAgg24 Try.sizeOf24 rfl rfl ⟨(rdA rfl), (rdA rfl), trivial⟩) ?_
    refine f_take 3 rfl (by decide +kernel) rfl rfl rfl (by repeat (first | exact Sub.nil | refine Sub.pick ?_ | refine Sub.castO rfl ?_ | refine Sub.skip ?_)) (o_move rfl) ?_
    refine f_take 6 rfl (by decide +kernel) rfl rfl rfl (by repeat (first | exact Sub.nil | refine Sub.pick ?_ | refine Sub.castO rfl ?_ | refine Sub.skip ?_)) (o_field fa24_0 rfl) ?_
    refine f_take 7 rfl (by decide +kernel) rfl rfl rfl (by repeat (first | exact Sub.nil | refine Sub.pick ?_ | refine Sub.castO rfl ?_ | refine Sub.skip ?_)) (o_load Try.isAgg3 rfl (rdA rfl)) ?_
    refine f_take 10 rfl (by decide +kernel) rfl rfl rfl (by repeat (first | exact Sub.nil | refine Sub.pick ?_ | refine Sub.castO rfl ?_ | refine Sub.skip ?_)) (o_field fa24_0 rfl) ?_
    refine f_take 11 rfl (by decide +kernel) rfl rfl rfl (by repeat (first | exact Sub.nil | refine Sub.pick ?_ | refine Sub.castO rfl ?_ | refine Sub.skip ?_)) (o_load Try.isAgg3 rfl (rdA rfl)) ?_
    refine f_three 4 5 9 rfl rfl rfl (by decide +kernel) rfl rfl rfl rfl rfl rfl rfl rfl rfl ?_ ?_ ?_
    · skip
      refine (o_call Try.call48 rfl (fun w_ hp_ => outs_spec n A l cap back w_ (hr.up0 hp_) hg) ?_)
      rintro _ _ ⟨bo, vs, ms, rfl, rfl, hR⟩
      dsimp only [List.cons_append, List.nil_append]
      refine ⟨(by repeat (first | exact Sub.nil | refine Sub.pick ?_ | refine Sub.castO rfl ?_ | refine Sub.skip ?_)), ?_⟩
      refine f_two 5 9 rfl rfl (by decide +kernel) rfl rfl rfl rfl rfl rfl ?_ ?_
      · skip
        refine (o_slice1 el45 (by omega) rfl rfl rfl fun b13 => ⟨(by repeat (first | exact Sub.nil | refine Sub.pick ?_ | refine Sub.castO rfl ?_ | refine Sub.skip ?_)), ?_⟩)
        refine f_two 8 9 rfl rfl (by decide +kernel) rfl rfl rfl rfl rfl rfl ?_ ?_
        · skip
          refine (o_call Try.call49 rfl (fun w_ hp_ => RepD_spec b13 0 1 n 18446744073709551615 w_ (roOwn (b := b13) hp_ (cs := [.int .u64 18446744073709551615]) (fun j v hj => hj)) (by omega)) ?_)
          rintro _ _ ⟨bd, rfl, rfl⟩
          dsimp only [List.cons_append, List.nil_append]
          refine ⟨(by repeat (first | exact Sub.nil | refine Sub.pick ?_ | refine Sub.castO rfl ?_ | refine Sub.skip ?_)), ?_⟩
          refine f_only 9 rfl (by decide +kernel) rfl rfl rfl (o_slice1 el28 (by omega) rfl rfl rfl fun b17 => ⟨(by repeat (first | exact Sub.nil | refine Sub.pick ?_ | refine Sub.castO rfl ?_ | refine Sub.skip ?_)), ?_⟩)
          refine f_only 12 rfl (by decide +kernel) rfl rfl rfl (o_call Try.call50 rfl (fun w_ hp_ => RepI_spec b17 0 1 n (-1) w_ (roOwn (b := b17) hp_ (cs := [.int .i64 (-1)]) (fun j v hj => hj)) (by omega)) ?_)
          rintro _ _ ⟨bb, rfl, rfl⟩
          dsimp only [List.cons_append, List.nil_append]
          refine ⟨(by repeat (first | exact Sub.nil | refine Sub.pick ?_ | refine Sub.castO rfl ?_ | refine Sub.skip ?_)), ?_⟩
          refine f_take 13 rfl (by decide +kernel) rfl rfl rfl (by repeat (first | exact Sub.nil | refine Sub.pick ?_ | refine Sub.castO rfl ?_ | refine Sub.skip ?_)) (o_build (cs := scells n A l.length cap back bo bd bb (.pointer none)) st80 rfl (by kernel_rfl)) ?_
          refine f_only 14 rfl (by decide +kernel) rfl rfl rfl (o_box rfl rfl fun b22 => ⟨(by repeat (first | exact Sub.nil | refine Sub.pick ?_ | refine Sub.castO rfl ?_ | refine Sub.skip ?_)), ?_⟩)
          refine f_only 15 rfl (by decide +kernel) rfl rfl rfl ((o_assign rfl).does ⟨(by repeat (first | exact Sub.nil | refine Sub.pick ?_ | refine Sub.castO rfl ?_ | refine Sub.skip ?_)), ?_⟩)
          refine f_over (by decide +kernel) ?_
          refine f_tn (kh2 _ _ (b22, bo, bd, bb, vs, ms) hR ?_ ?_ ?_)
          · exact (by repeat (first | exact trivial | refine ⟨rfl, ?_⟩))
          · exact (by repeat (first | exact trivial | refine ⟨rfl, ?_⟩))
          · repeat (first | exact Sub.nil | refine Sub.pick ?_ | refine Sub.castO rfl ?_ | refine Sub.skip ?_)
        · skip
          refine (o_slice1 el28 (by omega) rfl rfl rfl fun b17 => ⟨(by repeat (first | exact Sub.nil | refine Sub.pick ?_ | refine Sub.castO rfl ?_ | refine Sub.skip ?_)), ?_⟩)
          refine f_only 8 rfl (by decide +kernel) rfl rfl rfl (o_call Try.call49 rfl (fun w_ hp_ => RepD_spec b13 0 1 n 18446744073709551615 w_ (roOwn (b := b13) hp_ (cs := [.int .u64 18446744073709551615]) (fun j v hj => hj)) (by omega)) ?_)
          rintro _ _ ⟨bd, rfl, rfl⟩
          dsimp only [List.cons_append, List.nil_append]
          refine ⟨(by repeat (first | exact Sub.nil | refine Sub.pick ?_ | refine Sub.castO rfl ?_ | refine Sub.skip ?_)), ?_⟩
          refine f_only 12 rfl (by decide +kernel) rfl rfl rfl (o_call Try.call50 rfl (fun w_ hp_ => RepI_spec b17 0 1 n (-1) w_ (roOwn (b := b17) hp_ (cs := [.int .i64 (-1)]) (fun j v hj => hj)) (by omega)) ?_)
          rintro _ _ ⟨bb, rfl, rfl⟩
          dsimp only [List.cons_append, List.nil_append]
          refine ⟨(by repeat (first | exact Sub.nil | refine Sub.pick ?_ | refine Sub.castO rfl ?_ | refine Sub.skip ?_)), ?_⟩
          refine f_take 13 rfl (by decide +kernel) rfl rfl rfl (by repeat (first | exact Sub.nil | refine Sub.pick ?_ | refine Sub.castO rfl ?_ | refine Sub.skip ?_)) (o_build (cs := scells n A l.length cap back bo bd bb (.pointer none)) st80 rfl (by kernel_rfl)) ?_
          refine f_only 14 rfl (by decide +kernel) rfl rfl rfl (o_box rfl rfl fun b22 => ⟨(by repeat (first | exact Sub.nil | refine Sub.pick ?_ | refine Sub.castO rfl ?_ | refine Sub.skip ?_)), ?_⟩)
          refine f_only 15 rfl (by decide +kernel) rfl rfl rfl ((o_assign rfl).does ⟨(by repeat (first | exact Sub.nil | refine Sub.pick ?_ | refine Sub.castO rfl ?_ | refine Sub.skip ?_)), ?_⟩)
          refine f_over (by decide +kernel) ?_
          refine f_tn (kh2 _ _ (b22, bo, bd, bb, vs, ms) hR ?_ ?_ ?_)
          · exact (by repeat (first | exact trivial | refine ⟨rfl, ?_⟩))
          · exact (by repeat (first | exact trivial | refine ⟨rfl, ?_⟩))
          · repeat (first | exact Sub.nil | refine Sub.pick ?_ | refine Sub.castO rfl ?_ | refine Sub.skip ?_)
      · skip
        refine (o_slice1 el28 (by omega) rfl rfl rfl fun b17 => ⟨(by repeat (first | exact Sub.nil | refine Sub.pick ?_ | refine Sub.castO rfl ?_ | refine Sub.skip ?_)), ?_⟩)
        refine f_only 5 rfl (by decide +kernel) rfl rfl rfl (o_slice1 el45 (by omega) rfl rfl rfl fun b13 => ⟨(by repeat (first | exact Sub.nil | refine Sub.pick ?_ | refine Sub.castO rfl ?_ | refine Sub.skip ?_)), ?_⟩)
        refine f_only 8 rfl (by decide +kernel) rfl rfl rfl (o_call Try.call49 rfl (fun w_ hp_ => RepD_spec b13 0 1 n 18446744073709551615 w_ (roOwn (b := b13) hp_ (cs := [.int .u64 18446744073709551615]) (fun j v hj => hj)) (by omega)) ?_)
        rintro _ _ ⟨bd, rfl, rfl⟩
        dsimp only [List.cons_append, List.nil_append]
        refine ⟨(by repeat (first | exact Sub.nil | refine Sub.pick ?_ | refine Sub.castO rfl ?_ | refine Sub.skip ?_)), ?_⟩
        refine f_only 12 rfl (by decide +kernel) rfl rfl rfl (o_call Try.call50 rfl (fun w_ hp_ => RepI_spec b17 0 1 n (-1) w_ (roOwn (b := b17) hp_ (cs := [.int .i64 (-1)]) (fun j v hj => hj)) (by omega)) ?_)
        rintro _ _ ⟨bb, rfl, rfl⟩
        dsimp only [List.cons_append, List.nil_append]
        refine ⟨(by repeat (first | exact Sub.nil | refine Sub.pick ?_ | refine Sub.castO rfl ?_ | refine Sub.skip ?_)), ?_⟩
        refine f_take 13 rfl (by decide +kernel) rfl rfl rfl (by repeat (first | exact Sub.nil | refine Sub.pick ?_ | refine Sub.castO rfl ?_ | refine Sub.skip ?_)) (o_build (cs := scells n A l.length cap back bo bd bb (.pointer none)) st80 rfl (by kernel_rfl)) ?_
        refine f_only 14 rfl (by decide +kernel) rfl rfl rfl (o_box rfl rfl fun b22 => ⟨(by repeat (first | exact Sub.nil | refine Sub.pick ?_ | refine Sub.castO rfl ?_ | refine Sub.skip ?_)), ?_⟩)
        refine f_only 15 rfl (by decide +kernel) rfl rfl rfl ((o_assign rfl).does ⟨(by repeat (first | exact Sub.nil | refine Sub.pick ?_ | refine Sub.castO rfl ?_ | refine Sub.skip ?_)), ?_⟩)
        refine f_over (by decide +kernel) ?_
        refine f_tn (kh2 _ _ (b22, bo, bd, bb, vs, ms) hR ?_ ?_ ?_)
        · exact (by repeat (first | exact trivial | refine ⟨rfl, ?_⟩))
        · exact (by repeat (first | exact trivial | refine ⟨rfl, ?_⟩))
        · repeat (first | exact Sub.nil | refine Sub.pick ?_ | refine Sub.castO rfl ?_ | refine Sub.skip ?_)
    · skip
      refine (o_slice1 el45 (by omega) rfl rfl rfl fun b13 => ⟨(by repeat (first | exact Sub.nil | refine Sub.pick ?_ | refine Sub.castO rfl ?_ | refine Sub.skip ?_)), ?_⟩)
      refine f_two 4 9 rfl rfl (by decide +kernel) rfl rfl rfl rfl rfl rfl ?_ ?_
      · skip
        refine (o_call Try.call48 rfl (fun w_ hp_ => outs_spec n A l cap back w_ (hr.up0 hp_) hg) ?_)
        rintro _ _ ⟨bo, vs, ms, rfl, rfl, hR⟩
        dsimp only [List.cons_append, List.nil_append]
        refine ⟨(by repeat (first | exact Sub.nil | refine Sub.pick ?_ | refine Sub.castO rfl ?_ | refine Sub.skip ?_)), ?_⟩
        refine f_two 8 9 rfl rfl (by decide +kernel) rfl rfl rfl rfl rfl rfl ?_ ?_
        · skip
          refine (o_call Try.call49 rfl (fun w_ hp_ => RepD_spec b13 0 1 n 18446744073709551615 w_ (roOwn (b := b13) hp_ (cs := [.int .u64 18446744073709551615]) (fun j v hj => hj)) (by omega)) ?_)
          rintro _ _ ⟨bd, rfl, rfl⟩
          dsimp only [List.cons_append, List.nil_append]
          refine ⟨(by repeat (first | exact Sub.nil | refine Sub.pick ?_ | refine Sub.castO rfl ?_ | refine Sub.skip ?_)), ?_⟩
          refine f_only 9 rfl (by decide +kernel) rfl rfl rfl (o_slice1 el28 (by omega) rfl rfl rfl fun b17 => ⟨(by repeat (first | exact Sub.nil | refine Sub.pick ?_ | refine Sub.castO rfl ?_ | refine Sub.skip ?_)), ?_⟩)
          refine f_only 12 rfl (by decide +kernel) rfl rfl rfl (o_call Try.call50 rfl (fun w_ hp_ => RepI_spec b17 0 1 n (-1) w_ (roOwn (b := b17) hp_ (cs := [.int .i64 (-1)]) (fun j v hj => hj)) (by omega)) ?_)
          rintro _ _ ⟨bb, rfl, rfl⟩
          dsimp only [List.cons_append, List.nil_append]
          refine ⟨(by repeat (first | exact Sub.nil | refine Sub.pick ?_ | refine Sub.castO rfl ?_ | refine Sub.skip ?_)), ?_⟩
          refine f_take 13 rfl (by decide +kernel) rfl rfl rfl (by repeat (first | exact Sub.nil | refine Sub.pick ?_ | refine Sub.castO rfl ?_ | refine Sub.skip ?_)) (o_build (cs := scells n A l.length cap back bo bd bb (.pointer none)) st80 rfl (by kernel_rfl)) ?_
          refine f_only 14 rfl (by decide +kernel) rfl rfl rfl (o_box rfl rfl fun b22 => ⟨(by repeat (first | exact Sub.nil | refine Sub.pick ?_ | refine Sub.castO rfl ?_ | refine Sub.skip ?_)), ?_⟩)
          refine f_only 15 rfl (by decide +kernel) rfl rfl rfl ((o_assign rfl).does ⟨(by repeat (first | exact Sub.nil | refine Sub.pick ?_ | refine Sub.castO rfl ?_ | refine Sub.skip ?_)), ?_⟩)
          refine f_over (by decide +kernel) ?_
          refine f_tn (kh2 _ _ (b22, bo, bd, bb, vs, ms) hR ?_ ?_ ?_)
          · exact (by repeat (first | exact trivial | refine ⟨rfl, ?_⟩))
          · exact (by repeat (first | exact trivial | refine ⟨rfl, ?_⟩))
          · repeat (first | exact Sub.nil | refine Sub.pick ?_ | refine Sub.castO rfl ?_ | refine Sub.skip ?_)
        · skip
          refine (o_slice1 el28 (by omega) rfl rfl rfl fun b17 => ⟨(by repeat (first | exact Sub.nil | refine Sub.pick ?_ | refine Sub.castO rfl ?_ | refine Sub.skip ?_)), ?_⟩)
          refine f_only 8 rfl (by decide +kernel) rfl rfl rfl (o_call Try.call49 rfl (fun w_ hp_ => RepD_spec b13 0 1 n 18446744073709551615 w_ (roOwn (b := b13) hp_ (cs := [.int .u64 18446744073709551615]) (fun j v hj => hj)) (by omega)) ?_)
          rintro _ _ ⟨bd, rfl, rfl⟩
          dsimp only [List.cons_append, List.nil_append]
          refine ⟨(by repeat (first | exact Sub.nil | refine Sub.pick ?_ | refine Sub.castO rfl ?_ | refine Sub.skip ?_)), ?_⟩
          refine f_only 12 rfl (by decide +kernel) rfl rfl rfl (o_call Try.call50 rfl (fun w_ hp_ => RepI_spec b17 0 1 n (-1) w_ (roOwn (b := b17) hp_ (cs := [.int .i64 (-1)]) (fun j v hj => hj)) (by omega)) ?_)
          rintro _ _ ⟨bb, rfl, rfl⟩
          dsimp only [List.cons_append, List.nil_append]
          refine ⟨(by repeat (first | exact Sub.nil | refine Sub.pick ?_ | refine Sub.castO rfl ?_ | refine Sub.skip ?_)), ?_⟩
          refine f_take 13 rfl (by decide +kernel) rfl rfl rfl (by repeat (first | exact Sub.nil | refine Sub.pick ?_ | refine Sub.castO rfl ?_ | refine Sub.skip ?_)) (o_build (cs := scells n A l.length cap back bo bd bb (.pointer none)) st80 rfl (by kernel_rfl)) ?_
          refine f_only 14 rfl (by decide +kernel) rfl rfl rfl (o_box rfl rfl fun b22 => ⟨(by repeat (first | exact Sub.nil | refine Sub.pick ?_ | refine Sub.castO rfl ?_ | refine Sub.skip ?_)), ?_⟩)
          refine f_only 15 rfl (by decide +kernel) rfl rfl rfl ((o_assign rfl).does ⟨(by repeat (first | exact Sub.nil | refine Sub.pick ?_ | refine Sub.castO rfl ?_ | refine Sub.skip ?_)), ?_⟩)
          refine f_over (by decide +kernel) ?_
          refine f_tn (kh2 _ _ (b22, bo, bd, bb, vs, ms) hR ?_ ?_ ?_)
          · exact (by repeat (first | exact trivial | refine ⟨rfl, ?_⟩))
          · exact (by repeat (first | exact trivial | refine ⟨rfl, ?_⟩))
          · repeat (first | exact Sub.nil | refine Sub.pick ?_ | refine Sub.castO rfl ?_ | refine Sub.skip ?_)
      · skip
        refine (o_slice1 el28 (by omega) rfl rfl rfl fun b17 => ⟨(by repeat (first | exact Sub.nil | refine Sub.pick ?_ | refine Sub.castO rfl ?_ | refine Sub.skip ?_)), ?_⟩)
        refine f_only 4 rfl (by decide +kernel) rfl rfl rfl (o_call Try.call48 rfl (fun w_ hp_ => outs_spec n A l cap back w_ (hr.up0 hp_) hg) ?_)
        rintro _ _ ⟨bo, vs, ms, rfl, rfl, hR⟩
        dsimp only [List.cons_append, List.nil_append]
        refine ⟨(by repeat (first | exact Sub.nil | refine Sub.pick ?_ | refine Sub.castO rfl ?_ | refine Sub.skip ?_)), ?_⟩
        refine f_only 8 rfl (by decide +kernel) rfl rfl rfl (o_call Try.call49 rfl (fun w_ hp_ => RepD_spec b13 0 1 n 18446744073709551615 w_ (roOwn (b := b13) hp_ (cs := [.int .u64 18446744073709551615]) (fun j v hj => hj)) (by omega)) ?_)
        rintro _ _ ⟨bd, rfl, rfl⟩
        dsimp only [List.cons_append, List.nil_append]
        refine ⟨(by repeat (first | exact Sub.nil | refine Sub.pick ?_ | refine Sub.castO rfl ?_ | refine Sub.skip ?_)), ?_⟩
        refine f_only 12 rfl (by decide +kernel) rfl rfl rfl (o_call Try.call50 rfl (fun w_ hp_ => RepI_spec b17 0 1 n (-1) w_ (roOwn (b := b17) hp_ (cs := [.int .i64 (-1)]) (fun j v hj => hj)) (by omega)) ?_)
        rintro _ _ ⟨bb, rfl, rfl⟩
        dsimp only [List.cons_append, List.nil_append]
        refine ⟨(by repeat (first | exact Sub.nil | refine Sub.pick ?_ | refine Sub.castO rfl ?_ | refine Sub.skip ?_)), ?_⟩
        refine f_take 13 rfl (by decide +kernel) rfl rfl rfl (by repeat (first | exact Sub.nil | refine Sub.pick ?_ | refine Sub.castO rfl ?_ | refine Sub.skip ?_)) (o_build (cs := scells n A l.length cap back bo bd bb (.pointer none)) st80 rfl (by kernel_rfl)) ?_
        refine f_only 14 rfl (by decide +kernel) rfl rfl rfl (o_box rfl rfl fun b22 => ⟨(by repeat (first | exact Sub.nil | refine Sub.pick ?_ | refine Sub.castO rfl ?_ | refine Sub.skip ?_)), ?_⟩)
        refine f_only 15 rfl (by decide +kernel) rfl rfl rfl ((o_assign rfl).does ⟨(by repeat (first | exact Sub.nil | refine Sub.pick ?_ | refine Sub.castO rfl ?_ | refine Sub.skip ?_)), ?_⟩)
        refine f_over (by decide +kernel) ?_
        refine f_tn (kh2 _ _ (b22, bo, bd, bb, vs, ms) hR ?_ ?_ ?_)
        · exact (by repeat (first | exact trivial | refine ⟨rfl, ?_⟩))
        · exact (by repeat (first | exact trivial | refine ⟨rfl, ?_⟩))
        · repeat (first | exact Sub.nil | refine Sub.pick ?_ | refine Sub.castO rfl ?_ | refine Sub.skip ?_)
    · skip
      refine (o_slice1 el28 (by omega) rfl rfl rfl fun b17 => ⟨(by repeat (first | exact Sub.nil | refine Sub.pick ?_ | refine Sub.castO rfl ?_ | refine Sub.skip ?_)), ?_⟩)
      refine f_two 4 5 rfl rfl (by decide +kernel) rfl rfl rfl rfl rfl rfl ?_ ?_
      · skip
        refine (o_call Try.call48 rfl (fun w_ hp_ => outs_spec n A l cap back w_ (hr.up0 hp_) hg) ?_)
        rintro _ _ ⟨bo, vs, ms, rfl, rfl, hR⟩
        dsimp only [List.cons_append, List.nil_append]
        refine ⟨(by repeat (first | exact Sub.nil | refine Sub.pick ?_ | refine Sub.castO rfl ?_ | refine Sub.skip ?_)), ?_⟩
        refine f_only 5 rfl (by decide +kernel) rfl rfl rfl (o_slice1 el45 (by omega) rfl rfl rfl fun b13 => ⟨(by repeat (first | exact Sub.nil | refine Sub.pick ?_ | refine Sub.castO rfl ?_ | refine Sub.skip ?_)), ?_⟩)
        refine f_only 8 rfl (by decide +kernel) rfl rfl rfl (o_call Try.call49 rfl (fun w_ hp_ => RepD_spec b13 0 1 n 18446744073709551615 w_ (roOwn (b := b13) hp_ (cs := [.int .u64 18446744073709551615]) (fun j v hj => hj)) (by omega)) ?_)
        rintro _ _ ⟨bd, rfl, rfl⟩
        dsimp only [List.cons_append, List.nil_append]
        refine ⟨(by repeat (first | exact Sub.nil | refine Sub.pick ?_ | refine Sub.castO rfl ?_ | refine Sub.skip ?_)), ?_⟩
        refine f_only 12 rfl (by decide +kernel) rfl rfl rfl (o_call Try.call50 rfl (fun w_ hp_ => RepI_spec b17 0 1 n (-1) w_ (roOwn (b := b17) hp_ (cs := [.int .i64 (-1)]) (fun j v hj => hj)) (by omega)) ?_)
        rintro _ _ ⟨bb, rfl, rfl⟩
        dsimp only [List.cons_append, List.nil_append]
        refine ⟨(by repeat (first | exact Sub.nil | refine Sub.pick ?_ | refine Sub.castO rfl ?_ | refine Sub.skip ?_)), ?_⟩
        refine f_take 13 rfl (by decide +kernel) rfl rfl rfl (by repeat (first | exact Sub.nil | refine Sub.pick ?_ | refine Sub.castO rfl ?_ | refine Sub.skip ?_)) (o_build (cs := scells n A l.length cap back bo bd bb (.pointer none)) st80 rfl (by kernel_rfl)) ?_
        refine f_only 14 rfl (by decide +kernel) rfl rfl rfl (o_box rfl rfl fun b22 => ⟨(by repeat (first | exact Sub.nil | refine Sub.pick ?_ | refine Sub.castO rfl ?_ | refine Sub.skip ?_)), ?_⟩)
        refine f_only 15 rfl (by decide +kernel) rfl rfl rfl ((o_assign rfl).does ⟨(by repeat (first | exact Sub.nil | refine Sub.pick ?_ | refine Sub.castO rfl ?_ | refine Sub.skip ?_)), ?_⟩)
        refine f_over (by decide +kernel) ?_
        refine f_tn (kh2 _ _ (b22, bo, bd, bb, vs, ms) hR ?_ ?_ ?_)
        · exact (by repeat (first | exact trivial | refine ⟨rfl, ?_⟩))
        · exact (by repeat (first | exact trivial | refine ⟨rfl, ?_⟩))
        · repeat (first | exact Sub.nil | refine Sub.pick ?_ | refine Sub.castO rfl ?_ | refine Sub.skip ?_)
      · skip
        refine (o_slice1 el45 (by omega) rfl rfl rfl fun b13 => ⟨(by repeat (first | exact Sub.nil | refine Sub.pick ?_ | refine Sub.castO rfl ?_ | refine Sub.skip ?_)), ?_⟩)
        refine f_only 4 rfl (by decide +kernel) rfl rfl rfl (o_call Try.call48 rfl (fun w_ hp_ => outs_spec n A l cap back w_ (hr.up0 hp_) hg) ?_)
        rintro _ _ ⟨bo, vs, ms, rfl, rfl, hR⟩
        dsimp only [List.cons_append, List.nil_append]
        refine ⟨(by repeat (first | exact Sub.nil | refine Sub.pick ?_ | refine Sub.castO rfl ?_ | refine Sub.skip ?_)), ?_⟩
        refine f_only 8 rfl (by decide +kernel) rfl rfl rfl (o_call Try.call49 rfl (fun w_ hp_ => RepD_spec b13 0 1 n 18446744073709551615 w_ (roOwn (b := b13) hp_ (cs := [.int .u64 18446744073709551615]) (fun j v hj => hj)) (by omega)) ?_)
        rintro _ _ ⟨bd, rfl, rfl⟩
        dsimp only [List.cons_append, List.nil_append]
        refine ⟨(by repeat (first | exact Sub.nil | refine Sub.pick ?_ | refine Sub.castO rfl ?_ | refine Sub.skip ?_)), ?_⟩
        refine f_only 12 rfl (by decide +kernel) rfl rfl rfl (o_call Try.call50 rfl (fun w_ hp_ => RepI_spec b17 0 1 n (-1) w_ (roOwn (b := b17) hp_ (cs := [.int .i64 (-1)]) (fun j v hj => hj)) (by omega)) ?_)
        rintro _ _ ⟨bb, rfl, rfl⟩
        dsimp only [List.cons_append, List.nil_append]
        refine ⟨(by repeat (first | exact Sub.nil | refine Sub.pick ?_ | refine Sub.castO rfl ?_ | refine Sub.skip ?_)), ?_⟩
        refine f_take 13 rfl (by decide +kernel) rfl rfl rfl (by repeat (first | exact Sub.nil | refine Sub.pick ?_ | refine Sub.castO rfl ?_ | refine Sub.skip ?_)) (o_build (cs := scells n A l.length cap back bo bd bb (.pointer none)) st80 rfl (by kernel_rfl)) ?_
        refine f_only 14 rfl (by decide +kernel) rfl rfl rfl (o_box rfl rfl fun b22 => ⟨(by repeat (first | exact Sub.nil | refine Sub.pick ?_ | refine Sub.castO rfl ?_ | refine Sub.skip ?_)), ?_⟩)
        refine f_only 15 rfl (by decide +kernel) rfl rfl rfl ((o_assign rfl).does ⟨(by repeat (first | exact Sub.nil | refine Sub.pick ?_ | refine Sub.castO rfl ?_ | refine Sub.skip ?_)), ?_⟩)
        refine f_over (by decide +kernel) ?_
        refine f_tn (kh2 _ _ (b22, bo, bd, bb, vs, ms) hR ?_ ?_ ?_)
        · exact (by repeat (first | exact trivial | refine ⟨rfl, ?_⟩))
        · exact (by repeat (first | exact trivial | refine ⟨rfl, ?_⟩))
        · repeat (first | exact Sub.nil | refine Sub.pick ?_ | refine Sub.castO rfl ?_ | refine Sub.skip ?_)
  · rintro ⟨bx, bo, bd, bb, vs, ms⟩ hR
    refine f_seq fun K3 kh3 => ?_
    refine f_region ?_
    refine f_stepP rfl rfl rfl (o_move rfl) ?_
    refine f_stepP rfl rfl rfl (o_field fa24_0 rfl) ?_
    refine f_stepP rfl rfl rfl (o_load Try.isAgg3 rfl (rdA rfl)) ?_
    refine f_step rfl rfl rfl (o_call Try.call51 rfl (fun w_ hp_ => New_spec (n : Int) w_) ?_)
    rintro _ _ hN
    rw [NewΦ, if_neg (by omega), Int.toNat_natCast] at hN
    obtain ⟨bH, hm1, rfl, rfl, hH1⟩ := hN
    dsimp only [List.cons_append, List.nil_append]
    refine f_stepP rfl rfl rfl (o_move rfl) ?_
    refine f_stepP rfl rfl rfl (o_extract rfl rfl) ?_
    refine f_stepP rfl rfl rfl (o_extract rfl rfl) ?_
    refine f_stepP rfl rfl rfl (o_nil rfl) ?_
    refine f_stepP rfl rfl rfl (o_field fa80_5 rfl) ?_
    refine f_step0 rfl rfl (o_store Try.sizeOf78 rfl rfl rfl rfl (by first | exact Nat.le_of_ble_eq_true rfl | (simp; done) | (simp; omega)) (scells n A l.length cap back bo bd bb (.pointer (some ⟨bH, 0, none⟩))) rfl ?_)
    refine f_done ?_
    refine f_tn (kh3 _ _ ?_)
    clear kh3
    refine f_seq fun K4 kh4 => ?_
    refine f_region ?_
    refine f_stepP rfl rfl rfl (o_move rfl) ?_
    refine f_stepP rfl rfl rfl (o_nil rfl) ?_
    refine f_stepP rfl rfl rfl (o_field fa80_3 rfl) ?_
    refine f_stepP rfl rfl rfl (o_load Try.isAgg45 rfl (rdA rfl)) ?_
    refine f_stepP rfl rfl rfl (o_move rfl) ?_
    refine f_stepP rfl rfl rfl (o_idx sl45 rfl rfl (s) ⟨by omega, by omega, by first | omega | (simp; done) | (simp; omega)⟩) ?_
    refine f_step0 rfl rfl (o_store Try.sizeOf49 rfl rfl rfl rfl (by rw [List.length_replicate]; omega) (u64s (D0 n s)) (by rw [u64s_rep]; exact u64s_set _ _ _) ?_)
    refine f_done ?_
    refine f_tn (kh4 _ _ ?_)
    clear kh4
    refine f_seq fun K5 kh5 => ?_
    refine f_region ?_
    refine f_stepP rfl rfl rfl (o_move rfl) ?_
    refine f_stepP rfl rfl rfl (o_nil rfl) ?_
    refine f_stepP rfl rfl rfl (o_field fa80_5 rfl) ?_
    refine f_stepP rfl rfl rfl (o_load Try.isAgg78 rfl (rdA rfl)) ?_
    refine f_stepP rfl rfl rfl (o_move rfl) ?_
    refine f_step rfl rfl rfl (o_callM [hm1] _ Try.call52 rfl (Sub.pick Sub.refl) (fun w_ hp_ => Lower_spec (List.replicate n none) bH hm1 (s : Int) 0 w_ hH1 hp_.owns) ?_)
    rintro _ _ ⟨rfl, hm2, rfl, hH2⟩
    rw [looks_new hs] at hH2
    dsimp only [List.cons_append, List.nil_append]
    refine f_done ?_
    refine f_tn (kh5 _ _ ?_)
    clear kh5
    refine f_seq fun K6 kh6 => ?_
    refine f_region ?_
    refine f_stepP rfl rfl rfl (o_move rfl) ?_
    refine f_stepP rfl rfl rfl (o_assign rfl) ?_
    refine f_done ?_
    refine f_tn (kh6 _ _ ?_)
    clear kh6
    refine f_ret ?_
    exact f_fin1 [(ssegs bx bo bd bb bH n A l.length cap back vs ms.flatten (D0 n s) (B0 n) hm2).flatten] Try.results39 rfl (Sub.flatF (by unfold ssegs B0; rw [← ints_repl]; repeat (first | exact Sub.nil | refine Sub.pick ?_ | refine Sub.castO rfl ?_))) ⟨bx, bd, _, rfl, rfl, SRep_mk hR hH2 rfl⟩

set_option maxRecDepth 100000 in
set_option maxHeartbeats 4000000 in
theorem far_spec (n : Nat) (A : Option Addr) (l : List Arc) (cap : Nat) (back : Bool) (bx bo bd bb i : Nat) (h : Value) (w : World) (hx : Ro (Fr w []) w (some ⟨bx, 0, none⟩) (scells n A l.length cap back bo bd bb h)) (hr : Ro (Fr w []) w A (l.flatMap arcCs)) (hi : i < l.length) (hl : l.length ≤ 8192) :
    Meets Try.prog 72 [.pointer (some ⟨bx, 0, none⟩), .int .i64 (i : Int)] w [] (fun u m => u = .int .i64 (trn back l[i]).dst ∧ m = []) := by
  obtain ⟨b', o', e', hSx, hcx⟩ := hx (by simp)
  obtain ⟨rfl, rfl⟩ : bx = b' ∧ 0 = o' := by cases e'; exact ⟨rfl, rfl⟩
  obtain ⟨bl, off, rfl, hS, hc⟩ := hr (flat_ne arcCs arcCs_len (by omega) hi)
  refine f_enter Try.func72 rfl Try.ntmps72 rfl Owns.nil ?_
  refine f_seq fun K1 kh1 => ?_
  refine f_region ?_
  refine f_stepP rfl rfl rfl (o_assign rfl) ?_
  refine f_done ?_
  refine f_tn (kh1 _ _ ?_)
  clear kh1
  refine f_seq fun K2 kh2 => ?_
  refine f_seq fun K3 kh3 => ?_
  refine f_region ?_
  refine f_stepP rfl rfl rfl (o_move rfl) ?_
  refine f_stepP rfl rfl rfl (o_nil rfl) ?_
  refine f_stepP rfl rfl rfl (o_field fa80_1 rfl) ?_
  refine f_stepP rfl rfl rfl (o_load Try.isAgg4 rfl (rdS hSx (hcx 2 _ rfl))) ?_
  refine f_done ?_
  refine f_tn (kh3 _ _ ?_)
  clear kh3
  refine f_condB rfl (fun c8 => ?_) (fun c8 => ?_)
  · skip
    refine f_seq fun K4 kh4 => ?_
    refine f_region ?_
    refine f_stepP rfl rfl rfl (o_move rfl) ?_
    refine f_stepP rfl rfl rfl (o_nil rfl) ?_
    refine f_stepP rfl rfl rfl (o_field fa80_0 rfl) ?_
    refine f_stepP rfl rfl rfl (o_field fa24_1 rfl) ?_
    refine f_stepP rfl rfl rfl (o_load Try.isAgg22 rfl (rdS hSx (hcx 1 _ rfl))) ?_
    refine f_stepP rfl rfl rfl (o_move rfl) ?_
    refine f_stepP rfl rfl rfl (o_idx sl22 rfl rfl (off + i * 3) ⟨by omega, by omega, by first | omega | (simp; done) | (simp; omega)⟩) ?_
    refine f_stepP rfl rfl rfl (o_field fa44_0 rfl) ?_
    refine f_stepP rfl rfl rfl (o_load Try.isAgg3 rfl (rdS hS (by have := hc (i * 3 + 0) _ (by rw [flat_get arcCs arcCs_len l i 0 hi (by omega)]; rfl); rwa [← Nat.add_assoc] at this))) ?_
    refine f_stepP rfl rfl rfl (o_assign rfl) ?_
    refine f_done ?_
    refine f_tn (kh4 _ _ ?_)
    clear kh4
    refine f_ret ?_
    refine f_tr ?_
    exact f_fin1 [] Try.results72 rfl Sub.nil ⟨by subst c8; rfl, rfl⟩
  · skip
    refine f_skip ?_
    refine f_tn (kh2 _ _ ?_)
    clear kh2
    refine f_seq fun K5 kh5 => ?_
    refine f_region ?_
    refine f_stepP rfl rfl rfl (o_move rfl) ?_
    refine f_stepP rfl rfl rfl (o_nil rfl) ?_
    refine f_stepP rfl rfl rfl (o_field fa80_0 rfl) ?_
    refine f_stepP rfl rfl rfl (o_field fa24_1 rfl) ?_
    refine f_stepP rfl rfl rfl (o_load Try.isAgg22 rfl (rdS hSx (hcx 1 _ rfl))) ?_
    refine f_stepP rfl rfl rfl (o_move rfl) ?_
    refine f_stepP rfl rfl rfl (o_idx sl22 rfl rfl (off + i * 3) ⟨by omega, by omega, by first | omega | (simp; done) | (simp; omega)⟩) ?_
    refine f_stepP rfl rfl rfl (o_field fa44_1 rfl) ?_
    refine f_stepP rfl rfl rfl (o_load Try.isAgg3 rfl (rdS hS (by have := hc (i * 3 + 1) _ (by rw [flat_get arcCs arcCs_len l i 1 hi (by omega)]; rfl); rwa [← Nat.add_assoc] at this))) ?_
    refine f_stepP rfl rfl rfl (o_assign rfl) ?_
    refine f_done ?_
    refine f_tn (kh5 _ _ ?_)
    clear kh5
    refine f_ret ?_
    exact f_fin1 [] Try.results72 rfl Sub.nil ⟨by subst c8; rfl, rfl⟩

set_option maxRecDepth 100000 in
set_option maxHeartbeats 4000000 in
theorem next_spec (n : Nat) (A : Option Addr) (l : List Arc) (cap : Nat) (back : Bool) (p : Nat → Bool) (s bx bd : Nat) (d by_ : List Int) (T : List (Option Int)) (o : List Nat) (m : Seg) (fi : FuncId) (capi : List Value) (w : World) (hr : Ro (Fr w [m]) w A (l.flatMap arcCs)) (hg : GOk n l)
    (hS : SRep n A l cap back bx bd d by_ T m) (hSS : SS n (l.map (trn back)) p s d by_ T o (RF (l.map (trn back)) o))
    (hci : ∀ args w, (callFunc fi args).run Try.prog w = .ok (.enter fi args) w)
    (his : ∀ w', (∀ k, Fr w [m] k → w'.heap[k]? = w.heap[k]?) → ∀ i, i < l.length → Meets Try.prog fi ([.int .i64 (i : Int)] ++ capi) w' [] (fun u m => u = .bool (p i) ∧ m = [])) (hw : Owns w [m]) :
    Meets Try.prog 53 [.pointer (some ⟨bx, 0, none⟩), .func (.func fi) #[] capi.toArray] w [m] (NextΦ n A l cap back p s bx bd d by_ T o) := by
  have hn1 := hg.n1
  have hlen := hg.len
  have hml : (l.map (trn back)).length = l.length := List.length_map _
  have hdst := hg.dst back
  have hwts := hg.wt back
  refine f_enter Try.func53 rfl Try.ntmps53 rfl hw ?_
  obtain ⟨bo, bb, bH, vs, ms, hm, hmp, hR, hH⟩ := hS
  refine f_subC (Sub.permF hmp) ?_
  unfold ssegs
  refine f_seq fun K1 kh1 => ?_
  refine f_region ?_
  refine f_stepP rfl rfl rfl (o_assign rfl) ?_
  refine f_stepP rfl rfl rfl (o_assign rfl) ?_
  refine f_stepP rfl rfl rfl (o_assign rfl) ?_
  refine f_done ?_
  refine f_tn (kh1 _ _ ?_)
  clear kh1
  refine f_seq fun K2 kh2 => ?_
  refine f_region ?_
  refine f_stepP rfl rfl rfl (o_move rfl) ?_
  refine f_stepP rfl rfl rfl (o_nil rfl) ?_
  refine f_stepP rfl rfl rfl (o_field fa80_5 rfl) ?_
  refine f_stepP rfl rfl rfl (o_load Try.isAgg78 rfl (rdA rfl)) ?_
  refine f_step rfl rfl rfl (o_callM [hm] _ Try.call70 rfl (Sub.pick Sub.refl) (fun w_ hp_ => HPop_spec T bH hm w_ hH hp_.owns) ?_)
  rintro _ _ ⟨rfl, hm2, rfl, hH2⟩
  dsimp only [List.cons_append, List.nil_append]
  refine f_stepP rfl rfl rfl (o_move rfl) ?_
  refine f_stepP rfl rfl rfl (o_extract rfl rfl) ?_
  refine f_stepP rfl rfl rfl (o_extract rfl rfl) ?_
  refine f_stepP rfl rfl rfl (o_extract rfl rfl) ?_
  refine f_stepP rfl rfl rfl (o_assign rfl) ?_
  refine f_stepP rfl rfl rfl (o_assign rfl) ?_
  refine f_stepP rfl rfl rfl (o_assign rfl) ?_
  refine f_done ?_
  refine f_tn (kh2 _ _ ?_)
  clear kh2
  refine f_seq fun K3 kh3 => ?_
  refine f_seq fun K4 kh4 => ?_
  refine f_region ?_
  refine f_stepP rfl rfl rfl (o_move rfl) ?_
  refine f_stepP rfl rfl rfl (o_neq rfl rfl) ?_
  refine f_done ?_
  refine f_tn (kh4 _ _ ?_)
  clear kh4
  refine f_cond rfl (fun c22 => ?_) (fun c22 => ?_)
  · skip
    have hnone : topR T = none := by
      cases e' : topR T with
      | none => rfl
      | some q => obtain ⟨v, a⟩ := q; rw [topA_some e'] at c22; exact absurd rfl c22
    rw [popT_none hnone] at hH2
    refine f_seq fun K5 kh5 => ?_
    refine f_region ?_
    refine f_stepP rfl rfl rfl (o_assign rfl) ?_
    refine f_stepP rfl rfl rfl (o_assign rfl) ?_
    refine f_stepP rfl rfl rfl (o_assign rfl) ?_
    refine f_done ?_
    refine f_tn (kh5 _ _ ?_)
    clear kh5
    refine f_ret ?_
    refine f_tr ?_
    exact f_fin3 [(ssegs bx bo bd bb bH n A l.length cap back vs ms.flatten d by_ hm2).flatten] Try.results53 rfl rfl rfl (Sub.flatF (by unfold ssegs; repeat (first | exact Sub.nil | refine Sub.pick ?_ | refine Sub.castO rfl ?_))) (.inl ⟨hnone, rfl, _, rfl, SRep_mk hR hH2 rfl⟩)
  · skip
    obtain ⟨v, a, ht⟩ : ∃ v a, topR T = some (v, a) := by
      cases e' : topR T with
      | none => rw [topA_none e'] at c22; exact absurd (by decide) c22
      | some q => exact ⟨q.1, q.2, rfl⟩
    rw [topA_some ht]
    rw [popT_some ht] at hH2
    obtain ⟨hnx0, hvn, hvo, hdv0, hai, ha0⟩ := NX.start hSS ht
    have hrows := rowsOf_len n (l.map (trn back))
    obtain ⟨rv, rm, rG, hrv, hro, hrp, _⟩ := hR.split (i := v) (by omega)
    rw [rowsOf_get] at hro
    obtain ⟨Ar, cr, rfl, hcr⟩ := hro.val
    refine f_subC (Sub.splitF hrp) ?_
    have hrl : (rowOf (l.map (trn back)) v).length ≤ 8192 := by unfold rowOf; rw [idxs_length]; exact Nat.le_trans List.countP_le_length (by omega)
    refine f_skip ?_
    refine f_tn (kh3 _ _ ?_)
    clear kh3
    refine f_seq fun K6 kh6 => ?_
    refine f_seq fun K7 kh7 => ?_
    refine f_region ?_
    refine f_stepP rfl rfl rfl (o_move rfl) ?_
    refine f_stepP rfl rfl rfl (o_nil rfl) ?_
    refine f_stepP rfl rfl rfl (o_field fa80_2 rfl) ?_
    refine f_stepP rfl rfl rfl (o_load Try.isAgg55 rfl (rdA rfl)) ?_
    refine f_stepP rfl rfl rfl (o_move rfl) ?_
    refine f_stepP rfl rfl rfl (o_idx sl55 rfl rfl (v) ⟨by omega, by omega, by first | omega | (simp; done) | (simp; omega)⟩) ?_
    refine f_stepP rfl rfl rfl (o_load Try.isAgg28 rfl (rdA hrv)) ?_
    refine f_stepP rfl rfl rfl (o_len sl28 rfl) ?_
    refine f_stepP rfl rfl rfl (o_move rfl) ?_
    refine f_done ?_
    refine f_tn (kh7 _ _ ?_)
    clear kh7
    refine f_block ?_
    refine f_loop (α := Nat × List Int × List Int × List (Option Int) × Seg) [0, 1, 4, 5, 29, 30] (fun ⟨j, d', by', T', hm'⟩ => [(31, .int .i64 (j : Int))]) (fun ⟨j, d', by', T', hm'⟩ => [[(bx, blk (scells n A l.length cap back bo bd bb (.pointer (some ⟨bH, 0, none⟩))) 80)], [(bo, blk vs 28)], rm, rG, [(bd, blk (u64s d') 49)], [(bb, blk (ints by') 3)], hm']) (fun ⟨j, d', by', T', hm'⟩ => j ≤ (rowOf (l.map (trn back)) v).length ∧ NX n (l.map (trn back)) p s d v a o j d' by' T' ∧ HRep T' bH hm') (fun ⟨j, d', by', T', hm'⟩ => (rowOf (l.map (trn back)) v).length - j) (0, d, by_, T.set v none, hm2) ?_ ?_ ?_ ?_
    · exact (by repeat (first | exact trivial | refine ⟨rfl, ?_⟩))
    · repeat (first | exact Sub.nil | refine Sub.pick ?_ | refine Sub.castO rfl ?_ | refine Sub.skip ?_)
    · exact ⟨Nat.zero_le _, hnx0, hH2⟩
    · rintro ⟨j, d', by', T', hm'⟩ ⟨hjl, hnx, hH'⟩
      refine f_seq fun K8 kh8 => ?_
      refine f_region ?_
      refine f_stepP rfl rfl rfl (o_lss rfl rfl) ?_
      refine f_done ?_
      refine f_tn (kh8 _ _ ?_)
      clear kh8
      refine f_seq fun K9 kh9 => ?_
      refine f_cond rfl (fun c32 => ?_) (fun c32 => ?_)
      · skip
        refine f_skip ?_
        refine f_tn (kh9 _ _ ?_)
        clear kh9
        refine f_seq fun K10 kh10 => ?_
        refine f_block ?_
        refine f_seq fun K11 kh11 => ?_
        refine f_region ?_
        have hj : j < (rowOf (l.map (trn back)) v).length := by omega
        obtain ⟨br, spr, rfl, rfl, _⟩ := hro.upd (by omega)
        obtain ⟨i, hi, hri, hsrc⟩ := rowOf_at hj
        have hil : i < l.length := by omega
        obtain ⟨u, hu, hun⟩ : ∃ u : Nat, (trn back l[i]).dst = (u : Int) ∧ u < n := ⟨(trn back l[i]).dst.toNat, by have := hg.good i hil; cases back <;> simp [trn] <;> omega, by have := hg.good i hil; cases back <;> simp [trn] <;> omega⟩
        have hud : (l.map (trn back))[i].dst.toNat = u := by rw [trn_get _ hil, hu]; rfl
        have hr0 := hr
        obtain ⟨bl, off, rfl, hS', hc⟩ := hr (flat_ne arcCs arcCs_len (by omega) hil)
        refine f_stepP rfl rfl rfl (o_idx sl28 rfl rfl (j) ⟨by omega, by omega, by first | omega | (simp; done) | (simp; omega)⟩) ?_
        refine f_stepP rfl rfl rfl (o_load Try.isAgg3 rfl (rdA (v := .int .i64 (i : Int)) (app_get (by rw [ints_get hj, hri])))) ?_
        refine f_stepP rfl rfl rfl (o_assign rfl) ?_
        refine f_done ?_
        refine f_tn (kh11 _ _ ?_)
        clear kh11
        refine f_seq fun K12 kh12 => ?_
        refine f_region ?_
        refine f_stepP rfl rfl rfl (o_move rfl) ?_
        refine f_stepP rfl rfl rfl (o_move rfl) ?_
        refine f_stepP rfl rfl rfl (o_nil rfl) ?_
        refine f_stepP rfl rfl rfl (o_field fa80_0 rfl) ?_
        refine f_stepP rfl rfl rfl (o_field fa24_1 rfl) ?_
        refine f_stepP rfl rfl rfl (o_load Try.isAgg22 rfl (rdA rfl)) ?_
        refine f_stepP rfl rfl rfl (o_move rfl) ?_
        refine f_stepP rfl rfl rfl (o_idx sl22 rfl rfl (off + i * 3) ⟨by omega, by omega, by first | omega | (simp; done) | (simp; omega)⟩) ?_
        refine f_stepP rfl rfl rfl (o_field fa44_2 rfl) ?_
        refine f_stepP rfl rfl rfl (o_load Try.isAgg42 rfl (rdS hS' (by have := hc (i * 3 + 2) _ (by rw [flat_get arcCs arcCs_len l i 2 hil (by omega)]; rfl); rwa [← Nat.add_assoc] at this))) ?_
        refine f_stepP rfl rfl rfl (o_conv Try.runUnderlying42 Try.runUnderlying49 rfl _ (wrap_u64 (by have := (hg.ok _ (List.getElem_mem hil)).wt; omega))) ?_
        refine f_step rfl rfl rfl (o_call Try.call71 rfl (fun w_ hp_ => Add_spec a l[i].wt w_ ⟨ha0, Int.le_of_lt hai⟩ (by have := (hg.ok _ (List.getElem_mem hil)).wt; unfold INF; omega)) ?_)
        rintro _ _ ⟨rfl, rfl⟩
        dsimp only [List.cons_append, List.nil_append]
        refine f_stepP rfl rfl rfl (o_assign rfl) ?_
        refine f_done ?_
        refine f_tn (kh12 _ _ ?_)
        clear kh12
        refine f_seq fun K13 kh13 => ?_
        refine f_region ?_
        refine f_stepP rfl rfl rfl (o_move rfl) ?_
        refine f_stepP rfl rfl rfl (o_move rfl) ?_
        refine f_step rfl rfl rfl (o_call Try.call72 rfl (fun w_ hp_ => far_spec n (some ⟨bl, off, none⟩) l cap back bx bo bd bb i (.pointer (some ⟨bH, 0, none⟩)) w_ (roOwn (b := bx) hp_ (fun j v hj => hj)) (hr0.up0 hp_) hil hlen) ?_)
        rintro _ _ ⟨rfl, rfl⟩
        rw [hu]
        dsimp only [List.cons_append, List.nil_append]
        refine f_stepP rfl rfl rfl (o_assign rfl) ?_
        refine f_done ?_
        refine f_tn (kh13 _ _ ?_)
        clear kh13
        refine f_seq fun K14 kh14 => ?_
        refine f_region ?_
        refine f_stepP rfl rfl rfl (o_move rfl) ?_
        refine f_stepP rfl rfl rfl (o_move rfl) ?_
        refine f_stepP rfl rfl rfl (o_nil rfl) ?_
        refine f_stepP rfl rfl rfl (o_field fa80_3 rfl) ?_
        refine f_stepP rfl rfl rfl (o_load Try.isAgg45 rfl (rdA rfl)) ?_
        refine f_stepP rfl rfl rfl (o_move rfl) ?_
        refine f_stepP rfl rfl rfl (o_idx sl45 rfl rfl (u) ⟨by omega, by omega, by first | omega | (simp; done) | (simp; omega)⟩) ?_
        refine f_stepP rfl rfl rfl (o_load Try.isAgg49 rfl (rdA (u64s_at (dg_at (by rw [hnx.ss.ld]; exact hun))))) ?_
        refine f_stepP rfl rfl rfl (o_lss rfl rfl) ?_
        refine f_stepP rfl rfl rfl (o_move rfl) ?_
        refine f_splitL 59 rfl (fun g59 => ?_) (fun g59 => ?_)
        · skip
          refine f_stepPY rfl rfl rfl rfl rfl (o_move rfl) ?_
          refine f_stepPY rfl rfl rfl rfl rfl (o_move rfl) ?_
          refine f_stepY rfl rfl rfl rfl rfl (o_callV [] _ hci rfl rfl Sub.refl (fun w_ hp_ => (by have h := his w_ (fun k hk => hp_.same k hk) i hil; exact h)) ?_)
          rintro _ _ ⟨rfl, rfl⟩
          dsimp only [List.cons_append, List.nil_append]
          refine f_stepP rfl rfl rfl (o_pickT rfl rfl) ?_
          refine f_done ?_
          refine f_tn (kh14 _ _ ?_)
          clear kh14
          refine f_condB rfl (fun c63 => ?_) (fun c63 => ?_)
          · skip
            have hmx := (hnx.ss.rng u hun).2
            have hda := dadd_lt g59 hmx
            obtain ⟨hnx2, hlow⟩ := hnx.relax hwts hdst hj (by omega) hri hsrc c63 hud (m := dadd a l[i].wt) (by rw [trn_get _ hil, trn_wt]; exact hda) g59
            refine f_seq fun K15 kh15 => ?_
            refine f_regionH [[(bx, blk (scells n (some ⟨bl, off, none⟩) l.length cap back bo bd bb (.pointer (some ⟨bH, 0, none⟩))) 80)]] rfl ?_
            refine f_take 0 rfl (by decide +kernel) rfl rfl rfl (by repeat (first | exact Sub.nil | refine Sub.pick ?_ | refine Sub.castO rfl ?_ | refine Sub.skip ?_)) (o_move rfl) ?_
            refine f_take 1 rfl (by decide +kernel) rfl rfl rfl (by repeat (first | exact Sub.nil | refine Sub.pick ?_ | refine Sub.castO rfl ?_ | refine Sub.skip ?_)) (o_nil rfl) ?_
            refine f_take 2 rfl (by decide +kernel) rfl rfl rfl (by repeat (first | exact Sub.nil | refine Sub.pick ?_ | refine Sub.castO rfl ?_ | refine Sub.skip ?_)) (o_field fa80_3 rfl) ?_
            refine f_take 3 rfl (by decide +kernel) rfl rfl rfl (by repeat (first | exact Sub.nil | refine Sub.pick ?_ | refine Sub.castO rfl ?_ | refine Sub.skip ?_)) (o_load Try.isAgg45 rfl (rdA rfl)) ?_
            refine f_take 4 rfl (by decide +kernel) rfl rfl rfl (by repeat (first | exact Sub.nil | refine Sub.pick ?_ | refine Sub.castO rfl ?_ | refine Sub.skip ?_)) (o_move rfl) ?_
            refine f_take 5 rfl (by decide +kernel) rfl rfl rfl (by repeat (first | exact Sub.nil | refine Sub.pick ?_ | refine Sub.castO rfl ?_ | refine Sub.skip ?_)) (o_move rfl) ?_
            refine f_take 6 rfl (by decide +kernel) rfl rfl rfl (by repeat (first | exact Sub.nil | refine Sub.pick ?_ | refine Sub.castO rfl ?_ | refine Sub.skip ?_)) (o_nil rfl) ?_
            refine f_take 7 rfl (by decide +kernel) rfl rfl rfl (by repeat (first | exact Sub.nil | refine Sub.pick ?_ | refine Sub.castO rfl ?_ | refine Sub.skip ?_)) (o_field fa80_4 rfl) ?_
            refine f_take 8 rfl (by decide +kernel) rfl rfl rfl (by repeat (first | exact Sub.nil | refine Sub.pick ?_ | refine Sub.castO rfl ?_ | refine Sub.skip ?_)) (o_load Try.isAgg28 rfl (rdA rfl)) ?_
            refine f_take 9 rfl (by decide +kernel) rfl rfl rfl (by repeat (first | exact Sub.nil | refine Sub.pick ?_ | refine Sub.castO rfl ?_ | refine Sub.skip ?_)) (o_move rfl) ?_
            refine f_take 10 rfl (by decide +kernel) rfl rfl rfl (by repeat (first | exact Sub.nil | refine Sub.pick ?_ | refine Sub.castO rfl ?_ | refine Sub.skip ?_)) (o_move rfl) ?_
            refine f_take 11 rfl (by decide +kernel) rfl rfl rfl (by repeat (first | exact Sub.nil | refine Sub.pick ?_ | refine Sub.castO rfl ?_ | refine Sub.skip ?_)) (o_move rfl) ?_
            refine f_take 12 rfl (by decide +kernel) rfl rfl rfl (by repeat (first | exact Sub.nil | refine Sub.pick ?_ | refine Sub.castO rfl ?_ | refine Sub.skip ?_)) (o_idx sl45 rfl rfl (u) ⟨by omega, by omega, by first | omega | (simp; done) | (simp; omega)⟩) ?_
            refine f_only0 13 rfl (by decide +kernel) rfl rfl (o_store Try.sizeOf49 rfl rfl rfl rfl (by rw [u64s_length, hnx.ss.ld]; omega) (u64s (d'.set u (dadd a l[i].wt))) (u64s_set _ _ _) ⟨(by repeat (first | exact Sub.nil | refine Sub.pick ?_ | refine Sub.castO rfl ?_ | refine Sub.skip ?_)), ?_⟩)
            refine f_take 14 rfl (by decide +kernel) rfl rfl rfl (by repeat (first | exact Sub.nil | refine Sub.pick ?_ | refine Sub.castO rfl ?_ | refine Sub.skip ?_)) (o_idx sl28 rfl rfl (u) ⟨by omega, by omega, by first | omega | (simp; done) | (simp; omega)⟩) ?_
            refine f_only0 15 rfl (by decide +kernel) rfl rfl (o_store Try.sizeOf3 rfl rfl rfl rfl (by rw [ints_length, hnx.ss.lb]; omega) (ints (by'.set u (i : Int))) (ints_set _ _ _) ⟨(by repeat (first | exact Sub.nil | refine Sub.pick ?_ | refine Sub.castO rfl ?_ | refine Sub.skip ?_)), ?_⟩)
            refine f_over (by decide +kernel) ?_
            refine f_tn (kh15 _ _ ?_)
            clear kh15
            refine f_region ?_
            refine f_stepP rfl rfl rfl (o_move rfl) ?_
            refine f_stepP rfl rfl rfl (o_nil rfl) ?_
            refine f_stepP rfl rfl rfl (o_field fa80_5 rfl) ?_
            refine f_stepP rfl rfl rfl (o_load Try.isAgg78 rfl (rdA rfl)) ?_
            refine f_stepP rfl rfl rfl (o_move rfl) ?_
            refine f_stepP rfl rfl rfl (o_move rfl) ?_
            refine f_step rfl rfl rfl (o_callM [hm'] _ Try.call52 rfl (Sub.pick Sub.refl) (fun w_ hp_ => Lower_spec T' bH hm' (u : Int) (dadd a l[i].wt) w_ hH' hp_.owns) ?_)
            rintro _ _ ⟨rfl, hm3, rfl, hH3⟩
            rw [hlow] at hH3
            dsimp only [List.cons_append, List.nil_append]
            refine f_done ?_
            refine f_bn ?_
            refine f_tn (kh10 _ _ ?_)
            clear kh10
            refine f_region ?_
            refine f_stepP rfl rfl rfl (o_add rfl rfl _ (wrap_i64 (by omega))) ?_
            refine f_stepP rfl rfl rfl (o_move rfl) ?_
            refine f_done ?_
            refine f_tn (f_again (j + 1, d'.set u (dadd a l[i].wt), by'.set u (i : Int), T'.set u (some (dadd a l[i].wt)), hm3) (by first | omega | (dsimp only; omega) | (simp; omega)) ⟨by omega, hnx2, hH3⟩ ?_ ?_ ?_)
            · exact (by repeat (first | exact trivial | refine ⟨rfl, ?_⟩))
            · exact (by repeat (first | exact trivial | refine ⟨rfl, ?_⟩))
            · repeat (first | exact Sub.nil | refine Sub.pick ?_ | refine Sub.castO rfl ?_ | refine Sub.skip ?_)
          · skip
            refine f_skip ?_
            refine f_bn ?_
            refine f_tn (kh10 _ _ ?_)
            clear kh10
            refine f_region ?_
            refine f_stepP rfl rfl rfl (o_add rfl rfl _ (wrap_i64 (by omega))) ?_
            refine f_stepP rfl rfl rfl (o_move rfl) ?_
            refine f_done ?_
            refine f_tn (f_again (j + 1, d', by', T', hm') (by first | omega | (dsimp only; omega) | (simp; omega)) ⟨by omega, hnx.skip hj (by omega) hri hsrc (fun hp => by rw [c63] at hp; cases hp), hH'⟩ ?_ ?_ ?_)
            · exact (by repeat (first | exact trivial | refine ⟨rfl, ?_⟩))
            · exact (by repeat (first | exact trivial | refine ⟨rfl, ?_⟩))
            · repeat (first | exact Sub.nil | refine Sub.pick ?_ | refine Sub.castO rfl ?_ | refine Sub.skip ?_)
        · skip
          refine f_stepN rfl rfl rfl rfl rfl rfl ?_
          refine f_stepN rfl rfl rfl rfl rfl rfl ?_
          refine f_stepN rfl rfl rfl rfl rfl rfl ?_
          refine f_stepP rfl rfl rfl (o_pickF rfl rfl) ?_
          refine f_done ?_
          refine f_tn (kh14 _ _ ?_)
          clear kh14
          refine f_condF rfl ?_
          refine f_skip ?_
          refine f_bn ?_
          refine f_tn (kh10 _ _ ?_)
          clear kh10
          refine f_region ?_
          refine f_stepP rfl rfl rfl (o_add rfl rfl _ (wrap_i64 (by omega))) ?_
          refine f_stepP rfl rfl rfl (o_move rfl) ?_
          refine f_done ?_
          refine f_tn (f_again (j + 1, d', by', T', hm') (by first | omega | (dsimp only; omega) | (simp; omega)) ⟨by omega, hnx.skip hj (by omega) hri hsrc (fun _ => by rw [hud, trn_get _ hil, trn_wt]; have := dadd_le a l[i].wt; omega), hH'⟩ ?_ ?_ ?_)
          · exact (by repeat (first | exact trivial | refine ⟨rfl, ?_⟩))
          · exact (by repeat (first | exact trivial | refine ⟨rfl, ?_⟩))
          · repeat (first | exact Sub.nil | refine Sub.pick ?_ | refine Sub.castO rfl ?_ | refine Sub.skip ?_)
      · skip
        refine f_exit ?_
        refine f_te ?_
        clear kh9
        refine f_te ?_
        refine f_be ?_
        refine f_tn (kh6 _ _ ?_)
        clear kh6
        refine f_seq fun K16 kh16 => ?_
        refine f_region ?_
        refine f_stepP rfl rfl rfl (o_move rfl) ?_
        refine f_stepP rfl rfl rfl (o_move rfl) ?_
        refine f_stepP rfl rfl rfl (o_assign rfl) ?_
        refine f_stepP rfl rfl rfl (o_assign rfl) ?_
        refine f_stepP rfl rfl rfl (o_assign rfl) ?_
        refine f_done ?_
        refine f_tn (kh16 _ _ ?_)
        clear kh16
        refine f_ret ?_
        exact f_fin3 [(ssegs bx bo bd bb bH n A l.length cap back vs ms.flatten d' by' hm').flatten] Try.results53 rfl rfl rfl (Sub.transF (Sub.joinF (m := rm) (G' := rG) hrp.symm) (Sub.flatF (by unfold ssegs; repeat (first | exact Sub.nil | refine Sub.pick ?_ | refine Sub.castO rfl ?_)))) (.inr ⟨v, a, d', by', T', _, ht, rfl, rfl, SRep_mk hR hH' rfl, hvn, hvo, hdv0, hnx.done (by omega), hnx.ta, hnx.le, hnx.dv, ha0, hai, hnx.ch⟩)

end Go.Proofs.Ytlllpmafhnfihaa
