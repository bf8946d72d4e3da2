/- The document's answers for walks and their lengths; near.Length. -/
import Derived.Test.YtegkdbicomedjaaFTurns5
import Derived.Test.YtegkdbicomedjaaFLend
namespace Go.Proofs.Ytegkdbicomedjaa
open Go Go.RowKit Fly
set_option linter.unusedVariables false
set_option linter.unusedSimpArgs false


/-- The length as it is gone, arc by arc. -/
def longGo (l : List Arc) : Int → Int → List Int → Option (Int × Int)
  | d, a, [] => some (d, a)
  | d, a, i :: r => if 0 ≤ i then match l[i.toNat]? with
      | some x => if x.src = a then longGo l (dadd d x.wt) x.dst r else none
      | none => none
    else none
theorem longGo_step {l : List Arc} {arcs : List Int} {k j : Nat} {d a : Int} (hk : k < arcs.length) (h1 : arcs[k] = (j : Int)) (hj : j < l.length) (hs : l[j].src = a) : longGo l d a (arcs.drop k) = longGo l (dadd d l[j].wt) l[j].dst (arcs.drop (k + 1)) := by
  rw [List.drop_eq_getElem_cons hk, h1, longGo, if_pos (by omega), Int.toNat_natCast, List.getElem?_eq_getElem hj]
  simp only [hs, if_true]
theorem longGo_off {l : List Arc} {arcs : List Int} {k : Nat} {d a : Int} (hk : k < arcs.length) (h : arcs[k] < 0 ∨ (l.length : Int) ≤ arcs[k]) : longGo l d a (arcs.drop k) = none := by
  rw [List.drop_eq_getElem_cons hk, longGo]
  split
  · rw [List.getElem?_eq_none (by omega)]
  · rfl
theorem longGo_ne {l : List Arc} {arcs : List Int} {k j : Nat} {d a : Int} (hk : k < arcs.length) (h1 : arcs[k] = (j : Int)) (hj : j < l.length) (hs : ¬ l[j].src = a) : longGo l d a (arcs.drop k) = none := by
  rw [List.drop_eq_getElem_cons hk, h1, longGo, if_pos (by omega), Int.toNat_natCast, List.getElem?_eq_getElem hj]
  simp only [hs, if_false]
theorem longGo_end {l : List Arc} {arcs : List Int} {k : Nat} {d a : Int} (hk : arcs.length ≤ k) : longGo l d a (arcs.drop k) = some (d, a) := by
  rw [List.drop_eq_nil_of_le hk]; rfl
def offs (l : List Arc) (i : Int) : Bool := decide (i < 0) || decide ((l.length : Int) ≤ i)
def glen (N : Int) (l : List Arc) (s t : Int) (arcs : List Int) : Int × Int :=
  if nlooked N l [s, t] ≠ 0 then (0, nlooked N l [s, t]) else if 16384 < arcs.length then (0, 2) else if arcs.any (offs l) then (0, 5) else
  match longGo l 0 s arcs with
  | none => (0, 4)
  | some (d, a) => if a = t then (d, 0) else (0, 4)
theorem glen_looked {N : Int} {l : List Arc} {s t : Int} {arcs : List Int} (h : nlooked N l [s, t] ≠ 0) : glen N l s t arcs = (0, nlooked N l [s, t]) := by unfold glen; rw [if_pos h]
theorem glen_long {N : Int} {l : List Arc} {s t : Int} {arcs : List Int} (h : nlooked N l [s, t] = 0) (h2 : 16384 < arcs.length) : glen N l s t arcs = (0, 2) := by unfold glen; rw [if_neg (by simpa using h), if_pos h2]
theorem glen_off {N : Int} {l : List Arc} {s t : Int} {arcs : List Int} (h : nlooked N l [s, t] = 0) (h2 : arcs.length ≤ 16384) (h3 : arcs.any (offs l) = true) : glen N l s t arcs = (0, 5) := by unfold glen; rw [if_neg (by simpa using h), if_neg (by omega), if_pos h3]
theorem glen_none {N : Int} {l : List Arc} {s t : Int} {arcs : List Int} (h : nlooked N l [s, t] = 0) (h2 : arcs.length ≤ 16384) (h3 : arcs.any (offs l) = false) (h4 : longGo l 0 s arcs = none) : glen N l s t arcs = (0, 4) := by unfold glen; rw [if_neg (by simpa using h), if_neg (by omega), if_neg (by rw [h3]; decide), h4]
theorem glen_some {N : Int} {l : List Arc} {s t d a : Int} {arcs : List Int} (h : nlooked N l [s, t] = 0) (h2 : arcs.length ≤ 16384) (h3 : arcs.any (offs l) = false) (h4 : longGo l 0 s arcs = some (d, a)) : glen N l s t arcs = if a = t then (d, 0) else (0, 4) := by unfold glen; rw [if_neg (by simpa using h), if_neg (by omega), if_neg (by rw [h3]; decide), h4]
theorem any_no {α : Type} {p : α → Bool} {l : List α} {k : Nat} (hk : l.length ≤ k) (h : ∀ j (a : j < l.length), j < k → p l[j] = false) : l.any p = false := List.any_eq_false.2 fun x hx => by
  obtain ⟨j, hj, rfl⟩ := List.mem_iff_getElem.1 hx
  simpa using h j hj (by omega)
theorem any_yes {α : Type} {p : α → Bool} {l : List α} {k : Nat} (hk : k < l.length) (h : p l[k] = true) : l.any p = true := List.any_eq_true.2 ⟨_, List.getElem_mem hk, h⟩
def longR (l : List Arc) (s t : Int) (arcs : List Int) : Int × Bool := match longGo l 0 s arcs with
  | none => (0, false)
  | some (d, a) => (d, decide (a = t))
theorem dadd0 {a b : Int} (ha : 0 ≤ a) (hb : 0 ≤ b) : 0 ≤ dadd a b := by unfold dadd INF; split <;> omega

set_option maxRecDepth 100000 in
set_option maxHeartbeats 4000000 in
theorem RAdd_spec (a b : Int) (w : World) (ha : 0 ≤ a ∧ a ≤ INF) (hb : 0 ≤ b ∧ b ≤ INF) : Meets Try.prog 57 [.int .u64 a, .int .u64 b] w [] (fun u m => u = .int .u64 (dadd a b) ∧ m = []) := by
  unfold INF at ha hb
  refine f_enter Try.func57 rfl Try.ntmps57 rfl Owns.nil ?_
  refine f_seq fun K1 kh1 => ?_
  refine f_region ?_
  refine f_stepP rfl rfl rfl (o_assign rfl) ?_
  refine f_done ?_
  refine f_tn (kh1 _ _ ?_)
  clear kh1
  refine f_seq fun K2 kh2 => ?_
  refine f_seq fun K3 kh3 => ?_
  refine f_region ?_
  refine f_stepP rfl rfl rfl (o_move rfl) ?_
  refine f_stepP rfl rfl rfl (o_move rfl) ?_
  refine f_stepP rfl rfl rfl (o_sub rfl rfl _ (wrap_u64 (by omega))) ?_
  refine f_stepP rfl rfl rfl (o_gtr rfl rfl) ?_
  refine f_done ?_
  refine f_tn (kh3 _ _ ?_)
  clear kh3
  refine f_cond rfl (fun c8 => ?_) (fun c8 => ?_)
  · skip
    refine f_seq fun K4 kh4 => ?_
    refine f_region ?_
    refine f_stepP rfl rfl rfl (o_assign rfl) ?_
    refine f_done ?_
    refine f_tn (kh4 _ _ ?_)
    clear kh4
    refine f_ret ?_
    refine f_tr ?_
    exact f_fin1 [] Try.results57 rfl Sub.nil ⟨by unfold dadd INF; rw [if_pos (by omega)], rfl⟩
  · skip
    refine f_skip ?_
    refine f_tn (kh2 _ _ ?_)
    clear kh2
    refine f_seq fun K5 kh5 => ?_
    refine f_region ?_
    refine f_stepP rfl rfl rfl (o_move rfl) ?_
    refine f_stepP rfl rfl rfl (o_move rfl) ?_
    refine f_stepP rfl rfl rfl (o_add rfl rfl _ (wrap_u64 (by omega))) ?_
    refine f_stepP rfl rfl rfl (o_assign rfl) ?_
    refine f_done ?_
    refine f_tn (kh5 _ _ ?_)
    clear kh5
    refine f_ret ?_
    exact f_fin1 [] Try.results57 rfl Sub.nil ⟨by unfold dadd INF; rw [if_neg (by omega)], rfl⟩

set_option maxRecDepth 100000 in
set_option maxHeartbeats 4000000 in
theorem RCheck_spec (N : Int) (A : Option Addr) (l : List Arc) (cap : Nat) (w : World) (hr : Ro (Fr w []) w A (l.flatMap arcCs)) (hl : l.length ≤ 9223372036854775807) (hN : I64 N) (hok : ∀ x ∈ l, ArcOk x) :
    Meets Try.prog 59 [.agg #[.int .i64 N, .slice A l.length cap]] w [] (fun v m => v = .tuple #[.int .i64 (gcheck N l).1, .int .i64 (gcheck N l).2] ∧ m = []) := by
  refine f_enter Try.func59 rfl Try.ntmps59 rfl Owns.nil ?_
  refine f_seq fun K1 kh1 => ?_
  refine f_region ?_
  refine f_step rfl rfl rfl (o_box rfl rfl fun b1 => ?_)
  refine f_stepP rfl rfl rfl (o_assign rfl) ?_
  refine f_stepP rfl rfl rfl (o_assign rfl) ?_
  refine f_done ?_
  refine f_tn (kh1 _ _ ?_)
  clear kh1
  refine f_seq fun K2 kh2 => ?_
  refine f_seq fun K3 kh3 => ?_
  refine f_region ?_
  refine f_stepP rfl rfl rfl (o_field fa24_0 rfl) ?_
  refine f_stepP rfl rfl rfl (o_load Try.isAgg3 rfl (rdA rfl)) ?_
  refine f_stepP rfl rfl rfl (o_lss rfl rfl) ?_
  refine f_stepP rfl rfl rfl (o_move rfl) ?_
  refine f_splitL 9 rfl (fun g9 => ?_) (fun g9 => ?_)
  · skip
    refine f_stepN rfl rfl rfl rfl rfl rfl ?_
    refine f_stepN rfl rfl rfl rfl rfl rfl ?_
    refine f_stepN rfl rfl rfl rfl rfl rfl ?_
    refine f_stepP rfl rfl rfl (o_pickT rfl rfl) ?_
    refine f_done ?_
    refine f_tn (kh3 _ _ ?_)
    clear kh3
    refine f_condT rfl ?_
    refine f_seq fun K4 kh4 => ?_
    refine f_region ?_
    refine f_stepP rfl rfl rfl (o_assign rfl) ?_
    refine f_stepP rfl rfl rfl (o_assign rfl) ?_
    refine f_done ?_
    refine f_tn (kh4 _ _ ?_)
    clear kh4
    refine f_ret ?_
    refine f_tr ?_
    exact f_fin2 [] Try.results59 rfl rfl Sub.nil ⟨by rw [gcheck_range (by omega)], rfl⟩
  · skip
    refine f_stepPY rfl rfl rfl rfl rfl (o_field fa24_0 rfl) ?_
    refine f_stepPY rfl rfl rfl rfl rfl (o_load Try.isAgg3 rfl (rdA rfl)) ?_
    refine f_stepPY rfl rfl rfl rfl rfl (o_gtr rfl rfl) ?_
    refine f_stepP rfl rfl rfl (o_pickF rfl rfl) ?_
    refine f_done ?_
    refine f_tn (kh3 _ _ ?_)
    clear kh3
    refine f_cond rfl (fun c13 => ?_) (fun c13 => ?_)
    · skip
      refine f_seq fun K5 kh5 => ?_
      refine f_region ?_
      refine f_stepP rfl rfl rfl (o_assign rfl) ?_
      refine f_stepP rfl rfl rfl (o_assign rfl) ?_
      refine f_done ?_
      refine f_tn (kh5 _ _ ?_)
      clear kh5
      refine f_ret ?_
      refine f_tr ?_
      exact f_fin2 [] Try.results59 rfl rfl Sub.nil ⟨by rw [gcheck_range (by omega)], rfl⟩
    · skip
      have hN1 : 1 ≤ N ∧ N ≤ 1024 := by omega
      refine f_skip ?_
      refine f_tn (kh2 _ _ ?_)
      clear kh2
      refine f_seq fun K6 kh6 => ?_
      refine f_seq fun K7 kh7 => ?_
      refine f_region ?_
      refine f_stepP rfl rfl rfl (o_field fa24_1 rfl) ?_
      refine f_stepP rfl rfl rfl (o_load Try.isAgg22 rfl (rdA rfl)) ?_
      refine f_stepP rfl rfl rfl (o_len sl22 rfl) ?_
      refine f_stepP rfl rfl rfl (o_gtr rfl rfl) ?_
      refine f_done ?_
      refine f_tn (kh7 _ _ ?_)
      clear kh7
      refine f_cond rfl (fun c17 => ?_) (fun c17 => ?_)
      · skip
        refine f_seq fun K8 kh8 => ?_
        refine f_region ?_
        refine f_stepP rfl rfl rfl (o_assign rfl) ?_
        refine f_stepP rfl rfl rfl (o_assign rfl) ?_
        refine f_done ?_
        refine f_tn (kh8 _ _ ?_)
        clear kh8
        refine f_ret ?_
        refine f_tr ?_
        exact f_fin2 [] Try.results59 rfl rfl Sub.nil ⟨by rw [gcheck_long hN1 (by omega)], rfl⟩
      · skip
        refine f_skip ?_
        refine f_tn (kh6 _ _ ?_)
        clear kh6
        refine f_seq fun K9 kh9 => ?_
        refine f_seq fun K10 kh10 => ?_
        refine f_region ?_
        refine f_stepP rfl rfl rfl (o_assign rfl) ?_
        refine f_done ?_
        refine f_tn (kh10 _ _ ?_)
        clear kh10
        refine f_block ?_
        refine f_loop (α := Nat) [1] (fun k => [(4, .int .i64 (k : Int))]) (fun k => [[(b1, blk [.int .i64 N, .slice A l.length cap] 24)]]) (fun k => k ≤ l.length ∧ ∀ j (h : j < l.length), j < k → arcBad N l[j] = false) (fun k => l.length - k) (0) ?_ ?_ ?_ ?_
        · exact (by repeat (first | exact trivial | refine ⟨rfl, ?_⟩))
        · repeat (first | exact Sub.nil | refine Sub.pick ?_ | refine Sub.castO rfl ?_ | refine Sub.skip ?_)
        · exact ⟨by omega, fun j h hj => by omega⟩
        · rintro k ⟨hkl, hall⟩
          refine f_seq fun K11 kh11 => ?_
          refine f_seq fun K12 kh12 => ?_
          refine f_region ?_
          refine f_stepP rfl rfl rfl (o_move rfl) ?_
          refine f_stepP rfl rfl rfl (o_field fa24_1 rfl) ?_
          refine f_stepP rfl rfl rfl (o_load Try.isAgg22 rfl (rdA rfl)) ?_
          refine f_stepP rfl rfl rfl (o_len sl22 rfl) ?_
          refine f_stepP rfl rfl rfl (o_lss rfl rfl) ?_
          refine f_done ?_
          refine f_tn (kh12 _ _ ?_)
          clear kh12
          refine f_cond rfl (fun c22 => ?_) (fun c22 => ?_)
          · skip
            refine f_skip ?_
            refine f_tn (kh11 _ _ ?_)
            clear kh11
            refine f_seq fun K13 kh13 => ?_
            refine f_block ?_
            refine f_seq fun K14 kh14 => ?_
            refine f_region ?_
            refine f_stepP rfl rfl rfl (o_field fa24_1 rfl) ?_
            refine f_stepP rfl rfl rfl (o_load Try.isAgg22 rfl (rdA rfl)) ?_
            refine f_stepP rfl rfl rfl (o_move rfl) ?_
            have hk : k < l.length := by omega
            obtain ⟨b, off, rfl, hS, hc⟩ := hr (flat_ne arcCs arcCs_len (by omega) hk)
            refine f_stepP rfl rfl rfl (o_idx sl22 rfl rfl (off + k * 3) ⟨by omega, by omega, by first | omega | (simp; done) | (simp; omega)⟩) ?_
            refine f_stepP rfl rfl rfl (o_loadA (vs := arcCs l[k]) Try.isAgg44 Try.sizeOf44 rfl rfl (roElem arcCs_len hS hc hk)) ?_
            refine f_step rfl rfl rfl (o_alloc Try.zeroValue44 rfl fun b5 => ?_)
            refine f_step0 rfl rfl (o_storeA Try.sizeOf44 rfl rfl rfl rfl (by first | exact Nat.le_of_ble_eq_true rfl | (simp; done) | (simp; omega)) (arcCs l[k]) rfl ?_)
            refine f_done ?_
            refine f_tn (kh14 _ _ ?_)
            clear kh14
            refine f_seq fun K15 kh15 => ?_
            refine f_region ?_
            refine f_stepP rfl rfl rfl (o_field fa44_0 rfl) ?_
            refine f_stepP rfl rfl rfl (o_load Try.isAgg3 rfl (rdA rfl)) ?_
            refine f_stepP rfl rfl rfl (o_lss rfl rfl) ?_
            refine f_stepP rfl rfl rfl (o_move rfl) ?_
            refine f_splitL 33 rfl (fun g33 => ?_) (fun g33 => ?_)
            · skip
              refine f_stepN rfl rfl rfl rfl rfl rfl ?_
              refine f_stepN rfl rfl rfl rfl rfl rfl ?_
              refine f_stepN rfl rfl rfl rfl rfl rfl ?_
              refine f_stepN rfl rfl rfl rfl rfl rfl ?_
              refine f_stepN rfl rfl rfl rfl rfl rfl ?_
              refine f_stepP rfl rfl rfl (o_pickT rfl rfl) ?_
              refine f_stepP rfl rfl rfl (o_move rfl) ?_
              refine f_stepN rfl rfl rfl rfl rfl rfl ?_
              refine f_stepN rfl rfl rfl rfl rfl rfl ?_
              refine f_stepN rfl rfl rfl rfl rfl rfl ?_
              refine f_stepP rfl rfl rfl (o_pickT rfl rfl) ?_
              refine f_stepP rfl rfl rfl (o_move rfl) ?_
              refine f_stepN rfl rfl rfl rfl rfl rfl ?_
              refine f_stepN rfl rfl rfl rfl rfl rfl ?_
              refine f_stepN rfl rfl rfl rfl rfl rfl ?_
              refine f_stepN rfl rfl rfl rfl rfl rfl ?_
              refine f_stepN rfl rfl rfl rfl rfl rfl ?_
              refine f_stepP rfl rfl rfl (o_pickT rfl rfl) ?_
              refine f_done ?_
              refine f_tn (kh15 _ _ ?_)
              clear kh15
              refine f_condT rfl ?_
              refine f_seq fun K16 kh16 => ?_
              refine f_region ?_
              refine f_stepP rfl rfl rfl (o_move rfl) ?_
              refine f_stepP rfl rfl rfl (o_assign rfl) ?_
              refine f_stepP rfl rfl rfl (o_assign rfl) ?_
              refine f_done ?_
              refine f_tn (kh16 _ _ ?_)
              clear kh16
              refine f_ret ?_
              refine f_br ?_
              refine f_tr ?_
              refine f_tr ?_
              refine f_br ?_
              refine f_tr ?_
              exact f_fin2 [] Try.results59 rfl rfl Sub.nil ⟨by rw [gcheck_bad hN1 (by omega) hk hall (by unfold arcBad; simp; omega)], rfl⟩
            · skip
              refine f_stepPY rfl rfl rfl rfl rfl (o_field fa44_0 rfl) ?_
              refine f_stepPY rfl rfl rfl rfl rfl (o_load Try.isAgg3 rfl (rdA rfl)) ?_
              refine f_stepPY rfl rfl rfl rfl rfl (o_field fa24_0 rfl) ?_
              refine f_stepPY rfl rfl rfl rfl rfl (o_load Try.isAgg3 rfl (rdA rfl)) ?_
              refine f_stepPY rfl rfl rfl rfl rfl (o_geq rfl rfl) ?_
              refine f_stepP rfl rfl rfl (o_pickF rfl rfl) ?_
              refine f_stepP rfl rfl rfl (o_move rfl) ?_
              refine f_splitL 40 rfl (fun g40 => ?_) (fun g40 => ?_)
              · skip
                refine f_stepN rfl rfl rfl rfl rfl rfl ?_
                refine f_stepN rfl rfl rfl rfl rfl rfl ?_
                refine f_stepN rfl rfl rfl rfl rfl rfl ?_
                refine f_stepP rfl rfl rfl (o_pickT rfl rfl) ?_
                refine f_stepP rfl rfl rfl (o_move rfl) ?_
                refine f_stepN rfl rfl rfl rfl rfl rfl ?_
                refine f_stepN rfl rfl rfl rfl rfl rfl ?_
                refine f_stepN rfl rfl rfl rfl rfl rfl ?_
                refine f_stepN rfl rfl rfl rfl rfl rfl ?_
                refine f_stepN rfl rfl rfl rfl rfl rfl ?_
                refine f_stepP rfl rfl rfl (o_pickT rfl rfl) ?_
                refine f_done ?_
                refine f_tn (kh15 _ _ ?_)
                clear kh15
                refine f_condT rfl ?_
                refine f_seq fun K17 kh17 => ?_
                refine f_region ?_
                refine f_stepP rfl rfl rfl (o_move rfl) ?_
                refine f_stepP rfl rfl rfl (o_assign rfl) ?_
                refine f_stepP rfl rfl rfl (o_assign rfl) ?_
                refine f_done ?_
                refine f_tn (kh17 _ _ ?_)
                clear kh17
                refine f_ret ?_
                refine f_br ?_
                refine f_tr ?_
                refine f_tr ?_
                refine f_br ?_
                refine f_tr ?_
                exact f_fin2 [] Try.results59 rfl rfl Sub.nil ⟨by rw [gcheck_bad hN1 (by omega) hk hall (by unfold arcBad; simp; omega)], rfl⟩
              · skip
                refine f_stepPY rfl rfl rfl rfl rfl (o_field fa44_1 rfl) ?_
                refine f_stepPY rfl rfl rfl rfl rfl (o_load Try.isAgg3 rfl (rdA rfl)) ?_
                refine f_stepPY rfl rfl rfl rfl rfl (o_lss rfl rfl) ?_
                refine f_stepP rfl rfl rfl (o_pickF rfl rfl) ?_
                refine f_stepP rfl rfl rfl (o_move rfl) ?_
                refine f_splitL 45 rfl (fun g45 => ?_) (fun g45 => ?_)
                · skip
                  refine f_stepN rfl rfl rfl rfl rfl rfl ?_
                  refine f_stepN rfl rfl rfl rfl rfl rfl ?_
                  refine f_stepN rfl rfl rfl rfl rfl rfl ?_
                  refine f_stepN rfl rfl rfl rfl rfl rfl ?_
                  refine f_stepN rfl rfl rfl rfl rfl rfl ?_
                  refine f_stepP rfl rfl rfl (o_pickT rfl rfl) ?_
                  refine f_done ?_
                  refine f_tn (kh15 _ _ ?_)
                  clear kh15
                  refine f_condT rfl ?_
                  refine f_seq fun K18 kh18 => ?_
                  refine f_region ?_
                  refine f_stepP rfl rfl rfl (o_move rfl) ?_
                  refine f_stepP rfl rfl rfl (o_assign rfl) ?_
                  refine f_stepP rfl rfl rfl (o_assign rfl) ?_
                  refine f_done ?_
                  refine f_tn (kh18 _ _ ?_)
                  clear kh18
                  refine f_ret ?_
                  refine f_br ?_
                  refine f_tr ?_
                  refine f_tr ?_
                  refine f_br ?_
                  refine f_tr ?_
                  exact f_fin2 [] Try.results59 rfl rfl Sub.nil ⟨by rw [gcheck_bad hN1 (by omega) hk hall (by unfold arcBad; simp; omega)], rfl⟩
                · skip
                  refine f_stepPY rfl rfl rfl rfl rfl (o_field fa44_1 rfl) ?_
                  refine f_stepPY rfl rfl rfl rfl rfl (o_load Try.isAgg3 rfl (rdA rfl)) ?_
                  refine f_stepPY rfl rfl rfl rfl rfl (o_field fa24_0 rfl) ?_
                  refine f_stepPY rfl rfl rfl rfl rfl (o_load Try.isAgg3 rfl (rdA rfl)) ?_
                  refine f_stepPY rfl rfl rfl rfl rfl (o_geq rfl rfl) ?_
                  refine f_stepP rfl rfl rfl (o_pickF rfl rfl) ?_
                  refine f_done ?_
                  refine f_tn (kh15 _ _ ?_)
                  clear kh15
                  refine f_cond rfl (fun c51 => ?_) (fun c51 => ?_)
                  · skip
                    refine f_seq fun K19 kh19 => ?_
                    refine f_region ?_
                    refine f_stepP rfl rfl rfl (o_move rfl) ?_
                    refine f_stepP rfl rfl rfl (o_assign rfl) ?_
                    refine f_stepP rfl rfl rfl (o_assign rfl) ?_
                    refine f_done ?_
                    refine f_tn (kh19 _ _ ?_)
                    clear kh19
                    refine f_ret ?_
                    refine f_br ?_
                    refine f_tr ?_
                    refine f_tr ?_
                    refine f_br ?_
                    refine f_tr ?_
                    exact f_fin2 [] Try.results59 rfl rfl Sub.nil ⟨by rw [gcheck_bad hN1 (by omega) hk hall (by unfold arcBad; simp; omega)], rfl⟩
                  · skip
                    refine f_skip ?_
                    refine f_bn ?_
                    refine f_tn (kh13 _ _ ?_)
                    clear kh13
                    refine f_region ?_
                    refine f_stepP rfl rfl rfl (o_move rfl) ?_
                    refine f_stepP rfl rfl rfl (o_add rfl rfl _ (wrap_i64 (by omega))) ?_
                    refine f_stepP rfl rfl rfl (o_assign rfl) ?_
                    refine f_done ?_
                    refine f_tn (f_again (k + 1) (by first | omega | (dsimp only; omega) | (simp; omega)) ⟨by omega, good_next hall (by unfold arcBad; simp; omega)⟩ ?_ ?_ ?_)
                    · exact (by repeat (first | exact trivial | refine ⟨rfl, ?_⟩))
                    · exact (by repeat (first | exact trivial | refine ⟨rfl, ?_⟩))
                    · repeat (first | exact Sub.nil | refine Sub.pick ?_ | refine Sub.castO rfl ?_ | refine Sub.skip ?_)
          · skip
            refine f_exit ?_
            refine f_te ?_
            clear kh11
            refine f_te ?_
            refine f_be ?_
            refine f_tn (kh9 _ _ ?_)
            clear kh9
            refine f_seq fun K20 kh20 => ?_
            refine f_region ?_
            refine f_stepP rfl rfl rfl (o_assign rfl) ?_
            refine f_stepP rfl rfl rfl (o_assign rfl) ?_
            refine f_done ?_
            refine f_tn (kh20 _ _ ?_)
            clear kh20
            refine f_ret ?_
            exact f_fin2 [] Try.results59 rfl rfl Sub.nil ⟨by rw [gcheck_ok hN1 (by omega) (fun j h => hall j h (by omega))], rfl⟩

set_option maxRecDepth 100000 in
set_option maxHeartbeats 4000000 in
theorem RLooked_spec (N : Int) (A : Option Addr) (l : List Arc) (cap : Nat) (s t : Int) (w : World) (hr : Ro (Fr w []) w A (l.flatMap arcCs)) (hl : l.length ≤ 9223372036854775807) (hN : I64 N) (hok : ∀ x ∈ l, ArcOk x) :
    Meets Try.prog 43 [.agg #[.int .i64 N, .slice A l.length cap], .int .i64 s, .int .i64 t] w [] (fun u m => u = .int .i64 (nlooked N l [s, t]) ∧ m = []) := by
  refine f_enter Try.func43 rfl Try.ntmps43 rfl Owns.nil ?_
  refine f_seq fun K1 kh1 => ?_
  refine f_region ?_
  refine f_step rfl rfl rfl (o_box rfl rfl fun b3 => ?_)
  refine f_stepP rfl rfl rfl (o_assign rfl) ?_
  refine f_done ?_
  refine f_tn (kh1 _ _ ?_)
  clear kh1
  refine f_seq fun K2 kh2 => ?_
  refine f_seq fun K3 kh3 => ?_
  refine f_region ?_
  refine f_stepP rfl rfl rfl (o_loadA (vs := [_, _]) Try.isAgg24 Try.sizeOf24 rfl rfl ⟨(rdA rfl), (rdA rfl), trivial⟩) ?_
  refine f_step rfl rfl rfl (o_call Try.call59 rfl (fun w_ hp_ => RCheck_spec N A l cap w_ (hr.up0 hp_) hl hN hok) ?_)
  rintro _ _ ⟨rfl, rfl⟩
  dsimp only [List.cons_append, List.nil_append]
  refine f_stepP rfl rfl rfl (o_move rfl) ?_
  refine f_stepP rfl rfl rfl (o_extract rfl rfl) ?_
  refine f_stepP rfl rfl rfl (o_extract rfl rfl) ?_
  refine f_stepP rfl rfl rfl (o_assign rfl) ?_
  refine f_stepP rfl rfl rfl (o_assign rfl) ?_
  refine f_done ?_
  refine f_tn (kh3 _ _ ?_)
  clear kh3
  refine f_seq fun K4 kh4 => ?_
  refine f_region ?_
  refine f_stepP rfl rfl rfl (o_move rfl) ?_
  refine f_stepP rfl rfl rfl (o_neq rfl rfl) ?_
  refine f_done ?_
  refine f_tn (kh4 _ _ ?_)
  clear kh4
  refine f_cond rfl (fun c15 => ?_) (fun c15 => ?_)
  · skip
    refine f_seq fun K5 kh5 => ?_
    refine f_region ?_
    refine f_stepP rfl rfl rfl (o_move rfl) ?_
    refine f_stepP rfl rfl rfl (o_assign rfl) ?_
    refine f_done ?_
    refine f_tn (kh5 _ _ ?_)
    clear kh5
    refine f_ret ?_
    refine f_tr ?_
    exact f_fin1 [] Try.results43 rfl Sub.nil ⟨by unfold nlooked; rw [if_pos (by simpa using c15)], rfl⟩
  · skip
    refine f_skip ?_
    refine f_tn (kh2 _ _ ?_)
    clear kh2
    refine f_seq fun K6 kh6 => ?_
    refine f_seq fun K7 kh7 => ?_
    refine f_region ?_
    refine f_stepP rfl rfl rfl (o_move rfl) ?_
    refine f_stepP rfl rfl rfl (o_lss rfl rfl) ?_
    refine f_stepP rfl rfl rfl (o_move rfl) ?_
    refine f_splitL 19 rfl (fun g19 => ?_) (fun g19 => ?_)
    · skip
      refine f_stepN rfl rfl rfl rfl rfl rfl ?_
      refine f_stepN rfl rfl rfl rfl rfl rfl ?_
      refine f_stepN rfl rfl rfl rfl rfl rfl ?_
      refine f_stepN rfl rfl rfl rfl rfl rfl ?_
      refine f_stepP rfl rfl rfl (o_pickT rfl rfl) ?_
      refine f_stepP rfl rfl rfl (o_move rfl) ?_
      refine f_stepN rfl rfl rfl rfl rfl rfl ?_
      refine f_stepN rfl rfl rfl rfl rfl rfl ?_
      refine f_stepP rfl rfl rfl (o_pickT rfl rfl) ?_
      refine f_stepP rfl rfl rfl (o_move rfl) ?_
      refine f_stepN rfl rfl rfl rfl rfl rfl ?_
      refine f_stepN rfl rfl rfl rfl rfl rfl ?_
      refine f_stepN rfl rfl rfl rfl rfl rfl ?_
      refine f_stepN rfl rfl rfl rfl rfl rfl ?_
      refine f_stepP rfl rfl rfl (o_pickT rfl rfl) ?_
      refine f_done ?_
      refine f_tn (kh7 _ _ ?_)
      clear kh7
      refine f_condT rfl ?_
      refine f_seq fun K8 kh8 => ?_
      refine f_region ?_
      refine f_stepP rfl rfl rfl (o_assign rfl) ?_
      refine f_done ?_
      refine f_tn (kh8 _ _ ?_)
      clear kh8
      refine f_ret ?_
      refine f_tr ?_
      exact f_fin1 [] Try.results43 rfl Sub.nil ⟨by unfold nlooked; rw [if_neg (by simpa using c15), if_pos (by simp; omega)], rfl⟩
    · skip
      refine f_stepPY rfl rfl rfl rfl rfl (o_move rfl) ?_
      refine f_stepPY rfl rfl rfl rfl rfl (o_field fa24_0 rfl) ?_
      refine f_stepPY rfl rfl rfl rfl rfl (o_load Try.isAgg3 rfl (rdA rfl)) ?_
      refine f_stepPY rfl rfl rfl rfl rfl (o_geq rfl rfl) ?_
      refine f_stepP rfl rfl rfl (o_pickF rfl rfl) ?_
      refine f_stepP rfl rfl rfl (o_move rfl) ?_
      refine f_splitL 25 rfl (fun g25 => ?_) (fun g25 => ?_)
      · skip
        refine f_stepN rfl rfl rfl rfl rfl rfl ?_
        refine f_stepN rfl rfl rfl rfl rfl rfl ?_
        refine f_stepP rfl rfl rfl (o_pickT rfl rfl) ?_
        refine f_stepP rfl rfl rfl (o_move rfl) ?_
        refine f_stepN rfl rfl rfl rfl rfl rfl ?_
        refine f_stepN rfl rfl rfl rfl rfl rfl ?_
        refine f_stepN rfl rfl rfl rfl rfl rfl ?_
        refine f_stepN rfl rfl rfl rfl rfl rfl ?_
        refine f_stepP rfl rfl rfl (o_pickT rfl rfl) ?_
        refine f_done ?_
        refine f_tn (kh7 _ _ ?_)
        clear kh7
        refine f_condT rfl ?_
        refine f_seq fun K9 kh9 => ?_
        refine f_region ?_
        refine f_stepP rfl rfl rfl (o_assign rfl) ?_
        refine f_done ?_
        refine f_tn (kh9 _ _ ?_)
        clear kh9
        refine f_ret ?_
        refine f_tr ?_
        exact f_fin1 [] Try.results43 rfl Sub.nil ⟨by unfold nlooked; rw [if_neg (by simpa using c15), if_pos (by simp; omega)], rfl⟩
      · skip
        refine f_stepPY rfl rfl rfl rfl rfl (o_move rfl) ?_
        refine f_stepPY rfl rfl rfl rfl rfl (o_lss rfl rfl) ?_
        refine f_stepP rfl rfl rfl (o_pickF rfl rfl) ?_
        refine f_stepP rfl rfl rfl (o_move rfl) ?_
        refine f_splitL 29 rfl (fun g29 => ?_) (fun g29 => ?_)
        · skip
          refine f_stepN rfl rfl rfl rfl rfl rfl ?_
          refine f_stepN rfl rfl rfl rfl rfl rfl ?_
          refine f_stepN rfl rfl rfl rfl rfl rfl ?_
          refine f_stepN rfl rfl rfl rfl rfl rfl ?_
          refine f_stepP rfl rfl rfl (o_pickT rfl rfl) ?_
          refine f_done ?_
          refine f_tn (kh7 _ _ ?_)
          clear kh7
          refine f_condT rfl ?_
          refine f_seq fun K10 kh10 => ?_
          refine f_region ?_
          refine f_stepP rfl rfl rfl (o_assign rfl) ?_
          refine f_done ?_
          refine f_tn (kh10 _ _ ?_)
          clear kh10
          refine f_ret ?_
          refine f_tr ?_
          exact f_fin1 [] Try.results43 rfl Sub.nil ⟨by unfold nlooked; rw [if_neg (by simpa using c15), if_pos (by simp; omega)], rfl⟩
        · skip
          refine f_stepPY rfl rfl rfl rfl rfl (o_move rfl) ?_
          refine f_stepPY rfl rfl rfl rfl rfl (o_field fa24_0 rfl) ?_
          refine f_stepPY rfl rfl rfl rfl rfl (o_load Try.isAgg3 rfl (rdA rfl)) ?_
          refine f_stepPY rfl rfl rfl rfl rfl (o_geq rfl rfl) ?_
          refine f_stepP rfl rfl rfl (o_pickF rfl rfl) ?_
          refine f_done ?_
          refine f_tn (kh7 _ _ ?_)
          clear kh7
          refine f_cond rfl (fun c34 => ?_) (fun c34 => ?_)
          · skip
            refine f_seq fun K11 kh11 => ?_
            refine f_region ?_
            refine f_stepP rfl rfl rfl (o_assign rfl) ?_
            refine f_done ?_
            refine f_tn (kh11 _ _ ?_)
            clear kh11
            refine f_ret ?_
            refine f_tr ?_
            exact f_fin1 [] Try.results43 rfl Sub.nil ⟨by unfold nlooked; rw [if_neg (by simpa using c15), if_pos (by simp; omega)], rfl⟩
          · skip
            refine f_skip ?_
            refine f_tn (kh6 _ _ ?_)
            clear kh6
            refine f_seq fun K12 kh12 => ?_
            refine f_region ?_
            refine f_stepP rfl rfl rfl (o_assign rfl) ?_
            refine f_done ?_
            refine f_tn (kh12 _ _ ?_)
            clear kh12
            refine f_ret ?_
            exact f_fin1 [] Try.results43 rfl Sub.nil ⟨by unfold nlooked; rw [if_neg (by simpa using c15), if_neg (by simp; omega)], rfl⟩

set_option maxRecDepth 100000 in
set_option maxHeartbeats 4000000 in
theorem Long_spec (n : Nat) (A : Option Addr) (l : List Arc) (cap : Nat) (s t : Int) (B : Option Addr) (arcs : List Int) (cb : Nat) (w : World) (hr : Ro (Fr w []) w A (l.flatMap arcCs)) (hb : Ro (Fr w []) w B (ints arcs)) (hg : GOk n l) (hm : arcs.length ≤ 9223372036854775807) :
    Meets Try.prog 37 [.agg #[.int .i64 (n : Int), .slice A l.length cap], .int .i64 s, .int .i64 t, .slice B arcs.length cb] w [] (fun u m => u = .tuple #[.int .u64 (longR l s t arcs).1, .bool (longR l s t arcs).2] ∧ m = []) := by
  have hn1 := hg.n1
  have hlen := hg.len
  refine f_enter Try.func37 rfl Try.ntmps37 rfl Owns.nil ?_
  refine f_seq fun K1 kh1 => ?_
  refine f_region ?_
  refine f_step rfl rfl rfl (o_box rfl rfl fun b4 => ?_)
  refine f_stepP rfl rfl rfl (o_assign rfl) ?_
  refine f_stepP rfl rfl rfl (o_assign rfl) ?_
  refine f_done ?_
  refine f_tn (kh1 _ _ ?_)
  clear kh1
  refine f_seq fun K2 kh2 => ?_
  refine f_region ?_
  refine f_stepP rfl rfl rfl (o_assign rfl) ?_
  refine f_done ?_
  refine f_tn (kh2 _ _ ?_)
  clear kh2
  refine f_seq fun K3 kh3 => ?_
  refine f_region ?_
  refine f_stepP rfl rfl rfl (o_move rfl) ?_
  refine f_stepP rfl rfl rfl (o_assign rfl) ?_
  refine f_done ?_
  refine f_tn (kh3 _ _ ?_)
  clear kh3
  refine f_seq fun K4 kh4 => ?_
  refine f_seq fun K5 kh5 => ?_
  refine f_region ?_
  refine f_stepP rfl rfl rfl (o_assign rfl) ?_
  refine f_done ?_
  refine f_tn (kh5 _ _ ?_)
  clear kh5
  refine f_block ?_
  refine f_loop (α := Nat × Int × Int) [2, 3, 4] (fun ⟨k, d, a⟩ => [(12, .int .i64 (k : Int)), (10, .int .u64 d), (11, .int .i64 a)]) (fun ⟨k, d, a⟩ => [[(b4, blk [.int .i64 (n : Int), .slice A l.length cap] 24)]]) (fun ⟨k, d, a⟩ => k ≤ arcs.length ∧ longGo l 0 s arcs = longGo l d a (arcs.drop k) ∧ 0 ≤ d ∧ d ≤ INF) (fun ⟨k, d, a⟩ => arcs.length - k) (0, 0, s) ?_ ?_ ?_ ?_
  · exact (by repeat (first | exact trivial | refine ⟨rfl, ?_⟩))
  · repeat (first | exact Sub.nil | refine Sub.pick ?_ | refine Sub.castO rfl ?_ | refine Sub.skip ?_)
  · exact ⟨Nat.zero_le _, rfl, Int.le_refl _, by decide⟩
  · rintro ⟨k, d, a⟩ ⟨hkl, hgo, hd0, hd1⟩
    refine f_seq fun K6 kh6 => ?_
    refine f_seq fun K7 kh7 => ?_
    refine f_region ?_
    refine f_stepP rfl rfl rfl (o_move rfl) ?_
    refine f_stepP rfl rfl rfl (o_move rfl) ?_
    refine f_stepP rfl rfl rfl (o_len sl28 rfl) ?_
    refine f_stepP rfl rfl rfl (o_lss rfl rfl) ?_
    refine f_done ?_
    refine f_tn (kh7 _ _ ?_)
    clear kh7
    refine f_cond rfl (fun c18 => ?_) (fun c18 => ?_)
    · skip
      refine f_skip ?_
      refine f_tn (kh6 _ _ ?_)
      clear kh6
      refine f_seq fun K8 kh8 => ?_
      refine f_block ?_
      refine f_seq fun K9 kh9 => ?_
      refine f_seq fun K10 kh10 => ?_
      refine f_regionS rfl (by decide +kernel) ?_
      have hk : k < arcs.length := by omega
      obtain ⟨bi, oi, rfl, hSi, hci⟩ := hb (map_ne hk)
      refine f_stillP rfl rfl rfl (o_move rfl) ?_
      refine f_stillP rfl rfl rfl (o_move rfl) ?_
      refine f_stillP rfl rfl rfl (o_idx sl28 rfl rfl (oi + k) ⟨by omega, by omega, by first | omega | (simp; done) | (simp; omega)⟩) ?_
      refine f_stillP rfl rfl rfl (o_load Try.isAgg3 rfl (roOne (enc := (.int .i64 ·)) hSi hci hk)) ?_
      refine f_stillP rfl rfl rfl (o_lss rfl rfl) ?_
      refine f_stillP rfl rfl rfl (o_move rfl) ?_
      refine f_splitS 26 rfl (fun g26 => ?_) (fun g26 => ?_)
      · skip
        refine f_stillN rfl rfl rfl rfl rfl rfl ?_
        refine f_stillN rfl rfl rfl rfl rfl rfl ?_
        refine f_stillN rfl rfl rfl rfl rfl rfl ?_
        refine f_stillN rfl rfl rfl rfl rfl rfl ?_
        refine f_stillN rfl rfl rfl rfl rfl rfl ?_
        refine f_stillN rfl rfl rfl rfl rfl rfl ?_
        refine f_stillN rfl rfl rfl rfl rfl rfl ?_
        refine f_stillN rfl rfl rfl rfl rfl rfl ?_
        refine f_stillP rfl rfl rfl (o_pickT rfl rfl) ?_
        refine f_stillP rfl rfl rfl (o_move rfl) ?_
        refine f_stillN rfl rfl rfl rfl rfl rfl ?_
        refine f_stillN rfl rfl rfl rfl rfl rfl ?_
        refine f_stillN rfl rfl rfl rfl rfl rfl ?_
        refine f_stillN rfl rfl rfl rfl rfl rfl ?_
        refine f_stillN rfl rfl rfl rfl rfl rfl ?_
        refine f_stillN rfl rfl rfl rfl rfl rfl ?_
        refine f_stillN rfl rfl rfl rfl rfl rfl ?_
        refine f_stillN rfl rfl rfl rfl rfl rfl ?_
        refine f_stillN rfl rfl rfl rfl rfl rfl ?_
        refine f_stillN rfl rfl rfl rfl rfl rfl ?_
        refine f_stillN rfl rfl rfl rfl rfl rfl ?_
        refine f_stillP rfl rfl rfl (o_pickT rfl rfl) ?_
        refine f_stillD ?_
        refine f_tn (kh10 _ _ ?_)
        clear kh10
        refine f_condT rfl ?_
        refine f_seq fun K11 kh11 => ?_
        refine f_region ?_
        refine f_stepP rfl rfl rfl (o_assign rfl) ?_
        refine f_stepP rfl rfl rfl (o_assign rfl) ?_
        refine f_done ?_
        refine f_tn (kh11 _ _ ?_)
        clear kh11
        refine f_ret ?_
        refine f_tr ?_
        refine f_br ?_
        refine f_tr ?_
        refine f_tr ?_
        refine f_br ?_
        refine f_tr ?_
        exact f_fin2 [] Try.results37 rfl rfl Sub.nil ⟨by unfold longR; rw [hgo, longGo_off hk (by omega)], rfl⟩
      · skip
        refine f_stillPY rfl rfl rfl rfl rfl (o_move rfl) ?_
        refine f_stillPY rfl rfl rfl rfl rfl (o_move rfl) ?_
        refine f_stillPY rfl rfl rfl rfl rfl (o_idx sl28 rfl rfl (oi + k) ⟨by omega, by omega, by first | omega | (simp; done) | (simp; omega)⟩) ?_
        refine f_stillPY rfl rfl rfl rfl rfl (o_load Try.isAgg3 rfl (roOne (enc := (.int .i64 ·)) hSi hci hk)) ?_
        refine f_stillPY rfl rfl rfl rfl rfl (o_field fa24_1 rfl) ?_
        refine f_stillPY rfl rfl rfl rfl rfl (o_load Try.isAgg22 rfl (rdA rfl)) ?_
        refine f_stillPY rfl rfl rfl rfl rfl (o_len sl22 rfl) ?_
        refine f_stillPY rfl rfl rfl rfl rfl (o_geq rfl rfl) ?_
        refine f_stillP rfl rfl rfl (o_pickF rfl rfl) ?_
        refine f_stillP rfl rfl rfl (o_move rfl) ?_
        refine f_splitS 36 rfl (fun g36 => ?_) (fun g36 => ?_)
        · skip
          refine f_stillN rfl rfl rfl rfl rfl rfl ?_
          refine f_stillN rfl rfl rfl rfl rfl rfl ?_
          refine f_stillN rfl rfl rfl rfl rfl rfl ?_
          refine f_stillN rfl rfl rfl rfl rfl rfl ?_
          refine f_stillN rfl rfl rfl rfl rfl rfl ?_
          refine f_stillN rfl rfl rfl rfl rfl rfl ?_
          refine f_stillN rfl rfl rfl rfl rfl rfl ?_
          refine f_stillN rfl rfl rfl rfl rfl rfl ?_
          refine f_stillN rfl rfl rfl rfl rfl rfl ?_
          refine f_stillN rfl rfl rfl rfl rfl rfl ?_
          refine f_stillN rfl rfl rfl rfl rfl rfl ?_
          refine f_stillP rfl rfl rfl (o_pickT rfl rfl) ?_
          refine f_stillD ?_
          refine f_tn (kh10 _ _ ?_)
          clear kh10
          refine f_condT rfl ?_
          refine f_seq fun K12 kh12 => ?_
          refine f_region ?_
          refine f_stepP rfl rfl rfl (o_assign rfl) ?_
          refine f_stepP rfl rfl rfl (o_assign rfl) ?_
          refine f_done ?_
          refine f_tn (kh12 _ _ ?_)
          clear kh12
          refine f_ret ?_
          refine f_tr ?_
          refine f_br ?_
          refine f_tr ?_
          refine f_tr ?_
          refine f_br ?_
          refine f_tr ?_
          exact f_fin2 [] Try.results37 rfl rfl Sub.nil ⟨by unfold longR; rw [hgo, longGo_off hk (by omega)], rfl⟩
        · skip
          obtain ⟨j, hkj⟩ : ∃ j : Nat, arcs[k] = j := ⟨arcs[k].toNat, by omega⟩
          have hj : j < l.length := by omega
          obtain ⟨bl, off, rfl, hS, hc⟩ := hr (flat_ne arcCs arcCs_len (by omega) hj)
          have hwj := (hg.ok _ (List.getElem_mem hj)).wt
          refine f_stillPY rfl rfl rfl rfl rfl (o_field fa24_1 rfl) ?_
          refine f_stillPY rfl rfl rfl rfl rfl (o_load Try.isAgg22 rfl (rdA rfl)) ?_
          refine f_stillPY rfl rfl rfl rfl rfl (o_move rfl) ?_
          refine f_stillPY rfl rfl rfl rfl rfl (o_move rfl) ?_
          refine f_stillPY rfl rfl rfl rfl rfl (o_idx sl28 rfl rfl (oi + k) ⟨by omega, by omega, by first | omega | (simp; done) | (simp; omega)⟩) ?_
          refine f_stillPY rfl rfl rfl rfl rfl (o_load Try.isAgg3 rfl (roOne (enc := (.int .i64 ·)) hSi hci hk)) ?_
          refine f_stillPY rfl rfl rfl rfl rfl (o_idx sl22 rfl rfl (off + j * 3) ⟨by omega, by omega, by first | omega | (simp; done) | (simp; omega)⟩) ?_
          refine f_stillPY rfl rfl rfl rfl rfl (o_field fa44_0 rfl) ?_
          refine f_stillPY rfl rfl rfl rfl rfl (o_load Try.isAgg3 rfl (rdS hS (by have := hc (j * 3 + 0) _ (by rw [flat_get arcCs arcCs_len l j 0 hj (by omega)]; rfl); rwa [← Nat.add_assoc] at this))) ?_
          refine f_stillPY rfl rfl rfl rfl rfl (o_move rfl) ?_
          refine f_stillPY rfl rfl rfl rfl rfl (o_neq rfl rfl) ?_
          refine f_stillP rfl rfl rfl (o_pickF rfl rfl) ?_
          refine f_stillD ?_
          refine f_tn (kh10 _ _ ?_)
          clear kh10
          refine f_cond rfl (fun c48 => ?_) (fun c48 => ?_)
          · skip
            refine f_seq fun K13 kh13 => ?_
            refine f_region ?_
            refine f_stepP rfl rfl rfl (o_assign rfl) ?_
            refine f_stepP rfl rfl rfl (o_assign rfl) ?_
            refine f_done ?_
            refine f_tn (kh13 _ _ ?_)
            clear kh13
            refine f_ret ?_
            refine f_tr ?_
            refine f_br ?_
            refine f_tr ?_
            refine f_tr ?_
            refine f_br ?_
            refine f_tr ?_
            exact f_fin2 [] Try.results37 rfl rfl Sub.nil ⟨by unfold longR; rw [hgo, longGo_ne hk hkj hj (by omega)], rfl⟩
          · skip
            refine f_skip ?_
            refine f_tn (kh9 _ _ ?_)
            clear kh9
            refine f_seq fun K14 kh14 => ?_
            refine f_regionH [[(b4, blk [.int .i64 (n : Int), .slice (some ⟨bl, off, none⟩) l.length cap] 24)]] rfl ?_
            refine f_take 0 rfl (by decide +kernel) rfl rfl rfl (by repeat (first | exact Sub.nil | refine Sub.pick ?_ | refine Sub.castO rfl ?_ | refine Sub.skip ?_)) (o_field fa24_1 rfl) ?_
            refine f_take 1 rfl (by decide +kernel) rfl rfl rfl (by repeat (first | exact Sub.nil | refine Sub.pick ?_ | refine Sub.castO rfl ?_ | refine Sub.skip ?_)) (o_load Try.isAgg22 rfl (rdA rfl)) ?_
            refine f_take 2 rfl (by decide +kernel) rfl rfl rfl (by repeat (first | exact Sub.nil | refine Sub.pick ?_ | refine Sub.castO rfl ?_ | refine Sub.skip ?_)) (o_move rfl) ?_
            refine f_take 3 rfl (by decide +kernel) rfl rfl rfl (by repeat (first | exact Sub.nil | refine Sub.pick ?_ | refine Sub.castO rfl ?_ | refine Sub.skip ?_)) (o_move rfl) ?_
            refine f_take 4 rfl (by decide +kernel) rfl rfl rfl (by repeat (first | exact Sub.nil | refine Sub.pick ?_ | refine Sub.castO rfl ?_ | refine Sub.skip ?_)) (o_idx sl28 rfl rfl (oi + k) ⟨by omega, by omega, by first | omega | (simp; done) | (simp; omega)⟩) ?_
            refine f_take 5 rfl (by decide +kernel) rfl rfl rfl (by repeat (first | exact Sub.nil | refine Sub.pick ?_ | refine Sub.castO rfl ?_ | refine Sub.skip ?_)) (o_load Try.isAgg3 rfl (roOne (enc := (.int .i64 ·)) hSi hci hk)) ?_
            refine f_take 6 rfl (by decide +kernel) rfl rfl rfl (by repeat (first | exact Sub.nil | refine Sub.pick ?_ | refine Sub.castO rfl ?_ | refine Sub.skip ?_)) (o_idx sl22 rfl rfl (off + j * 3) ⟨by omega, by omega, by first | omega | (simp; done) | (simp; omega)⟩) ?_
            refine f_take 7 rfl (by decide +kernel) rfl rfl rfl (by repeat (first | exact Sub.nil | refine Sub.pick ?_ | refine Sub.castO rfl ?_ | refine Sub.skip ?_)) (o_loadA (vs := arcCs l[j]) Try.isAgg44 Try.sizeOf44 rfl rfl (roElem arcCs_len hS hc hj)) ?_
            refine f_only 8 rfl (by decide +kernel) rfl rfl rfl (o_alloc Try.zeroValue44 rfl fun b13 => ⟨(by repeat (first | exact Sub.nil | refine Sub.pick ?_ | refine Sub.castO rfl ?_ | refine Sub.skip ?_)), ?_⟩)
            refine f_only0 9 rfl (by decide +kernel) rfl rfl (o_storeA Try.sizeOf44 rfl rfl rfl rfl (by first | exact Nat.le_of_ble_eq_true rfl | (simp; done) | (simp; omega)) (arcCs l[j]) rfl ⟨(by repeat (first | exact Sub.nil | refine Sub.pick ?_ | refine Sub.castO rfl ?_ | refine Sub.skip ?_)), ?_⟩)
            refine f_over (by decide +kernel) ?_
            refine f_tn (kh14 _ _ ?_)
            clear kh14
            refine f_seq fun K15 kh15 => ?_
            refine f_region ?_
            refine f_stepP rfl rfl rfl (o_move rfl) ?_
            refine f_stepP rfl rfl rfl (o_field fa44_2 rfl) ?_
            refine f_stepP rfl rfl rfl (o_load Try.isAgg42 rfl (rdA rfl)) ?_
            refine f_stepP rfl rfl rfl (o_conv Try.runUnderlying42 Try.runUnderlying30 rfl _ (wrap_u64 (by omega))) ?_
            refine f_step rfl rfl rfl (o_call Try.call57 rfl (fun w_ hp_ => RAdd_spec d l[j].wt w_ ⟨hd0, hd1⟩ ⟨hwj.1, by unfold INF; omega⟩) ?_)
            rintro _ _ ⟨rfl, rfl⟩
            dsimp only [List.cons_append, List.nil_append]
            refine f_stepP rfl rfl rfl (o_assign rfl) ?_
            refine f_done ?_
            refine f_tn (kh15 _ _ ?_)
            clear kh15
            refine f_region ?_
            refine f_stepP rfl rfl rfl (o_field fa44_1 rfl) ?_
            refine f_stepP rfl rfl rfl (o_load Try.isAgg3 rfl (rdA rfl)) ?_
            refine f_stepP rfl rfl rfl (o_assign rfl) ?_
            refine f_done ?_
            refine f_bn ?_
            refine f_tn (kh8 _ _ ?_)
            clear kh8
            refine f_region ?_
            refine f_stepP rfl rfl rfl (o_move rfl) ?_
            refine f_stepP rfl rfl rfl (o_add rfl rfl _ (wrap_i64 (by omega))) ?_
            refine f_stepP rfl rfl rfl (o_assign rfl) ?_
            refine f_done ?_
            refine f_tn (f_again (k + 1, dadd d l[j].wt, l[j].dst) (by first | omega | (dsimp only; omega) | (simp; omega)) ⟨by omega, by rw [hgo]; exact longGo_step hk hkj hj (by omega), dadd0 hd0 hwj.1, dadd_inf _ _⟩ ?_ ?_ ?_)
            · exact (by repeat (first | exact trivial | refine ⟨rfl, ?_⟩))
            · exact (by repeat (first | exact trivial | refine ⟨rfl, ?_⟩))
            · repeat (first | exact Sub.nil | refine Sub.pick ?_ | refine Sub.castO rfl ?_ | refine Sub.skip ?_)
    · skip
      refine f_exit ?_
      refine f_te ?_
      clear kh6
      refine f_te ?_
      refine f_be ?_
      refine f_tn (kh4 _ _ ?_)
      clear kh4
      refine f_seq fun K16 kh16 => ?_
      refine f_region ?_
      refine f_stepP rfl rfl rfl (o_move rfl) ?_
      refine f_stepP rfl rfl rfl (o_move rfl) ?_
      refine f_stepP rfl rfl rfl (o_move rfl) ?_
      refine f_stepP rfl rfl rfl (o_eql rfl rfl) ?_
      refine f_stepP rfl rfl rfl (o_assign rfl) ?_
      refine f_stepP rfl rfl rfl (o_assign rfl) ?_
      refine f_done ?_
      refine f_tn (kh16 _ _ ?_)
      clear kh16
      refine f_ret ?_
      exact f_fin2 [] Try.results37 rfl rfl Sub.nil ⟨by unfold longR; rw [hgo, longGo_end (by omega)], rfl⟩

set_option maxRecDepth 100000 in
set_option maxHeartbeats 4000000 in
theorem RLength_spec (N : Int) (A : Option Addr) (l : List Arc) (cap : Nat) (s t : Int) (B : Option Addr) (arcs : List Int) (cb : Nat) (w : World) (hr : Ro (Fr w []) w A (l.flatMap arcCs)) (hl : l.length ≤ 9223372036854775807) (hN : I64 N) (hok : ∀ x ∈ l, ArcOk x) (hb : Ro (Fr w []) w B (ints arcs)) (hm : arcs.length ≤ 9223372036854775807) :
    Meets Try.prog 30 [.agg #[.int .i64 N, .slice A l.length cap], .int .i64 s, .int .i64 t, .slice B arcs.length cb] w [] (fun u m => u = .tuple #[.int .u64 (glen N l s t arcs).1, .int .i64 (glen N l s t arcs).2] ∧ m = []) := by
  refine f_enter Try.func30 rfl Try.ntmps30 rfl Owns.nil ?_
  refine f_seq fun K1 kh1 => ?_
  refine f_region ?_
  refine f_step rfl rfl rfl (o_box rfl rfl fun b4 => ?_)
  refine f_stepP rfl rfl rfl (o_assign rfl) ?_
  refine f_stepP rfl rfl rfl (o_assign rfl) ?_
  refine f_done ?_
  refine f_tn (kh1 _ _ ?_)
  clear kh1
  refine f_seq fun K2 kh2 => ?_
  refine f_seq fun K3 kh3 => ?_
  refine f_region ?_
  refine f_stepP rfl rfl rfl (o_loadA (vs := [_, _]) Try.isAgg24 Try.sizeOf24 rfl rfl ⟨(rdA rfl), (rdA rfl), trivial⟩) ?_
  refine f_stepP rfl rfl rfl (o_move rfl) ?_
  refine f_stepP rfl rfl rfl (o_move rfl) ?_
  refine f_step rfl rfl rfl (o_call Try.call43 rfl (fun w_ hp_ => RLooked_spec N A l cap s t w_ (hr.up0 hp_) hl hN hok) ?_)
  rintro _ _ ⟨rfl, rfl⟩
  dsimp only [List.cons_append, List.nil_append]
  refine f_stepP rfl rfl rfl (o_assign rfl) ?_
  refine f_done ?_
  refine f_tn (kh3 _ _ ?_)
  clear kh3
  refine f_seq fun K4 kh4 => ?_
  refine f_region ?_
  refine f_stepP rfl rfl rfl (o_move rfl) ?_
  refine f_stepP rfl rfl rfl (o_neq rfl rfl) ?_
  refine f_done ?_
  refine f_tn (kh4 _ _ ?_)
  clear kh4
  refine f_cond rfl (fun c19 => ?_) (fun c19 => ?_)
  · skip
    refine f_seq fun K5 kh5 => ?_
    refine f_region ?_
    refine f_stepP rfl rfl rfl (o_move rfl) ?_
    refine f_stepP rfl rfl rfl (o_assign rfl) ?_
    refine f_stepP rfl rfl rfl (o_assign rfl) ?_
    refine f_done ?_
    refine f_tn (kh5 _ _ ?_)
    clear kh5
    refine f_ret ?_
    refine f_tr ?_
    exact f_fin2 [] Try.results30 rfl rfl Sub.nil ⟨by rw [glen_looked c19], rfl⟩
  · skip
    have hz : nlooked N l [s, t] = 0 := by simpa using c19
    obtain ⟨hg0, _⟩ := nlooked_zero hz
    have hN1 := gcheck_zero hg0
    obtain ⟨n, rfl⟩ : ∃ n : Nat, N = n := ⟨N.toNat, by omega⟩
    have hg := gok_of hg0 hok
    have hlen := hg.len
    refine f_skip ?_
    refine f_tn (kh2 _ _ ?_)
    clear kh2
    refine f_seq fun K6 kh6 => ?_
    refine f_seq fun K7 kh7 => ?_
    refine f_region ?_
    refine f_stepP rfl rfl rfl (o_move rfl) ?_
    refine f_stepP rfl rfl rfl (o_len sl28 rfl) ?_
    refine f_stepP rfl rfl rfl (o_gtr rfl rfl) ?_
    refine f_done ?_
    refine f_tn (kh7 _ _ ?_)
    clear kh7
    refine f_cond rfl (fun c23 => ?_) (fun c23 => ?_)
    · skip
      refine f_seq fun K8 kh8 => ?_
      refine f_region ?_
      refine f_stepP rfl rfl rfl (o_assign rfl) ?_
      refine f_stepP rfl rfl rfl (o_assign rfl) ?_
      refine f_done ?_
      refine f_tn (kh8 _ _ ?_)
      clear kh8
      refine f_ret ?_
      refine f_tr ?_
      exact f_fin2 [] Try.results30 rfl rfl Sub.nil ⟨by rw [glen_long hz (by omega)], rfl⟩
    · skip
      refine f_skip ?_
      refine f_tn (kh6 _ _ ?_)
      clear kh6
      refine f_seq fun K9 kh9 => ?_
      refine f_seq fun K10 kh10 => ?_
      refine f_region ?_
      refine f_stepP rfl rfl rfl (o_assign rfl) ?_
      refine f_done ?_
      refine f_tn (kh10 _ _ ?_)
      clear kh10
      refine f_block ?_
      refine f_loop (α := Nat) [1, 2, 3, 4] (fun k => [(11, .int .i64 (k : Int))]) (fun k => [[(b4, blk [.int .i64 (n : Int), .slice A l.length cap] 24)]]) (fun k => k ≤ arcs.length ∧ ∀ j (a : j < arcs.length), j < k → offs l arcs[j] = false) (fun k => arcs.length - k) (0) ?_ ?_ ?_ ?_
      · exact (by repeat (first | exact trivial | refine ⟨rfl, ?_⟩))
      · repeat (first | exact Sub.nil | refine Sub.pick ?_ | refine Sub.castO rfl ?_ | refine Sub.skip ?_)
      · exact ⟨Nat.zero_le _, fun j _ h => by omega⟩
      · rintro k ⟨hkl, hpre⟩
        refine f_seq fun K11 kh11 => ?_
        refine f_seq fun K12 kh12 => ?_
        refine f_region ?_
        refine f_stepP rfl rfl rfl (o_move rfl) ?_
        refine f_stepP rfl rfl rfl (o_move rfl) ?_
        refine f_stepP rfl rfl rfl (o_len sl28 rfl) ?_
        refine f_stepP rfl rfl rfl (o_lss rfl rfl) ?_
        refine f_done ?_
        refine f_tn (kh12 _ _ ?_)
        clear kh12
        refine f_cond rfl (fun c27 => ?_) (fun c27 => ?_)
        · skip
          refine f_skip ?_
          refine f_tn (kh11 _ _ ?_)
          clear kh11
          refine f_seq fun K13 kh13 => ?_
          refine f_block ?_
          refine f_seq fun K14 kh14 => ?_
          refine f_regionS rfl (by decide +kernel) ?_
          have hk : k < arcs.length := by omega
          obtain ⟨bi, oi, rfl, hSi, hci⟩ := hb (map_ne hk)
          refine f_stillP rfl rfl rfl (o_move rfl) ?_
          refine f_stillP rfl rfl rfl (o_move rfl) ?_
          refine f_stillP rfl rfl rfl (o_idx sl28 rfl rfl (oi + k) ⟨by omega, by omega, by first | omega | (simp; done) | (simp; omega)⟩) ?_
          refine f_stillP rfl rfl rfl (o_load Try.isAgg3 rfl (roOne (enc := (.int .i64 ·)) hSi hci hk)) ?_
          refine f_stillP rfl rfl rfl (o_lss rfl rfl) ?_
          refine f_stillP rfl rfl rfl (o_move rfl) ?_
          refine f_splitS 35 rfl (fun g35 => ?_) (fun g35 => ?_)
          · skip
            refine f_stillN rfl rfl rfl rfl rfl rfl ?_
            refine f_stillN rfl rfl rfl rfl rfl rfl ?_
            refine f_stillN rfl rfl rfl rfl rfl rfl ?_
            refine f_stillN rfl rfl rfl rfl rfl rfl ?_
            refine f_stillN rfl rfl rfl rfl rfl rfl ?_
            refine f_stillN rfl rfl rfl rfl rfl rfl ?_
            refine f_stillN rfl rfl rfl rfl rfl rfl ?_
            refine f_stillN rfl rfl rfl rfl rfl rfl ?_
            refine f_stillP rfl rfl rfl (o_pickT rfl rfl) ?_
            refine f_stillD ?_
            refine f_tn (kh14 _ _ ?_)
            clear kh14
            refine f_condT rfl ?_
            refine f_seq fun K15 kh15 => ?_
            refine f_region ?_
            refine f_stepP rfl rfl rfl (o_assign rfl) ?_
            refine f_stepP rfl rfl rfl (o_assign rfl) ?_
            refine f_done ?_
            refine f_tn (kh15 _ _ ?_)
            clear kh15
            refine f_ret ?_
            refine f_br ?_
            refine f_tr ?_
            refine f_tr ?_
            refine f_br ?_
            refine f_tr ?_
            exact f_fin2 [] Try.results30 rfl rfl Sub.nil ⟨by rw [glen_off hz (by omega) (any_yes hk (by unfold offs; simp; omega))], rfl⟩
          · skip
            refine f_stillPY rfl rfl rfl rfl rfl (o_move rfl) ?_
            refine f_stillPY rfl rfl rfl rfl rfl (o_move rfl) ?_
            refine f_stillPY rfl rfl rfl rfl rfl (o_idx sl28 rfl rfl (oi + k) ⟨by omega, by omega, by first | omega | (simp; done) | (simp; omega)⟩) ?_
            refine f_stillPY rfl rfl rfl rfl rfl (o_load Try.isAgg3 rfl (roOne (enc := (.int .i64 ·)) hSi hci hk)) ?_
            refine f_stillPY rfl rfl rfl rfl rfl (o_field fa24_1 rfl) ?_
            refine f_stillPY rfl rfl rfl rfl rfl (o_load Try.isAgg22 rfl (rdA rfl)) ?_
            refine f_stillPY rfl rfl rfl rfl rfl (o_len sl22 rfl) ?_
            refine f_stillPY rfl rfl rfl rfl rfl (o_geq rfl rfl) ?_
            refine f_stillP rfl rfl rfl (o_pickF rfl rfl) ?_
            refine f_stillD ?_
            refine f_tn (kh14 _ _ ?_)
            clear kh14
            refine f_cond rfl (fun c44 => ?_) (fun c44 => ?_)
            · skip
              refine f_seq fun K16 kh16 => ?_
              refine f_region ?_
              refine f_stepP rfl rfl rfl (o_assign rfl) ?_
              refine f_stepP rfl rfl rfl (o_assign rfl) ?_
              refine f_done ?_
              refine f_tn (kh16 _ _ ?_)
              clear kh16
              refine f_ret ?_
              refine f_br ?_
              refine f_tr ?_
              refine f_tr ?_
              refine f_br ?_
              refine f_tr ?_
              exact f_fin2 [] Try.results30 rfl rfl Sub.nil ⟨by rw [glen_off hz (by omega) (any_yes hk (by unfold offs; simp; omega))], rfl⟩
            · skip
              refine f_skip ?_
              refine f_bn ?_
              refine f_tn (kh13 _ _ ?_)
              clear kh13
              refine f_region ?_
              refine f_stepP rfl rfl rfl (o_move rfl) ?_
              refine f_stepP rfl rfl rfl (o_add rfl rfl _ (wrap_i64 (by omega))) ?_
              refine f_stepP rfl rfl rfl (o_assign rfl) ?_
              refine f_done ?_
              refine f_tn (f_again (k + 1) (by first | omega | (dsimp only; omega) | (simp; omega)) ⟨by omega, false_next (hk := hk) hpre (by unfold offs; simp; omega)⟩ ?_ ?_ ?_)
              · exact (by repeat (first | exact trivial | refine ⟨rfl, ?_⟩))
              · exact (by repeat (first | exact trivial | refine ⟨rfl, ?_⟩))
              · repeat (first | exact Sub.nil | refine Sub.pick ?_ | refine Sub.castO rfl ?_ | refine Sub.skip ?_)
        · skip
          refine f_exit ?_
          refine f_te ?_
          clear kh11
          refine f_te ?_
          refine f_be ?_
          refine f_tn (kh9 _ _ ?_)
          clear kh9
          refine f_seq fun K17 kh17 => ?_
          refine f_region ?_
          refine f_stepP rfl rfl rfl (o_loadA (vs := [_, _]) Try.isAgg24 Try.sizeOf24 rfl rfl ⟨(rdA rfl), (rdA rfl), trivial⟩) ?_
          refine f_stepP rfl rfl rfl (o_move rfl) ?_
          refine f_stepP rfl rfl rfl (o_move rfl) ?_
          refine f_stepP rfl rfl rfl (o_move rfl) ?_
          refine f_step rfl rfl rfl (o_call Try.call37 rfl (fun w_ hp_ => Long_spec n A l cap s t B arcs cb w_ (hr.up0 hp_) (hb.up0 hp_) hg hm) ?_)
          rintro _ _ ⟨rfl, rfl⟩
          have hno : arcs.any (offs l) = false := any_no (by omega) hpre
          dsimp only [List.cons_append, List.nil_append]
          refine f_stepP rfl rfl rfl (o_move rfl) ?_
          refine f_stepP rfl rfl rfl (o_extract rfl rfl) ?_
          refine f_stepP rfl rfl rfl (o_extract rfl rfl) ?_
          refine f_stepP rfl rfl rfl (o_assign rfl) ?_
          refine f_stepP rfl rfl rfl (o_assign rfl) ?_
          refine f_done ?_
          refine f_tn (kh17 _ _ ?_)
          clear kh17
          refine f_seq fun K18 kh18 => ?_
          refine f_seq fun K19 kh19 => ?_
          refine f_region ?_
          refine f_stepP rfl rfl rfl (o_move rfl) ?_
          refine f_stepP rfl rfl rfl (o_not rfl) ?_
          refine f_done ?_
          refine f_tn (kh19 _ _ ?_)
          clear kh19
          refine f_condB rfl (fun c54 => ?_) (fun c54 => ?_)
          · skip
            refine f_seq fun K20 kh20 => ?_
            refine f_region ?_
            refine f_stepP rfl rfl rfl (o_assign rfl) ?_
            refine f_stepP rfl rfl rfl (o_assign rfl) ?_
            refine f_done ?_
            refine f_tn (kh20 _ _ ?_)
            clear kh20
            refine f_ret ?_
            refine f_tr ?_
            exact f_fin2 [] Try.results30 rfl rfl Sub.nil ⟨by
              unfold longR at c54
              cases e : longGo l 0 s arcs with
              | none => rw [glen_none hz (by omega) hno e]
              | some x => rw [e] at c54; rw [glen_some hz (by omega) hno e, if_neg (by simpa using c54)], rfl⟩
          · skip
            refine f_skip ?_
            refine f_tn (kh18 _ _ ?_)
            clear kh18
            refine f_seq fun K21 kh21 => ?_
            refine f_region ?_
            refine f_stepP rfl rfl rfl (o_move rfl) ?_
            refine f_stepP rfl rfl rfl (o_assign rfl) ?_
            refine f_stepP rfl rfl rfl (o_assign rfl) ?_
            refine f_done ?_
            refine f_tn (kh21 _ _ ?_)
            clear kh21
            refine f_ret ?_
            exact f_fin2 [] Try.results30 rfl rfl Sub.nil ⟨by
              unfold longR at c54 ⊢
              cases e : longGo l 0 s arcs with
              | none => rw [e] at c54; simp at c54
              | some x => rw [e] at c54; rw [glen_some hz (by omega) hno e, if_pos (by simpa using c54)], rfl⟩

end Go.Proofs.Ytegkdbicomedjaa
