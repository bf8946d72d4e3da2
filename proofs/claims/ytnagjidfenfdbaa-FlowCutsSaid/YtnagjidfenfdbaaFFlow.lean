/- Package flow: its network in memory, its ends and what is left, its beginning. -/
import Derived.Test.YtnagjidfenfdbaaFlyT
import Derived.Test.YtnagjidfenfdbaaPFlow2
namespace Go.Proofs.Ytnagjidfenfdbaa
open Go Go.RowKit Fly
set_option linter.unusedVariables false
set_option linter.unusedSimpArgs false


structure NOk (n : Nat) (e : List Arc) : Prop where
  n1 : 1 ≤ n ∧ n ≤ 1024
  len : e.length ≤ 16384
  good : ∀ k (hk : k < e.length), 0 ≤ e[k].src ∧ e[k].src < (n : Int) ∧ 0 ≤ e[k].dst ∧ e[k].dst < (n : Int)
  ok : ∀ x ∈ e, ArcOk x
theorem NOk.net {n : Nat} {e : List Arc} (h : NOk n e) : NetOk n e := fun x hx => by
  obtain ⟨j, hj, rfl⟩ := List.mem_iff_getElem.1 hx
  have := h.good j hj; omega
theorem NOk.at_ {n : Nat} {e : List Arc} (h : NOk n e) {i : Nat} (hi : i < e.length) : 0 ≤ (arcAt e i).src ∧ (arcAt e i).src < (n : Int) ∧ 0 ≤ (arcAt e i).dst ∧ (arcAt e i).dst < (n : Int) ∧ 0 ≤ (arcAt e i).wt ∧ (arcAt e i).wt ≤ 4294967295 := by
  have := h.good i hi
  have := (h.ok _ (List.getElem_mem hi)).wt
  rw [arcAt_eq hi]; omega
/-- An edge with what is left. -/
def ecs (p : Arc × Int) : List Value := [.int .i64 p.1.src, .int .i64 p.1.dst, .int .u32 (p.1.wt - p.2), .int .u32 p.2]
theorem ecs_len (p : Arc × Int) : (ecs p).length = 4 := rfl
def ecells (e : List Arc) (f : List Int) : List Value := (List.zip e f).flatMap ecs
theorem zip_at {e : List Arc} {f : List Int} {i : Nat} (h : f.length = e.length) (hi : i < e.length) : ∃ h' : i < (List.zip e f).length, (List.zip e f)[i] = (arcAt e i, flAt f i) :=
  ⟨by simp; omega, by rw [List.getElem_zip, arcAt_eq hi, flAt_eq (by omega)]⟩
theorem ecells_at {e : List Arc} {f : List Int} {i j : Nat} (h : f.length = e.length) (hi : i < e.length) (hj : j < 4) : (ecells e f)[i * 4 + j]? = (ecs (arcAt e i, flAt f i))[j]? := by
  obtain ⟨h', he⟩ := zip_at h hi
  unfold ecells
  rw [flat_get ecs ecs_len _ i j h' hj, he]
theorem ecells_len {e : List Arc} {f : List Int} (h : f.length = e.length) : (ecells e f).length = e.length * 4 := by
  unfold ecells; rw [flat_length ecs ecs_len]; simp [h]
theorem ecells_to {n : Nat} {e : List Arc} {f : List Int} {k : Nat} (hn : NOk n e) (h : f.length = e.length) (hk : k < 2 * e.length) : (ecells e f)[k / 2 * 4 + (1 - k % 2)]? = some (.int .i64 ((kto e k : Nat) : Int)) := by
  rw [ecells_at h (by omega) (by omega)]
  have := hn.at_ (i := k / 2) (by omega)
  unfold kto ecs
  by_cases h2 : k % 2 = 0
  · rw [if_pos h2, h2]; simp; omega
  · rw [if_neg h2, show k % 2 = 1 by omega]; simp; omega
theorem ecells_left {e : List Arc} {f : List Int} {k : Nat} (h : f.length = e.length) (hk : k < 2 * e.length) : (ecells e f)[k / 2 * 4 + 2 + k % 2]? = some (.int .u32 (kleft e f k)) := by
  rw [Nat.add_assoc, ecells_at h (by omega) (by omega)]
  unfold kleft ecs
  by_cases h2 : k % 2 = 0
  · rw [if_pos h2, h2]; simp
  · rw [if_neg h2, show k % 2 = 1 by omega]; simp
theorem ecells_snoc {e : List Arc} {i : Nat} (h : i < e.length) : ecells (e.take (i + 1)) (List.replicate (i + 1) 0) = ecells (e.take i) (List.replicate i 0) ++ [.int .i64 e[i].src, .int .i64 e[i].dst, .int .u32 e[i].wt, .int .u32 0] := by
  unfold ecells
  rw [List.take_succ_eq_append_getElem h, List.replicate_succ', List.zip_append (by simp; omega), List.flatMap_append]
  simp [ecs]
abbrev dcells (ve : Value) (n bat bl bn : Nat) : List Value := [ve, .slice (some ⟨bat, 0, none⟩) n n, .slice (some ⟨bl, 0, none⟩) n n, .slice (some ⟨bn, 0, none⟩) n n]
abbrev dsegs (bx bat bl bn n : Nat) (ve : Value) (vs : List Value) (G me : Seg) (L nx : List Int) : List Seg :=
  [[(bx, blk (dcells ve n bat bl bn) 63)], [(bat, blk vs 32)], G, me, [(bl, blk (ints L) 3)], [(bn, blk (ints nx) 3)]]
/-- A search for the greatest flow, in memory. -/
def DRep (n : Nat) (e : List Arc) (f L nx : List Int) (bx : Nat) (m : Seg) : Prop :=
  ∃ bat bl bn ve vs ms me, m.Perm (dsegs bx bat bl bn n ve vs ms.flatten me L nx).flatten ∧ RowsI 3 (kRows e n (2 * e.length)) vs ms ∧ Own 68 4 ve e.length (ecells e f) me
theorem DRep_mk {n : Nat} {e : List Arc} {f L nx : List Int} {bx bat bl bn : Nat} {ve : Value} {vs : List Value} {ms : List Seg} {me : Seg} (hR : RowsI 3 (kRows e n (2 * e.length)) vs ms) (hE : Own 68 4 ve e.length (ecells e f) me) :
    DRep n e f L nx bx (dsegs bx bat bl bn n ve vs ms.flatten me L nx).flatten := ⟨bat, bl, bn, ve, vs, ms, me, List.Perm.refl _, hR, hE⟩
theorem ints_rep (n : Nat) (x : Int) : List.replicate n (Value.int .i64 x) = ints (List.replicate n x) := by simp [ints]
theorem ints0 (n : Nat) : (List.replicate n [Value.int .i64 0]).flatten = ints (List.replicate n 0) := by
  induction n with
  | zero => rfl
  | succ n ih => simp only [List.replicate_succ, List.flatten_cons, ih]; rfl
theorem nils (n : Nat) : (List.replicate n [Value.slice none 0 0]).flatten = List.replicate n (Value.slice none 0 0) := by
  induction n with
  | zero => rfl
  | succ n ih => simp only [List.replicate_succ, List.flatten_cons, ih]; rfl
theorem ints_len1 {E : TypeId} {v : Value} {l : List Int} {x : Int} {m : Seg} : Own E 1 v (l.length + 1) (ints l ++ [.int .i64 x]) m = Own E 1 v (l ++ [x]).length (ints (l ++ [x])) m := by rw [ints_append, List.length_append]; rfl
theorem kfrom_even (e : List Arc) (i : Nat) : kfrom e (2 * i) = (arcAt e i).src.toNat := by unfold kfrom; rw [if_pos (by omega), show 2 * i / 2 = i by omega]
theorem kfrom_odd (e : List Arc) (i : Nat) : kfrom e (2 * i + 1) = (arcAt e i).dst.toNat := by unfold kfrom; rw [if_neg (by omega), show (2 * i + 1) / 2 = i by omega]
theorem shr_one {k : Nat} (h : k < 4294967296) : (k : Int).fdiv (2 ^ (min ((1 : Int).toNat) IntKind.i64.bits)) = ((k / 2 : Nat) : Int) := by
  show (k : Int).fdiv 2 = _
  rw [Int.fdiv_eq_ediv_of_nonneg _ (by decide)]; omega

set_option maxRecDepth 100000 in
set_option maxHeartbeats 4000000 in
theorem to_spec (n : Nat) (e : List Arc) (f : List Int) (bx bat bl bn k cap : Nat) (A : Option Addr) (w : World) (hx : Ro (Fr w []) w (some ⟨bx, 0, none⟩) (dcells (.slice A e.length cap) n bat bl bn)) (he : Ro (Fr w []) w A (ecells e f)) (hn : NOk n e) (hf : f.length = e.length) (hk : k < 2 * e.length) :
    Meets Try.prog 34 [.pointer (some ⟨bx, 0, none⟩), .int .i64 (k : Int)] w [] (fun u m => u = .int .i64 ((kto e k : Nat) : Int) ∧ m = []) := by
  obtain ⟨b', o', e', hSx, hcx⟩ := hx (by simp)
  obtain ⟨rfl, rfl⟩ : bx = b' ∧ 0 = o' := by cases e'; exact ⟨rfl, rfl⟩
  obtain ⟨be, oe, rfl, hSe, hce⟩ := he (by intro h0; have := ecells_len hf; rw [h0] at this; simp at this; omega)
  have hel := hn.len
  refine f_enter Try.func34 rfl Try.ntmps34 rfl Owns.nil ?_
  refine f_seq fun K1 kh1 => ?_
  refine f_region ?_
  refine f_stepP rfl rfl rfl (o_assign rfl) ?_
  refine f_done ?_
  refine f_tn (kh1 _ _ ?_)
  clear kh1
  refine f_seq fun K2 kh2 => ?_
  refine f_region ?_
  refine f_stepP rfl rfl rfl (o_move rfl) ?_
  refine f_stepP rfl rfl rfl (o_nil rfl) ?_
  refine f_stepP rfl rfl rfl (o_field fa63_0 rfl) ?_
  refine f_stepP rfl rfl rfl (o_load Try.isAgg60 rfl (rdS hSx (hcx 0 _ rfl))) ?_
  refine f_stepP rfl rfl rfl (o_move rfl) ?_
  refine f_stepP rfl rfl rfl (o_shr rfl rfl (by decide) ((k / 2 : Nat) : Int) (shr_one (by omega))) ?_
  refine f_stepP rfl rfl rfl (o_move rfl) ?_
  refine f_stepP rfl rfl rfl (o_and rfl rfl ((k % 2 : Nat) : Int) (and_one (by omega))) ?_
  refine f_stepP rfl rfl rfl (o_sub rfl rfl _ (wrap_i64 (by omega))) ?_
  refine f_stepP rfl rfl rfl (o_idx sl60 rfl rfl (oe + k / 2 * 4) ⟨by omega, by omega, by first | omega | (simp; done) | (simp; omega)⟩) ?_
  refine f_stepP rfl rfl rfl (o_field fa68_0 rfl) ?_
  refine f_stepP rfl rfl rfl (o_idxA ar65 rfl rfl (oe + k / 2 * 4 + (1 - k % 2)) ⟨by omega, by omega, by first | omega | (simp; done) | (simp; omega)⟩) ?_
  refine f_stepP rfl rfl rfl (o_load Try.isAgg3 rfl (rdS hSe (by have := hce _ _ (ecells_to hn hf hk); rwa [← Nat.add_assoc] at this))) ?_
  refine f_stepP rfl rfl rfl (o_assign rfl) ?_
  refine f_done ?_
  refine f_tn (kh2 _ _ ?_)
  clear kh2
  refine f_ret ?_
  exact f_fin1 [] Try.results34 rfl Sub.nil ⟨rfl, rfl⟩

set_option maxRecDepth 100000 in
set_option maxHeartbeats 4000000 in
theorem left_spec (n : Nat) (e : List Arc) (f : List Int) (bx bat bl bn k cap : Nat) (A : Option Addr) (w : World) (hx : Ro (Fr w []) w (some ⟨bx, 0, none⟩) (dcells (.slice A e.length cap) n bat bl bn)) (he : Ro (Fr w []) w A (ecells e f)) (hn : NOk n e) (hf : f.length = e.length) (hk : k < 2 * e.length) :
    Meets Try.prog 33 [.pointer (some ⟨bx, 0, none⟩), .int .i64 (k : Int)] w [] (fun u m => u = .int .u32 (kleft e f k) ∧ m = []) := by
  obtain ⟨b', o', e', hSx, hcx⟩ := hx (by simp)
  obtain ⟨rfl, rfl⟩ : bx = b' ∧ 0 = o' := by cases e'; exact ⟨rfl, rfl⟩
  obtain ⟨be, oe, rfl, hSe, hce⟩ := he (by intro h0; have := ecells_len hf; rw [h0] at this; simp at this; omega)
  have hel := hn.len
  refine f_enter Try.func33 rfl Try.ntmps33 rfl Owns.nil ?_
  refine f_seq fun K1 kh1 => ?_
  refine f_region ?_
  refine f_stepP rfl rfl rfl (o_assign rfl) ?_
  refine f_done ?_
  refine f_tn (kh1 _ _ ?_)
  clear kh1
  refine f_seq fun K2 kh2 => ?_
  refine f_region ?_
  refine f_stepP rfl rfl rfl (o_move rfl) ?_
  refine f_stepP rfl rfl rfl (o_nil rfl) ?_
  refine f_stepP rfl rfl rfl (o_field fa63_0 rfl) ?_
  refine f_stepP rfl rfl rfl (o_load Try.isAgg60 rfl (rdS hSx (hcx 0 _ rfl))) ?_
  refine f_stepP rfl rfl rfl (o_move rfl) ?_
  refine f_stepP rfl rfl rfl (o_shr rfl rfl (by decide) ((k / 2 : Nat) : Int) (shr_one (by omega))) ?_
  refine f_stepP rfl rfl rfl (o_move rfl) ?_
  refine f_stepP rfl rfl rfl (o_and rfl rfl ((k % 2 : Nat) : Int) (and_one (by omega))) ?_
  refine f_stepP rfl rfl rfl (o_idx sl60 rfl rfl (oe + k / 2 * 4) ⟨by omega, by omega, by first | omega | (simp; done) | (simp; omega)⟩) ?_
  refine f_stepP rfl rfl rfl (o_field fa68_1 rfl) ?_
  refine f_stepP rfl rfl rfl (o_idxA ar66 rfl rfl (oe + k / 2 * 4 + 2 + k % 2) ⟨by omega, by omega, by first | omega | (simp; done) | (simp; omega)⟩) ?_
  refine f_stepP rfl rfl rfl (o_load Try.isAgg50 rfl (rdS hSe (by have := hce _ _ (ecells_left hf hk); rwa [← Nat.add_assoc, ← Nat.add_assoc] at this))) ?_
  refine f_stepP rfl rfl rfl (o_assign rfl) ?_
  refine f_done ?_
  refine f_tn (kh2 _ _ ?_)
  clear kh2
  refine f_ret ?_
  exact f_fin1 [] Try.results33 rfl Sub.nil ⟨rfl, rfl⟩

set_option maxRecDepth 100000 in
set_option maxHeartbeats 4000000 in
theorem fbegin_spec (n : Nat) (A : Option Addr) (e : List Arc) (cap : Nat) (w : World) (hr : Ro (Fr w []) w A (e.flatMap arcCs)) (hn : NOk n e) :
    Meets Try.prog 26 [.agg #[.int .i64 (n : Int), .slice A e.length cap]] w [] (fun u own' => ∃ bx m, u = .pointer (some ⟨bx, 0, none⟩) ∧ own' = [m] ∧ DRep n e (List.replicate e.length 0) (List.replicate n 0) (List.replicate n 0) bx m) := by
  have hn1 := hn.n1
  have hel := hn.len
  refine f_enter Try.func26 rfl Try.ntmps26 rfl Owns.nil ?_
  refine f_seq fun K1 kh1 => ?_
  refine f_region ?_
  refine f_step rfl rfl rfl (o_box rfl rfl fun b1 => ?_)
  refine f_stepP rfl rfl rfl (o_assign rfl) ?_
  refine f_done ?_
  refine f_tn (kh1 _ _ ?_)
  clear kh1
  refine f_meet (α := Nat × Nat × Nat × Nat) [1] (fun ⟨bx, bat, bl, bn⟩ => [(3, .pointer (some ⟨bx, 0, none⟩))]) (fun ⟨bx, bat, bl, bn⟩ => [[(bx, blk (dcells (.slice none 0 0) n bat bl bn) 63)], [(bat, blk (List.replicate n (.slice none 0 0)) 32)], [(bl, blk (ints (List.replicate n 0)) 3)], [(bn, blk (ints (List.replicate n 0)) 3)], [(b1, blk [.int .i64 (n : Int), .slice A e.length cap] 24)]]) (fun ⟨bx, bat, bl, bn⟩ => True) ?_ ?_
  · intro K2 kh2
    refine f_regionH [[(b1, blk [.int .i64 (n : Int), .slice A e.length cap] 24)]] rfl ?_
    refine f_take 0 rfl (by decide +kernel) rfl rfl rfl (by repeat (first | exact Sub.nil | refine Sub.pick ?_ | refine Sub.castO rfl ?_ | refine Sub.skip ?_)) (o_field fa24_0 rfl) ?_
    refine f_take 1 rfl (by decide +kernel) rfl rfl rfl (by repeat (first | exact Sub.nil | refine Sub.pick ?_ | refine Sub.castO rfl ?_ | refine Sub.skip ?_)) (o_load Try.isAgg3 rfl (rdA rfl)) ?_
    refine f_take 3 rfl (by decide +kernel) rfl rfl rfl (by repeat (first | exact Sub.nil | refine Sub.pick ?_ | refine Sub.castO rfl ?_ | refine Sub.skip ?_)) (o_field fa24_0 rfl) ?_
    refine f_take 4 rfl (by decide +kernel) rfl rfl rfl (by repeat (first | exact Sub.nil | refine Sub.pick ?_ | refine Sub.castO rfl ?_ | refine Sub.skip ?_)) (o_load Try.isAgg3 rfl (rdA rfl)) ?_
    refine f_take 6 rfl (by decide +kernel) rfl rfl rfl (by repeat (first | exact Sub.nil | refine Sub.pick ?_ | refine Sub.castO rfl ?_ | refine Sub.skip ?_)) (o_field fa24_0 rfl) ?_
    refine f_take 7 rfl (by decide +kernel) rfl rfl rfl (by repeat (first | exact Sub.nil | refine Sub.pick ?_ | refine Sub.castO rfl ?_ | refine Sub.skip ?_)) (o_load Try.isAgg3 rfl (rdA rfl)) ?_
    refine f_three 2 5 8 rfl rfl rfl (by decide +kernel) rfl rfl rfl rfl rfl rfl rfl rfl rfl ?_ ?_ ?_
    · skip
      refine (o_make el61 rfl rfl n rfl (by omega) (by omega) (List.replicate n (.slice none 0 0)) (nils n) fun b8 => ⟨(by repeat (first | exact Sub.nil | refine Sub.pick ?_ | refine Sub.castO rfl ?_ | refine Sub.skip ?_)), ?_⟩)
      refine f_two 5 8 rfl rfl (by decide +kernel) rfl rfl rfl rfl rfl rfl ?_ ?_
      · skip
        refine (o_make el32 rfl rfl n rfl (by omega) (by omega) (ints (List.replicate n 0)) (ints0 n) fun b11 => ⟨(by repeat (first | exact Sub.nil | refine Sub.pick ?_ | refine Sub.castO rfl ?_ | refine Sub.skip ?_)), ?_⟩)
        refine f_only 8 rfl (by decide +kernel) rfl rfl rfl (o_make el32 rfl rfl n rfl (by omega) (by omega) (ints (List.replicate n 0)) (ints0 n) fun b14 => ⟨(by repeat (first | exact Sub.nil | refine Sub.pick ?_ | refine Sub.castO rfl ?_ | refine Sub.skip ?_)), ?_⟩)
        refine f_take 9 rfl (by decide +kernel) rfl rfl rfl (by repeat (first | exact Sub.nil | refine Sub.pick ?_ | refine Sub.castO rfl ?_ | refine Sub.skip ?_)) (o_build (cs := dcells (.slice none 0 0) n b8 b11 b14) st63 rfl (by kernel_rfl)) ?_
        refine f_only 10 rfl (by decide +kernel) rfl rfl rfl (o_box rfl rfl fun b16 => ⟨(by repeat (first | exact Sub.nil | refine Sub.pick ?_ | refine Sub.castO rfl ?_ | refine Sub.skip ?_)), ?_⟩)
        refine f_only 11 rfl (by decide +kernel) rfl rfl rfl ((o_assign rfl).does ⟨(by repeat (first | exact Sub.nil | refine Sub.pick ?_ | refine Sub.castO rfl ?_ | refine Sub.skip ?_)), ?_⟩)
        refine f_over (by decide +kernel) ?_
        refine f_tn (kh2 _ _ (b16, b8, b11, b14) trivial ?_ ?_ ?_)
        · exact (by repeat (first | exact trivial | refine ⟨rfl, ?_⟩))
        · exact (by repeat (first | exact trivial | refine ⟨rfl, ?_⟩))
        · repeat (first | exact Sub.nil | refine Sub.pick ?_ | refine Sub.castO rfl ?_ | refine Sub.skip ?_)
      · skip
        refine (o_make el32 rfl rfl n rfl (by omega) (by omega) (ints (List.replicate n 0)) (ints0 n) fun b14 => ⟨(by repeat (first | exact Sub.nil | refine Sub.pick ?_ | refine Sub.castO rfl ?_ | refine Sub.skip ?_)), ?_⟩)
        refine f_only 5 rfl (by decide +kernel) rfl rfl rfl (o_make el32 rfl rfl n rfl (by omega) (by omega) (ints (List.replicate n 0)) (ints0 n) fun b11 => ⟨(by repeat (first | exact Sub.nil | refine Sub.pick ?_ | refine Sub.castO rfl ?_ | refine Sub.skip ?_)), ?_⟩)
        refine f_take 9 rfl (by decide +kernel) rfl rfl rfl (by repeat (first | exact Sub.nil | refine Sub.pick ?_ | refine Sub.castO rfl ?_ | refine Sub.skip ?_)) (o_build (cs := dcells (.slice none 0 0) n b8 b11 b14) st63 rfl (by kernel_rfl)) ?_
        refine f_only 10 rfl (by decide +kernel) rfl rfl rfl (o_box rfl rfl fun b16 => ⟨(by repeat (first | exact Sub.nil | refine Sub.pick ?_ | refine Sub.castO rfl ?_ | refine Sub.skip ?_)), ?_⟩)
        refine f_only 11 rfl (by decide +kernel) rfl rfl rfl ((o_assign rfl).does ⟨(by repeat (first | exact Sub.nil | refine Sub.pick ?_ | refine Sub.castO rfl ?_ | refine Sub.skip ?_)), ?_⟩)
        refine f_over (by decide +kernel) ?_
        refine f_tn (kh2 _ _ (b16, b8, b11, b14) trivial ?_ ?_ ?_)
        · exact (by repeat (first | exact trivial | refine ⟨rfl, ?_⟩))
        · exact (by repeat (first | exact trivial | refine ⟨rfl, ?_⟩))
        · repeat (first | exact Sub.nil | refine Sub.pick ?_ | refine Sub.castO rfl ?_ | refine Sub.skip ?_)
    · skip
      refine (o_make el32 rfl rfl n rfl (by omega) (by omega) (ints (List.replicate n 0)) (ints0 n) fun b11 => ⟨(by repeat (first | exact Sub.nil | refine Sub.pick ?_ | refine Sub.castO rfl ?_ | refine Sub.skip ?_)), ?_⟩)
      refine f_two 2 8 rfl rfl (by decide +kernel) rfl rfl rfl rfl rfl rfl ?_ ?_
      · skip
        refine (o_make el61 rfl rfl n rfl (by omega) (by omega) (List.replicate n (.slice none 0 0)) (nils n) fun b8 => ⟨(by repeat (first | exact Sub.nil | refine Sub.pick ?_ | refine Sub.castO rfl ?_ | refine Sub.skip ?_)), ?_⟩)
        refine f_only 8 rfl (by decide +kernel) rfl rfl rfl (o_make el32 rfl rfl n rfl (by omega) (by omega) (ints (List.replicate n 0)) (ints0 n) fun b14 => ⟨(by repeat (first | exact Sub.nil | refine Sub.pick ?_ | refine Sub.castO rfl ?_ | refine Sub.skip ?_)), ?_⟩)
        refine f_take 9 rfl (by decide +kernel) rfl rfl rfl (by repeat (first | exact Sub.nil | refine Sub.pick ?_ | refine Sub.castO rfl ?_ | refine Sub.skip ?_)) (o_build (cs := dcells (.slice none 0 0) n b8 b11 b14) st63 rfl (by kernel_rfl)) ?_
        refine f_only 10 rfl (by decide +kernel) rfl rfl rfl (o_box rfl rfl fun b16 => ⟨(by repeat (first | exact Sub.nil | refine Sub.pick ?_ | refine Sub.castO rfl ?_ | refine Sub.skip ?_)), ?_⟩)
        refine f_only 11 rfl (by decide +kernel) rfl rfl rfl ((o_assign rfl).does ⟨(by repeat (first | exact Sub.nil | refine Sub.pick ?_ | refine Sub.castO rfl ?_ | refine Sub.skip ?_)), ?_⟩)
        refine f_over (by decide +kernel) ?_
        refine f_tn (kh2 _ _ (b16, b8, b11, b14) trivial ?_ ?_ ?_)
        · exact (by repeat (first | exact trivial | refine ⟨rfl, ?_⟩))
        · exact (by repeat (first | exact trivial | refine ⟨rfl, ?_⟩))
        · repeat (first | exact Sub.nil | refine Sub.pick ?_ | refine Sub.castO rfl ?_ | refine Sub.skip ?_)
      · skip
        refine (o_make el32 rfl rfl n rfl (by omega) (by omega) (ints (List.replicate n 0)) (ints0 n) fun b14 => ⟨(by repeat (first | exact Sub.nil | refine Sub.pick ?_ | refine Sub.castO rfl ?_ | refine Sub.skip ?_)), ?_⟩)
        refine f_only 2 rfl (by decide +kernel) rfl rfl rfl (o_make el61 rfl rfl n rfl (by omega) (by omega) (List.replicate n (.slice none 0 0)) (nils n) fun b8 => ⟨(by repeat (first | exact Sub.nil | refine Sub.pick ?_ | refine Sub.castO rfl ?_ | refine Sub.skip ?_)), ?_⟩)
        refine f_take 9 rfl (by decide +kernel) rfl rfl rfl (by repeat (first | exact Sub.nil | refine Sub.pick ?_ | refine Sub.castO rfl ?_ | refine Sub.skip ?_)) (o_build (cs := dcells (.slice none 0 0) n b8 b11 b14) st63 rfl (by kernel_rfl)) ?_
        refine f_only 10 rfl (by decide +kernel) rfl rfl rfl (o_box rfl rfl fun b16 => ⟨(by repeat (first | exact Sub.nil | refine Sub.pick ?_ | refine Sub.castO rfl ?_ | refine Sub.skip ?_)), ?_⟩)
        refine f_only 11 rfl (by decide +kernel) rfl rfl rfl ((o_assign rfl).does ⟨(by repeat (first | exact Sub.nil | refine Sub.pick ?_ | refine Sub.castO rfl ?_ | refine Sub.skip ?_)), ?_⟩)
        refine f_over (by decide +kernel) ?_
        refine f_tn (kh2 _ _ (b16, b8, b11, b14) trivial ?_ ?_ ?_)
        · exact (by repeat (first | exact trivial | refine ⟨rfl, ?_⟩))
        · exact (by repeat (first | exact trivial | refine ⟨rfl, ?_⟩))
        · repeat (first | exact Sub.nil | refine Sub.pick ?_ | refine Sub.castO rfl ?_ | refine Sub.skip ?_)
    · skip
      refine (o_make el32 rfl rfl n rfl (by omega) (by omega) (ints (List.replicate n 0)) (ints0 n) fun b14 => ⟨(by repeat (first | exact Sub.nil | refine Sub.pick ?_ | refine Sub.castO rfl ?_ | refine Sub.skip ?_)), ?_⟩)
      refine f_two 2 5 rfl rfl (by decide +kernel) rfl rfl rfl rfl rfl rfl ?_ ?_
      · skip
        refine (o_make el61 rfl rfl n rfl (by omega) (by omega) (List.replicate n (.slice none 0 0)) (nils n) fun b8 => ⟨(by repeat (first | exact Sub.nil | refine Sub.pick ?_ | refine Sub.castO rfl ?_ | refine Sub.skip ?_)), ?_⟩)
        refine f_only 5 rfl (by decide +kernel) rfl rfl rfl (o_make el32 rfl rfl n rfl (by omega) (by omega) (ints (List.replicate n 0)) (ints0 n) fun b11 => ⟨(by repeat (first | exact Sub.nil | refine Sub.pick ?_ | refine Sub.castO rfl ?_ | refine Sub.skip ?_)), ?_⟩)
        refine f_take 9 rfl (by decide +kernel) rfl rfl rfl (by repeat (first | exact Sub.nil | refine Sub.pick ?_ | refine Sub.castO rfl ?_ | refine Sub.skip ?_)) (o_build (cs := dcells (.slice none 0 0) n b8 b11 b14) st63 rfl (by kernel_rfl)) ?_
        refine f_only 10 rfl (by decide +kernel) rfl rfl rfl (o_box rfl rfl fun b16 => ⟨(by repeat (first | exact Sub.nil | refine Sub.pick ?_ | refine Sub.castO rfl ?_ | refine Sub.skip ?_)), ?_⟩)
        refine f_only 11 rfl (by decide +kernel) rfl rfl rfl ((o_assign rfl).does ⟨(by repeat (first | exact Sub.nil | refine Sub.pick ?_ | refine Sub.castO rfl ?_ | refine Sub.skip ?_)), ?_⟩)
        refine f_over (by decide +kernel) ?_
        refine f_tn (kh2 _ _ (b16, b8, b11, b14) trivial ?_ ?_ ?_)
        · exact (by repeat (first | exact trivial | refine ⟨rfl, ?_⟩))
        · exact (by repeat (first | exact trivial | refine ⟨rfl, ?_⟩))
        · repeat (first | exact Sub.nil | refine Sub.pick ?_ | refine Sub.castO rfl ?_ | refine Sub.skip ?_)
      · skip
        refine (o_make el32 rfl rfl n rfl (by omega) (by omega) (ints (List.replicate n 0)) (ints0 n) fun b11 => ⟨(by repeat (first | exact Sub.nil | refine Sub.pick ?_ | refine Sub.castO rfl ?_ | refine Sub.skip ?_)), ?_⟩)
        refine f_only 2 rfl (by decide +kernel) rfl rfl rfl (o_make el61 rfl rfl n rfl (by omega) (by omega) (List.replicate n (.slice none 0 0)) (nils n) fun b8 => ⟨(by repeat (first | exact Sub.nil | refine Sub.pick ?_ | refine Sub.castO rfl ?_ | refine Sub.skip ?_)), ?_⟩)
        refine f_take 9 rfl (by decide +kernel) rfl rfl rfl (by repeat (first | exact Sub.nil | refine Sub.pick ?_ | refine Sub.castO rfl ?_ | refine Sub.skip ?_)) (o_build (cs := dcells (.slice none 0 0) n b8 b11 b14) st63 rfl (by kernel_rfl)) ?_
        refine f_only 10 rfl (by decide +kernel) rfl rfl rfl (o_box rfl rfl fun b16 => ⟨(by repeat (first | exact Sub.nil | refine Sub.pick ?_ | refine Sub.castO rfl ?_ | refine Sub.skip ?_)), ?_⟩)
        refine f_only 11 rfl (by decide +kernel) rfl rfl rfl ((o_assign rfl).does ⟨(by repeat (first | exact Sub.nil | refine Sub.pick ?_ | refine Sub.castO rfl ?_ | refine Sub.skip ?_)), ?_⟩)
        refine f_over (by decide +kernel) ?_
        refine f_tn (kh2 _ _ (b16, b8, b11, b14) trivial ?_ ?_ ?_)
        · exact (by repeat (first | exact trivial | refine ⟨rfl, ?_⟩))
        · exact (by repeat (first | exact trivial | refine ⟨rfl, ?_⟩))
        · repeat (first | exact Sub.nil | refine Sub.pick ?_ | refine Sub.castO rfl ?_ | refine Sub.skip ?_)
  · rintro ⟨bx, bat, bl, bn⟩ _
    refine f_seq fun K3 kh3 => ?_
    refine f_seq fun K4 kh4 => ?_
    refine f_region ?_
    refine f_stepP rfl rfl rfl (o_field fa24_1 rfl) ?_
    refine f_stepP rfl rfl rfl (o_load Try.isAgg22 rfl (rdA rfl)) ?_
    refine f_stepP rfl rfl rfl (o_len sl22 rfl) ?_
    refine f_stepP rfl rfl rfl (o_move rfl) ?_
    refine f_done ?_
    refine f_tn (kh4 _ _ ?_)
    clear kh4
    refine f_block ?_
    refine f_loop (α := Nat × Value × Seg × List Value × List Seg) [3, 18, 19] (fun ⟨i, ve, me, vs, ms⟩ => [(20, .int .i64 (i : Int))]) (fun ⟨i, ve, me, vs, ms⟩ => [[(bx, blk (dcells ve n bat bl bn) 63)], me, [(bat, blk vs 32)], ms.flatten, [(bl, blk (ints (List.replicate n 0)) 3)], [(bn, blk (ints (List.replicate n 0)) 3)], [(b1, blk [.int .i64 (n : Int), .slice A e.length cap] 24)]]) (fun ⟨i, ve, me, vs, ms⟩ => i ≤ e.length ∧ Own 68 4 ve i (ecells (e.take i) (List.replicate i 0)) me ∧ RowsI 3 (kRows e n (2 * i)) vs ms) (fun ⟨i, ve, me, vs, ms⟩ => e.length - i) (0, .slice none 0 0, [], List.replicate n (.slice none 0 0), List.replicate n []) ?_ ?_ ?_ ?_
    · exact (by repeat (first | exact trivial | refine ⟨rfl, ?_⟩))
    · dsimp only
      rw [show (List.replicate n ([] : Seg)).flatten = [] from by simp]
      repeat (first | exact Sub.nil | refine Sub.pick ?_ | refine Sub.castO rfl ?_ | refine Sub.skip ?_)
    · exact ⟨Nat.zero_le _, Own.nil _ _, by rw [kRows_zero]; exact RowsI.start _ n⟩
    · rintro ⟨i, ve, me, vs, ms⟩ ⟨hie, hE, hR⟩
      refine f_seq fun K5 kh5 => ?_
      refine f_region ?_
      refine f_stepP rfl rfl rfl (o_lss rfl rfl) ?_
      refine f_done ?_
      refine f_tn (kh5 _ _ ?_)
      clear kh5
      refine f_seq fun K6 kh6 => ?_
      refine f_cond rfl (fun c21 => ?_) (fun c21 => ?_)
      · skip
        refine f_skip ?_
        refine f_tn (kh6 _ _ ?_)
        clear kh6
        refine f_seq fun K7 kh7 => ?_
        refine f_block ?_
        refine f_seq fun K8 kh8 => ?_
        refine f_region ?_
        refine f_stepP rfl rfl rfl (o_move rfl) ?_
        have hi : i < e.length := by omega
        obtain ⟨bl', off, rfl, hS, hc⟩ := hr (flat_ne arcCs arcCs_len (by omega) hi)
        have hgi := hn.good i hi
        have hat := arcAt_eq hi
        have hk0 : kfrom e (2 * i) < n := by rw [kfrom_even, hat]; omega
        have hk1 : kfrom e (2 * i + 1) < n := by rw [kfrom_odd, hat]; omega
        have hs0 : e[i].src = ((kfrom e (2 * i) : Nat) : Int) := by rw [kfrom_even, hat]; omega
        have hs1 : e[i].dst = ((kfrom e (2 * i + 1) : Nat) : Int) := by rw [kfrom_odd, hat]; omega
        refine f_stepP rfl rfl rfl (o_idx sl22 rfl rfl (off + i * 3) ⟨by omega, by omega, by first | omega | (simp; done) | (simp; omega)⟩) ?_
        refine f_stepP rfl rfl rfl (o_loadA (vs := arcCs e[i]) Try.isAgg52 Try.sizeOf52 rfl rfl (roElem arcCs_len hS hc hi)) ?_
        refine f_step rfl rfl rfl (o_alloc Try.zeroValue52 rfl fun b5 => ?_)
        refine f_stepP rfl rfl rfl (o_assign rfl) ?_
        refine f_step0 rfl rfl (o_storeA Try.sizeOf52 rfl rfl rfl rfl (by first | exact Nat.le_of_ble_eq_true rfl | (simp; done) | (simp; omega)) (arcCs e[i]) rfl ?_)
        refine f_done ?_
        refine f_tn (kh8 _ _ ?_)
        clear kh8
        refine f_meet (α := Value × Seg) [3, 4, 5, 18, 19, 20] (fun ⟨v40, m40⟩ => []) (fun ⟨v40, m40⟩ => [[(bx, blk (dcells v40 n bat bl bn) 63)], m40, [(bat, blk vs 32)], ms.flatten, [(bl, blk (ints (List.replicate n 0)) 3)], [(bn, blk (ints (List.replicate n 0)) 3)], [(b5, blk (arcCs e[i]) 52)], [(b1, blk [.int .i64 (n : Int), .slice (some ⟨bl', off, none⟩) e.length cap] 24)]]) (fun ⟨v40, m40⟩ => Own 68 4 v40 (i + 1) (ecells (e.take i) (List.replicate i 0) ++ [.int .i64 e[i].src, .int .i64 e[i].dst, .int .u32 e[i].wt, .int .u32 0]) m40) ?_ ?_
        · intro K9 kh9
          refine f_regionH [[(b5, blk (arcCs e[i]) 52)]] rfl ?_
          refine f_take 0 rfl (by decide +kernel) rfl rfl rfl (by repeat (first | exact Sub.nil | refine Sub.pick ?_ | refine Sub.castO rfl ?_ | refine Sub.skip ?_)) (o_move rfl) ?_
          refine f_take 1 rfl (by decide +kernel) rfl rfl rfl (by repeat (first | exact Sub.nil | refine Sub.pick ?_ | refine Sub.castO rfl ?_ | refine Sub.skip ?_)) (o_move rfl) ?_
          refine f_take 2 rfl (by decide +kernel) rfl rfl rfl (by repeat (first | exact Sub.nil | refine Sub.pick ?_ | refine Sub.castO rfl ?_ | refine Sub.skip ?_)) (o_nil rfl) ?_
          refine f_take 3 rfl (by decide +kernel) rfl rfl rfl (by repeat (first | exact Sub.nil | refine Sub.pick ?_ | refine Sub.castO rfl ?_ | refine Sub.skip ?_)) (o_field fa63_0 rfl) ?_
          refine f_take 5 rfl (by decide +kernel) rfl rfl rfl (by repeat (first | exact Sub.nil | refine Sub.pick ?_ | refine Sub.castO rfl ?_ | refine Sub.skip ?_)) (o_field fa52_0 rfl) ?_
          refine f_take 6 rfl (by decide +kernel) rfl rfl rfl (by repeat (first | exact Sub.nil | refine Sub.pick ?_ | refine Sub.castO rfl ?_ | refine Sub.skip ?_)) (o_load Try.isAgg3 rfl (rdA rfl)) ?_
          refine f_take 7 rfl (by decide +kernel) rfl rfl rfl (by repeat (first | exact Sub.nil | refine Sub.pick ?_ | refine Sub.castO rfl ?_ | refine Sub.skip ?_)) (o_field fa52_1 rfl) ?_
          refine f_take 8 rfl (by decide +kernel) rfl rfl rfl (by repeat (first | exact Sub.nil | refine Sub.pick ?_ | refine Sub.castO rfl ?_ | refine Sub.skip ?_)) (o_load Try.isAgg3 rfl (rdA rfl)) ?_
          refine f_take 9 rfl (by decide +kernel) rfl rfl rfl (by repeat (first | exact Sub.nil | refine Sub.pick ?_ | refine Sub.castO rfl ?_ | refine Sub.skip ?_)) (o_buildA (cs := [.int .i64 e[i].src, .int .i64 e[i].dst]) ar65 rfl (by kernel_rfl)) ?_
          refine f_take 10 rfl (by decide +kernel) rfl rfl rfl (by repeat (first | exact Sub.nil | refine Sub.pick ?_ | refine Sub.castO rfl ?_ | refine Sub.skip ?_)) (o_field fa52_2 rfl) ?_
          refine f_take 11 rfl (by decide +kernel) rfl rfl rfl (by repeat (first | exact Sub.nil | refine Sub.pick ?_ | refine Sub.castO rfl ?_ | refine Sub.skip ?_)) (o_load Try.isAgg50 rfl (rdA rfl)) ?_
          refine f_take 12 rfl (by decide +kernel) rfl rfl rfl (by repeat (first | exact Sub.nil | refine Sub.pick ?_ | refine Sub.castO rfl ?_ | refine Sub.skip ?_)) (o_buildA (cs := [.int .u32 e[i].wt, .int .u32 0]) ar66 rfl (by kernel_rfl)) ?_
          refine f_take 13 rfl (by decide +kernel) rfl rfl rfl (by repeat (first | exact Sub.nil | refine Sub.pick ?_ | refine Sub.castO rfl ?_ | refine Sub.skip ?_)) (o_build (cs := [.int .i64 e[i].src, .int .i64 e[i].dst, .int .u32 e[i].wt, .int .u32 0]) st68 rfl (by kernel_rfl)) ?_
          refine f_two 4 14 rfl rfl (by decide +kernel) rfl rfl rfl rfl rfl rfl ?_ ?_
          · skip
            refine (o_load Try.isAgg60 rfl (rdA rfl)).does ⟨(by repeat (first | exact Sub.nil | refine Sub.pick ?_ | refine Sub.castO rfl ?_ | refine Sub.skip ?_)), ?_⟩
            refine f_only 14 rfl (by decide +kernel) rfl rfl rfl (o_slice1 el60 (by omega) rfl rfl rfl fun b39 => ⟨(by repeat (first | exact Sub.nil | refine Sub.pick ?_ | refine Sub.castO rfl ?_ | refine Sub.skip ?_)), ?_⟩)
            refine f_only 15 rfl (by decide +kernel) rfl rfl rfl (o_append el60 rfl rfl hE (ys := [.int .i64 e[i].src, .int .i64 e[i].dst, .int .u32 e[i].wt, .int .u32 0]) ⟨(rdA rfl), (rdA rfl), (rdA rfl), (rdA rfl), trivial⟩ rfl rfl (by omega) (by omega) fun v40 m40 o40 => ⟨(by repeat (first | exact Sub.nil | refine Sub.pick ?_ | refine Sub.castO rfl ?_ | refine Sub.skip ?_)), ?_⟩)
            obtain ⟨A40, cap40, rfl, _⟩ := o40.val
            refine f_take 16 rfl (by decide +kernel) rfl rfl rfl (by repeat (first | exact Sub.nil | refine Sub.pick ?_ | refine Sub.castO rfl ?_ | refine Sub.skip ?_)) (o_nil rfl) ?_
            refine f_take 17 rfl (by decide +kernel) rfl rfl rfl (by repeat (first | exact Sub.nil | refine Sub.pick ?_ | refine Sub.castO rfl ?_ | refine Sub.skip ?_)) (o_field fa63_0 rfl) ?_
            refine f_only0 18 rfl (by decide +kernel) rfl rfl (o_store Try.sizeOf60 rfl rfl rfl rfl (by first | exact Nat.le_of_ble_eq_true rfl | (simp; done) | (simp; omega)) (dcells (.slice A40 (i + 1) cap40) n bat bl bn) rfl ⟨(by repeat (first | exact Sub.nil | refine Sub.pick ?_ | refine Sub.castO rfl ?_ | refine Sub.skip ?_)), ?_⟩)
            refine f_over (by decide +kernel) ?_
            refine f_tn (kh9 _ _ (.slice A40 (i + 1) cap40, m40) o40 ?_ ?_ ?_)
            · exact (by repeat (first | exact trivial | refine ⟨rfl, ?_⟩))
            · exact (by repeat (first | exact trivial | refine ⟨rfl, ?_⟩))
            · repeat (first | exact Sub.nil | refine Sub.pick ?_ | refine Sub.castO rfl ?_ | refine Sub.skip ?_)
          · skip
            refine (o_slice1 el60 (by omega) rfl rfl rfl fun b39 => ⟨(by repeat (first | exact Sub.nil | refine Sub.pick ?_ | refine Sub.castO rfl ?_ | refine Sub.skip ?_)), ?_⟩)
            refine f_only 4 rfl (by decide +kernel) rfl rfl rfl ((o_load Try.isAgg60 rfl (rdA rfl)).does ⟨(by repeat (first | exact Sub.nil | refine Sub.pick ?_ | refine Sub.castO rfl ?_ | refine Sub.skip ?_)), ?_⟩)
            refine f_only 15 rfl (by decide +kernel) rfl rfl rfl (o_append el60 rfl rfl hE (ys := [.int .i64 e[i].src, .int .i64 e[i].dst, .int .u32 e[i].wt, .int .u32 0]) ⟨(rdA rfl), (rdA rfl), (rdA rfl), (rdA rfl), trivial⟩ rfl rfl (by omega) (by omega) fun v40 m40 o40 => ⟨(by repeat (first | exact Sub.nil | refine Sub.pick ?_ | refine Sub.castO rfl ?_ | refine Sub.skip ?_)), ?_⟩)
            obtain ⟨A40, cap40, rfl, _⟩ := o40.val
            refine f_take 16 rfl (by decide +kernel) rfl rfl rfl (by repeat (first | exact Sub.nil | refine Sub.pick ?_ | refine Sub.castO rfl ?_ | refine Sub.skip ?_)) (o_nil rfl) ?_
            refine f_take 17 rfl (by decide +kernel) rfl rfl rfl (by repeat (first | exact Sub.nil | refine Sub.pick ?_ | refine Sub.castO rfl ?_ | refine Sub.skip ?_)) (o_field fa63_0 rfl) ?_
            refine f_only0 18 rfl (by decide +kernel) rfl rfl (o_store Try.sizeOf60 rfl rfl rfl rfl (by first | exact Nat.le_of_ble_eq_true rfl | (simp; done) | (simp; omega)) (dcells (.slice A40 (i + 1) cap40) n bat bl bn) rfl ⟨(by repeat (first | exact Sub.nil | refine Sub.pick ?_ | refine Sub.castO rfl ?_ | refine Sub.skip ?_)), ?_⟩)
            refine f_over (by decide +kernel) ?_
            refine f_tn (kh9 _ _ (.slice A40 (i + 1) cap40, m40) o40 ?_ ?_ ?_)
            · exact (by repeat (first | exact trivial | refine ⟨rfl, ?_⟩))
            · exact (by repeat (first | exact trivial | refine ⟨rfl, ?_⟩))
            · repeat (first | exact Sub.nil | refine Sub.pick ?_ | refine Sub.castO rfl ?_ | refine Sub.skip ?_)
        · rintro ⟨v40, m40⟩ o40
          obtain ⟨rv, rm, rG, hrv, hro, hrp, hput⟩ := hR.split (i := kfrom e (2 * i)) (by rw [kRows_len]; omega)
          rw [kRows_get] at hro
          have hrlen := kRow_len e (2 * i) (kfrom e (2 * i))
          obtain ⟨Ar, cr, rfl, hcr⟩ := hro.val
          refine f_subC (Sub.splitF hrp) ?_
          refine f_meet (α := Value × Seg) [3, 4, 5, 18, 19, 20] (fun ⟨v60, m60⟩ => []) (fun ⟨v60, m60⟩ => [[(bx, blk (dcells v40 n bat bl bn) 63)], m40, [(bat, blk (vs.set (kfrom e (2 * i)) v60) 32)], m60, rG, [(bl, blk (ints (List.replicate n 0)) 3)], [(bn, blk (ints (List.replicate n 0)) 3)], [(b5, blk (arcCs e[i]) 52)], [(b1, blk [.int .i64 (n : Int), .slice (some ⟨bl', off, none⟩) e.length cap] 24)]]) (fun ⟨v60, m60⟩ => Own 3 1 v60 ((kRow e (2 * i) (kfrom e (2 * i))).length + 1) (ints (kRow e (2 * i) (kfrom e (2 * i))) ++ [.int .i64 ((2 * i : Nat) : Int)]) m60) ?_ ?_
          · intro K10 kh10
            refine f_regionH [[(bx, blk (dcells v40 n bat bl bn) 63)], [(b5, blk (arcCs e[i]) 52)]] rfl ?_
            refine f_take 0 rfl (by decide +kernel) rfl rfl rfl (by repeat (first | exact Sub.nil | refine Sub.pick ?_ | refine Sub.castO rfl ?_ | refine Sub.skip ?_)) (o_move rfl) ?_
            refine f_take 1 rfl (by decide +kernel) rfl rfl rfl (by repeat (first | exact Sub.nil | refine Sub.pick ?_ | refine Sub.castO rfl ?_ | refine Sub.skip ?_)) (o_nil rfl) ?_
            refine f_take 2 rfl (by decide +kernel) rfl rfl rfl (by repeat (first | exact Sub.nil | refine Sub.pick ?_ | refine Sub.castO rfl ?_ | refine Sub.skip ?_)) (o_field fa63_1 rfl) ?_
            refine f_take 3 rfl (by decide +kernel) rfl rfl rfl (by repeat (first | exact Sub.nil | refine Sub.pick ?_ | refine Sub.castO rfl ?_ | refine Sub.skip ?_)) (o_load Try.isAgg61 rfl (rdA rfl)) ?_
            refine f_take 4 rfl (by decide +kernel) rfl rfl rfl (by repeat (first | exact Sub.nil | refine Sub.pick ?_ | refine Sub.castO rfl ?_ | refine Sub.skip ?_)) (o_field fa52_0 rfl) ?_
            refine f_take 5 rfl (by decide +kernel) rfl rfl rfl (by repeat (first | exact Sub.nil | refine Sub.pick ?_ | refine Sub.castO rfl ?_ | refine Sub.skip ?_)) (o_load Try.isAgg3 rfl (rdA rfl)) ?_
            refine f_take 6 rfl (by decide +kernel) rfl rfl rfl (by repeat (first | exact Sub.nil | refine Sub.pick ?_ | refine Sub.castO rfl ?_ | refine Sub.skip ?_)) (o_move rfl) ?_
            refine f_take 7 rfl (by decide +kernel) rfl rfl rfl (by repeat (first | exact Sub.nil | refine Sub.pick ?_ | refine Sub.castO rfl ?_ | refine Sub.skip ?_)) (o_nil rfl) ?_
            refine f_take 8 rfl (by decide +kernel) rfl rfl rfl (by repeat (first | exact Sub.nil | refine Sub.pick ?_ | refine Sub.castO rfl ?_ | refine Sub.skip ?_)) (o_field fa63_1 rfl) ?_
            refine f_take 9 rfl (by decide +kernel) rfl rfl rfl (by repeat (first | exact Sub.nil | refine Sub.pick ?_ | refine Sub.castO rfl ?_ | refine Sub.skip ?_)) (o_load Try.isAgg61 rfl (rdA rfl)) ?_
            refine f_take 10 rfl (by decide +kernel) rfl rfl rfl (by repeat (first | exact Sub.nil | refine Sub.pick ?_ | refine Sub.castO rfl ?_ | refine Sub.skip ?_)) (o_field fa52_0 rfl) ?_
            refine f_take 11 rfl (by decide +kernel) rfl rfl rfl (by repeat (first | exact Sub.nil | refine Sub.pick ?_ | refine Sub.castO rfl ?_ | refine Sub.skip ?_)) (o_load Try.isAgg3 rfl (rdA rfl)) ?_
            refine f_take 12 rfl (by decide +kernel) rfl rfl rfl (by repeat (first | exact Sub.nil | refine Sub.pick ?_ | refine Sub.castO rfl ?_ | refine Sub.skip ?_)) (o_idx sl61 rfl rfl (kfrom e (2 * i)) ⟨by omega, by omega, by first | omega | (simp; done) | (simp; omega)⟩) ?_
            refine f_take 14 rfl (by decide +kernel) rfl rfl rfl (by repeat (first | exact Sub.nil | refine Sub.pick ?_ | refine Sub.castO rfl ?_ | refine Sub.skip ?_)) (o_move rfl) ?_
            refine f_take 15 rfl (by decide +kernel) rfl rfl rfl (by repeat (first | exact Sub.nil | refine Sub.pick ?_ | refine Sub.castO rfl ?_ | refine Sub.skip ?_)) (o_mul rfl rfl _ (show IntKind.i64.wrap (2 * (i : Int)) = ((2 * i : Nat) : Int) from by rw [wrap_i64 (by omega)]; omega)) ?_
            refine f_two 13 16 rfl rfl (by decide +kernel) rfl rfl rfl rfl rfl rfl ?_ ?_
            · skip
              refine (o_load Try.isAgg32 rfl (rdA hrv)).does ⟨(by repeat (first | exact Sub.nil | refine Sub.pick ?_ | refine Sub.castO rfl ?_ | refine Sub.skip ?_)), ?_⟩
              refine f_only 16 rfl (by decide +kernel) rfl rfl rfl (o_slice1 el32 (by omega) rfl rfl rfl fun b59 => ⟨(by repeat (first | exact Sub.nil | refine Sub.pick ?_ | refine Sub.castO rfl ?_ | refine Sub.skip ?_)), ?_⟩)
              refine f_only 17 rfl (by decide +kernel) rfl rfl rfl (o_append el32 rfl rfl hro (ys := [.int .i64 ((2 * i : Nat) : Int)]) ⟨(rdA rfl), trivial⟩ rfl rfl (by omega) (by omega) fun v60 m60 o60 => ⟨(by repeat (first | exact Sub.nil | refine Sub.pick ?_ | refine Sub.castO rfl ?_ | refine Sub.skip ?_)), ?_⟩)
              obtain ⟨A60, cap60, rfl, _⟩ := o60.val
              refine f_take 18 rfl (by decide +kernel) rfl rfl rfl (by repeat (first | exact Sub.nil | refine Sub.pick ?_ | refine Sub.castO rfl ?_ | refine Sub.skip ?_)) (o_idx sl61 rfl rfl (kfrom e (2 * i)) ⟨by omega, by omega, by first | omega | (simp; done) | (simp; omega)⟩) ?_
              refine f_only0 19 rfl (by decide +kernel) rfl rfl (o_store Try.sizeOf32 rfl rfl rfl rfl (by have := hR.lv; rw [kRows_len] at this; omega) (vs.set (kfrom e (2 * i)) (.slice A60 ((kRow e (2 * i) (kfrom e (2 * i))).length + 1) cap60)) rfl ⟨(by repeat (first | exact Sub.nil | refine Sub.pick ?_ | refine Sub.castO rfl ?_ | refine Sub.skip ?_)), ?_⟩)
              refine f_over (by decide +kernel) ?_
              refine f_tn (kh10 _ _ (.slice A60 ((kRow e (2 * i) (kfrom e (2 * i))).length + 1) cap60, m60) o60 ?_ ?_ ?_)
              · exact (by repeat (first | exact trivial | refine ⟨rfl, ?_⟩))
              · exact (by repeat (first | exact trivial | refine ⟨rfl, ?_⟩))
              · repeat (first | exact Sub.nil | refine Sub.pick ?_ | refine Sub.castO rfl ?_ | refine Sub.skip ?_)
            · skip
              refine (o_slice1 el32 (by omega) rfl rfl rfl fun b59 => ⟨(by repeat (first | exact Sub.nil | refine Sub.pick ?_ | refine Sub.castO rfl ?_ | refine Sub.skip ?_)), ?_⟩)
              refine f_only 13 rfl (by decide +kernel) rfl rfl rfl ((o_load Try.isAgg32 rfl (rdA hrv)).does ⟨(by repeat (first | exact Sub.nil | refine Sub.pick ?_ | refine Sub.castO rfl ?_ | refine Sub.skip ?_)), ?_⟩)
              refine f_only 17 rfl (by decide +kernel) rfl rfl rfl (o_append el32 rfl rfl hro (ys := [.int .i64 ((2 * i : Nat) : Int)]) ⟨(rdA rfl), trivial⟩ rfl rfl (by omega) (by omega) fun v60 m60 o60 => ⟨(by repeat (first | exact Sub.nil | refine Sub.pick ?_ | refine Sub.castO rfl ?_ | refine Sub.skip ?_)), ?_⟩)
              obtain ⟨A60, cap60, rfl, _⟩ := o60.val
              refine f_take 18 rfl (by decide +kernel) rfl rfl rfl (by repeat (first | exact Sub.nil | refine Sub.pick ?_ | refine Sub.castO rfl ?_ | refine Sub.skip ?_)) (o_idx sl61 rfl rfl (kfrom e (2 * i)) ⟨by omega, by omega, by first | omega | (simp; done) | (simp; omega)⟩) ?_
              refine f_only0 19 rfl (by decide +kernel) rfl rfl (o_store Try.sizeOf32 rfl rfl rfl rfl (by have := hR.lv; rw [kRows_len] at this; omega) (vs.set (kfrom e (2 * i)) (.slice A60 ((kRow e (2 * i) (kfrom e (2 * i))).length + 1) cap60)) rfl ⟨(by repeat (first | exact Sub.nil | refine Sub.pick ?_ | refine Sub.castO rfl ?_ | refine Sub.skip ?_)), ?_⟩)
              refine f_over (by decide +kernel) ?_
              refine f_tn (kh10 _ _ (.slice A60 ((kRow e (2 * i) (kfrom e (2 * i))).length + 1) cap60, m60) o60 ?_ ?_ ?_)
              · exact (by repeat (first | exact trivial | refine ⟨rfl, ?_⟩))
              · exact (by repeat (first | exact trivial | refine ⟨rfl, ?_⟩))
              · repeat (first | exact Sub.nil | refine Sub.pick ?_ | refine Sub.castO rfl ?_ | refine Sub.skip ?_)
          · rintro ⟨v60, m60⟩ o60
            have hR2 := (hput _ _ _ (by rw [← ints_len1]; exact o60)).1
            rw [kRows_next hk0] at hR2
            refine f_subC (Sub.joinF (m := m60) (G' := rG) (hput _ _ _ (by rw [← ints_len1]; exact o60)).2) ?_
            obtain ⟨rv, rm, rG, hrv, hro, hrp, hput⟩ := hR2.split (i := kfrom e (2 * i + 1)) (by rw [kRows_len]; omega)
            rw [kRows_get] at hro
            have hrlen := kRow_len e (2 * i + 1) (kfrom e (2 * i + 1))
            obtain ⟨Ar, cr, rfl, hcr⟩ := hro.val
            refine f_subC (Sub.splitF hrp) ?_
            refine f_regionH [[(bx, blk (dcells v40 n bat bl bn) 63)], [(b5, blk (arcCs e[i]) 52)]] rfl ?_
            refine f_take 0 rfl (by decide +kernel) rfl rfl rfl (by repeat (first | exact Sub.nil | refine Sub.pick ?_ | refine Sub.castO rfl ?_ | refine Sub.skip ?_)) (o_move rfl) ?_
            refine f_take 1 rfl (by decide +kernel) rfl rfl rfl (by repeat (first | exact Sub.nil | refine Sub.pick ?_ | refine Sub.castO rfl ?_ | refine Sub.skip ?_)) (o_nil rfl) ?_
            refine f_take 2 rfl (by decide +kernel) rfl rfl rfl (by repeat (first | exact Sub.nil | refine Sub.pick ?_ | refine Sub.castO rfl ?_ | refine Sub.skip ?_)) (o_field fa63_1 rfl) ?_
            refine f_take 3 rfl (by decide +kernel) rfl rfl rfl (by repeat (first | exact Sub.nil | refine Sub.pick ?_ | refine Sub.castO rfl ?_ | refine Sub.skip ?_)) (o_load Try.isAgg61 rfl (rdA rfl)) ?_
            refine f_take 4 rfl (by decide +kernel) rfl rfl rfl (by repeat (first | exact Sub.nil | refine Sub.pick ?_ | refine Sub.castO rfl ?_ | refine Sub.skip ?_)) (o_field fa52_1 rfl) ?_
            refine f_take 5 rfl (by decide +kernel) rfl rfl rfl (by repeat (first | exact Sub.nil | refine Sub.pick ?_ | refine Sub.castO rfl ?_ | refine Sub.skip ?_)) (o_load Try.isAgg3 rfl (rdA rfl)) ?_
            refine f_take 6 rfl (by decide +kernel) rfl rfl rfl (by repeat (first | exact Sub.nil | refine Sub.pick ?_ | refine Sub.castO rfl ?_ | refine Sub.skip ?_)) (o_move rfl) ?_
            refine f_take 7 rfl (by decide +kernel) rfl rfl rfl (by repeat (first | exact Sub.nil | refine Sub.pick ?_ | refine Sub.castO rfl ?_ | refine Sub.skip ?_)) (o_nil rfl) ?_
            refine f_take 8 rfl (by decide +kernel) rfl rfl rfl (by repeat (first | exact Sub.nil | refine Sub.pick ?_ | refine Sub.castO rfl ?_ | refine Sub.skip ?_)) (o_field fa63_1 rfl) ?_
            refine f_take 9 rfl (by decide +kernel) rfl rfl rfl (by repeat (first | exact Sub.nil | refine Sub.pick ?_ | refine Sub.castO rfl ?_ | refine Sub.skip ?_)) (o_load Try.isAgg61 rfl (rdA rfl)) ?_
            refine f_take 10 rfl (by decide +kernel) rfl rfl rfl (by repeat (first | exact Sub.nil | refine Sub.pick ?_ | refine Sub.castO rfl ?_ | refine Sub.skip ?_)) (o_field fa52_1 rfl) ?_
            refine f_take 11 rfl (by decide +kernel) rfl rfl rfl (by repeat (first | exact Sub.nil | refine Sub.pick ?_ | refine Sub.castO rfl ?_ | refine Sub.skip ?_)) (o_load Try.isAgg3 rfl (rdA rfl)) ?_
            refine f_take 12 rfl (by decide +kernel) rfl rfl rfl (by repeat (first | exact Sub.nil | refine Sub.pick ?_ | refine Sub.castO rfl ?_ | refine Sub.skip ?_)) (o_idx sl61 rfl rfl (kfrom e (2 * i + 1)) ⟨by omega, by omega, by first | omega | (simp; done) | (simp; omega)⟩) ?_
            refine f_take 14 rfl (by decide +kernel) rfl rfl rfl (by repeat (first | exact Sub.nil | refine Sub.pick ?_ | refine Sub.castO rfl ?_ | refine Sub.skip ?_)) (o_move rfl) ?_
            refine f_take 15 rfl (by decide +kernel) rfl rfl rfl (by repeat (first | exact Sub.nil | refine Sub.pick ?_ | refine Sub.castO rfl ?_ | refine Sub.skip ?_)) (o_mul rfl rfl _ (show IntKind.i64.wrap (2 * (i : Int)) = ((2 * i : Nat) : Int) from by rw [wrap_i64 (by omega)]; omega)) ?_
            refine f_take 16 rfl (by decide +kernel) rfl rfl rfl (by repeat (first | exact Sub.nil | refine Sub.pick ?_ | refine Sub.castO rfl ?_ | refine Sub.skip ?_)) (o_add rfl rfl _ (show IntKind.i64.wrap (((2 * i : Nat) : Int) + 1) = ((2 * i + 1 : Nat) : Int) from by rw [wrap_i64 (by omega)]; omega)) ?_
            refine f_two 13 17 rfl rfl (by decide +kernel) rfl rfl rfl rfl rfl rfl ?_ ?_
            · skip
              refine (o_load Try.isAgg32 rfl (rdA hrv)).does ⟨(by repeat (first | exact Sub.nil | refine Sub.pick ?_ | refine Sub.castO rfl ?_ | refine Sub.skip ?_)), ?_⟩
              refine f_only 17 rfl (by decide +kernel) rfl rfl rfl (o_slice1 el32 (by omega) rfl rfl rfl fun b79 => ⟨(by repeat (first | exact Sub.nil | refine Sub.pick ?_ | refine Sub.castO rfl ?_ | refine Sub.skip ?_)), ?_⟩)
              refine f_only 18 rfl (by decide +kernel) rfl rfl rfl (o_append el32 rfl rfl hro (ys := [.int .i64 ((2 * i + 1 : Nat) : Int)]) ⟨(rdA rfl), trivial⟩ rfl rfl (by omega) (by omega) fun v80 m80 o80 => ⟨(by repeat (first | exact Sub.nil | refine Sub.pick ?_ | refine Sub.castO rfl ?_ | refine Sub.skip ?_)), ?_⟩)
              obtain ⟨A80, cap80, rfl, _⟩ := o80.val
              refine f_take 19 rfl (by decide +kernel) rfl rfl rfl (by repeat (first | exact Sub.nil | refine Sub.pick ?_ | refine Sub.castO rfl ?_ | refine Sub.skip ?_)) (o_idx sl61 rfl rfl (kfrom e (2 * i + 1)) ⟨by omega, by omega, by first | omega | (simp; done) | (simp; omega)⟩) ?_
              refine f_only0 20 rfl (by decide +kernel) rfl rfl (o_store Try.sizeOf32 rfl rfl rfl rfl (by have := hR.lv; rw [kRows_len] at this; rw [List.length_set]; omega) ((vs.set (kfrom e (2 * i)) v60).set (kfrom e (2 * i + 1)) (.slice A80 ((kRow e (2 * i + 1) (kfrom e (2 * i + 1))).length + 1) cap80)) rfl ⟨(by repeat (first | exact Sub.nil | refine Sub.pick ?_ | refine Sub.castO rfl ?_ | refine Sub.skip ?_)), ?_⟩)
              refine f_over (by decide +kernel) ?_
              refine f_bn ?_
              refine f_tn (kh7 _ _ ?_)
              clear kh7
              refine f_region ?_
              refine f_stepP rfl rfl rfl (o_add rfl rfl _ (wrap_i64 (by omega))) ?_
              refine f_stepP rfl rfl rfl (o_move rfl) ?_
              refine f_done ?_
              refine f_subQ (Sub.joinF (m := m80) (G' := rG) (hput _ _ _ (by rw [← ints_len1]; exact o80)).2) ?_
              refine f_tn (f_again (i + 1, v40, m40, (vs.set (kfrom e (2 * i)) v60).set (kfrom e (2 * i + 1)) (.slice A80 ((kRow e (2 * i + 1) (kfrom e (2 * i + 1))).length + 1) cap80), (ms.set (kfrom e (2 * i)) m60).set (kfrom e (2 * i + 1)) m80) (by first | omega | (dsimp only; omega) | (simp; omega)) ⟨by omega, by rw [ecells_snoc hi]; exact o40, by
                have := (hput _ _ _ (by rw [← ints_len1]; exact o80)).1
                rw [kRows_next hk1] at this; exact this⟩ ?_ ?_ ?_)
              · exact (by repeat (first | exact trivial | refine ⟨rfl, ?_⟩))
              · exact (by repeat (first | exact trivial | refine ⟨rfl, ?_⟩))
              · repeat (first | exact Sub.nil | refine Sub.pick ?_ | refine Sub.castO rfl ?_ | refine Sub.skip ?_)
            · skip
              refine (o_slice1 el32 (by omega) rfl rfl rfl fun b79 => ⟨(by repeat (first | exact Sub.nil | refine Sub.pick ?_ | refine Sub.castO rfl ?_ | refine Sub.skip ?_)), ?_⟩)
              refine f_only 13 rfl (by decide +kernel) rfl rfl rfl ((o_load Try.isAgg32 rfl (rdA hrv)).does ⟨(by repeat (first | exact Sub.nil | refine Sub.pick ?_ | refine Sub.castO rfl ?_ | refine Sub.skip ?_)), ?_⟩)
              refine f_only 18 rfl (by decide +kernel) rfl rfl rfl (o_append el32 rfl rfl hro (ys := [.int .i64 ((2 * i + 1 : Nat) : Int)]) ⟨(rdA rfl), trivial⟩ rfl rfl (by omega) (by omega) fun v80 m80 o80 => ⟨(by repeat (first | exact Sub.nil | refine Sub.pick ?_ | refine Sub.castO rfl ?_ | refine Sub.skip ?_)), ?_⟩)
              obtain ⟨A80, cap80, rfl, _⟩ := o80.val
              refine f_take 19 rfl (by decide +kernel) rfl rfl rfl (by repeat (first | exact Sub.nil | refine Sub.pick ?_ | refine Sub.castO rfl ?_ | refine Sub.skip ?_)) (o_idx sl61 rfl rfl (kfrom e (2 * i + 1)) ⟨by omega, by omega, by first | omega | (simp; done) | (simp; omega)⟩) ?_
              refine f_only0 20 rfl (by decide +kernel) rfl rfl (o_store Try.sizeOf32 rfl rfl rfl rfl (by have := hR.lv; rw [kRows_len] at this; rw [List.length_set]; omega) ((vs.set (kfrom e (2 * i)) v60).set (kfrom e (2 * i + 1)) (.slice A80 ((kRow e (2 * i + 1) (kfrom e (2 * i + 1))).length + 1) cap80)) rfl ⟨(by repeat (first | exact Sub.nil | refine Sub.pick ?_ | refine Sub.castO rfl ?_ | refine Sub.skip ?_)), ?_⟩)
              refine f_over (by decide +kernel) ?_
              refine f_bn ?_
              refine f_tn (kh7 _ _ ?_)
              clear kh7
              refine f_region ?_
              refine f_stepP rfl rfl rfl (o_add rfl rfl _ (wrap_i64 (by omega))) ?_
              refine f_stepP rfl rfl rfl (o_move rfl) ?_
              refine f_done ?_
              refine f_subQ (Sub.joinF (m := m80) (G' := rG) (hput _ _ _ (by rw [← ints_len1]; exact o80)).2) ?_
              refine f_tn (f_again (i + 1, v40, m40, (vs.set (kfrom e (2 * i)) v60).set (kfrom e (2 * i + 1)) (.slice A80 ((kRow e (2 * i + 1) (kfrom e (2 * i + 1))).length + 1) cap80), (ms.set (kfrom e (2 * i)) m60).set (kfrom e (2 * i + 1)) m80) (by first | omega | (dsimp only; omega) | (simp; omega)) ⟨by omega, by rw [ecells_snoc hi]; exact o40, by
                have := (hput _ _ _ (by rw [← ints_len1]; exact o80)).1
                rw [kRows_next hk1] at this; exact this⟩ ?_ ?_ ?_)
              · exact (by repeat (first | exact trivial | refine ⟨rfl, ?_⟩))
              · exact (by repeat (first | exact trivial | refine ⟨rfl, ?_⟩))
              · repeat (first | exact Sub.nil | refine Sub.pick ?_ | refine Sub.castO rfl ?_ | refine Sub.skip ?_)
      · skip
        refine f_exit ?_
        refine f_te ?_
        clear kh6
        refine f_te ?_
        refine f_be ?_
        refine f_tn (kh3 _ _ ?_)
        clear kh3
        refine f_seq fun K11 kh11 => ?_
        refine f_region ?_
        refine f_stepP rfl rfl rfl (o_move rfl) ?_
        refine f_stepP rfl rfl rfl (o_assign rfl) ?_
        refine f_done ?_
        refine f_tn (kh11 _ _ ?_)
        clear kh11
        refine f_ret ?_
        have hie' : i = e.length := by omega
        subst hie'
        rw [List.take_length] at hE
        exact f_fin1 [(dsegs bx bat bl bn n ve vs ms.flatten me (List.replicate n 0) (List.replicate n 0)).flatten] Try.results26 rfl (Sub.flatF (by unfold dsegs; repeat (first | exact Sub.nil | refine Sub.pick ?_ | refine Sub.castO rfl ?_))) ⟨bx, _, rfl, rfl, DRep_mk hR hE⟩

end Go.Proofs.Ytnagjidfenfdbaa
