import Derived.Test.YtbjiejhdgkpjcaaFlyT
import Derived.Test.YtbjiejhdgkpjcaaAll0

/- Package flow: its network in memory, its ends and what is left, its beginning. -/
namespace Go.Proofs.Ytbjiejhdgkpjcaa
open Go Go.RowKit Fly
set_option linter.unusedVariables false
set_option linter.unusedSimpArgs false


structure NOk (n : Nat) (e : List Arc) : Prop where
  n1 : 1 ≤ n ∧ n ≤ 1024
  len : e.length ≤ 16384
  good : ∀ k (hk : k < e.length), 0 ≤ e[k].src ∧ e[k].src < (n : Int) ∧ 0 ≤ e[k].dst ∧ e[k].dst < (n : Int)
  ok : ∀ x ∈ e, ArcOk x
theorem NOk.net {n : Nat} {e : List Arc} (h : NOk n e) : NetOk n e := fun x hx => by
  obtain ⟨j, hj, rfl⟩ := List.mem_iff_getElem.1 hx
  have := h.good j hj; omega
theorem NOk.at_ {n : Nat} {e : List Arc} (h : NOk n e) {i : Nat} (hi : i < e.length) : 0 ≤ (arcAt e i).src ∧ (arcAt e i).src < (n : Int) ∧ 0 ≤ (arcAt e i).dst ∧ (arcAt e i).dst < (n : Int) ∧ 0 ≤ (arcAt e i).wt ∧ (arcAt e i).wt ≤ 4294967295 := by
  have := h.good i hi
  have := (h.ok _ (List.getElem_mem hi)).wt
  rw [arcAt_eq hi]; omega
/-- An edge with what is left. -/
def ecs (p : Arc × Int) : List Value := [.int .i64 p.1.src, .int .i64 p.1.dst, .int .u32 (p.1.wt - p.2), .int .u32 p.2]
theorem ecs_len (p : Arc × Int) : (ecs p).length = 4 := rfl
def ecells (e : List Arc) (f : List Int) : List Value := (List.zip e f).flatMap ecs
theorem zip_at {e : List Arc} {f : List Int} {i : Nat} (h : f.length = e.length) (hi : i < e.length) : ∃ h' : i < (List.zip e f).length, (List.zip e f)[i] = (arcAt e i, flAt f i) :=
  ⟨by simp; omega, by rw [List.getElem_zip, arcAt_eq hi, flAt_eq (by omega)]⟩
theorem ecells_at {e : List Arc} {f : List Int} {i j : Nat} (h : f.length = e.length) (hi : i < e.length) (hj : j < 4) : (ecells e f)[i * 4 + j]? = (ecs (arcAt e i, flAt f i))[j]? := by
  obtain ⟨h', he⟩ := zip_at h hi
  unfold ecells
  rw [flat_get ecs ecs_len _ i j h' hj, he]
theorem ecells_len {e : List Arc} {f : List Int} (h : f.length = e.length) : (ecells e f).length = e.length * 4 := by
  unfold ecells; rw [flat_length ecs ecs_len]; simp [h]
theorem ecells_to {n : Nat} {e : List Arc} {f : List Int} {k : Nat} (hn : NOk n e) (h : f.length = e.length) (hk : k < 2 * e.length) : (ecells e f)[k / 2 * 4 + (1 - k % 2)]? = some (.int .i64 ((kto e k : Nat) : Int)) := by
  rw [ecells_at h (by omega) (by omega)]
  have := hn.at_ (i := k / 2) (by omega)
  unfold kto ecs
  by_cases h2 : k % 2 = 0
  · rw [if_pos h2, h2]; simp; omega
  · rw [if_neg h2, show k % 2 = 1 by omega]; simp; omega
theorem ecells_left {e : List Arc} {f : List Int} {k : Nat} (h : f.length = e.length) (hk : k < 2 * e.length) : (ecells e f)[k / 2 * 4 + 2 + k % 2]? = some (.int .u32 (kleft e f k)) := by
  rw [Nat.add_assoc, ecells_at h (by omega) (by omega)]
  unfold kleft ecs
  by_cases h2 : k % 2 = 0
  · rw [if_pos h2, h2]; simp
  · rw [if_neg h2, show k % 2 = 1 by omega]; simp
theorem ecells_snoc {e : List Arc} {i : Nat} (h : i < e.length) : ecells (e.take (i + 1)) (List.replicate (i + 1) 0) = ecells (e.take i) (List.replicate i 0) ++ [.int .i64 e[i].src, .int .i64 e[i].dst, .int .u32 e[i].wt, .int .u32 0] := by
  unfold ecells
  rw [List.take_succ_eq_append_getElem h, List.replicate_succ', List.zip_append (by simp; omega), List.flatMap_append]
  simp [ecs]
abbrev dcells (ve : Value) (n bat bl bn : Nat) : List Value := [ve, .slice (some ⟨bat, 0, none⟩) n n, .slice (some ⟨bl, 0, none⟩) n n, .slice (some ⟨bn, 0, none⟩) n n]
abbrev dsegs (bx bat bl bn n : Nat) (ve : Value) (vs : List Value) (G me : Seg) (L nx : List Int) : List Seg :=
  [[(bx, blk (dcells ve n bat bl bn) 95)], [(bat, blk vs 35)], G, me, [(bl, blk (ints L) 3)], [(bn, blk (ints nx) 3)]]
/-- A search for the greatest flow, in memory. -/
def DRep (n : Nat) (e : List Arc) (f L nx : List Int) (bx : Nat) (m : Seg) : Prop :=
  ∃ bat bl bn ve vs ms me, m.Perm (dsegs bx bat bl bn n ve vs ms.flatten me L nx).flatten ∧ RowsI 3 (kRows e n (2 * e.length)) vs ms ∧ Own 117 4 ve e.length (ecells e f) me
theorem DRep_mk {n : Nat} {e : List Arc} {f L nx : List Int} {bx bat bl bn : Nat} {ve : Value} {vs : List Value} {ms : List Seg} {me : Seg} (hR : RowsI 3 (kRows e n (2 * e.length)) vs ms) (hE : Own 117 4 ve e.length (ecells e f) me) :
    DRep n e f L nx bx (dsegs bx bat bl bn n ve vs ms.flatten me L nx).flatten := ⟨bat, bl, bn, ve, vs, ms, me, List.Perm.refl _, hR, hE⟩
theorem ints_rep (n : Nat) (x : Int) : List.replicate n (Value.int .i64 x) = ints (List.replicate n x) := by simp [ints]
theorem ints0 (n : Nat) : (List.replicate n [Value.int .i64 0]).flatten = ints (List.replicate n 0) := by
  induction n with
  | zero => rfl
  | succ n ih => simp only [List.replicate_succ, List.flatten_cons, ih]; rfl
theorem nils (n : Nat) : (List.replicate n [Value.slice none 0 0]).flatten = List.replicate n (Value.slice none 0 0) := by
  induction n with
  | zero => rfl
  | succ n ih => simp only [List.replicate_succ, List.flatten_cons, ih]; rfl
theorem ints_len1 {E : TypeId} {v : Value} {l : List Int} {x : Int} {m : Seg} : Own E 1 v (l.length + 1) (ints l ++ [.int .i64 x]) m = Own E 1 v (l ++ [x]).length (ints (l ++ [x])) m := by rw [ints_append, List.length_append]; rfl
theorem kfrom_even (e : List Arc) (i : Nat) : kfrom e (2 * i) = (arcAt e i).src.toNat := by unfold kfrom; rw [if_pos (by omega), show 2 * i / 2 = i by omega]
theorem kfrom_odd (e : List Arc) (i : Nat) : kfrom e (2 * i + 1) = (arcAt e i).dst.toNat := by unfold kfrom; rw [if_neg (by omega), show (2 * i + 1) / 2 = i by omega]
theorem shr_one {k : Nat} (h : k < 4294967296) : (k : Int).fdiv (2 ^ (min ((1 : Int).toNat) IntKind.i64.bits)) = ((k / 2 : Nat) : Int) := by
  show (k : Int).fdiv 2 = _
  rw [Int.fdiv_eq_ediv_of_nonneg _ (by decide)]; omega

set_option maxRecDepth 100000 in
set_option maxHeartbeats 4000000 in
theorem to_spec (n : Nat) (e : List Arc) (f : List Int) (bx bat bl bn k cap : Nat) (A : Option Addr) (w : World) (hx : Ro (Fr w []) w (some ⟨bx, 0, none⟩) (dcells (.slice A e.length cap) n bat bl bn)) (he : Ro (Fr w []) w A (ecells e f)) (hn : NOk n e) (hf : f.length = e.length) (hk : k < 2 * e.length) :
    Meets Try.prog 89 [.pointer (some ⟨bx, 0, none⟩), .int .i64 (k : Int)] w [] (fun u m => u = .int .i64 ((kto e k : Nat) : Int) ∧ m = []) := by
 obtain ⟨b', o', e', hSx, hcx⟩ := hx (by simp)
 obtain ⟨rfl, rfl⟩ : bx = b' ∧ 0 = o' := by cases e'; exact ⟨rfl, rfl⟩
 obtain ⟨be, oe, rfl, hSe, hce⟩ := he (by intro h0; have := ecells_len hf; rw [h0] at this; simp at this; omega)
 have hel := hn.len
 refine f_enter Try.func89 rfl Try.ntmps89 rfl Owns.nil ?_
 refine f_seq fun K1 kh1 => ?_
 refine f_region ?_
 refine f_stepP rfl rfl rfl (o_assign rfl) ?_
 refine f_done ?_
 refine f_tn (kh1 _ _ ?_)
 clear kh1
 refine f_seq fun K2 kh2 => ?_
 refine f_region ?_
 refine f_stepP rfl rfl rfl (o_move rfl) ?_
 refine f_stepP rfl rfl rfl (o_nil rfl) ?_
 refine f_stepP rfl rfl rfl (o_field fa95_0 rfl) ?_
 refine f_stepP rfl rfl rfl (o_load Try.isAgg93 rfl (rdS hSx (hcx 0 _ rfl))) ?_
 refine f_stepP rfl rfl rfl (o_move rfl) ?_
 refine f_stepP rfl rfl rfl (o_shr rfl rfl (by decide) ((k / 2 : Nat) : Int) (shr_one (by omega))) ?_
 refine f_stepP rfl rfl rfl (o_move rfl) ?_
 refine f_stepP rfl rfl rfl (o_and rfl rfl ((k % 2 : Nat) : Int) (and_one (by omega))) ?_
 refine f_stepP rfl rfl rfl (o_sub rfl rfl _ (wrap_i64 (by omega))) ?_
 refine f_stepP rfl rfl rfl (o_idx sl93 rfl rfl (oe + k / 2 * 4) ⟨by omega, by omega, by first | omega | (simp; done) | (simp; omega)⟩) ?_
 refine f_stepP rfl rfl rfl (o_field fa117_0 rfl) ?_
 refine f_stepP rfl rfl rfl (o_idxA ar114 rfl rfl (oe + k / 2 * 4 + (1 - k % 2)) ⟨by omega, by omega, by first | omega | (simp; done) | (simp; omega)⟩) ?_
 refine f_stepP rfl rfl rfl (o_load Try.isAgg3 rfl (rdS hSe (by have := hce _ _ (ecells_to hn hf hk); rwa [← Nat.add_assoc] at this))) ?_
 refine f_stepP rfl rfl rfl (o_assign rfl) ?_
 refine f_done ?_
 refine f_tn (kh2 _ _ ?_)
 clear kh2
 refine f_ret ?_
 exact f_fin1 [] Try.results89 rfl Sub.nil ⟨rfl, rfl⟩

set_option maxRecDepth 100000 in
set_option maxHeartbeats 4000000 in
theorem left_spec (n : Nat) (e : List Arc) (f : List Int) (bx bat bl bn k cap : Nat) (A : Option Addr) (w : World) (hx : Ro (Fr w []) w (some ⟨bx, 0, none⟩) (dcells (.slice A e.length cap) n bat bl bn)) (he : Ro (Fr w []) w A (ecells e f)) (hn : NOk n e) (hf : f.length = e.length) (hk : k < 2 * e.length) :
    Meets Try.prog 74 [.pointer (some ⟨bx, 0, none⟩), .int .i64 (k : Int)] w [] (fun u m => u = .int .u32 (kleft e f k) ∧ m = []) := by
 obtain ⟨b', o', e', hSx, hcx⟩ := hx (by simp)
 obtain ⟨rfl, rfl⟩ : bx = b' ∧ 0 = o' := by cases e'; exact ⟨rfl, rfl⟩
 obtain ⟨be, oe, rfl, hSe, hce⟩ := he (by intro h0; have := ecells_len hf; rw [h0] at this; simp at this; omega)
 have hel := hn.len
 refine f_enter Try.func74 rfl Try.ntmps74 rfl Owns.nil ?_
 refine f_seq fun K1 kh1 => ?_
 refine f_region ?_
 refine f_stepP rfl rfl rfl (o_assign rfl) ?_
 refine f_done ?_
 refine f_tn (kh1 _ _ ?_)
 clear kh1
 refine f_seq fun K2 kh2 => ?_
 refine f_region ?_
 refine f_stepP rfl rfl rfl (o_move rfl) ?_
 refine f_stepP rfl rfl rfl (o_nil rfl) ?_
 refine f_stepP rfl rfl rfl (o_field fa95_0 rfl) ?_
 refine f_stepP rfl rfl rfl (o_load Try.isAgg93 rfl (rdS hSx (hcx 0 _ rfl))) ?_
 refine f_stepP rfl rfl rfl (o_move rfl) ?_
 refine f_stepP rfl rfl rfl (o_shr rfl rfl (by decide) ((k / 2 : Nat) : Int) (shr_one (by omega))) ?_
 refine f_stepP rfl rfl rfl (o_move rfl) ?_
 refine f_stepP rfl rfl rfl (o_and rfl rfl ((k % 2 : Nat) : Int) (and_one (by omega))) ?_
 refine f_stepP rfl rfl rfl (o_idx sl93 rfl rfl (oe + k / 2 * 4) ⟨by omega, by omega, by first | omega | (simp; done) | (simp; omega)⟩) ?_
 refine f_stepP rfl rfl rfl (o_field fa117_1 rfl) ?_
 refine f_stepP rfl rfl rfl (o_idxA ar115 rfl rfl (oe + k / 2 * 4 + 2 + k % 2) ⟨by omega, by omega, by first | omega | (simp; done) | (simp; omega)⟩) ?_
 refine f_stepP rfl rfl rfl (o_load Try.isAgg53 rfl (rdS hSe (by have := hce _ _ (ecells_left hf hk); rwa [← Nat.add_assoc, ← Nat.add_assoc] at this))) ?_
 refine f_stepP rfl rfl rfl (o_assign rfl) ?_
 refine f_done ?_
 refine f_tn (kh2 _ _ ?_)
 clear kh2
 refine f_ret ?_
 exact f_fin1 [] Try.results74 rfl Sub.nil ⟨rfl, rfl⟩

set_option maxRecDepth 100000 in
set_option maxHeartbeats 4000000 in
theorem fbegin_spec (n : Nat) (A : Option Addr) (e : List Arc) (cap : Nat) (w : World) (hr : Ro (Fr w []) w A (e.flatMap arcCs)) (hn : NOk n e) :
    Meets Try.prog 53 [.agg #[.int .i64 (n : Int), .slice A e.length cap]] w [] (fun u own' => ∃ bx m, u = .pointer (some ⟨bx, 0, none⟩) ∧ own' = [m] ∧ DRep n e (List.replicate e.length 0) (List.replicate n 0) (List.replicate n 0) bx m) := by
 have hn1 := hn.n1
 have hel := hn.len
 refine f_enter Try.func53 rfl Try.ntmps53 rfl Owns.nil ?_
 refine f_seq fun K1 kh1 => ?_
 refine f_region ?_
 refine f_step rfl rfl rfl (o_box rfl rfl fun b1 => ?_)
 refine f_stepP rfl rfl rfl (o_assign rfl) ?_
 refine f_done ?_
 refine f_tn (kh1 _ _ ?_)
 clear kh1
 refine f_meet (α := Nat × Nat × Nat × Nat) [1] (fun ⟨bx, bat, bl, bn⟩ => [(3, .pointer (some ⟨bx, 0, none⟩))]) (fun ⟨bx, bat, bl, bn⟩ => [[(bx, blk (dcells (.slice none 0 0) n bat bl bn) 95)], [(bat, blk (List.replicate n (.slice none 0 0)) 35)], [(bl, blk (ints (List.replicate n 0)) 3)], [(bn, blk (ints (List.replicate n 0)) 3)], [(b1, blk [.int .i64 (n : Int), .slice A e.length cap] 59)]]) (fun ⟨bx, bat, bl, bn⟩ => True) ?_ ?_
 ·
  intro K2 kh2
  refine f_regionH [[(b1, blk [.int .i64 (n : Int), .slice A e.length cap] 59)]] rfl ?_
  refine f_take 0 rfl (by decide +kernel) rfl rfl rfl (by repeat (first | exact Sub.nil | refine Sub.pick ?_ | refine Sub.castO rfl ?_ | refine Sub.skip ?_)) (o_field fa59_0 rfl) ?_
  refine f_take 1 rfl (by decide +kernel) rfl rfl rfl (by repeat (first | exact Sub.nil | refine Sub.pick ?_ | refine Sub.castO rfl ?_ | refine Sub.skip ?_)) (o_load Try.isAgg3 rfl (rdA rfl)) ?_
  refine f_take 3 rfl (by decide +kernel) rfl rfl rfl (by repeat (first | exact Sub.nil | refine Sub.pick ?_ | refine Sub.castO rfl ?_ | refine Sub.skip ?_)) (o_field fa59_0 rfl) ?_
  refine f_take 4 rfl (by decide +kernel) rfl rfl rfl (by repeat (first | exact Sub.nil | refine Sub.pick ?_ | refine Sub.castO rfl ?_ | refine Sub.skip ?_)) (o_load Try.isAgg3 rfl (rdA rfl)) ?_
  refine f_take 6 rfl (by decide +kernel) rfl rfl rfl (by repeat (first | exact Sub.nil | refine Sub.pick ?_ | refine Sub.castO rfl ?_ | refine Sub.skip ?_)) (o_field fa59_0 rfl) ?_
  refine f_take 7 rfl (by decide +kernel) rfl rfl rfl (by repeat (first | exact Sub.nil | refine Sub.pick ?_ | refine Sub.castO rfl ?_ | refine Sub.skip ?_)) (o_load Try.isAgg3 rfl (rdA rfl)) ?_
  refine f_three 2 5 8 rfl rfl rfl (by decide +kernel) rfl rfl rfl rfl rfl rfl rfl rfl rfl ?_ ?_ ?_
  ·
   refine (o_make el77 rfl rfl n rfl (by omega) (by omega) (List.replicate n (.slice none 0 0)) (nils n) fun b8 => ⟨(by repeat (first | exact Sub.nil | refine Sub.pick ?_ | refine Sub.castO rfl ?_ | refine Sub.skip ?_)), ?_⟩)
   refine f_two 5 8 rfl rfl (by decide +kernel) rfl rfl rfl rfl rfl rfl ?_ ?_
   ·
    refine (o_make el35 rfl rfl n rfl (by omega) (by omega) (ints (List.replicate n 0)) (ints0 n) fun b11 => ⟨(by repeat (first | exact Sub.nil | refine Sub.pick ?_ | refine Sub.castO rfl ?_ | refine Sub.skip ?_)), ?_⟩)
    refine f_only 8 rfl (by decide +kernel) rfl rfl rfl (o_make el35 rfl rfl n rfl (by omega) (by omega) (ints (List.replicate n 0)) (ints0 n) fun b14 => ⟨(by repeat (first | exact Sub.nil | refine Sub.pick ?_ | refine Sub.castO rfl ?_ | refine Sub.skip ?_)), ?_⟩)
    refine f_take 9 rfl (by decide +kernel) rfl rfl rfl (by repeat (first | exact Sub.nil | refine Sub.pick ?_ | refine Sub.castO rfl ?_ | refine Sub.skip ?_)) (o_build (cs := dcells (.slice none 0 0) n b8 b11 b14) st95 rfl (by kernel_rfl)) ?_
    refine f_only 10 rfl (by decide +kernel) rfl rfl rfl (o_box rfl rfl fun b16 => ⟨(by repeat (first | exact Sub.nil | refine Sub.pick ?_ | refine Sub.castO rfl ?_ | refine Sub.skip ?_)), ?_⟩)
    refine f_only 11 rfl (by decide +kernel) rfl rfl rfl ((o_assign rfl).does ⟨(by repeat (first | exact Sub.nil | refine Sub.pick ?_ | refine Sub.castO rfl ?_ | refine Sub.skip ?_)), ?_⟩)
    refine f_over (by decide +kernel) ?_
    refine f_tn (kh2 _ _ (b16, b8, b11, b14) trivial ?_ ?_ ?_)
    · exact (by repeat (first | exact trivial | refine ⟨rfl, ?_⟩))
    · exact (by repeat (first | exact trivial | refine ⟨rfl, ?_⟩))
    · repeat (first | exact Sub.nil | refine Sub.pick ?_ | refine Sub.castO rfl ?_ | refine Sub.skip ?_)
   ·
    refine (o_make el35 rfl rfl n rfl (by omega) (by omega) (ints (List.replicate n 0)) (ints0 n) fun b14 => ⟨(by repeat (first | exact Sub.nil | refine Sub.pick ?_ | refine Sub.castO rfl ?_ | refine Sub.skip ?_)), ?_⟩)
    refine f_only 5 rfl (by decide +kernel) rfl rfl rfl (o_make el35 rfl rfl n rfl (by omega) (by omega) (ints (List.replicate n 0)) (ints0 n) fun b11 => ⟨(by repeat (first | exact Sub.nil | refine Sub.pick ?_ | refine Sub.castO rfl ?_ | refine Sub.skip ?_)), ?_⟩)
    refine f_take 9 rfl (by decide +kernel) rfl rfl rfl (by repeat (first | exact Sub.nil | refine Sub.pick ?_ | refine Sub.castO rfl ?_ | refine Sub.skip ?_)) (o_build (cs := dcells (.slice none 0 0) n b8 b11 b14) st95 rfl (by kernel_rfl)) ?_
    refine f_only 10 rfl (by decide +kernel) rfl rfl rfl (o_box rfl rfl fun b16 => ⟨(by repeat (first | exact Sub.nil | refine Sub.pick ?_ | refine Sub.castO rfl ?_ | refine Sub.skip ?_)), ?_⟩)
    refine f_only 11 rfl (by decide +kernel) rfl rfl rfl ((o_assign rfl).does ⟨(by repeat (first | exact Sub.nil | refine Sub.pick ?_ | refine Sub.castO rfl ?_ | refine Sub.skip ?_)), ?_⟩)
    refine f_over (by decide +kernel) ?_
    refine f_tn (kh2 _ _ (b16, b8, b11, b14) trivial ?_ ?_ ?_)
    · exact (by repeat (first | exact trivial | refine ⟨rfl, ?_⟩))
    · exact (by repeat (first | exact trivial | refine ⟨rfl, ?_⟩))
    · repeat (first | exact Sub.nil | refine Sub.pick ?_ | refine Sub.castO rfl ?_ | refine Sub.skip ?_)
  ·
   refine (o_make el35 rfl rfl n rfl (by omega) (by omega) (ints (List.replicate n 0)) (ints0 n) fun b11 => ⟨(by repeat (first | exact Sub.nil | refine Sub.pick ?_ | refine Sub.castO rfl ?_ | refine Sub.skip ?_)), ?_⟩)
   refine f_two 2 8 rfl rfl (by decide +kernel) rfl rfl rfl rfl rfl rfl ?_ ?_
   ·
    refine (o_make el77 rfl rfl n rfl (by omega) (by omega) (List.replicate n (.slice none 0 0)) (nils n) fun b8 => ⟨(by repeat (first | exact Sub.nil | refine Sub.pick ?_ | refine Sub.castO rfl ?_ | refine Sub.skip ?_)), ?_⟩)
    refine f_only 8 rfl (by decide +kernel) rfl rfl rfl (o_make el35 rfl rfl n rfl (by omega) (by omega) (ints (List.replicate n 0)) (ints0 n) fun b14 => ⟨(by repeat (first | exact Sub.nil | refine Sub.pick ?_ | refine Sub.castO rfl ?_ | refine Sub.skip ?_)), ?_⟩)
    refine f_take 9 rfl (by decide +kernel) rfl rfl rfl (by repeat (first | exact Sub.nil | refine Sub.pick ?_ | refine Sub.castO rfl ?_ | refine Sub.skip ?_)) (o_build (cs := dcells (.slice none 0 0) n b8 b11 b14) st95 rfl (by kernel_rfl)) ?_
    refine f_only 10 rfl (by decide +kernel) rfl rfl rfl (o_box rfl rfl fun b16 => ⟨(by repeat (first | exact Sub.nil | refine Sub.pick ?_ | refine Sub.castO rfl ?_ | refine Sub.skip ?_)), ?_⟩)
    refine f_only 11 rfl (by decide +kernel) rfl rfl rfl ((o_assign rfl).does ⟨(by repeat (first | exact Sub.nil | refine Sub.pick ?_ | refine Sub.castO rfl ?_ | refine Sub.skip ?_)), ?_⟩)
    refine f_over (by decide +kernel) ?_
    refine f_tn (kh2 _ _ (b16, b8, b11, b14) trivial ?_ ?_ ?_)
    · exact (by repeat (first | exact trivial | refine ⟨rfl, ?_⟩))
    · exact (by repeat (first | exact trivial | refine ⟨rfl, ?_⟩))
    · repeat (first | exact Sub.nil | refine Sub.pick ?_ | refine Sub.castO rfl ?_ | refine Sub.skip ?_)
   ·
    refine (o_make el35 rfl rfl n rfl (by omega) (by omega) (ints (List.replicate n 0)) (ints0 n) fun b14 => ⟨(by repeat (first | exact Sub.nil | refine Sub.pick ?_ | refine Sub.castO rfl ?_ | refine Sub.skip ?_)), ?_⟩)
    refine f_only 2 rfl (by decide +kernel) rfl rfl rfl (o_make el77 rfl rfl n rfl (by omega) (by omega) (List.replicate n (.slice none 0 0)) (nils n) fun b8 => ⟨(by repeat (first | exact Sub.nil | refine Sub.pick ?_ | refine Sub.castO rfl ?_ | refine Sub.skip ?_)), ?_⟩)
    refine f_take 9 rfl (by decide +kernel) rfl rfl rfl (by repeat (first | exact Sub.nil | refine Sub.pick ?_ | refine Sub.castO rfl ?_ | refine Sub.skip ?_)) (o_build (cs := dcells (.slice none 0 0) n b8 b11 b14) st95 rfl (by kernel_rfl)) ?_
    refine f_only 10 rfl (by decide +kernel) rfl rfl rfl (o_box rfl rfl fun b16 => ⟨(by repeat (first | exact Sub.nil | refine Sub.pick ?_ | refine Sub.castO rfl ?_ | refine Sub.skip ?_)), ?_⟩)
    refine f_only 11 rfl (by decide +kernel) rfl rfl rfl ((o_assign rfl).does ⟨(by repeat (first | exact Sub.nil | refine Sub.pick ?_ | refine Sub.castO rfl ?_ | refine Sub.skip ?_)), ?_⟩)
    refine f_over (by decide +kernel) ?_
    refine f_tn (kh2 _ _ (b16, b8, b11, b14) trivial ?_ ?_ ?_)
    · exact (by repeat (first | exact trivial | refine ⟨rfl, ?_⟩))
    · exact (by repeat (first | exact trivial | refine ⟨rfl, ?_⟩))
    · repeat (first | exact Sub.nil | refine Sub.pick ?_ | refine Sub.castO rfl ?_ | refine Sub.skip ?_)
  ·
   refine (o_make el35 rfl rfl n rfl (by omega) (by omega) (ints (List.replicate n 0)) (ints0 n) fun b14 => ⟨(by repeat (first | exact Sub.nil | refine Sub.pick ?_ | refine Sub.castO rfl ?_ | refine Sub.skip ?_)), ?_⟩)
   refine f_two 2 5 rfl rfl (by decide +kernel) rfl rfl rfl rfl rfl rfl ?_ ?_
   ·
    refine (o_make el77 rfl rfl n rfl (by omega) (by omega) (List.replicate n (.slice none 0 0)) (nils n) fun b8 => ⟨(by repeat (first | exact Sub.nil | refine Sub.pick ?_ | refine Sub.castO rfl ?_ | refine Sub.skip ?_)), ?_⟩)
    refine f_only 5 rfl (by decide +kernel) rfl rfl rfl (o_make el35 rfl rfl n rfl (by omega) (by omega) (ints (List.replicate n 0)) (ints0 n) fun b11 => ⟨(by repeat (first | exact Sub.nil | refine Sub.pick ?_ | refine Sub.castO rfl ?_ | refine Sub.skip ?_)), ?_⟩)
    refine f_take 9 rfl (by decide +kernel) rfl rfl rfl (by repeat (first | exact Sub.nil | refine Sub.pick ?_ | refine Sub.castO rfl ?_ | refine Sub.skip ?_)) (o_build (cs := dcells (.slice none 0 0) n b8 b11 b14) st95 rfl (by kernel_rfl)) ?_
    refine f_only 10 rfl (by decide +kernel) rfl rfl rfl (o_box rfl rfl fun b16 => ⟨(by repeat (first | exact Sub.nil | refine Sub.pick ?_ | refine Sub.castO rfl ?_ | refine Sub.skip ?_)), ?_⟩)
    refine f_only 11 rfl (by decide +kernel) rfl rfl rfl ((o_assign rfl).does ⟨(by repeat (first | exact Sub.nil | refine Sub.pick ?_ | refine Sub.castO rfl ?_ | refine Sub.skip ?_)), ?_⟩)
    refine f_over (by decide +kernel) ?_
    refine f_tn (kh2 _ _ (b16, b8, b11, b14) trivial ?_ ?_ ?_)
    · exact (by repeat (first | exact trivial | refine ⟨rfl, ?_⟩))
    · exact (by repeat (first | exact trivial | refine ⟨rfl, ?_⟩))
    · repeat (first | exact Sub.nil | refine Sub.pick ?_ | refine Sub.castO rfl ?_ | refine Sub.skip ?_)
   ·
    refine (o_make el35 rfl rfl n rfl (by omega) (by omega) (ints (List.replicate n 0)) (ints0 n) fun b11 => ⟨(by repeat (first | exact Sub.nil | refine Sub.pick ?_ | refine Sub.castO rfl ?_ | refine Sub.skip ?_)), ?_⟩)
    refine f_only 2 rfl (by decide +kernel) rfl rfl rfl (o_make el77 rfl rfl n rfl (by omega) (by omega) (List.replicate n (.slice none 0 0)) (nils n) fun b8 => ⟨(by repeat (first | exact Sub.nil | refine Sub.pick ?_ | refine Sub.castO rfl ?_ | refine Sub.skip ?_)), ?_⟩)
    refine f_take 9 rfl (by decide +kernel) rfl rfl rfl (by repeat (first | exact Sub.nil | refine Sub.pick ?_ | refine Sub.castO rfl ?_ | refine Sub.skip ?_)) (o_build (cs := dcells (.slice none 0 0) n b8 b11 b14) st95 rfl (by kernel_rfl)) ?_
    refine f_only 10 rfl (by decide +kernel) rfl rfl rfl (o_box rfl rfl fun b16 => ⟨(by repeat (first | exact Sub.nil | refine Sub.pick ?_ | refine Sub.castO rfl ?_ | refine Sub.skip ?_)), ?_⟩)
    refine f_only 11 rfl (by decide +kernel) rfl rfl rfl ((o_assign rfl).does ⟨(by repeat (first | exact Sub.nil | refine Sub.pick ?_ | refine Sub.castO rfl ?_ | refine Sub.skip ?_)), ?_⟩)
    refine f_over (by decide +kernel) ?_
    refine f_tn (kh2 _ _ (b16, b8, b11, b14) trivial ?_ ?_ ?_)
    · exact (by repeat (first | exact trivial | refine ⟨rfl, ?_⟩))
    · exact (by repeat (first | exact trivial | refine ⟨rfl, ?_⟩))
    · repeat (first | exact Sub.nil | refine Sub.pick ?_ | refine Sub.castO rfl ?_ | refine Sub.skip ?_)
 ·
  rintro ⟨bx, bat, bl, bn⟩ _
  refine f_seq fun K3 kh3 => ?_
  refine f_seq fun K4 kh4 => ?_
  refine f_region ?_
  refine f_stepP rfl rfl rfl (o_field fa59_1 rfl) ?_
  refine f_stepP rfl rfl rfl (o_load Try.isAgg57 rfl (rdA rfl)) ?_
  refine f_stepP rfl rfl rfl (o_len sl57 rfl) ?_
  refine f_stepP rfl rfl rfl (o_move rfl) ?_
  refine f_done ?_
  refine f_tn (kh4 _ _ ?_)
  clear kh4
  refine f_block ?_
  refine f_loop (α := Nat × Value × Seg × List Value × List Seg) [3, 18, 19] (fun ⟨i, ve, me, vs, ms⟩ => [(20, .int .i64 (i : Int))]) (fun ⟨i, ve, me, vs, ms⟩ => [[(bx, blk (dcells ve n bat bl bn) 95)], me, [(bat, blk vs 35)], ms.flatten, [(bl, blk (ints (List.replicate n 0)) 3)], [(bn, blk (ints (List.replicate n 0)) 3)], [(b1, blk [.int .i64 (n : Int), .slice A e.length cap] 59)]]) (fun ⟨i, ve, me, vs, ms⟩ => i ≤ e.length ∧ Own 117 4 ve i (ecells (e.take i) (List.replicate i 0)) me ∧ RowsI 3 (kRows e n (2 * i)) vs ms) (fun ⟨i, ve, me, vs, ms⟩ => e.length - i) (0, .slice none 0 0, [], List.replicate n (.slice none 0 0), List.replicate n []) ?_ ?_ ?_ ?_
  · exact (by repeat (first | exact trivial | refine ⟨rfl, ?_⟩))
  · dsimp only
    rw [show (List.replicate n ([] : Seg)).flatten = [] from by simp]
    repeat (first | exact Sub.nil | refine Sub.pick ?_ | refine Sub.castO rfl ?_ | refine Sub.skip ?_)
  · exact ⟨Nat.zero_le _, Own.nil _ _, by rw [kRows_zero]; exact RowsI.start _ n⟩
  ·
   rintro ⟨i, ve, me, vs, ms⟩ ⟨hie, hE, hR⟩
   refine f_envC (e := [(20, _), (3, _), (18, _), (19, _)]) (by repeat (first | exact trivial | refine ⟨rfl, ?_⟩)) ?_
   refine f_seq fun K5 kh5 => ?_
   refine f_region ?_
   refine f_stepP rfl rfl rfl (o_lss rfl rfl) ?_
   refine f_done ?_
   refine f_tn (kh5 _ _ ?_)
   clear kh5
   refine f_seq fun K6 kh6 => ?_
   refine f_cond rfl (fun c21 => ?_) (fun c21 => ?_)
   ·
    refine f_skip ?_
    refine f_tn (kh6 _ _ ?_)
    clear kh6
    refine f_seq fun K7 kh7 => ?_
    refine f_block ?_
    refine f_seq fun K8 kh8 => ?_
    refine f_region ?_
    refine f_stepP rfl rfl rfl (o_move rfl) ?_
    have hi : i < e.length := by omega
    obtain ⟨bl', off, rfl, hS, hc⟩ := hr (flat_ne arcCs arcCs_len (by omega) hi)
    have hgi := hn.good i hi
    have hat := arcAt_eq hi
    have hk0 : kfrom e (2 * i) < n := by rw [kfrom_even, hat]; omega
    have hk1 : kfrom e (2 * i + 1) < n := by rw [kfrom_odd, hat]; omega
    have hs0 : e[i].src = ((kfrom e (2 * i) : Nat) : Int) := by rw [kfrom_even, hat]; omega
    have hs1 : e[i].dst = ((kfrom e (2 * i + 1) : Nat) : Int) := by rw [kfrom_odd, hat]; omega
    refine f_stepP rfl rfl rfl (o_idx sl57 rfl rfl (off + i * 3) ⟨by omega, by omega, by first | omega | (simp; done) | (simp; omega)⟩) ?_
    refine f_stepP rfl rfl rfl (o_loadA (vs := arcCs e[i]) Try.isAgg62 Try.sizeOf62 rfl rfl (roElem arcCs_len hS hc hi)) ?_
    refine f_step rfl rfl rfl (o_alloc Try.zeroValue62 rfl fun b5 => ?_)
    refine f_stepP rfl rfl rfl (o_assign rfl) ?_
    refine f_step0 rfl rfl (o_storeA Try.sizeOf62 rfl rfl rfl rfl (by first | exact Nat.le_of_ble_eq_true rfl | (simp; done) | (simp; omega)) (arcCs e[i]) rfl ?_)
    refine f_done ?_
    refine f_tn (kh8 _ _ ?_)
    clear kh8
    refine f_meet (α := Value × Seg) [3, 4, 5, 18, 19, 20] (fun ⟨v40, m40⟩ => []) (fun ⟨v40, m40⟩ => [[(bx, blk (dcells v40 n bat bl bn) 95)], m40, [(bat, blk vs 35)], ms.flatten, [(bl, blk (ints (List.replicate n 0)) 3)], [(bn, blk (ints (List.replicate n 0)) 3)], [(b5, blk (arcCs e[i]) 62)], [(b1, blk [.int .i64 (n : Int), .slice (some ⟨bl', off, none⟩) e.length cap] 59)]]) (fun ⟨v40, m40⟩ => Own 117 4 v40 (i + 1) (ecells (e.take i) (List.replicate i 0) ++ [.int .i64 e[i].src, .int .i64 e[i].dst, .int .u32 e[i].wt, .int .u32 0]) m40) ?_ ?_
    ·
     intro K9 kh9
     refine f_regionH [[(b5, blk (arcCs e[i]) 62)]] rfl ?_
     refine f_take 0 rfl (by decide +kernel) rfl rfl rfl (by repeat (first | exact Sub.nil | refine Sub.pick ?_ | refine Sub.castO rfl ?_ | refine Sub.skip ?_)) (o_move rfl) ?_
     refine f_take 1 rfl (by decide +kernel) rfl rfl rfl (by repeat (first | exact Sub.nil | refine Sub.pick ?_ | refine Sub.castO rfl ?_ | refine Sub.skip ?_)) (o_move rfl) ?_
     refine f_take 2 rfl (by decide +kernel) rfl rfl rfl (by repeat (first | exact Sub.nil | refine Sub.pick ?_ | refine Sub.castO rfl ?_ | refine Sub.skip ?_)) (o_nil rfl) ?_
     refine f_take 3 rfl (by decide +kernel) rfl rfl rfl (by repeat (first | exact Sub.nil | refine Sub.pick ?_ | refine Sub.castO rfl ?_ | refine Sub.skip ?_)) (o_field fa95_0 rfl) ?_
     refine f_take 5 rfl (by decide +kernel) rfl rfl rfl (by repeat (first | exact Sub.nil | refine Sub.pick ?_ | refine Sub.castO rfl ?_ | refine Sub.skip ?_)) (o_field fa62_0 rfl) ?_
     refine f_take 6 rfl (by decide +kernel) rfl rfl rfl (by repeat (first | exact Sub.nil | refine Sub.pick ?_ | refine Sub.castO rfl ?_ | refine Sub.skip ?_)) (o_load Try.isAgg3 rfl (rdA rfl)) ?_
     refine f_take 7 rfl (by decide +kernel) rfl rfl rfl (by repeat (first | exact Sub.nil | refine Sub.pick ?_ | refine Sub.castO rfl ?_ | refine Sub.skip ?_)) (o_field fa62_1 rfl) ?_
     refine f_take 8 rfl (by decide +kernel) rfl rfl rfl (by repeat (first | exact Sub.nil | refine Sub.pick ?_ | refine Sub.castO rfl ?_ | refine Sub.skip ?_)) (o_load Try.isAgg3 rfl (rdA rfl)) ?_
     refine f_take 9 rfl (by decide +kernel) rfl rfl rfl (by repeat (first | exact Sub.nil | refine Sub.pick ?_ | refine Sub.castO rfl ?_ | refine Sub.skip ?_)) (o_buildA (cs := [.int .i64 e[i].src, .int .i64 e[i].dst]) ar114 rfl (by kernel_rfl)) ?_
     refine f_take 10 rfl (by decide +kernel) rfl rfl rfl (by repeat (first | exact Sub.nil | refine Sub.pick ?_ | refine Sub.castO rfl ?_ | refine Sub.skip ?_)) (o_field fa62_2 rfl) ?_
     refine f_take 11 rfl (by decide +kernel) rfl rfl rfl (by repeat (first | exact Sub.nil | refine Sub.pick ?_ | refine Sub.castO rfl ?_ | refine Sub.skip ?_)) (o_load Try.isAgg53 rfl (rdA rfl)) ?_
     refine f_take 12 rfl (by decide +kernel) rfl rfl rfl (by repeat (first | exact Sub.nil | refine Sub.pick ?_ | refine Sub.castO rfl ?_ | refine Sub.skip ?_)) (o_buildA (cs := [.int .u32 e[i].wt, .int .u32 0]) ar115 rfl (by kernel_rfl)) ?_
     refine f_take 13 rfl (by decide +kernel) rfl rfl rfl (by repeat (first | exact Sub.nil | refine Sub.pick ?_ | refine Sub.castO rfl ?_ | refine Sub.skip ?_)) (o_build (cs := [.int .i64 e[i].src, .int .i64 e[i].dst, .int .u32 e[i].wt, .int .u32 0]) st117 rfl (by kernel_rfl)) ?_
     refine f_two 4 14 rfl rfl (by decide +kernel) rfl rfl rfl rfl rfl rfl ?_ ?_
     ·
      refine (o_load Try.isAgg93 rfl (rdA rfl)).does ⟨(by repeat (first | exact Sub.nil | refine Sub.pick ?_ | refine Sub.castO rfl ?_ | refine Sub.skip ?_)), ?_⟩
      refine f_only 14 rfl (by decide +kernel) rfl rfl rfl (o_slice1 el93 (by omega) rfl rfl rfl fun b39 => ⟨(by repeat (first | exact Sub.nil | refine Sub.pick ?_ | refine Sub.castO rfl ?_ | refine Sub.skip ?_)), ?_⟩)
      refine f_only 15 rfl (by decide +kernel) rfl rfl rfl (o_append el93 rfl rfl hE (ys := [.int .i64 e[i].src, .int .i64 e[i].dst, .int .u32 e[i].wt, .int .u32 0]) ⟨(rdA rfl), (rdA rfl), (rdA rfl), (rdA rfl), trivial⟩ rfl rfl (by omega) (by omega) fun v40 m40 o40 => ⟨(by repeat (first | exact Sub.nil | refine Sub.pick ?_ | refine Sub.castO rfl ?_ | refine Sub.skip ?_)), ?_⟩)
      obtain ⟨A40, cap40, rfl, _⟩ := o40.val
      refine f_take 16 rfl (by decide +kernel) rfl rfl rfl (by repeat (first | exact Sub.nil | refine Sub.pick ?_ | refine Sub.castO rfl ?_ | refine Sub.skip ?_)) (o_nil rfl) ?_
      refine f_take 17 rfl (by decide +kernel) rfl rfl rfl (by repeat (first | exact Sub.nil | refine Sub.pick ?_ | refine Sub.castO rfl ?_ | refine Sub.skip ?_)) (o_field fa95_0 rfl) ?_
      refine f_only0 18 rfl (by decide +kernel) rfl rfl (o_store Try.sizeOf93 rfl rfl rfl rfl (by first | exact Nat.le_of_ble_eq_true rfl | (simp; done) | (simp; omega)) (dcells (.slice A40 (i + 1) cap40) n bat bl bn) rfl ⟨(by repeat (first | exact Sub.nil | refine Sub.pick ?_ | refine Sub.castO rfl ?_ | refine Sub.skip ?_)), ?_⟩)
      refine f_over (by decide +kernel) ?_
      refine f_tn (kh9 _ _ (.slice A40 (i + 1) cap40, m40) o40 ?_ ?_ ?_)
      · exact (by repeat (first | exact trivial | refine ⟨rfl, ?_⟩))
      · exact (by repeat (first | exact trivial | refine ⟨rfl, ?_⟩))
      · repeat (first | exact Sub.nil | refine Sub.pick ?_ | refine Sub.castO rfl ?_ | refine Sub.skip ?_)
     ·
      refine (o_slice1 el93 (by omega) rfl rfl rfl fun b39 => ⟨(by repeat (first | exact Sub.nil | refine Sub.pick ?_ | refine Sub.castO rfl ?_ | refine Sub.skip ?_)), ?_⟩)
      refine f_only 4 rfl (by decide +kernel) rfl rfl rfl ((o_load Try.isAgg93 rfl (rdA rfl)).does ⟨(by repeat (first | exact Sub.nil | refine Sub.pick ?_ | refine Sub.castO rfl ?_ | refine Sub.skip ?_)), ?_⟩)
      refine f_only 15 rfl (by decide +kernel) rfl rfl rfl (o_append el93 rfl rfl hE (ys := [.int .i64 e[i].src, .int .i64 e[i].dst, .int .u32 e[i].wt, .int .u32 0]) ⟨(rdA rfl), (rdA rfl), (rdA rfl), (rdA rfl), trivial⟩ rfl rfl (by omega) (by omega) fun v40 m40 o40 => ⟨(by repeat (first | exact Sub.nil | refine Sub.pick ?_ | refine Sub.castO rfl ?_ | refine Sub.skip ?_)), ?_⟩)
      obtain ⟨A40, cap40, rfl, _⟩ := o40.val
      refine f_take 16 rfl (by decide +kernel) rfl rfl rfl (by repeat (first | exact Sub.nil | refine Sub.pick ?_ | refine Sub.castO rfl ?_ | refine Sub.skip ?_)) (o_nil rfl) ?_
      refine f_take 17 rfl (by decide +kernel) rfl rfl rfl (by repeat (first | exact Sub.nil | refine Sub.pick ?_ | refine Sub.castO rfl ?_ | refine Sub.skip ?_)) (o_field fa95_0 rfl) ?_
      refine f_only0 18 rfl (by decide +kernel) rfl rfl (o_store Try.sizeOf93 rfl rfl rfl rfl (by first | exact Nat.le_of_ble_eq_true rfl | (simp; done) | (simp; omega)) (dcells (.slice A40 (i + 1) cap40) n bat bl bn) rfl ⟨(by repeat (first | exact Sub.nil | refine Sub.pick ?_ | refine Sub.castO rfl ?_ | refine Sub.skip ?_)), ?_⟩)
      refine f_over (by decide +kernel) ?_
      refine f_tn (kh9 _ _ (.slice A40 (i + 1) cap40, m40) o40 ?_ ?_ ?_)
      · exact (by repeat (first | exact trivial | refine ⟨rfl, ?_⟩))
      · exact (by repeat (first | exact trivial | refine ⟨rfl, ?_⟩))
      · repeat (first | exact Sub.nil | refine Sub.pick ?_ | refine Sub.castO rfl ?_ | refine Sub.skip ?_)
    ·
     rintro ⟨v40, m40⟩ o40
     obtain ⟨rv, rm, rG, hrv, hro, hrp, hput⟩ := hR.split (i := kfrom e (2 * i)) (by rw [kRows_len]; omega)
     rw [kRows_get] at hro
     have hrlen := kRow_len e (2 * i) (kfrom e (2 * i))
     obtain ⟨Ar, cr, rfl, hcr⟩ := hro.val
     refine f_subC (Sub.splitF hrp) ?_
     refine f_meet (α := Value × Seg) [3, 4, 5, 18, 19, 20] (fun ⟨v60, m60⟩ => []) (fun ⟨v60, m60⟩ => [[(bx, blk (dcells v40 n bat bl bn) 95)], m40, [(bat, blk (vs.set (kfrom e (2 * i)) v60) 35)], m60, rG, [(bl, blk (ints (List.replicate n 0)) 3)], [(bn, blk (ints (List.replicate n 0)) 3)], [(b5, blk (arcCs e[i]) 62)], [(b1, blk [.int .i64 (n : Int), .slice (some ⟨bl', off, none⟩) e.length cap] 59)]]) (fun ⟨v60, m60⟩ => Own 3 1 v60 ((kRow e (2 * i) (kfrom e (2 * i))).length + 1) (ints (kRow e (2 * i) (kfrom e (2 * i))) ++ [.int .i64 ((2 * i : Nat) : Int)]) m60) ?_ ?_
     ·
      intro K10 kh10
      refine f_regionH [[(bx, blk (dcells v40 n bat bl bn) 95)], [(b5, blk (arcCs e[i]) 62)]] rfl ?_
      refine f_take 0 rfl (by decide +kernel) rfl rfl rfl (by repeat (first | exact Sub.nil | refine Sub.pick ?_ | refine Sub.castO rfl ?_ | refine Sub.skip ?_)) (o_move rfl) ?_
      refine f_take 1 rfl (by decide +kernel) rfl rfl rfl (by repeat (first | exact Sub.nil | refine Sub.pick ?_ | refine Sub.castO rfl ?_ | refine Sub.skip ?_)) (o_nil rfl) ?_
      refine f_take 2 rfl (by decide +kernel) rfl rfl rfl (by repeat (first | exact Sub.nil | refine Sub.pick ?_ | refine Sub.castO rfl ?_ | refine Sub.skip ?_)) (o_field fa95_1 rfl) ?_
      refine f_take 3 rfl (by decide +kernel) rfl rfl rfl (by repeat (first | exact Sub.nil | refine Sub.pick ?_ | refine Sub.castO rfl ?_ | refine Sub.skip ?_)) (o_load Try.isAgg77 rfl (rdA rfl)) ?_
      refine f_take 4 rfl (by decide +kernel) rfl rfl rfl (by repeat (first | exact Sub.nil | refine Sub.pick ?_ | refine Sub.castO rfl ?_ | refine Sub.skip ?_)) (o_field fa62_0 rfl) ?_
      refine f_take 5 rfl (by decide +kernel) rfl rfl rfl (by repeat (first | exact Sub.nil | refine Sub.pick ?_ | refine Sub.castO rfl ?_ | refine Sub.skip ?_)) (o_load Try.isAgg3 rfl (rdA rfl)) ?_
      refine f_take 6 rfl (by decide +kernel) rfl rfl rfl (by repeat (first | exact Sub.nil | refine Sub.pick ?_ | refine Sub.castO rfl ?_ | refine Sub.skip ?_)) (o_move rfl) ?_
      refine f_take 7 rfl (by decide +kernel) rfl rfl rfl (by repeat (first | exact Sub.nil | refine Sub.pick ?_ | refine Sub.castO rfl ?_ | refine Sub.skip ?_)) (o_nil rfl) ?_
      refine f_take 8 rfl (by decide +kernel) rfl rfl rfl (by repeat (first | exact Sub.nil | refine Sub.pick ?_ | refine Sub.castO rfl ?_ | refine Sub.skip ?_)) (o_field fa95_1 rfl) ?_
      refine f_take 9 rfl (by decide +kernel) rfl rfl rfl (by repeat (first | exact Sub.nil | refine Sub.pick ?_ | refine Sub.castO rfl ?_ | refine Sub.skip ?_)) (o_load Try.isAgg77 rfl (rdA rfl)) ?_
      refine f_take 10 rfl (by decide +kernel) rfl rfl rfl (by repeat (first | exact Sub.nil | refine Sub.pick ?_ | refine Sub.castO rfl ?_ | refine Sub.skip ?_)) (o_field fa62_0 rfl) ?_
      refine f_take 11 rfl (by decide +kernel) rfl rfl rfl (by repeat (first | exact Sub.nil | refine Sub.pick ?_ | refine Sub.castO rfl ?_ | refine Sub.skip ?_)) (o_load Try.isAgg3 rfl (rdA rfl)) ?_
      refine f_take 12 rfl (by decide +kernel) rfl rfl rfl (by repeat (first | exact Sub.nil | refine Sub.pick ?_ | refine Sub.castO rfl ?_ | refine Sub.skip ?_)) (o_idx sl77 rfl rfl (kfrom e (2 * i)) ⟨by omega, by omega, by first | omega | (simp; done) | (simp; omega)⟩) ?_
      refine f_take 14 rfl (by decide +kernel) rfl rfl rfl (by repeat (first | exact Sub.nil | refine Sub.pick ?_ | refine Sub.castO rfl ?_ | refine Sub.skip ?_)) (o_move rfl) ?_
      refine f_take 15 rfl (by decide +kernel) rfl rfl rfl (by repeat (first | exact Sub.nil | refine Sub.pick ?_ | refine Sub.castO rfl ?_ | refine Sub.skip ?_)) (o_mul rfl rfl _ (show IntKind.i64.wrap (2 * (i : Int)) = ((2 * i : Nat) : Int) from by rw [wrap_i64 (by omega)]; omega)) ?_
      refine f_two 13 16 rfl rfl (by decide +kernel) rfl rfl rfl rfl rfl rfl ?_ ?_
      ·
       refine (o_load Try.isAgg35 rfl (rdA hrv)).does ⟨(by repeat (first | exact Sub.nil | refine Sub.pick ?_ | refine Sub.castO rfl ?_ | refine Sub.skip ?_)), ?_⟩
       refine f_only 16 rfl (by decide +kernel) rfl rfl rfl (o_slice1 el35 (by omega) rfl rfl rfl fun b59 => ⟨(by repeat (first | exact Sub.nil | refine Sub.pick ?_ | refine Sub.castO rfl ?_ | refine Sub.skip ?_)), ?_⟩)
       refine f_only 17 rfl (by decide +kernel) rfl rfl rfl (o_append el35 rfl rfl hro (ys := [.int .i64 ((2 * i : Nat) : Int)]) ⟨(rdA rfl), trivial⟩ rfl rfl (by omega) (by omega) fun v60 m60 o60 => ⟨(by repeat (first | exact Sub.nil | refine Sub.pick ?_ | refine Sub.castO rfl ?_ | refine Sub.skip ?_)), ?_⟩)
       obtain ⟨A60, cap60, rfl, _⟩ := o60.val
       refine f_take 18 rfl (by decide +kernel) rfl rfl rfl (by repeat (first | exact Sub.nil | refine Sub.pick ?_ | refine Sub.castO rfl ?_ | refine Sub.skip ?_)) (o_idx sl77 rfl rfl (kfrom e (2 * i)) ⟨by omega, by omega, by first | omega | (simp; done) | (simp; omega)⟩) ?_
       refine f_only0 19 rfl (by decide +kernel) rfl rfl (o_store Try.sizeOf35 rfl rfl rfl rfl (by have := hR.lv; rw [kRows_len] at this; omega) (vs.set (kfrom e (2 * i)) (.slice A60 ((kRow e (2 * i) (kfrom e (2 * i))).length + 1) cap60)) rfl ⟨(by repeat (first | exact Sub.nil | refine Sub.pick ?_ | refine Sub.castO rfl ?_ | refine Sub.skip ?_)), ?_⟩)
       refine f_over (by decide +kernel) ?_
       refine f_tn (kh10 _ _ (.slice A60 ((kRow e (2 * i) (kfrom e (2 * i))).length + 1) cap60, m60) o60 ?_ ?_ ?_)
       · exact (by repeat (first | exact trivial | refine ⟨rfl, ?_⟩))
       · exact (by repeat (first | exact trivial | refine ⟨rfl, ?_⟩))
       · repeat (first | exact Sub.nil | refine Sub.pick ?_ | refine Sub.castO rfl ?_ | refine Sub.skip ?_)
      ·
       refine (o_slice1 el35 (by omega) rfl rfl rfl fun b59 => ⟨(by repeat (first | exact Sub.nil | refine Sub.pick ?_ | refine Sub.castO rfl ?_ | refine Sub.skip ?_)), ?_⟩)
       refine f_only 13 rfl (by decide +kernel) rfl rfl rfl ((o_load Try.isAgg35 rfl (rdA hrv)).does ⟨(by repeat (first | exact Sub.nil | refine Sub.pick ?_ | refine Sub.castO rfl ?_ | refine Sub.skip ?_)), ?_⟩)
       refine f_only 17 rfl (by decide +kernel) rfl rfl rfl (o_append el35 rfl rfl hro (ys := [.int .i64 ((2 * i : Nat) : Int)]) ⟨(rdA rfl), trivial⟩ rfl rfl (by omega) (by omega) fun v60 m60 o60 => ⟨(by repeat (first | exact Sub.nil | refine Sub.pick ?_ | refine Sub.castO rfl ?_ | refine Sub.skip ?_)), ?_⟩)
       obtain ⟨A60, cap60, rfl, _⟩ := o60.val
       refine f_take 18 rfl (by decide +kernel) rfl rfl rfl (by repeat (first | exact Sub.nil | refine Sub.pick ?_ | refine Sub.castO rfl ?_ | refine Sub.skip ?_)) (o_idx sl77 rfl rfl (kfrom e (2 * i)) ⟨by omega, by omega, by first | omega | (simp; done) | (simp; omega)⟩) ?_
       refine f_only0 19 rfl (by decide +kernel) rfl rfl (o_store Try.sizeOf35 rfl rfl rfl rfl (by have := hR.lv; rw [kRows_len] at this; omega) (vs.set (kfrom e (2 * i)) (.slice A60 ((kRow e (2 * i) (kfrom e (2 * i))).length + 1) cap60)) rfl ⟨(by repeat (first | exact Sub.nil | refine Sub.pick ?_ | refine Sub.castO rfl ?_ | refine Sub.skip ?_)), ?_⟩)
       refine f_over (by decide +kernel) ?_
       refine f_tn (kh10 _ _ (.slice A60 ((kRow e (2 * i) (kfrom e (2 * i))).length + 1) cap60, m60) o60 ?_ ?_ ?_)
       · exact (by repeat (first | exact trivial | refine ⟨rfl, ?_⟩))
       · exact (by repeat (first | exact trivial | refine ⟨rfl, ?_⟩))
       · repeat (first | exact Sub.nil | refine Sub.pick ?_ | refine Sub.castO rfl ?_ | refine Sub.skip ?_)
     ·
      rintro ⟨v60, m60⟩ o60
      have hR2 := (hput _ _ _ (by rw [← ints_len1]; exact o60)).1
      rw [kRows_next hk0] at hR2
      refine f_subC (Sub.joinF (m := m60) (G' := rG) (hput _ _ _ (by rw [← ints_len1]; exact o60)).2) ?_
      obtain ⟨rv, rm, rG, hrv, hro, hrp, hput⟩ := hR2.split (i := kfrom e (2 * i + 1)) (by rw [kRows_len]; omega)
      rw [kRows_get] at hro
      have hrlen := kRow_len e (2 * i + 1) (kfrom e (2 * i + 1))
      obtain ⟨Ar, cr, rfl, hcr⟩ := hro.val
      refine f_subC (Sub.splitF hrp) ?_
      refine f_regionH [[(bx, blk (dcells v40 n bat bl bn) 95)], [(b5, blk (arcCs e[i]) 62)]] rfl ?_
      refine f_take 0 rfl (by decide +kernel) rfl rfl rfl (by repeat (first | exact Sub.nil | refine Sub.pick ?_ | refine Sub.castO rfl ?_ | refine Sub.skip ?_)) (o_move rfl) ?_
      refine f_take 1 rfl (by decide +kernel) rfl rfl rfl (by repeat (first | exact Sub.nil | refine Sub.pick ?_ | refine Sub.castO rfl ?_ | refine Sub.skip ?_)) (o_nil rfl) ?_
      refine f_take 2 rfl (by decide +kernel) rfl rfl rfl (by repeat (first | exact Sub.nil | refine Sub.pick ?_ | refine Sub.castO rfl ?_ | refine Sub.skip ?_)) (o_field fa95_1 rfl) ?_
      refine f_take 3 rfl (by decide +kernel) rfl rfl rfl (by repeat (first | exact Sub.nil | refine Sub.pick ?_ | refine Sub.castO rfl ?_ | refine Sub.skip ?_)) (o_load Try.isAgg77 rfl (rdA rfl)) ?_
      refine f_take 4 rfl (by decide +kernel) rfl rfl rfl (by repeat (first | exact Sub.nil | refine Sub.pick ?_ | refine Sub.castO rfl ?_ | refine Sub.skip ?_)) (o_field fa62_1 rfl) ?_
      refine f_take 5 rfl (by decide +kernel) rfl rfl rfl (by repeat (first | exact Sub.nil | refine Sub.pick ?_ | refine Sub.castO rfl ?_ | refine Sub.skip ?_)) (o_load Try.isAgg3 rfl (rdA rfl)) ?_
      refine f_take 6 rfl (by decide +kernel) rfl rfl rfl (by repeat (first | exact Sub.nil | refine Sub.pick ?_ | refine Sub.castO rfl ?_ | refine Sub.skip ?_)) (o_move rfl) ?_
      refine f_take 7 rfl (by decide +kernel) rfl rfl rfl (by repeat (first | exact Sub.nil | refine Sub.pick ?_ | refine Sub.castO rfl ?_ | refine Sub.skip ?_)) (o_nil rfl) ?_
      refine f_take 8 rfl (by decide +kernel) rfl rfl rfl (by repeat (first | exact Sub.nil | refine Sub.pick ?_ | refine Sub.castO rfl ?_ | refine Sub.skip ?_)) (o_field fa95_1 rfl) ?_
      refine f_take 9 rfl (by decide +kernel) rfl rfl rfl (by repeat (first | exact Sub.nil | refine Sub.pick ?_ | refine Sub.castO rfl ?_ | refine Sub.skip ?_)) (o_load Try.isAgg77 rfl (rdA rfl)) ?_
      refine f_take 10 rfl (by decide +kernel) rfl rfl rfl (by repeat (first | exact Sub.nil | refine Sub.pick ?_ | refine Sub.castO rfl ?_ | refine Sub.skip ?_)) (o_field fa62_1 rfl) ?_
      refine f_take 11 rfl (by decide +kernel) rfl rfl rfl (by repeat (first | exact Sub.nil | refine Sub.pick ?_ | refine Sub.castO rfl ?_ | refine Sub.skip ?_)) (o_load Try.isAgg3 rfl (rdA rfl)) ?_
      refine f_take 12 rfl (by decide +kernel) rfl rfl rfl (by repeat (first | exact Sub.nil | refine Sub.pick ?_ | refine Sub.castO rfl ?_ | refine Sub.skip ?_)) (o_idx sl77 rfl rfl (kfrom e (2 * i + 1)) ⟨by omega, by omega, by first | omega | (simp; done) | (simp; omega)⟩) ?_
      refine f_take 14 rfl (by decide +kernel) rfl rfl rfl (by repeat (first | exact Sub.nil | refine Sub.pick ?_ | refine Sub.castO rfl ?_ | refine Sub.skip ?_)) (o_move rfl) ?_
      refine f_take 15 rfl (by decide +kernel) rfl rfl rfl (by repeat (first | exact Sub.nil | refine Sub.pick ?_ | refine Sub.castO rfl ?_ | refine Sub.skip ?_)) (o_mul rfl rfl _ (show IntKind.i64.wrap (2 * (i : Int)) = ((2 * i : Nat) : Int) from by rw [wrap_i64 (by omega)]; omega)) ?_
      refine f_take 16 rfl (by decide +kernel) rfl rfl rfl (by repeat (first | exact Sub.nil | refine Sub.pick ?_ | refine Sub.castO rfl ?_ | refine Sub.skip ?_)) (o_add rfl rfl _ (show IntKind.i64.wrap (((2 * i : Nat) : Int) + 1) = ((2 * i + 1 : Nat) : Int) from by rw [wrap_i64 (by omega)]; omega)) ?_
      refine f_two 13 17 rfl rfl (by decide +kernel) rfl rfl rfl rfl rfl rfl ?_ ?_
      ·
       refine (o_load Try.isAgg35 rfl (rdA hrv)).does ⟨(by repeat (first | exact Sub.nil | refine Sub.pick ?_ | refine Sub.castO rfl ?_ | refine Sub.skip ?_)), ?_⟩
       refine f_only 17 rfl (by decide +kernel) rfl rfl rfl (o_slice1 el35 (by omega) rfl rfl rfl fun b79 => ⟨(by repeat (first | exact Sub.nil | refine Sub.pick ?_ | refine Sub.castO rfl ?_ | refine Sub.skip ?_)), ?_⟩)
       refine f_only 18 rfl (by decide +kernel) rfl rfl rfl (o_append el35 rfl rfl hro (ys := [.int .i64 ((2 * i + 1 : Nat) : Int)]) ⟨(rdA rfl), trivial⟩ rfl rfl (by omega) (by omega) fun v80 m80 o80 => ⟨(by repeat (first | exact Sub.nil | refine Sub.pick ?_ | refine Sub.castO rfl ?_ | refine Sub.skip ?_)), ?_⟩)
       obtain ⟨A80, cap80, rfl, _⟩ := o80.val
       refine f_take 19 rfl (by decide +kernel) rfl rfl rfl (by repeat (first | exact Sub.nil | refine Sub.pick ?_ | refine Sub.castO rfl ?_ | refine Sub.skip ?_)) (o_idx sl77 rfl rfl (kfrom e (2 * i + 1)) ⟨by omega, by omega, by first | omega | (simp; done) | (simp; omega)⟩) ?_
       refine f_only0 20 rfl (by decide +kernel) rfl rfl (o_store Try.sizeOf35 rfl rfl rfl rfl (by have := hR.lv; rw [kRows_len] at this; rw [List.length_set]; omega) ((vs.set (kfrom e (2 * i)) v60).set (kfrom e (2 * i + 1)) (.slice A80 ((kRow e (2 * i + 1) (kfrom e (2 * i + 1))).length + 1) cap80)) rfl ⟨(by repeat (first | exact Sub.nil | refine Sub.pick ?_ | refine Sub.castO rfl ?_ | refine Sub.skip ?_)), ?_⟩)
       refine f_over (by decide +kernel) ?_
       refine f_bn ?_
       refine f_tn (kh7 _ _ ?_)
       clear kh7
       refine f_region ?_
       refine f_stepP rfl rfl rfl (o_add rfl rfl _ (wrap_i64 (by omega))) ?_
       refine f_stepP rfl rfl rfl (o_move rfl) ?_
       refine f_done ?_
       refine f_subQ (Sub.joinF (m := m80) (G' := rG) (hput _ _ _ (by rw [← ints_len1]; exact o80)).2) ?_
       refine f_tn (f_again (i + 1, v40, m40, (vs.set (kfrom e (2 * i)) v60).set (kfrom e (2 * i + 1)) (.slice A80 ((kRow e (2 * i + 1) (kfrom e (2 * i + 1))).length + 1) cap80), (ms.set (kfrom e (2 * i)) m60).set (kfrom e (2 * i + 1)) m80) (by first | omega | (dsimp only; omega) | (simp; omega)) ⟨by omega, by rw [ecells_snoc hi]; exact o40, by
         have := (hput _ _ _ (by rw [← ints_len1]; exact o80)).1
         rw [kRows_next hk1] at this; exact this⟩ ?_ ?_ ?_)
       · exact (by repeat (first | exact trivial | refine ⟨rfl, ?_⟩))
       · exact (by repeat (first | exact trivial | refine ⟨rfl, ?_⟩))
       · repeat (first | exact Sub.nil | refine Sub.pick ?_ | refine Sub.castO rfl ?_ | refine Sub.skip ?_)
      ·
       refine (o_slice1 el35 (by omega) rfl rfl rfl fun b79 => ⟨(by repeat (first | exact Sub.nil | refine Sub.pick ?_ | refine Sub.castO rfl ?_ | refine Sub.skip ?_)), ?_⟩)
       refine f_only 13 rfl (by decide +kernel) rfl rfl rfl ((o_load Try.isAgg35 rfl (rdA hrv)).does ⟨(by repeat (first | exact Sub.nil | refine Sub.pick ?_ | refine Sub.castO rfl ?_ | refine Sub.skip ?_)), ?_⟩)
       refine f_only 18 rfl (by decide +kernel) rfl rfl rfl (o_append el35 rfl rfl hro (ys := [.int .i64 ((2 * i + 1 : Nat) : Int)]) ⟨(rdA rfl), trivial⟩ rfl rfl (by omega) (by omega) fun v80 m80 o80 => ⟨(by repeat (first | exact Sub.nil | refine Sub.pick ?_ | refine Sub.castO rfl ?_ | refine Sub.skip ?_)), ?_⟩)
       obtain ⟨A80, cap80, rfl, _⟩ := o80.val
       refine f_take 19 rfl (by decide +kernel) rfl rfl rfl (by repeat (first | exact Sub.nil | refine Sub.pick ?_ | refine Sub.castO rfl ?_ | refine Sub.skip ?_)) (o_idx sl77 rfl rfl (kfrom e (2 * i + 1)) ⟨by omega, by omega, by first | omega | (simp; done) | (simp; omega)⟩) ?_
       refine f_only0 20 rfl (by decide +kernel) rfl rfl (o_store Try.sizeOf35 rfl rfl rfl rfl (by have := hR.lv; rw [kRows_len] at this; rw [List.length_set]; omega) ((vs.set (kfrom e (2 * i)) v60).set (kfrom e (2 * i + 1)) (.slice A80 ((kRow e (2 * i + 1) (kfrom e (2 * i + 1))).length + 1) cap80)) rfl ⟨(by repeat (first | exact Sub.nil | refine Sub.pick ?_ | refine Sub.castO rfl ?_ | refine Sub.skip ?_)), ?_⟩)
       refine f_over (by decide +kernel) ?_
       refine f_bn ?_
       refine f_tn (kh7 _ _ ?_)
       clear kh7
       refine f_region ?_
       refine f_stepP rfl rfl rfl (o_add rfl rfl _ (wrap_i64 (by omega))) ?_
       refine f_stepP rfl rfl rfl (o_move rfl) ?_
       refine f_done ?_
       refine f_subQ (Sub.joinF (m := m80) (G' := rG) (hput _ _ _ (by rw [← ints_len1]; exact o80)).2) ?_
       refine f_tn (f_again (i + 1, v40, m40, (vs.set (kfrom e (2 * i)) v60).set (kfrom e (2 * i + 1)) (.slice A80 ((kRow e (2 * i + 1) (kfrom e (2 * i + 1))).length + 1) cap80), (ms.set (kfrom e (2 * i)) m60).set (kfrom e (2 * i + 1)) m80) (by first | omega | (dsimp only; omega) | (simp; omega)) ⟨by omega, by rw [ecells_snoc hi]; exact o40, by
         have := (hput _ _ _ (by rw [← ints_len1]; exact o80)).1
         rw [kRows_next hk1] at this; exact this⟩ ?_ ?_ ?_)
       · exact (by repeat (first | exact trivial | refine ⟨rfl, ?_⟩))
       · exact (by repeat (first | exact trivial | refine ⟨rfl, ?_⟩))
       · repeat (first | exact Sub.nil | refine Sub.pick ?_ | refine Sub.castO rfl ?_ | refine Sub.skip ?_)
   ·
    refine f_exit ?_
    refine f_te ?_
    clear kh6
    refine f_te ?_
    refine f_be ?_
    refine f_tn (kh3 _ _ ?_)
    clear kh3
    refine f_seq fun K11 kh11 => ?_
    refine f_region ?_
    refine f_stepP rfl rfl rfl (o_move rfl) ?_
    refine f_stepP rfl rfl rfl (o_assign rfl) ?_
    refine f_done ?_
    refine f_tn (kh11 _ _ ?_)
    clear kh11
    refine f_ret ?_
    have hie' : i = e.length := by omega
    subst hie'
    rw [List.take_length] at hE
    exact f_fin1 [(dsegs bx bat bl bn n ve vs ms.flatten me (List.replicate n 0) (List.replicate n 0)).flatten] Try.results53 rfl (Sub.flatF (by unfold dsegs; repeat (first | exact Sub.nil | refine Sub.pick ?_ | refine Sub.castO rfl ?_))) ⟨bx, _, rfl, rfl, DRep_mk hR hE⟩

end Go.Proofs.Ytbjiejhdgkpjcaa

/- Package flow: the layers. -/
namespace Go.Proofs.Ytbjiejhdgkpjcaa
open Go Go.RowKit Fly
set_option linter.unusedVariables false
set_option linter.unusedSimpArgs false


def nI (W : List Nat) : List Int := W.map (fun i : Nat => (i : Int))
theorem nI_len (W : List Nat) : (ints (nI W)).length = W.length := by simp [nI, ints]
theorem nI_snoc (W : List Nat) (k : Nat) : ints (nI (W ++ [k])) = ints (nI W) ++ [.int .i64 (k : Int)] := by simp [nI, ints]
theorem ints_fl {l : List Int} {i : Nat} (h : i < l.length) : (ints l)[i]? = some (.int .i64 (flAt l i)) := by rw [ints_get h, flAt_eq h]
theorem ints_put (l : List Int) (i : Nat) (x : Int) : (ints l).set i (.int .i64 x) = ints (l.set i x) := by simp [ints, List.map_set]
def mixL (k : Nat) (x : Int) (l : List Int) : List Int := List.replicate k x ++ l.drop k
theorem mixL_len {k : Nat} {x : Int} {l : List Int} (h : k ≤ l.length) : (mixL k x l).length = l.length := by simp [mixL]; omega
theorem mixL_set {k : Nat} {x : Int} {l : List Int} (h : k < l.length) : (ints (mixL k x l)).set k (.int .i64 x) = ints (mixL (k + 1) x l) := by
  rw [ints_put]
  congr 1
  unfold mixL
  rw [List.drop_eq_getElem_cons h, List.set_append_right _ _ (by simp), show k - (List.replicate k x).length = 0 by simp, List.set_cons_zero, List.replicate_succ', List.append_assoc]
  rfl
theorem mixL_all {k : Nat} {x : Int} {l : List Int} (h : k = l.length) : mixL k x l = List.replicate l.length x := by subst h; simp [mixL]
theorem unl_rep (n : Nat) : unl (List.replicate n (-1)) = n := by
  induction n with
  | zero => rfl
  | succ n ih => rw [List.replicate_succ]; unfold unl at ih ⊢; rw [List.countP_cons, ih]; simp
theorem unl_begin {n s : Nat} (hs : s < n) : unl ((List.replicate n (-1)).set s 0) + 1 = n := by
  rw [unl_set (by simpa using hs) (by rw [flAt_rep hs]; decide) (Int.le_refl _), unl_rep]
theorem take_nextI {l : List Int} {j : Nat} {x : Int} (hj : j < l.length) (h : x ∈ l.take (j + 1)) : x ∈ l.take j ∨ x = l[j] := by
  rw [List.take_succ_eq_append_getElem hj] at h
  rcases List.mem_append.1 h with h | h
  · exact .inl h
  · exact .inr (by simpa using h)

set_option maxRecDepth 100000 in
set_option maxHeartbeats 4000000 in
theorem layers_spec (n : Nat) (e : List Arc) (f L nx : List Int) (bx : Nat) (m : Seg) (s t : Nat) (w : World) (hn : NOk n e) (hf : Fits e f) (hL : L.length = n) (hx : nx.length = n) (hS : DRep n e f L nx bx m) (hs : s < n) (ht : t < n) (hw : Owns w [m]) :
    Meets Try.prog 72 [.pointer (some ⟨bx, 0, none⟩), .int .i64 (s : Int), .int .i64 (t : Int)] w [m] (fun u own' => ∃ L' m', own' = [m'] ∧ DRep n e f L' (List.replicate n 0) bx m' ∧ Lay n e s f L' ∧ u = .bool (decide (0 ≤ flAt L' t))) := by
 have hn1 := hn.n1
 have hel := hn.len
 refine f_enter Try.func72 rfl Try.ntmps72 rfl hw ?_
 obtain ⟨bat, bl, bn, ve, vs, ms, me, hmp, hR, hE⟩ := hS
 obtain ⟨A, cap, rfl, _⟩ := hE.val
 refine f_subC (Sub.permF hmp) ?_
 unfold dsegs
 refine f_seq fun K1 kh1 => ?_
 refine f_region ?_
 refine f_stepP rfl rfl rfl (o_assign rfl) ?_
 refine f_done ?_
 refine f_tn (kh1 _ _ ?_)
 clear kh1
 refine f_seq fun K2 kh2 => ?_
 refine f_seq fun K3 kh3 => ?_
 refine f_region ?_
 refine f_stepP rfl rfl rfl (o_move rfl) ?_
 refine f_stepP rfl rfl rfl (o_nil rfl) ?_
 refine f_stepP rfl rfl rfl (o_field fa95_2 rfl) ?_
 refine f_stepP rfl rfl rfl (o_load Try.isAgg35 rfl (rdA rfl)) ?_
 refine f_stepP rfl rfl rfl (o_len sl35 rfl) ?_
 refine f_stepP rfl rfl rfl (o_move rfl) ?_
 refine f_done ?_
 refine f_tn (kh3 _ _ ?_)
 clear kh3
 refine f_block ?_
 refine f_loop (α := Nat) [0, 1, 2, 17] (fun k => [(18, .int .i64 (k : Int))]) (fun k => [[(bx, blk (dcells (.slice A e.length cap) n bat bl bn) 95)], [(bat, blk vs 35)], ms.flatten, me, [(bl, blk (ints (mixL k (-1) L)) 3)], [(bn, blk (ints (mixL k 0 nx)) 3)]]) (fun k => k ≤ n) (fun k => n - k) (0) ?_ ?_ ?_ ?_
 · exact (by repeat (first | exact trivial | refine ⟨rfl, ?_⟩))
 · repeat (first | exact Sub.nil | refine Sub.pick ?_ | refine Sub.castO rfl ?_ | refine Sub.skip ?_)
 · exact Nat.zero_le _
 ·
  rintro k hkn
  refine f_seq fun K4 kh4 => ?_
  refine f_region ?_
  refine f_stepP rfl rfl rfl (o_lss rfl rfl) ?_
  refine f_done ?_
  refine f_tn (kh4 _ _ ?_)
  clear kh4
  refine f_seq fun K5 kh5 => ?_
  refine f_cond rfl (fun c19 => ?_) (fun c19 => ?_)
  ·
   refine f_skip ?_
   refine f_tn (kh5 _ _ ?_)
   clear kh5
   refine f_seq fun K6 kh6 => ?_
   refine f_block ?_
   refine f_seq fun K7 kh7 => ?_
   refine f_region ?_
   refine f_stepP rfl rfl rfl (o_move rfl) ?_
   refine f_stepP rfl rfl rfl (o_assign rfl) ?_
   refine f_done ?_
   refine f_tn (kh7 _ _ ?_)
   clear kh7
   refine f_regionH [[(bx, blk (dcells (.slice A e.length cap) n bat bl bn) 95)]] rfl ?_
   have hk : k < n := by omega
   refine f_take 0 rfl (by decide +kernel) rfl rfl rfl (by repeat (first | exact Sub.nil | refine Sub.pick ?_ | refine Sub.castO rfl ?_ | refine Sub.skip ?_)) (o_move rfl) ?_
   refine f_take 1 rfl (by decide +kernel) rfl rfl rfl (by repeat (first | exact Sub.nil | refine Sub.pick ?_ | refine Sub.castO rfl ?_ | refine Sub.skip ?_)) (o_nil rfl) ?_
   refine f_take 2 rfl (by decide +kernel) rfl rfl rfl (by repeat (first | exact Sub.nil | refine Sub.pick ?_ | refine Sub.castO rfl ?_ | refine Sub.skip ?_)) (o_field fa95_2 rfl) ?_
   refine f_take 3 rfl (by decide +kernel) rfl rfl rfl (by repeat (first | exact Sub.nil | refine Sub.pick ?_ | refine Sub.castO rfl ?_ | refine Sub.skip ?_)) (o_load Try.isAgg35 rfl (rdA rfl)) ?_
   refine f_take 4 rfl (by decide +kernel) rfl rfl rfl (by repeat (first | exact Sub.nil | refine Sub.pick ?_ | refine Sub.castO rfl ?_ | refine Sub.skip ?_)) (o_move rfl) ?_
   refine f_take 5 rfl (by decide +kernel) rfl rfl rfl (by repeat (first | exact Sub.nil | refine Sub.pick ?_ | refine Sub.castO rfl ?_ | refine Sub.skip ?_)) (o_move rfl) ?_
   refine f_take 6 rfl (by decide +kernel) rfl rfl rfl (by repeat (first | exact Sub.nil | refine Sub.pick ?_ | refine Sub.castO rfl ?_ | refine Sub.skip ?_)) (o_nil rfl) ?_
   refine f_take 7 rfl (by decide +kernel) rfl rfl rfl (by repeat (first | exact Sub.nil | refine Sub.pick ?_ | refine Sub.castO rfl ?_ | refine Sub.skip ?_)) (o_field fa95_3 rfl) ?_
   refine f_take 8 rfl (by decide +kernel) rfl rfl rfl (by repeat (first | exact Sub.nil | refine Sub.pick ?_ | refine Sub.castO rfl ?_ | refine Sub.skip ?_)) (o_load Try.isAgg35 rfl (rdA rfl)) ?_
   refine f_take 9 rfl (by decide +kernel) rfl rfl rfl (by repeat (first | exact Sub.nil | refine Sub.pick ?_ | refine Sub.castO rfl ?_ | refine Sub.skip ?_)) (o_move rfl) ?_
   refine f_take 10 rfl (by decide +kernel) rfl rfl rfl (by repeat (first | exact Sub.nil | refine Sub.pick ?_ | refine Sub.castO rfl ?_ | refine Sub.skip ?_)) (o_idx sl35 rfl rfl (k) ⟨by omega, by omega, by first | omega | (simp; done) | (simp; omega)⟩) ?_
   refine f_only0 11 rfl (by decide +kernel) rfl rfl (o_store Try.sizeOf3 rfl rfl rfl rfl (by rw [ints_length, mixL_len (by omega)]; omega) (ints (mixL (k + 1) (-1) L)) (mixL_set (by omega)) ⟨(by repeat (first | exact Sub.nil | refine Sub.pick ?_ | refine Sub.castO rfl ?_ | refine Sub.skip ?_)), ?_⟩)
   refine f_take 12 rfl (by decide +kernel) rfl rfl rfl (by repeat (first | exact Sub.nil | refine Sub.pick ?_ | refine Sub.castO rfl ?_ | refine Sub.skip ?_)) (o_idx sl35 rfl rfl (k) ⟨by omega, by omega, by first | omega | (simp; done) | (simp; omega)⟩) ?_
   refine f_only0 13 rfl (by decide +kernel) rfl rfl (o_store Try.sizeOf3 rfl rfl rfl rfl (by rw [ints_length, mixL_len (by omega)]; omega) (ints (mixL (k + 1) 0 nx)) (mixL_set (by omega)) ⟨(by repeat (first | exact Sub.nil | refine Sub.pick ?_ | refine Sub.castO rfl ?_ | refine Sub.skip ?_)), ?_⟩)
   refine f_over (by decide +kernel) ?_
   refine f_bn ?_
   refine f_tn (kh6 _ _ ?_)
   clear kh6
   refine f_region ?_
   refine f_stepP rfl rfl rfl (o_add rfl rfl _ (wrap_i64 (by omega))) ?_
   refine f_stepP rfl rfl rfl (o_move rfl) ?_
   refine f_done ?_
   refine f_tn (f_again (k + 1) (by first | omega | (dsimp only; omega) | (simp; omega)) (by omega) ?_ ?_ ?_)
   · exact (by repeat (first | exact trivial | refine ⟨rfl, ?_⟩))
   · exact (by repeat (first | exact trivial | refine ⟨rfl, ?_⟩))
   · repeat (first | exact Sub.nil | refine Sub.pick ?_ | refine Sub.castO rfl ?_ | refine Sub.skip ?_)
  ·
   refine f_exit ?_
   refine f_te ?_
   clear kh5
   refine f_te ?_
   refine f_be ?_
   refine f_tn (kh2 _ _ ?_)
   clear kh2
   refine f_seq fun K8 kh8 => ?_
   refine f_region ?_
   refine f_stepP rfl rfl rfl (o_move rfl) ?_
   refine f_stepP rfl rfl rfl (o_nil rfl) ?_
   refine f_stepP rfl rfl rfl (o_field fa95_2 rfl) ?_
   refine f_stepP rfl rfl rfl (o_load Try.isAgg35 rfl (rdA rfl)) ?_
   refine f_stepP rfl rfl rfl (o_move rfl) ?_
   refine f_stepP rfl rfl rfl (o_idx sl35 rfl rfl (s) ⟨by omega, by omega, by first | omega | (simp; done) | (simp; omega)⟩) ?_
   refine f_step0 rfl rfl (o_store Try.sizeOf3 rfl rfl rfl rfl (by rw [ints_length, mixL_len (by omega)]; omega) (ints ((List.replicate n (-1)).set s 0)) (by rw [mixL_all (by omega), hL]; exact ints_put ..) ?_)
   refine f_done ?_
   refine f_tn (kh8 _ _ ?_)
   clear kh8
   refine f_seq fun K9 kh9 => ?_
   refine f_region ?_
   refine f_stepP rfl rfl rfl (o_move rfl) ?_
   refine f_step rfl rfl rfl (o_slice1 el35 (by omega) rfl rfl rfl fun b41 => ?_)
   refine f_stepP rfl rfl rfl (o_assign rfl) ?_
   refine f_done ?_
   refine f_tn (kh9 _ _ ?_)
   clear kh9
   refine f_seq fun K10 kh10 => ?_
   refine f_block ?_
   have hbn : mixL k 0 nx = List.replicate n 0 := by rw [mixL_all (by omega), hx]
   rw [hbn]
   refine f_loop (α := List Int × List Nat × Value × Seg) [0, 2] (fun ⟨L2, work, wv, wm⟩ => [(8, wv)]) (fun ⟨L2, work, wv, wm⟩ => [[(bx, blk (dcells (.slice A e.length cap) n bat bl bn) 95)], [(bat, blk vs 35)], ms.flatten, me, [(bl, blk (ints L2) 3)], [(bn, blk (ints (List.replicate n 0)) 3)], wm]) (fun ⟨L2, work, wv, wm⟩ => LayB n e s f L2 work (fun _ => True) ∧ OwnQ 3 wv (ints (nI work)) wm ∧ unl L2 + work.length ≤ n ∧ ∀ u, u < n → flAt L2 u + unl L2 ≤ n) (fun ⟨L2, work, wv, wm⟩ => 2 * unl L2 + work.length) ((List.replicate n (-1)).set s 0, [s], .slice (some ⟨b41, 0, none⟩) 1 1, [(b41, blk [.int .i64 (s : Int)] 3)]) ?_ ?_ ?_ ?_
   · exact (by repeat (first | exact trivial | refine ⟨rfl, ?_⟩))
   · repeat (first | exact Sub.nil | refine Sub.pick ?_ | refine Sub.castO rfl ?_ | refine Sub.skip ?_)
   · exact ⟨LayB.begin hn.net hs, OwnQ.one _ _ _, by have := unl_begin hs; simp; omega, fun u hu => by
     have := unl_begin hs
     rw [flAt_set (by simpa using hs), flAt_rep hu]
     split <;> omega⟩
   ·
    rintro ⟨L2, work, wv, wm⟩ ⟨hB, hQ, hU, hM⟩
    have hQ0 := hQ
    have hwl := nI_len work
    obtain ⟨bw, ow, cw, pre, sp, rfl, rfl, hq1, hq2, hq3, hq4⟩ := hQ
    refine f_envC (e := [(8, _), (0, _), (2, _)]) (by repeat (first | exact trivial | refine ⟨rfl, ?_⟩)) ?_
    refine f_seq fun K11 kh11 => ?_
    refine f_seq fun K12 kh12 => ?_
    refine f_region ?_
    refine f_stepP rfl rfl rfl (o_move rfl) ?_
    refine f_stepP rfl rfl rfl (o_len sl35 rfl) ?_
    refine f_stepP rfl rfl rfl (o_gtr rfl rfl) ?_
    refine f_done ?_
    refine f_tn (kh12 _ _ ?_)
    clear kh12
    refine f_cond rfl (fun c44 => ?_) (fun c44 => ?_)
    ·
     obtain ⟨v, rest, rfl⟩ : ∃ v rest, work = v :: rest := by
       cases work with
       | nil => have h0 : (ints (nI [])).length = 0 := rfl; omega
       | cons v rest => exact ⟨v, rest, rfl⟩
     have hvw := hB.wk v (List.mem_cons_self ..)
     have hpre := hq4 (by simp at hwl; omega)
     refine f_skip ?_
     refine f_tn (kh11 _ _ ?_)
     clear kh11
     refine f_block ?_
     refine f_seq fun K13 kh13 => ?_
     refine f_region ?_
     refine f_stepP rfl rfl rfl (o_move rfl) ?_
     refine f_stepP rfl rfl rfl (o_idx sl35 rfl rfl (ow) ⟨by omega, by omega, by first | omega | (simp; done) | (simp; omega)⟩) ?_
     refine f_stepP rfl rfl rfl (o_load Try.isAgg3 rfl (rdA (v := .int .i64 (v : Int)) (by rw [← hpre]; simp [nI, ints]))) ?_
     refine f_stepP rfl rfl rfl (o_assign rfl) ?_
     refine f_done ?_
     refine f_tn (kh13 _ _ ?_)
     clear kh13
     refine f_seq fun K14 kh14 => ?_
     refine f_region ?_
     refine f_stepP rfl rfl rfl (o_move rfl) ?_
     refine f_stepP rfl rfl rfl (o_slice sl35 rfl rfl rfl rfl (fun h => by cases h) 1 _ _ (.inr ⟨_, _, rfl, by omega⟩) (.inl ⟨rfl, rfl⟩) (.inl ⟨rfl, rfl⟩) ⟨by omega, by omega, by omega⟩ _ rfl) ?_
     refine f_stepP rfl rfl rfl (o_assign rfl) ?_
     refine f_done ?_
     refine f_tn (kh14 _ _ ?_)
     clear kh14
     refine f_seq fun K15 kh15 => ?_
     obtain ⟨rv, rm, rG, hrv, hro, hrp, _⟩ := hR.split (i := v) (by rw [kRows_len]; exact hvw.1)
     rw [kRows_get] at hro
     have hrlen := kRow_len e (2 * e.length) v
     obtain ⟨Ar, cr, rfl, hcr⟩ := hro.val
     refine f_subC (Sub.splitF hrp) ?_
     refine f_region ?_
     refine f_stepP rfl rfl rfl (o_move rfl) ?_
     refine f_stepP rfl rfl rfl (o_nil rfl) ?_
     refine f_stepP rfl rfl rfl (o_field fa95_1 rfl) ?_
     refine f_stepP rfl rfl rfl (o_load Try.isAgg77 rfl (rdA rfl)) ?_
     refine f_stepP rfl rfl rfl (o_move rfl) ?_
     refine f_stepP rfl rfl rfl (o_idx sl77 rfl rfl (v) ⟨by omega, by omega, by first | omega | (simp; done) | (simp; omega)⟩) ?_
     refine f_stepP rfl rfl rfl (o_load Try.isAgg35 rfl (rdA hrv)) ?_
     refine f_stepP rfl rfl rfl (o_len sl35 rfl) ?_
     refine f_stepP rfl rfl rfl (o_move rfl) ?_
     refine f_done ?_
     refine f_tn (kh15 _ _ ?_)
     clear kh15
     refine f_block ?_
     refine f_loop (α := Nat × List Int × List Nat × Value × Seg) [0, 2, 9, 56, 57] (fun ⟨j, L3, wk, wv3, wm3⟩ => [(58, .int .i64 (j : Int)), (8, wv3)]) (fun ⟨j, L3, wk, wv3, wm3⟩ => [[(bx, blk (dcells (.slice A e.length cap) n bat bl bn) 95)], [(bat, blk vs 35)], rm, rG, me, [(bl, blk (ints L3) 3)], [(bn, blk (ints (List.replicate n 0)) 3)], wm3]) (fun ⟨j, L3, wk, wv3, wm3⟩ => j ≤ (kRow e (2 * e.length) v).length ∧ LayB n e s f L3 wk (fun k => kfrom e k ≠ v ∨ (k : Int) ∈ (kRow e (2 * e.length) v).take j) ∧ 0 ≤ flAt L3 v ∧ OwnQ 3 wv3 (ints (nI wk)) wm3 ∧ (unl L3 + wk.length ≤ n ∧ ∀ u, u < n → flAt L3 u + unl L3 ≤ n) ∧ 2 * unl L3 + wk.length ≤ 2 * unl L2 + rest.length) (fun ⟨j, L3, wk, wv3, wm3⟩ => (kRow e (2 * e.length) v).length - j) (0, L2, rest, .slice (if cw = 1 then some ⟨bw, ow, none⟩ else (some ⟨bw, ow, none⟩ : Option Addr).map (·.add (1 * 1))) ((ints (nI (v :: rest))).length - 1) (cw - 1), [(bw, blk (pre ++ (ints (nI (v :: rest)) ++ sp)) 3)]) ?_ ?_ ?_ ?_
     · exact (by repeat (first | exact trivial | refine ⟨rfl, ?_⟩))
     · repeat (first | exact Sub.nil | refine Sub.pick ?_ | refine Sub.castO rfl ?_ | refine Sub.skip ?_)
     · exact ⟨Nat.zero_le _, hB.pop.weaken fun k _ h => by
       rcases h with h | h
       · exact h
       · simp at h, hvw.2, OwnQ.tail (x := .int .i64 (v : Int)) (cs := ints (nI rest)) hQ0, ⟨by simp only [List.length_cons] at hU; omega, hM⟩, Nat.le_refl _⟩
     ·
      rintro ⟨j, L3, wk, wv3, wm3⟩ ⟨hjl, hB3, hv0, hQ3, ⟨hU3, hM3⟩, hmu3⟩
      have hl3 := hB3.len
      have hwl3 := nI_len wk
      refine f_envC (e := [(58, _), (8, _), (0, _), (2, _), (9, _), (56, _), (57, _)]) (by repeat (first | exact trivial | refine ⟨rfl, ?_⟩)) ?_
      refine f_seq fun K16 kh16 => ?_
      refine f_region ?_
      refine f_stepP rfl rfl rfl (o_lss rfl rfl) ?_
      refine f_done ?_
      refine f_tn (kh16 _ _ ?_)
      clear kh16
      refine f_seq fun K17 kh17 => ?_
      refine f_cond rfl (fun c59 => ?_) (fun c59 => ?_)
      ·
       refine f_skip ?_
       refine f_tn (kh17 _ _ ?_)
       clear kh17
       refine f_seq fun K18 kh18 => ?_
       refine f_block ?_
       refine f_seq fun K19 kh19 => ?_
       refine f_region ?_
       have hj : j < (kRow e (2 * e.length) v).length := by omega
       obtain ⟨br, sr, rfl, rfl⟩ := hro.at_ (by omega)
       obtain ⟨k, hrk, hk2, hkf⟩ := row_at hj
       have hut := kto_lt hn.net hk2
       refine f_stepP rfl rfl rfl (o_idx sl35 rfl rfl (j) ⟨by omega, by omega, by first | omega | (simp; done) | (simp; omega)⟩) ?_
       refine f_stepP rfl rfl rfl (o_load Try.isAgg3 rfl (rdA (v := .int .i64 (k : Int)) (app_get (by rw [ints_get hj, hrk])))) ?_
       refine f_stepP rfl rfl rfl (o_assign rfl) ?_
       refine f_done ?_
       refine f_tn (kh19 _ _ ?_)
       clear kh19
       refine f_seq fun K20 kh20 => ?_
       refine f_region ?_
       refine f_stepP rfl rfl rfl (o_move rfl) ?_
       refine f_stepP rfl rfl rfl (o_move rfl) ?_
       refine f_step rfl rfl rfl (o_call Try.call89 rfl (fun w_ hp_ => to_spec n e f bx bat bl bn k cap A w_ (roOwn (b := bx) hp_ (fun j v hj => hj)) (seen_ro (hE.seen hp_)) hn hf.len hk2) ?_)
       rintro _ _ ⟨rfl, rfl⟩
       dsimp only [List.cons_append, List.nil_append]
       refine f_stepP rfl rfl rfl (o_assign rfl) ?_
       refine f_done ?_
       refine f_tn (kh20 _ _ ?_)
       clear kh20
       refine f_seq fun K21 kh21 => ?_
       refine f_region ?_
       refine f_stepP rfl rfl rfl (o_move rfl) ?_
       refine f_stepP rfl rfl rfl (o_nil rfl) ?_
       refine f_stepP rfl rfl rfl (o_field fa95_2 rfl) ?_
       refine f_stepP rfl rfl rfl (o_load Try.isAgg35 rfl (rdA rfl)) ?_
       refine f_stepP rfl rfl rfl (o_move rfl) ?_
       refine f_stepP rfl rfl rfl (o_idx sl35 rfl rfl (kto e k) ⟨by omega, by omega, by first | omega | (simp; done) | (simp; omega)⟩) ?_
       refine f_stepP rfl rfl rfl (o_load Try.isAgg3 rfl (rdA (ints_fl (by omega)))) ?_
       refine f_stepP rfl rfl rfl (o_lss rfl rfl) ?_
       refine f_stepP rfl rfl rfl (o_move rfl) ?_
       refine f_splitL 73 rfl (fun g73 => ?_) (fun g73 => ?_)
       ·
        refine f_stepPY rfl rfl rfl rfl rfl (o_move rfl) ?_
        refine f_stepPY rfl rfl rfl rfl rfl (o_move rfl) ?_
        refine f_stepY rfl rfl rfl rfl rfl (o_call Try.call74 rfl (fun w_ hp_ => left_spec n e f bx bat bl bn k cap A w_ (roOwn (b := bx) hp_ (fun j v hj => hj)) (seen_ro (hE.seen hp_)) hn hf.len hk2) ?_)
        rintro _ _ ⟨rfl, rfl⟩
        dsimp only [List.cons_append, List.nil_append]
        refine f_stepPY rfl rfl rfl rfl rfl (o_gtr rfl rfl) ?_
        refine f_stepP rfl rfl rfl (o_pickT rfl rfl) ?_
        refine f_done ?_
        refine f_tn (kh21 _ _ ?_)
        clear kh21
        refine f_cond rfl (fun c78 => ?_) (fun c78 => ?_)
        ·
         have hu1 := unl_set (L := L3) (i := kto e k) (x := flAt L3 v + 1) (by omega) g73 (by omega)
         refine f_seq fun K22 kh22 => ?_
         have hMv := hM3 v hvw.1
         refine f_regionT 14 rfl (by decide +kernel) ?_
         refine f_stillP rfl rfl rfl (o_move rfl) ?_
         refine f_stillP rfl rfl rfl (o_nil rfl) ?_
         refine f_stillP rfl rfl rfl (o_field fa95_2 rfl) ?_
         refine f_stillP rfl rfl rfl (o_load Try.isAgg35 rfl (rdA rfl)) ?_
         refine f_stillP rfl rfl rfl (o_move rfl) ?_
         refine f_stillP rfl rfl rfl (o_move rfl) ?_
         refine f_stillP rfl rfl rfl (o_nil rfl) ?_
         refine f_stillP rfl rfl rfl (o_field fa95_2 rfl) ?_
         refine f_stillP rfl rfl rfl (o_load Try.isAgg35 rfl (rdA rfl)) ?_
         refine f_stillP rfl rfl rfl (o_move rfl) ?_
         refine f_stillP rfl rfl rfl (o_idx sl35 rfl rfl (v) ⟨by omega, by omega, by first | omega | (simp; done) | (simp; omega)⟩) ?_
         refine f_stillP rfl rfl rfl (o_load Try.isAgg3 rfl (rdA (ints_fl (by omega)))) ?_
         refine f_stillP rfl rfl rfl (o_add rfl rfl _ (wrap_i64 (by omega))) ?_
         refine f_stillP rfl rfl rfl (o_idx sl35 rfl rfl (kto e k) ⟨by omega, by omega, by first | omega | (simp; done) | (simp; omega)⟩) ?_
         refine f_stillD (f_tail ?_)
         refine f_step0 rfl rfl (o_store Try.sizeOf3 rfl rfl rfl rfl (by rw [ints_length]; omega) (ints (L3.set (kto e k) (flAt L3 v + 1))) (ints_put ..) ?_)
         refine f_done ?_
         refine f_tn (kh22 _ _ ?_)
         clear kh22
         refine f_region ?_
         refine f_stepP rfl rfl rfl (o_move rfl) ?_
         refine f_stepP rfl rfl rfl (o_move rfl) ?_
         refine f_step rfl rfl rfl (o_slice1 el35 (by omega) rfl rfl rfl fun b95 => ?_)
         refine f_step rfl rfl rfl (o_appendO el35 rfl rfl hQ3 (ys := [.int .i64 ((kto e k : Nat) : Int)]) ⟨(rdA rfl), trivial⟩ rfl (by omega) rfl (by omega) (by omega) fun v96 m96 o96 => ?_)
         refine f_stepP rfl rfl rfl (o_assign rfl) ?_
         refine f_done ?_
         refine f_bn ?_
         refine f_tn (kh18 _ _ ?_)
         clear kh18
         refine f_region ?_
         refine f_stepP rfl rfl rfl (o_add rfl rfl _ (wrap_i64 (by omega))) ?_
         refine f_stepP rfl rfl rfl (o_move rfl) ?_
         refine f_done ?_
         refine f_tn (f_again (j + 1, L3.set (kto e k) (flAt L3 v + 1), wk ++ [kto e k], v96, m96) (by first | omega | (dsimp only; omega) | (simp; omega)) ⟨by omega, by
           have h := hB3.see hn.net hk2 (by rw [hkf]; exact hv0) g73 c78
           rw [hkf] at h
           exact h.weaken (fun q hq hQ => by
           rcases hQ with hQ | hQ
           · exact .inl (.inl hQ)
           · rcases take_nextI hj hQ with hQ | hQ
             · exact .inl (.inr hQ)
             · rw [hrk] at hQ; exact .inr (by omega)), by rw [flAt_set (by omega)]; split <;> omega, by rw [nI_snoc]; exact o96, ⟨by rw [List.length_append]; simp; omega, fun u hu => by rw [flAt_set (by omega)]; have := hM3 u hu; have := hM3 v hvw.1; split <;> omega⟩, by rw [List.length_append]; simp; omega⟩ ?_ ?_ ?_)
         · exact (by repeat (first | exact trivial | refine ⟨rfl, ?_⟩))
         · exact (by repeat (first | exact trivial | refine ⟨rfl, ?_⟩))
         · repeat (first | exact Sub.nil | refine Sub.pick ?_ | refine Sub.castO rfl ?_ | refine Sub.skip ?_)
        ·
         refine f_skip ?_
         refine f_bn ?_
         refine f_tn (kh18 _ _ ?_)
         clear kh18
         refine f_region ?_
         refine f_stepP rfl rfl rfl (o_add rfl rfl _ (wrap_i64 (by omega))) ?_
         refine f_stepP rfl rfl rfl (o_move rfl) ?_
         refine f_done ?_
         refine f_tn (f_again (j + 1, L3, wk, wv3, wm3) (by first | omega | (dsimp only; omega) | (simp; omega)) ⟨by omega, (hB3.skip (k := k) (by omega)).weaken (fun q hq hQ => by
           rcases hQ with hQ | hQ
           · exact .inl (.inl hQ)
           · rcases take_nextI hj hQ with hQ | hQ
             · exact .inl (.inr hQ)
             · rw [hrk] at hQ; exact .inr (by omega)), hv0, hQ3, ⟨hU3, hM3⟩, hmu3⟩ ?_ ?_ ?_)
         · exact (by repeat (first | exact trivial | refine ⟨rfl, ?_⟩))
         · exact (by repeat (first | exact trivial | refine ⟨rfl, ?_⟩))
         · repeat (first | exact Sub.nil | refine Sub.pick ?_ | refine Sub.castO rfl ?_ | refine Sub.skip ?_)
       ·
        refine f_stepN rfl rfl rfl rfl rfl rfl ?_
        refine f_stepN rfl rfl rfl rfl rfl rfl ?_
        refine f_stepN rfl rfl rfl rfl rfl rfl ?_
        refine f_stepN rfl rfl rfl rfl rfl rfl ?_
        refine f_stepP rfl rfl rfl (o_pickF rfl rfl) ?_
        refine f_done ?_
        refine f_tn (kh21 _ _ ?_)
        clear kh21
        refine f_condF rfl ?_
        refine f_skip ?_
        refine f_bn ?_
        refine f_tn (kh18 _ _ ?_)
        clear kh18
        refine f_region ?_
        refine f_stepP rfl rfl rfl (o_add rfl rfl _ (wrap_i64 (by omega))) ?_
        refine f_stepP rfl rfl rfl (o_move rfl) ?_
        refine f_done ?_
        refine f_tn (f_again (j + 1, L3, wk, wv3, wm3) (by first | omega | (dsimp only; omega) | (simp; omega)) ⟨by omega, (hB3.skip (k := k) (by omega)).weaken (fun q hq hQ => by
          rcases hQ with hQ | hQ
          · exact .inl (.inl hQ)
          · rcases take_nextI hj hQ with hQ | hQ
            · exact .inl (.inr hQ)
            · rw [hrk] at hQ; exact .inr (by omega)), hv0, hQ3, ⟨hU3, hM3⟩, hmu3⟩ ?_ ?_ ?_)
        · exact (by repeat (first | exact trivial | refine ⟨rfl, ?_⟩))
        · exact (by repeat (first | exact trivial | refine ⟨rfl, ?_⟩))
        · repeat (first | exact Sub.nil | refine Sub.pick ?_ | refine Sub.castO rfl ?_ | refine Sub.skip ?_)
      ·
       refine f_exit ?_
       refine f_te ?_
       clear kh17
       refine f_te ?_
       refine f_be ?_
       refine f_bn ?_
       refine f_subQ (Sub.joinF (m := rm) (G' := rG) hrp.symm) ?_
       refine f_tn (f_again (L3, wk, wv3, wm3) (by simp only [List.length_cons]; omega) ⟨hB3.weaken fun k hk _ => by
         by_cases h : kfrom e k = v
         · right; rw [List.take_of_length_le (by omega), ← h]; exact kRow_has hk
         · exact .inl h, hQ3, hU3, hM3⟩ ?_ ?_ ?_)
       · exact (by repeat (first | exact trivial | refine ⟨rfl, ?_⟩))
       · exact (by repeat (first | exact trivial | refine ⟨rfl, ?_⟩))
       · repeat (first | exact Sub.nil | refine Sub.pick ?_ | refine Sub.castO rfl ?_ | refine Sub.skip ?_)
    ·
     obtain rfl : work = [] := by
       cases work with
       | nil => rfl
       | cons v rest => simp at hwl; omega
     refine f_exit ?_
     refine f_te ?_
     clear kh11
     refine f_te ?_
     refine f_be ?_
     refine f_tn (kh10 _ _ ?_)
     clear kh10
     refine f_seq fun K23 kh23 => ?_
     refine f_region ?_
     refine f_stepP rfl rfl rfl (o_move rfl) ?_
     refine f_stepP rfl rfl rfl (o_nil rfl) ?_
     refine f_stepP rfl rfl rfl (o_field fa95_2 rfl) ?_
     refine f_stepP rfl rfl rfl (o_load Try.isAgg35 rfl (rdA rfl)) ?_
     refine f_stepP rfl rfl rfl (o_move rfl) ?_
     refine f_stepP rfl rfl rfl (o_idx sl35 rfl rfl (t) ⟨by omega, by omega, by first | omega | (simp; done) | (simp; omega)⟩) ?_
     refine f_stepP rfl rfl rfl (o_load Try.isAgg3 rfl (rdA (ints_fl (by have := hB.len; omega)))) ?_
     refine f_stepP rfl rfl rfl (o_geq rfl rfl) ?_
     refine f_stepP rfl rfl rfl (o_assign rfl) ?_
     refine f_done ?_
     refine f_tn (kh23 _ _ ?_)
     clear kh23
     refine f_ret ?_
     exact f_fin1 [(dsegs bx bat bl bn n (.slice A e.length cap) vs ms.flatten me L2 (List.replicate n 0)).flatten] Try.results72 rfl (Sub.flatF (by unfold dsegs; repeat (first | exact Sub.nil | refine Sub.pick ?_ | refine Sub.castO rfl ?_))) ⟨L2, _, rfl, DRep_mk hR hE, hB.done, rfl⟩

end Go.Proofs.Ytbjiejhdgkpjcaa
