import Derived.Test.YtjjogcnjcnpehaaGreatFlyT
import Derived.Test.YtjjogcnjcnpehaaGreatAll0

/- Package flow: its network in memory, its ends and what is left, its beginning. -/
namespace Go.Proofs.YtjjogcnjcnpehaaGreat
open Go Go.RowKit Fly
set_option linter.unusedVariables false
set_option linter.unusedSimpArgs false
structure NOk (n : Nat) (e : List Arc) : Prop where
  n1 : 1 ≤ n ∧ n ≤ 1024
  len : e.length ≤ 16384
  good : ∀ k (hk : k < e.length), 0 ≤ e[k].src ∧ e[k].src < (n : Int) ∧ 0 ≤ e[k].dst ∧ e[k].dst < (n : Int)
  ok : ∀ x ∈ e, dQ x
theorem NOk.net {n : Nat} {e : List Arc} (h : NOk n e) : jJ n e := fun x hx => by
  obtain ⟨j, hj, rfl⟩ := List.mem_iff_getElem.1 hx
  have := h.good j hj; omega
theorem NOk.at_ {n : Nat} {e : List Arc} (h : NOk n e) {i : Nat} (hi : i < e.length) : 0 ≤ (dD e i).src ∧ (dD e i).src < (n : Int) ∧ 0 ≤ (dD e i).dst ∧ (dD e i).dst < (n : Int) ∧ 0 ≤ (dD e i).wt ∧ (dD e i).wt ≤ 4294967295 := by
  have := h.good i hi
  have := (h.ok _ (List.getElem_mem hi)).wt
  rw [lH hi]; omega
/-- An edge with what is left. -/
def ecs (p : Arc × Int) : List Value := [.int .i64 p.1.src, .int .i64 p.1.dst, .int .u32 (p.1.wt - p.2), .int .u32 p.2]
theorem ecs_len (p : Arc × Int) : (ecs p).length = 4 := rfl
def fA (e : List Arc) (f : List Int) : List Value := (List.zip e f).flatMap ecs
theorem zip_at {e : List Arc} {f : List Int} {i : Nat} (h : f.length = e.length) (hi : i < e.length) : ∃ h' : i < (List.zip e f).length, (List.zip e f)[i] = (dD e i, bU f i) :=
  ⟨by simp; omega, by rw [List.getElem_zip, lH hi, flAt_eq (by omega)]⟩
theorem ecells_at {e : List Arc} {f : List Int} {i j : Nat} (h : f.length = e.length) (hi : i < e.length) (hj : j < 4) : (fA e f)[i * 4 + j]? = (ecs (dD e i, bU f i))[j]? := by
  obtain ⟨h', he⟩ := zip_at h hi
  unfold fA
  rw [flat_get ecs ecs_len _ i j h' hj, he]
theorem j7 {e : List Arc} {f : List Int} (h : f.length = e.length) : (fA e f).length = e.length * 4 := by
  unfold fA; rw [dR ecs ecs_len]; simp [h]
theorem ecells_to {n : Nat} {e : List Arc} {f : List Int} {k : Nat} (hn : NOk n e) (h : f.length = e.length) (hk : k < 2 * e.length) : (fA e f)[k / 2 * 4 + (1 - k % 2)]? = some (.int .i64 ((kto e k : Nat) : Int)) := by
  rw [ecells_at h (by omega) (by omega)];have := hn.at_ (i := k / 2) (by omega)
  unfold kto ecs
  by_cases h2 : k % 2 = 0
  · rw [if_pos h2, h2]; simp; omega
  · rw [if_neg h2, show k % 2 = 1 by omega]; simp; omega
theorem ecells_left {e : List Arc} {f : List Int} {k : Nat} (h : f.length = e.length) (hk : k < 2 * e.length) : (fA e f)[k / 2 * 4 + 2 + k % 2]? = some (.int .u32 (d9 e f k)) := by
  rw [Nat.add_assoc, ecells_at h (by omega) (by omega)]
  unfold d9 ecs
  by_cases h2 : k % 2 = 0
  · rw [if_pos h2, h2]; simp
  · rw [if_neg h2, show k % 2 = 1 by omega]; simp
theorem ecells_snoc {e : List Arc} {i : Nat} (h : i < e.length) : fA (e.take (i + 1)) (List.replicate (i + 1) 0) = fA (e.take i) (List.replicate i 0) ++ [.int .i64 e[i].src, .int .i64 e[i].dst, .int .u32 e[i].wt, .int .u32 0] := by
  unfold fA
  rw [List.take_succ_eq_append_getElem h, List.replicate_succ', List.zip_append (by simp; omega), List.flatMap_append];simp [ecs]
abbrev eY (ve : Value) (n bat bl bn : Nat) : List Value := [ve, .slice (some ⟨bat, 0, none⟩) n n, .slice (some ⟨bl, 0, none⟩) n n, .slice (some ⟨bn, 0, none⟩) n n]
abbrev jF (bx bat bl bn n : Nat) (ve : Value) (vs : List Value) (G me : Seg) (L nx : List Int) : List Seg :=
  [[(bx, blk (eY ve n bat bl bn) 163)], [(bat, blk vs 25)], G, me, [(bl, blk (a6 L) 3)], [(bn, blk (a6 nx) 3)]]
/-- A search for the greatest flow, in memory. -/
def DRep (n : Nat) (e : List Arc) (f L nx : List Int) (bx : Nat) (m : Seg) : Prop :=
  ∃ bat bl bn ve vs ms me, m.Perm (jF bx bat bl bn n ve vs ms.flatten me L nx).flatten ∧ RowsI 3 (lA e n (2 * e.length)) vs ms ∧ Own 181 4 ve e.length (fA e f) me
theorem DRep_mk {n : Nat} {e : List Arc} {f L nx : List Int} {bx bat bl bn : Nat} {ve : Value} {vs : List Value} {ms : List Seg} {me : Seg} (hR : RowsI 3 (lA e n (2 * e.length)) vs ms) (hE : Own 181 4 ve e.length (fA e f) me) :
    DRep n e f L nx bx (jF bx bat bl bn n ve vs ms.flatten me L nx).flatten := ⟨bat, bl, bn, ve, vs, ms, me, List.Perm.refl _, hR, hE⟩
theorem ints0 (n : Nat) : (List.replicate n [Value.int .i64 0]).flatten = a6 (List.replicate n 0) := by
  induction n with
  | zero => rfl
  | succ n ih => simp only [List.replicate_succ, List.flatten_cons, ih]; rfl
theorem nils (n : Nat) : (List.replicate n [Value.slice none 0 0]).flatten = List.replicate n (Value.slice none 0 0) := by
  induction n with
  | zero => rfl
  | succ n ih => simp only [List.replicate_succ, List.flatten_cons, ih]; rfl
theorem jR {E : TypeId} {v : Value} {l : List Int} {x : Int} {m : Seg} : Own E 1 v (l.length + 1) (a6 l ++ [.int .i64 x]) m = Own E 1 v (l ++ [x]).length (a6 (l ++ [x])) m := by rw [dZ, List.length_append]; rfl
theorem kfrom_even (e : List Arc) (i : Nat) : bZ e (2 * i) = (dD e i).src.toNat := by unfold bZ; rw [if_pos (by omega), show 2 * i / 2 = i by omega]
theorem kfrom_odd (e : List Arc) (i : Nat) : bZ e (2 * i + 1) = (dD e i).dst.toNat := by unfold bZ; rw [if_neg (by omega), show (2 * i + 1) / 2 = i by omega]
theorem shr_one {k : Nat} (h : k < 4294967296) : (k : Int).fdiv (2 ^ (min ((1 : Int).toNat) IntKind.i64.bits)) = ((k / 2 : Nat) : Int) := by
  show (k : Int).fdiv 2 = _
  rw [Int.fdiv_eq_ediv_of_nonneg _ (by decide)]; omega
set_option maxRecDepth 100000 in
set_option maxHeartbeats 4000000 in
theorem to_spec (n : Nat) (e : List Arc) (f : List Int) (bx bat bl bn k cap : Nat) (A : Option Addr) (w : World) (hx : Ro (Fr w []) w (some ⟨bx, 0, none⟩) (eY (.slice A e.length cap) n bat bl bn)) (he : Ro (Fr w []) w A (fA e f)) (hn : NOk n e) (hf : f.length = e.length) (hk : k < 2 * e.length) :
    Meets Tryz.prog 124 [.pointer (some ⟨bx, 0, none⟩), .int .i64 (k : Int)] w [] (fun u m => u = .int .i64 ((kto e k : Nat) : Int) ∧ m = []) := by
 obtain ⟨b', o', e', hSx, hcx⟩ := hx (by simp)
 obtain ⟨rfl, rfl⟩ : bx = b' ∧ 0 = o' := by cases e'; exact ⟨rfl, rfl⟩
 obtain ⟨be, oe, rfl, hSe, hce⟩ := he (by intro h0; have := j7 hf; rw [h0] at this; simp at this; omega)
 have hel := hn.len
 refine bJ Tryz.func124 rfl Tryz.ntmps124 rfl Owns.nil ?_;refine aK fun K1 kh1 => ?_;refine aB ?_;refine aA rfl rfl rfl (aF rfl) ?_;refine aJ ?_;refine aL (kh1 _ _ ?_);clear kh1;refine aK fun K2 kh2 => ?_;refine aB ?_;refine aA rfl rfl rfl (aG rfl) ?_;refine aA rfl rfl rfl (d6 rfl) ?_;refine aA rfl rfl rfl (aQ lY rfl) ?_;refine aA rfl rfl rfl (aM Tryz.isAgg161 rfl (rdS hSx (hcx 0 _ rfl))) ?_;refine aA rfl rfl rfl (aG rfl) ?_;refine aA rfl rfl rfl (o_shr rfl rfl (by decide) ((k / 2 : Nat) : Int) (shr_one (by omega))) ?_;refine aA rfl rfl rfl (aG rfl) ?_;refine aA rfl rfl rfl (o_and rfl rfl ((k % 2 : Nat) : Int) (and_one (by omega))) ?_;refine aA rfl rfl rfl (fV rfl rfl _ (aT (by omega))) ?_;refine aA rfl rfl rfl (bA sl161 rfl rfl (oe + k / 2 * 4) ⟨by omega, by omega, by first | omega | (simp; done) | (simp; omega)⟩) ?_;refine aA rfl rfl rfl (aQ fa181_0 rfl) ?_;refine aA rfl rfl rfl (o_idxA ar117 rfl rfl (oe + k / 2 * 4 + (1 - k % 2)) ⟨by omega, by omega, by first | omega | (simp; done) | (simp; omega)⟩) ?_;refine aA rfl rfl rfl (aM Tryz.isAgg3 rfl (rdS hSe (by have := hce _ _ (ecells_to hn hf hk); rwa [← Nat.add_assoc] at this))) ?_;refine aA rfl rfl rfl (aF rfl) ?_;refine aJ ?_;refine aL (kh2 _ _ ?_);clear kh2;refine a7 ?_;exact bP [] Tryz.results124 rfl aI ⟨rfl, rfl⟩
set_option maxRecDepth 100000 in
set_option maxHeartbeats 4000000 in
theorem left_spec (n : Nat) (e : List Arc) (f : List Int) (bx bat bl bn k cap : Nat) (A : Option Addr) (w : World) (hx : Ro (Fr w []) w (some ⟨bx, 0, none⟩) (eY (.slice A e.length cap) n bat bl bn)) (he : Ro (Fr w []) w A (fA e f)) (hn : NOk n e) (hf : f.length = e.length) (hk : k < 2 * e.length) :
    Meets Tryz.prog 119 [.pointer (some ⟨bx, 0, none⟩), .int .i64 (k : Int)] w [] (fun u m => u = .int .u32 (d9 e f k) ∧ m = []) := by
 obtain ⟨b', o', e', hSx, hcx⟩ := hx (by simp)
 obtain ⟨rfl, rfl⟩ : bx = b' ∧ 0 = o' := by cases e'; exact ⟨rfl, rfl⟩
 obtain ⟨be, oe, rfl, hSe, hce⟩ := he (by intro h0; have := j7 hf; rw [h0] at this; simp at this; omega)
 have hel := hn.len
 refine bJ Tryz.func119 rfl Tryz.ntmps119 rfl Owns.nil ?_;refine aK fun K1 kh1 => ?_;refine aB ?_;refine aA rfl rfl rfl (aF rfl) ?_;refine aJ ?_;refine aL (kh1 _ _ ?_);clear kh1;refine aK fun K2 kh2 => ?_;refine aB ?_;refine aA rfl rfl rfl (aG rfl) ?_;refine aA rfl rfl rfl (d6 rfl) ?_;refine aA rfl rfl rfl (aQ lY rfl) ?_;refine aA rfl rfl rfl (aM Tryz.isAgg161 rfl (rdS hSx (hcx 0 _ rfl))) ?_;refine aA rfl rfl rfl (aG rfl) ?_;refine aA rfl rfl rfl (o_shr rfl rfl (by decide) ((k / 2 : Nat) : Int) (shr_one (by omega))) ?_;refine aA rfl rfl rfl (aG rfl) ?_;refine aA rfl rfl rfl (o_and rfl rfl ((k % 2 : Nat) : Int) (and_one (by omega))) ?_;refine aA rfl rfl rfl (bA sl161 rfl rfl (oe + k / 2 * 4) ⟨by omega, by omega, by first | omega | (simp; done) | (simp; omega)⟩) ?_;refine aA rfl rfl rfl (aQ fa181_1 rfl) ?_;refine aA rfl rfl rfl (o_idxA ar179 rfl rfl (oe + k / 2 * 4 + 2 + k % 2) ⟨by omega, by omega, by first | omega | (simp; done) | (simp; omega)⟩) ?_;refine aA rfl rfl rfl (aM Tryz.isAgg46 rfl (rdS hSe (by have := hce _ _ (ecells_left hf hk); rwa [← Nat.add_assoc, ← Nat.add_assoc] at this))) ?_;refine aA rfl rfl rfl (aF rfl) ?_;refine aJ ?_;refine aL (kh2 _ _ ?_);clear kh2;refine a7 ?_;exact bP [] Tryz.results119 rfl aI ⟨rfl, rfl⟩
set_option maxRecDepth 100000 in
set_option maxHeartbeats 4000000 in
theorem fbegin_spec (n : Nat) (A : Option Addr) (e : List Arc) (cap : Nat) (w : World) (hr : Ro (Fr w []) w A (e.flatMap cE)) (hn : NOk n e) :
    Meets Tryz.prog 100 [.agg #[.int .i64 (n : Int), .slice A e.length cap]] w [] (fun u own' => ∃ bx m, u = .pointer (some ⟨bx, 0, none⟩) ∧ own' = [m] ∧ DRep n e (List.replicate e.length 0) (List.replicate n 0) (List.replicate n 0) bx m) := by
 have hn1 := hn.n1
 have hel := hn.len
 refine bJ Tryz.func100 rfl Tryz.ntmps100 rfl Owns.nil ?_;refine aK fun K1 kh1 => ?_;refine aB ?_;refine aR rfl rfl rfl (cZ rfl rfl fun b1 => ?_);refine aA rfl rfl rfl (aF rfl) ?_;refine aJ ?_;refine aL (kh1 _ _ ?_);clear kh1;refine f_meet (α := Nat × Nat × Nat × Nat) [1] (fun ⟨bx, bat, bl, bn⟩ => [(3, .pointer (some ⟨bx, 0, none⟩))]) (fun ⟨bx, bat, bl, bn⟩ => [[(bx, blk (eY (.slice none 0 0) n bat bl bn) 163)], [(bat, blk (List.replicate n (.slice none 0 0)) 25)], [(bl, blk (a6 (List.replicate n 0)) 3)], [(bn, blk (a6 (List.replicate n 0)) 3)], [(b1, blk [.int .i64 (n : Int), .slice A e.length cap] 133)]]) (fun ⟨bx, bat, bl, bn⟩ => True) ?_ ?_
 ·
  intro K2 kh2;refine dH [[(b1, blk [.int .i64 (n : Int), .slice A e.length cap] 133)]] rfl ?_;refine aU 0 rfl (by decide +kernel) rfl rfl rfl (by repeat first|exact aI|refine aD ?_|refine aC rfl ?_|refine aH ?_) (aQ i8 rfl) ?_;refine aU 1 rfl (by decide +kernel) rfl rfl rfl (by repeat first|exact aI|refine aD ?_|refine aC rfl ?_|refine aH ?_) (aM Tryz.isAgg3 rfl (rdA rfl)) ?_;refine aU 3 rfl (by decide +kernel) rfl rfl rfl (by repeat first|exact aI|refine aD ?_|refine aC rfl ?_|refine aH ?_) (aQ i8 rfl) ?_;refine aU 4 rfl (by decide +kernel) rfl rfl rfl (by repeat first|exact aI|refine aD ?_|refine aC rfl ?_|refine aH ?_) (aM Tryz.isAgg3 rfl (rdA rfl)) ?_;refine aU 6 rfl (by decide +kernel) rfl rfl rfl (by repeat first|exact aI|refine aD ?_|refine aC rfl ?_|refine aH ?_) (aQ i8 rfl) ?_;refine aU 7 rfl (by decide +kernel) rfl rfl rfl (by repeat first|exact aI|refine aD ?_|refine aC rfl ?_|refine aH ?_) (aM Tryz.isAgg3 rfl (rdA rfl)) ?_;refine f_three 2 5 8 rfl rfl rfl (by decide +kernel) rfl rfl rfl rfl rfl rfl rfl rfl rfl ?_ ?_ ?_
  ·
   refine (d3 el30 rfl rfl n rfl (by omega) (by omega) (List.replicate n (.slice none 0 0)) (nils n) fun b8 => ⟨(by repeat first|exact aI|refine aD ?_|refine aC rfl ?_|refine aH ?_), ?_⟩);refine jE 5 8 rfl rfl (by decide +kernel) rfl rfl rfl rfl rfl rfl ?_ ?_
   ·
    refine (d3 dV rfl rfl n rfl (by omega) (by omega) (a6 (List.replicate n 0)) (ints0 n) fun b11 => ⟨(by repeat first|exact aI|refine aD ?_|refine aC rfl ?_|refine aH ?_), ?_⟩);refine bQ 8 rfl (by decide +kernel) rfl rfl rfl (d3 dV rfl rfl n rfl (by omega) (by omega) (a6 (List.replicate n 0)) (ints0 n) fun b14 => ⟨(by repeat first|exact aI|refine aD ?_|refine aC rfl ?_|refine aH ?_), ?_⟩);refine aU 9 rfl (by decide +kernel) rfl rfl rfl (by repeat first|exact aI|refine aD ?_|refine aC rfl ?_|refine aH ?_) (dB (cs := eY (.slice none 0 0) n b8 b11 b14) st163 rfl (by kernel_rfl)) ?_;refine bQ 10 rfl (by decide +kernel) rfl rfl rfl (cZ rfl rfl fun b16 => ⟨(by repeat first|exact aI|refine aD ?_|refine aC rfl ?_|refine aH ?_), ?_⟩);refine bQ 11 rfl (by decide +kernel) rfl rfl rfl ((aF rfl).does ⟨(by repeat first|exact aI|refine aD ?_|refine aC rfl ?_|refine aH ?_), ?_⟩);refine dF (by decide +kernel) ?_;refine aL (kh2 _ _ (b16, b8, b11, b14) trivial ?_ ?_ ?_)
    · exact (by repeat constructor)
    · exact (by repeat constructor)
    · repeat first|exact aI|refine aD ?_|refine aC rfl ?_|refine aH ?_
   ·
    refine (d3 dV rfl rfl n rfl (by omega) (by omega) (a6 (List.replicate n 0)) (ints0 n) fun b14 => ⟨(by repeat first|exact aI|refine aD ?_|refine aC rfl ?_|refine aH ?_), ?_⟩);refine bQ 5 rfl (by decide +kernel) rfl rfl rfl (d3 dV rfl rfl n rfl (by omega) (by omega) (a6 (List.replicate n 0)) (ints0 n) fun b11 => ⟨(by repeat first|exact aI|refine aD ?_|refine aC rfl ?_|refine aH ?_), ?_⟩);refine aU 9 rfl (by decide +kernel) rfl rfl rfl (by repeat first|exact aI|refine aD ?_|refine aC rfl ?_|refine aH ?_) (dB (cs := eY (.slice none 0 0) n b8 b11 b14) st163 rfl (by kernel_rfl)) ?_;refine bQ 10 rfl (by decide +kernel) rfl rfl rfl (cZ rfl rfl fun b16 => ⟨(by repeat first|exact aI|refine aD ?_|refine aC rfl ?_|refine aH ?_), ?_⟩);refine bQ 11 rfl (by decide +kernel) rfl rfl rfl ((aF rfl).does ⟨(by repeat first|exact aI|refine aD ?_|refine aC rfl ?_|refine aH ?_), ?_⟩);refine dF (by decide +kernel) ?_;refine aL (kh2 _ _ (b16, b8, b11, b14) trivial ?_ ?_ ?_)
    · exact (by repeat constructor)
    · exact (by repeat constructor)
    · repeat first|exact aI|refine aD ?_|refine aC rfl ?_|refine aH ?_
  ·
   refine (d3 dV rfl rfl n rfl (by omega) (by omega) (a6 (List.replicate n 0)) (ints0 n) fun b11 => ⟨(by repeat first|exact aI|refine aD ?_|refine aC rfl ?_|refine aH ?_), ?_⟩);refine jE 2 8 rfl rfl (by decide +kernel) rfl rfl rfl rfl rfl rfl ?_ ?_
   ·
    refine (d3 el30 rfl rfl n rfl (by omega) (by omega) (List.replicate n (.slice none 0 0)) (nils n) fun b8 => ⟨(by repeat first|exact aI|refine aD ?_|refine aC rfl ?_|refine aH ?_), ?_⟩);refine bQ 8 rfl (by decide +kernel) rfl rfl rfl (d3 dV rfl rfl n rfl (by omega) (by omega) (a6 (List.replicate n 0)) (ints0 n) fun b14 => ⟨(by repeat first|exact aI|refine aD ?_|refine aC rfl ?_|refine aH ?_), ?_⟩);refine aU 9 rfl (by decide +kernel) rfl rfl rfl (by repeat first|exact aI|refine aD ?_|refine aC rfl ?_|refine aH ?_) (dB (cs := eY (.slice none 0 0) n b8 b11 b14) st163 rfl (by kernel_rfl)) ?_;refine bQ 10 rfl (by decide +kernel) rfl rfl rfl (cZ rfl rfl fun b16 => ⟨(by repeat first|exact aI|refine aD ?_|refine aC rfl ?_|refine aH ?_), ?_⟩);refine bQ 11 rfl (by decide +kernel) rfl rfl rfl ((aF rfl).does ⟨(by repeat first|exact aI|refine aD ?_|refine aC rfl ?_|refine aH ?_), ?_⟩);refine dF (by decide +kernel) ?_;refine aL (kh2 _ _ (b16, b8, b11, b14) trivial ?_ ?_ ?_)
    · exact (by repeat constructor)
    · exact (by repeat constructor)
    · repeat first|exact aI|refine aD ?_|refine aC rfl ?_|refine aH ?_
   ·
    refine (d3 dV rfl rfl n rfl (by omega) (by omega) (a6 (List.replicate n 0)) (ints0 n) fun b14 => ⟨(by repeat first|exact aI|refine aD ?_|refine aC rfl ?_|refine aH ?_), ?_⟩);refine bQ 2 rfl (by decide +kernel) rfl rfl rfl (d3 el30 rfl rfl n rfl (by omega) (by omega) (List.replicate n (.slice none 0 0)) (nils n) fun b8 => ⟨(by repeat first|exact aI|refine aD ?_|refine aC rfl ?_|refine aH ?_), ?_⟩);refine aU 9 rfl (by decide +kernel) rfl rfl rfl (by repeat first|exact aI|refine aD ?_|refine aC rfl ?_|refine aH ?_) (dB (cs := eY (.slice none 0 0) n b8 b11 b14) st163 rfl (by kernel_rfl)) ?_;refine bQ 10 rfl (by decide +kernel) rfl rfl rfl (cZ rfl rfl fun b16 => ⟨(by repeat first|exact aI|refine aD ?_|refine aC rfl ?_|refine aH ?_), ?_⟩);refine bQ 11 rfl (by decide +kernel) rfl rfl rfl ((aF rfl).does ⟨(by repeat first|exact aI|refine aD ?_|refine aC rfl ?_|refine aH ?_), ?_⟩);refine dF (by decide +kernel) ?_;refine aL (kh2 _ _ (b16, b8, b11, b14) trivial ?_ ?_ ?_)
    · exact (by repeat constructor)
    · exact (by repeat constructor)
    · repeat first|exact aI|refine aD ?_|refine aC rfl ?_|refine aH ?_
  ·
   refine (d3 dV rfl rfl n rfl (by omega) (by omega) (a6 (List.replicate n 0)) (ints0 n) fun b14 => ⟨(by repeat first|exact aI|refine aD ?_|refine aC rfl ?_|refine aH ?_), ?_⟩);refine jE 2 5 rfl rfl (by decide +kernel) rfl rfl rfl rfl rfl rfl ?_ ?_
   ·
    refine (d3 el30 rfl rfl n rfl (by omega) (by omega) (List.replicate n (.slice none 0 0)) (nils n) fun b8 => ⟨(by repeat first|exact aI|refine aD ?_|refine aC rfl ?_|refine aH ?_), ?_⟩);refine bQ 5 rfl (by decide +kernel) rfl rfl rfl (d3 dV rfl rfl n rfl (by omega) (by omega) (a6 (List.replicate n 0)) (ints0 n) fun b11 => ⟨(by repeat first|exact aI|refine aD ?_|refine aC rfl ?_|refine aH ?_), ?_⟩);refine aU 9 rfl (by decide +kernel) rfl rfl rfl (by repeat first|exact aI|refine aD ?_|refine aC rfl ?_|refine aH ?_) (dB (cs := eY (.slice none 0 0) n b8 b11 b14) st163 rfl (by kernel_rfl)) ?_;refine bQ 10 rfl (by decide +kernel) rfl rfl rfl (cZ rfl rfl fun b16 => ⟨(by repeat first|exact aI|refine aD ?_|refine aC rfl ?_|refine aH ?_), ?_⟩);refine bQ 11 rfl (by decide +kernel) rfl rfl rfl ((aF rfl).does ⟨(by repeat first|exact aI|refine aD ?_|refine aC rfl ?_|refine aH ?_), ?_⟩);refine dF (by decide +kernel) ?_;refine aL (kh2 _ _ (b16, b8, b11, b14) trivial ?_ ?_ ?_)
    · exact (by repeat constructor)
    · exact (by repeat constructor)
    · repeat first|exact aI|refine aD ?_|refine aC rfl ?_|refine aH ?_
   ·
    refine (d3 dV rfl rfl n rfl (by omega) (by omega) (a6 (List.replicate n 0)) (ints0 n) fun b11 => ⟨(by repeat first|exact aI|refine aD ?_|refine aC rfl ?_|refine aH ?_), ?_⟩);refine bQ 2 rfl (by decide +kernel) rfl rfl rfl (d3 el30 rfl rfl n rfl (by omega) (by omega) (List.replicate n (.slice none 0 0)) (nils n) fun b8 => ⟨(by repeat first|exact aI|refine aD ?_|refine aC rfl ?_|refine aH ?_), ?_⟩);refine aU 9 rfl (by decide +kernel) rfl rfl rfl (by repeat first|exact aI|refine aD ?_|refine aC rfl ?_|refine aH ?_) (dB (cs := eY (.slice none 0 0) n b8 b11 b14) st163 rfl (by kernel_rfl)) ?_;refine bQ 10 rfl (by decide +kernel) rfl rfl rfl (cZ rfl rfl fun b16 => ⟨(by repeat first|exact aI|refine aD ?_|refine aC rfl ?_|refine aH ?_), ?_⟩);refine bQ 11 rfl (by decide +kernel) rfl rfl rfl ((aF rfl).does ⟨(by repeat first|exact aI|refine aD ?_|refine aC rfl ?_|refine aH ?_), ?_⟩);refine dF (by decide +kernel) ?_;refine aL (kh2 _ _ (b16, b8, b11, b14) trivial ?_ ?_ ?_)
    · exact (by repeat constructor)
    · exact (by repeat constructor)
    · repeat first|exact aI|refine aD ?_|refine aC rfl ?_|refine aH ?_
 ·
  rintro ⟨bx, bat, bl, bn⟩ _;refine aK fun K3 kh3 => ?_;refine aK fun K4 kh4 => ?_;refine aB ?_;refine aA rfl rfl rfl (aQ fa133_1 rfl) ?_;refine aA rfl rfl rfl (aM Tryz.isAgg131 rfl (rdA rfl)) ?_;refine aA rfl rfl rfl (bS sl131 rfl) ?_;refine aA rfl rfl rfl (aG rfl) ?_;refine aJ ?_;refine aL (kh4 _ _ ?_);clear kh4;refine aY ?_;refine cS (α := Nat × Value × Seg × List Value × List Seg) [3, 18, 19] (fun ⟨i, ve, me, vs, ms⟩ => [(20, .int .i64 (i : Int))]) (fun ⟨i, ve, me, vs, ms⟩ => [[(bx, blk (eY ve n bat bl bn) 163)], me, [(bat, blk vs 25)], ms.flatten, [(bl, blk (a6 (List.replicate n 0)) 3)], [(bn, blk (a6 (List.replicate n 0)) 3)], [(b1, blk [.int .i64 (n : Int), .slice A e.length cap] 133)]]) (fun ⟨i, ve, me, vs, ms⟩ => i ≤ e.length ∧ Own 181 4 ve i (fA (e.take i) (List.replicate i 0)) me ∧ RowsI 3 (lA e n (2 * i)) vs ms) (fun ⟨i, ve, me, vs, ms⟩ => e.length - i) (0, .slice none 0 0, [], List.replicate n (.slice none 0 0), List.replicate n []) ?_ ?_ ?_ ?_
  · exact (by repeat constructor)
  · dsimp only
    rw [show (List.replicate n ([] : Seg)).flatten = [] from by simp]
    repeat first|exact aI|refine aD ?_|refine aC rfl ?_|refine aH ?_
  · exact ⟨Nat.zero_le _, Own.nil _ _, by rw [kRows_zero]; exact RowsI.start _ n⟩
  ·
   rintro ⟨i, ve, me, vs, ms⟩ ⟨hie, hE, hR⟩;refine eX (e := [(20, _), (3, _), (18, _), (19, _)]) (by repeat constructor) ?_;refine aK fun K5 kh5 => ?_;refine aB ?_;refine aA rfl rfl rfl (cD rfl rfl) ?_;refine aJ ?_;refine aL (kh5 _ _ ?_);clear kh5;refine aK fun K6 kh6 => ?_;refine aZ rfl (fun c21 => ?_) (fun c21 => ?_)
   ·
    refine aW ?_;refine aL (kh6 _ _ ?_);clear kh6;refine aK fun K7 kh7 => ?_;refine aY ?_;refine aK fun K8 kh8 => ?_;refine aB ?_;refine aA rfl rfl rfl (aG rfl) ?_;have hi : i < e.length := by omega
    obtain ⟨bl', off, rfl, hS, hc⟩ := hr (f9 cE dO (by omega) hi)
    have hgi := hn.good i hi
    have hat := lH hi
    have hk0 : bZ e (2 * i) < n := by rw [kfrom_even, hat]; omega
    have hk1 : bZ e (2 * i + 1) < n := by rw [kfrom_odd, hat]; omega
    have hs0 : e[i].src = ((bZ e (2 * i) : Nat) : Int) := by rw [kfrom_even, hat]; omega
    have hs1 : e[i].dst = ((bZ e (2 * i + 1) : Nat) : Int) := by rw [kfrom_odd, hat]; omega
    refine aA rfl rfl rfl (bA sl131 rfl rfl (off + i * 3) ⟨by omega, by omega, by first | omega | (simp; done) | (simp; omega)⟩) ?_;refine aA rfl rfl rfl (a8 (vs := cE e[i]) Tryz.isAgg135 Tryz.sizeOf135 rfl rfl (gN dO hS hc hi)) ?_;refine aR rfl rfl rfl (cU Tryz.zeroValue135 rfl fun b5 => ?_);refine aA rfl rfl rfl (aF rfl) ?_;refine bF rfl rfl (cA Tryz.sizeOf135 rfl rfl rfl rfl (by first | exact Nat.le_of_ble_eq_true rfl | (simp; done) | (simp; omega)) (cE e[i]) rfl ?_);refine aJ ?_;refine aL (kh8 _ _ ?_);clear kh8;refine f_meet (α := Value × Seg) [3, 4, 5, 18, 19, 20] (fun ⟨v40, m40⟩ => []) (fun ⟨v40, m40⟩ => [[(bx, blk (eY v40 n bat bl bn) 163)], m40, [(bat, blk vs 25)], ms.flatten, [(bl, blk (a6 (List.replicate n 0)) 3)], [(bn, blk (a6 (List.replicate n 0)) 3)], [(b5, blk (cE e[i]) 135)], [(b1, blk [.int .i64 (n : Int), .slice (some ⟨bl', off, none⟩) e.length cap] 133)]]) (fun ⟨v40, m40⟩ => Own 181 4 v40 (i + 1) (fA (e.take i) (List.replicate i 0) ++ [.int .i64 e[i].src, .int .i64 e[i].dst, .int .u32 e[i].wt, .int .u32 0]) m40) ?_ ?_
    ·
     intro K9 kh9;refine dH [[(b5, blk (cE e[i]) 135)]] rfl ?_;refine aU 0 rfl (by decide +kernel) rfl rfl rfl (by repeat first|exact aI|refine aD ?_|refine aC rfl ?_|refine aH ?_) (aG rfl) ?_;refine aU 1 rfl (by decide +kernel) rfl rfl rfl (by repeat first|exact aI|refine aD ?_|refine aC rfl ?_|refine aH ?_) (aG rfl) ?_;refine aU 2 rfl (by decide +kernel) rfl rfl rfl (by repeat first|exact aI|refine aD ?_|refine aC rfl ?_|refine aH ?_) (d6 rfl) ?_;refine aU 3 rfl (by decide +kernel) rfl rfl rfl (by repeat first|exact aI|refine aD ?_|refine aC rfl ?_|refine aH ?_) (aQ lY rfl) ?_;refine aU 5 rfl (by decide +kernel) rfl rfl rfl (by repeat first|exact aI|refine aD ?_|refine aC rfl ?_|refine aH ?_) (aQ fa135_0 rfl) ?_;refine aU 6 rfl (by decide +kernel) rfl rfl rfl (by repeat first|exact aI|refine aD ?_|refine aC rfl ?_|refine aH ?_) (aM Tryz.isAgg3 rfl (rdA rfl)) ?_;refine aU 7 rfl (by decide +kernel) rfl rfl rfl (by repeat first|exact aI|refine aD ?_|refine aC rfl ?_|refine aH ?_) (aQ fa135_1 rfl) ?_;refine aU 8 rfl (by decide +kernel) rfl rfl rfl (by repeat first|exact aI|refine aD ?_|refine aC rfl ?_|refine aH ?_) (aM Tryz.isAgg3 rfl (rdA rfl)) ?_;refine aU 9 rfl (by decide +kernel) rfl rfl rfl (by repeat first|exact aI|refine aD ?_|refine aC rfl ?_|refine aH ?_) (o_buildA (cs := [.int .i64 e[i].src, .int .i64 e[i].dst]) ar117 rfl (by kernel_rfl)) ?_;refine aU 10 rfl (by decide +kernel) rfl rfl rfl (by repeat first|exact aI|refine aD ?_|refine aC rfl ?_|refine aH ?_) (aQ fa135_2 rfl) ?_;refine aU 11 rfl (by decide +kernel) rfl rfl rfl (by repeat first|exact aI|refine aD ?_|refine aC rfl ?_|refine aH ?_) (aM Tryz.isAgg46 rfl (rdA rfl)) ?_;refine aU 12 rfl (by decide +kernel) rfl rfl rfl (by repeat first|exact aI|refine aD ?_|refine aC rfl ?_|refine aH ?_) (o_buildA (cs := [.int .u32 e[i].wt, .int .u32 0]) ar179 rfl (by kernel_rfl)) ?_;refine aU 13 rfl (by decide +kernel) rfl rfl rfl (by repeat first|exact aI|refine aD ?_|refine aC rfl ?_|refine aH ?_) (dB (cs := [.int .i64 e[i].src, .int .i64 e[i].dst, .int .u32 e[i].wt, .int .u32 0]) st181 rfl (by kernel_rfl)) ?_;refine jE 4 14 rfl rfl (by decide +kernel) rfl rfl rfl rfl rfl rfl ?_ ?_
     ·
      refine (aM Tryz.isAgg161 rfl (rdA rfl)).does ⟨(by repeat first|exact aI|refine aD ?_|refine aC rfl ?_|refine aH ?_), ?_⟩;refine bQ 14 rfl (by decide +kernel) rfl rfl rfl (dA el161 (by omega) rfl rfl rfl fun b39 => ⟨(by repeat first|exact aI|refine aD ?_|refine aC rfl ?_|refine aH ?_), ?_⟩);refine bQ 15 rfl (by decide +kernel) rfl rfl rfl (dG el161 rfl rfl hE (ys := [.int .i64 e[i].src, .int .i64 e[i].dst, .int .u32 e[i].wt, .int .u32 0]) ⟨(rdA rfl), (rdA rfl), (rdA rfl), (rdA rfl), trivial⟩ rfl rfl (by omega) (by omega) fun v40 m40 o40 => ⟨(by repeat first|exact aI|refine aD ?_|refine aC rfl ?_|refine aH ?_), ?_⟩);obtain ⟨A40, cap40, rfl, _⟩ := o40.val
      refine aU 16 rfl (by decide +kernel) rfl rfl rfl (by repeat first|exact aI|refine aD ?_|refine aC rfl ?_|refine aH ?_) (d6 rfl) ?_;refine aU 17 rfl (by decide +kernel) rfl rfl rfl (by repeat first|exact aI|refine aD ?_|refine aC rfl ?_|refine aH ?_) (aQ lY rfl) ?_;refine eM 18 rfl (by decide +kernel) rfl rfl (cB Tryz.sizeOf161 rfl rfl rfl rfl (by first | exact Nat.le_of_ble_eq_true rfl | (simp; done) | (simp; omega)) (eY (.slice A40 (i + 1) cap40) n bat bl bn) rfl ⟨(by repeat first|exact aI|refine aD ?_|refine aC rfl ?_|refine aH ?_), ?_⟩);refine dF (by decide +kernel) ?_;refine aL (kh9 _ _ (.slice A40 (i + 1) cap40, m40) o40 ?_ ?_ ?_)
      · exact (by repeat constructor)
      · exact (by repeat constructor)
      · repeat first|exact aI|refine aD ?_|refine aC rfl ?_|refine aH ?_
     ·
      refine (dA el161 (by omega) rfl rfl rfl fun b39 => ⟨(by repeat first|exact aI|refine aD ?_|refine aC rfl ?_|refine aH ?_), ?_⟩);refine bQ 4 rfl (by decide +kernel) rfl rfl rfl ((aM Tryz.isAgg161 rfl (rdA rfl)).does ⟨(by repeat first|exact aI|refine aD ?_|refine aC rfl ?_|refine aH ?_), ?_⟩);refine bQ 15 rfl (by decide +kernel) rfl rfl rfl (dG el161 rfl rfl hE (ys := [.int .i64 e[i].src, .int .i64 e[i].dst, .int .u32 e[i].wt, .int .u32 0]) ⟨(rdA rfl), (rdA rfl), (rdA rfl), (rdA rfl), trivial⟩ rfl rfl (by omega) (by omega) fun v40 m40 o40 => ⟨(by repeat first|exact aI|refine aD ?_|refine aC rfl ?_|refine aH ?_), ?_⟩);obtain ⟨A40, cap40, rfl, _⟩ := o40.val
      refine aU 16 rfl (by decide +kernel) rfl rfl rfl (by repeat first|exact aI|refine aD ?_|refine aC rfl ?_|refine aH ?_) (d6 rfl) ?_;refine aU 17 rfl (by decide +kernel) rfl rfl rfl (by repeat first|exact aI|refine aD ?_|refine aC rfl ?_|refine aH ?_) (aQ lY rfl) ?_;refine eM 18 rfl (by decide +kernel) rfl rfl (cB Tryz.sizeOf161 rfl rfl rfl rfl (by first | exact Nat.le_of_ble_eq_true rfl | (simp; done) | (simp; omega)) (eY (.slice A40 (i + 1) cap40) n bat bl bn) rfl ⟨(by repeat first|exact aI|refine aD ?_|refine aC rfl ?_|refine aH ?_), ?_⟩);refine dF (by decide +kernel) ?_;refine aL (kh9 _ _ (.slice A40 (i + 1) cap40, m40) o40 ?_ ?_ ?_)
      · exact (by repeat constructor)
      · exact (by repeat constructor)
      · repeat first|exact aI|refine aD ?_|refine aC rfl ?_|refine aH ?_
    ·
     rintro ⟨v40, m40⟩ o40;obtain ⟨rv, rm, rG, hrv, hro, hrp, hput⟩ := hR.split (i := bZ e (2 * i)) (by rw [iI]; omega)
     rw [i1] at hro;have hrlen := kRow_len e (2 * i) (bZ e (2 * i))
     obtain ⟨Ar, cr, rfl, hcr⟩ := hro.val
     refine gB (Sub.splitF hrp) ?_;refine f_meet (α := Value × Seg) [3, 4, 5, 18, 19, 20] (fun ⟨v60, m60⟩ => []) (fun ⟨v60, m60⟩ => [[(bx, blk (eY v40 n bat bl bn) 163)], m40, [(bat, blk (vs.set (bZ e (2 * i)) v60) 25)], m60, rG, [(bl, blk (a6 (List.replicate n 0)) 3)], [(bn, blk (a6 (List.replicate n 0)) 3)], [(b5, blk (cE e[i]) 135)], [(b1, blk [.int .i64 (n : Int), .slice (some ⟨bl', off, none⟩) e.length cap] 133)]]) (fun ⟨v60, m60⟩ => Own 3 1 v60 ((gK e (2 * i) (bZ e (2 * i))).length + 1) (a6 (gK e (2 * i) (bZ e (2 * i))) ++ [.int .i64 ((2 * i : Nat) : Int)]) m60) ?_ ?_
     ·
      intro K10 kh10;refine dH [[(bx, blk (eY v40 n bat bl bn) 163)], [(b5, blk (cE e[i]) 135)]] rfl ?_;refine aU 0 rfl (by decide +kernel) rfl rfl rfl (by repeat first|exact aI|refine aD ?_|refine aC rfl ?_|refine aH ?_) (aG rfl) ?_;refine aU 1 rfl (by decide +kernel) rfl rfl rfl (by repeat first|exact aI|refine aD ?_|refine aC rfl ?_|refine aH ?_) (d6 rfl) ?_;refine aU 2 rfl (by decide +kernel) rfl rfl rfl (by repeat first|exact aI|refine aD ?_|refine aC rfl ?_|refine aH ?_) (aQ lX rfl) ?_;refine aU 3 rfl (by decide +kernel) rfl rfl rfl (by repeat first|exact aI|refine aD ?_|refine aC rfl ?_|refine aH ?_) (aM Tryz.isAgg30 rfl (rdA rfl)) ?_;refine aU 4 rfl (by decide +kernel) rfl rfl rfl (by repeat first|exact aI|refine aD ?_|refine aC rfl ?_|refine aH ?_) (aQ fa135_0 rfl) ?_;refine aU 5 rfl (by decide +kernel) rfl rfl rfl (by repeat first|exact aI|refine aD ?_|refine aC rfl ?_|refine aH ?_) (aM Tryz.isAgg3 rfl (rdA rfl)) ?_;refine aU 6 rfl (by decide +kernel) rfl rfl rfl (by repeat first|exact aI|refine aD ?_|refine aC rfl ?_|refine aH ?_) (aG rfl) ?_;refine aU 7 rfl (by decide +kernel) rfl rfl rfl (by repeat first|exact aI|refine aD ?_|refine aC rfl ?_|refine aH ?_) (d6 rfl) ?_;refine aU 8 rfl (by decide +kernel) rfl rfl rfl (by repeat first|exact aI|refine aD ?_|refine aC rfl ?_|refine aH ?_) (aQ lX rfl) ?_;refine aU 9 rfl (by decide +kernel) rfl rfl rfl (by repeat first|exact aI|refine aD ?_|refine aC rfl ?_|refine aH ?_) (aM Tryz.isAgg30 rfl (rdA rfl)) ?_;refine aU 10 rfl (by decide +kernel) rfl rfl rfl (by repeat first|exact aI|refine aD ?_|refine aC rfl ?_|refine aH ?_) (aQ fa135_0 rfl) ?_;refine aU 11 rfl (by decide +kernel) rfl rfl rfl (by repeat first|exact aI|refine aD ?_|refine aC rfl ?_|refine aH ?_) (aM Tryz.isAgg3 rfl (rdA rfl)) ?_;refine aU 12 rfl (by decide +kernel) rfl rfl rfl (by repeat first|exact aI|refine aD ?_|refine aC rfl ?_|refine aH ?_) (bA gD rfl rfl (bZ e (2 * i)) ⟨by omega, by omega, by first | omega | (simp; done) | (simp; omega)⟩) ?_;refine aU 14 rfl (by decide +kernel) rfl rfl rfl (by repeat first|exact aI|refine aD ?_|refine aC rfl ?_|refine aH ?_) (aG rfl) ?_;refine aU 15 rfl (by decide +kernel) rfl rfl rfl (by repeat first|exact aI|refine aD ?_|refine aC rfl ?_|refine aH ?_) (o_mul rfl rfl _ (show IntKind.i64.wrap (2 * (i : Int)) = ((2 * i : Nat) : Int) from by rw [aT (by omega)]; omega)) ?_
      refine jE 13 16 rfl rfl (by decide +kernel) rfl rfl rfl rfl rfl rfl ?_ ?_
      ·
       refine (aM Tryz.isAgg25 rfl (rdA hrv)).does ⟨(by repeat first|exact aI|refine aD ?_|refine aC rfl ?_|refine aH ?_), ?_⟩;refine bQ 16 rfl (by decide +kernel) rfl rfl rfl (dA dV (by omega) rfl rfl rfl fun b59 => ⟨(by repeat first|exact aI|refine aD ?_|refine aC rfl ?_|refine aH ?_), ?_⟩);refine bQ 17 rfl (by decide +kernel) rfl rfl rfl (dG dV rfl rfl hro (ys := [.int .i64 ((2 * i : Nat) : Int)]) ⟨(rdA rfl), trivial⟩ rfl rfl (by omega) (by omega) fun v60 m60 o60 => ⟨(by repeat first|exact aI|refine aD ?_|refine aC rfl ?_|refine aH ?_), ?_⟩);obtain ⟨A60, cap60, rfl, _⟩ := o60.val
       refine aU 18 rfl (by decide +kernel) rfl rfl rfl (by repeat first|exact aI|refine aD ?_|refine aC rfl ?_|refine aH ?_) (bA gD rfl rfl (bZ e (2 * i)) ⟨by omega, by omega, by first | omega | (simp; done) | (simp; omega)⟩) ?_;refine eM 19 rfl (by decide +kernel) rfl rfl (cB Tryz.sizeOf25 rfl rfl rfl rfl (by have := hR.lv; rw [iI] at this; omega) (vs.set (bZ e (2 * i)) (.slice A60 ((gK e (2 * i) (bZ e (2 * i))).length + 1) cap60)) rfl ⟨(by repeat first|exact aI|refine aD ?_|refine aC rfl ?_|refine aH ?_), ?_⟩);refine dF (by decide +kernel) ?_;refine aL (kh10 _ _ (.slice A60 ((gK e (2 * i) (bZ e (2 * i))).length + 1) cap60, m60) o60 ?_ ?_ ?_)
       · exact (by repeat constructor)
       · exact (by repeat constructor)
       · repeat first|exact aI|refine aD ?_|refine aC rfl ?_|refine aH ?_
      ·
       refine (dA dV (by omega) rfl rfl rfl fun b59 => ⟨(by repeat first|exact aI|refine aD ?_|refine aC rfl ?_|refine aH ?_), ?_⟩);refine bQ 13 rfl (by decide +kernel) rfl rfl rfl ((aM Tryz.isAgg25 rfl (rdA hrv)).does ⟨(by repeat first|exact aI|refine aD ?_|refine aC rfl ?_|refine aH ?_), ?_⟩);refine bQ 17 rfl (by decide +kernel) rfl rfl rfl (dG dV rfl rfl hro (ys := [.int .i64 ((2 * i : Nat) : Int)]) ⟨(rdA rfl), trivial⟩ rfl rfl (by omega) (by omega) fun v60 m60 o60 => ⟨(by repeat first|exact aI|refine aD ?_|refine aC rfl ?_|refine aH ?_), ?_⟩);obtain ⟨A60, cap60, rfl, _⟩ := o60.val
       refine aU 18 rfl (by decide +kernel) rfl rfl rfl (by repeat first|exact aI|refine aD ?_|refine aC rfl ?_|refine aH ?_) (bA gD rfl rfl (bZ e (2 * i)) ⟨by omega, by omega, by first | omega | (simp; done) | (simp; omega)⟩) ?_;refine eM 19 rfl (by decide +kernel) rfl rfl (cB Tryz.sizeOf25 rfl rfl rfl rfl (by have := hR.lv; rw [iI] at this; omega) (vs.set (bZ e (2 * i)) (.slice A60 ((gK e (2 * i) (bZ e (2 * i))).length + 1) cap60)) rfl ⟨(by repeat first|exact aI|refine aD ?_|refine aC rfl ?_|refine aH ?_), ?_⟩);refine dF (by decide +kernel) ?_;refine aL (kh10 _ _ (.slice A60 ((gK e (2 * i) (bZ e (2 * i))).length + 1) cap60, m60) o60 ?_ ?_ ?_)
       · exact (by repeat constructor)
       · exact (by repeat constructor)
       · repeat first|exact aI|refine aD ?_|refine aC rfl ?_|refine aH ?_
     ·
      rintro ⟨v60, m60⟩ o60;have hR2 := (hput _ _ _ (by rw [← jR]; exact o60)).1
      rw [kRows_next hk0] at hR2;refine gB (Sub.joinF (m := m60) (G' := rG) (hput _ _ _ (by rw [← jR]; exact o60)).2) ?_;obtain ⟨rv, rm, rG, hrv, hro, hrp, hput⟩ := hR2.split (i := bZ e (2 * i + 1)) (by rw [iI]; omega)
      rw [i1] at hro;have hrlen := kRow_len e (2 * i + 1) (bZ e (2 * i + 1))
      obtain ⟨Ar, cr, rfl, hcr⟩ := hro.val
      refine gB (Sub.splitF hrp) ?_;refine dH [[(bx, blk (eY v40 n bat bl bn) 163)], [(b5, blk (cE e[i]) 135)]] rfl ?_;refine aU 0 rfl (by decide +kernel) rfl rfl rfl (by repeat first|exact aI|refine aD ?_|refine aC rfl ?_|refine aH ?_) (aG rfl) ?_;refine aU 1 rfl (by decide +kernel) rfl rfl rfl (by repeat first|exact aI|refine aD ?_|refine aC rfl ?_|refine aH ?_) (d6 rfl) ?_;refine aU 2 rfl (by decide +kernel) rfl rfl rfl (by repeat first|exact aI|refine aD ?_|refine aC rfl ?_|refine aH ?_) (aQ lX rfl) ?_;refine aU 3 rfl (by decide +kernel) rfl rfl rfl (by repeat first|exact aI|refine aD ?_|refine aC rfl ?_|refine aH ?_) (aM Tryz.isAgg30 rfl (rdA rfl)) ?_;refine aU 4 rfl (by decide +kernel) rfl rfl rfl (by repeat first|exact aI|refine aD ?_|refine aC rfl ?_|refine aH ?_) (aQ fa135_1 rfl) ?_;refine aU 5 rfl (by decide +kernel) rfl rfl rfl (by repeat first|exact aI|refine aD ?_|refine aC rfl ?_|refine aH ?_) (aM Tryz.isAgg3 rfl (rdA rfl)) ?_;refine aU 6 rfl (by decide +kernel) rfl rfl rfl (by repeat first|exact aI|refine aD ?_|refine aC rfl ?_|refine aH ?_) (aG rfl) ?_;refine aU 7 rfl (by decide +kernel) rfl rfl rfl (by repeat first|exact aI|refine aD ?_|refine aC rfl ?_|refine aH ?_) (d6 rfl) ?_;refine aU 8 rfl (by decide +kernel) rfl rfl rfl (by repeat first|exact aI|refine aD ?_|refine aC rfl ?_|refine aH ?_) (aQ lX rfl) ?_;refine aU 9 rfl (by decide +kernel) rfl rfl rfl (by repeat first|exact aI|refine aD ?_|refine aC rfl ?_|refine aH ?_) (aM Tryz.isAgg30 rfl (rdA rfl)) ?_;refine aU 10 rfl (by decide +kernel) rfl rfl rfl (by repeat first|exact aI|refine aD ?_|refine aC rfl ?_|refine aH ?_) (aQ fa135_1 rfl) ?_;refine aU 11 rfl (by decide +kernel) rfl rfl rfl (by repeat first|exact aI|refine aD ?_|refine aC rfl ?_|refine aH ?_) (aM Tryz.isAgg3 rfl (rdA rfl)) ?_;refine aU 12 rfl (by decide +kernel) rfl rfl rfl (by repeat first|exact aI|refine aD ?_|refine aC rfl ?_|refine aH ?_) (bA gD rfl rfl (bZ e (2 * i + 1)) ⟨by omega, by omega, by first | omega | (simp; done) | (simp; omega)⟩) ?_;refine aU 14 rfl (by decide +kernel) rfl rfl rfl (by repeat first|exact aI|refine aD ?_|refine aC rfl ?_|refine aH ?_) (aG rfl) ?_;refine aU 15 rfl (by decide +kernel) rfl rfl rfl (by repeat first|exact aI|refine aD ?_|refine aC rfl ?_|refine aH ?_) (o_mul rfl rfl _ (show IntKind.i64.wrap (2 * (i : Int)) = ((2 * i : Nat) : Int) from by rw [aT (by omega)]; omega)) ?_
      refine aU 16 rfl (by decide +kernel) rfl rfl rfl (by repeat first|exact aI|refine aD ?_|refine aC rfl ?_|refine aH ?_) (bG rfl rfl _ (show IntKind.i64.wrap (((2 * i : Nat) : Int) + 1) = ((2 * i + 1 : Nat) : Int) from by rw [aT (by omega)]; omega)) ?_;refine jE 13 17 rfl rfl (by decide +kernel) rfl rfl rfl rfl rfl rfl ?_ ?_
      ·
       refine (aM Tryz.isAgg25 rfl (rdA hrv)).does ⟨(by repeat first|exact aI|refine aD ?_|refine aC rfl ?_|refine aH ?_), ?_⟩;refine bQ 17 rfl (by decide +kernel) rfl rfl rfl (dA dV (by omega) rfl rfl rfl fun b79 => ⟨(by repeat first|exact aI|refine aD ?_|refine aC rfl ?_|refine aH ?_), ?_⟩);refine bQ 18 rfl (by decide +kernel) rfl rfl rfl (dG dV rfl rfl hro (ys := [.int .i64 ((2 * i + 1 : Nat) : Int)]) ⟨(rdA rfl), trivial⟩ rfl rfl (by omega) (by omega) fun v80 m80 o80 => ⟨(by repeat first|exact aI|refine aD ?_|refine aC rfl ?_|refine aH ?_), ?_⟩);obtain ⟨A80, cap80, rfl, _⟩ := o80.val
       refine aU 19 rfl (by decide +kernel) rfl rfl rfl (by repeat first|exact aI|refine aD ?_|refine aC rfl ?_|refine aH ?_) (bA gD rfl rfl (bZ e (2 * i + 1)) ⟨by omega, by omega, by first | omega | (simp; done) | (simp; omega)⟩) ?_;refine eM 20 rfl (by decide +kernel) rfl rfl (cB Tryz.sizeOf25 rfl rfl rfl rfl (by have := hR.lv; rw [iI] at this; rw [List.length_set]; omega) ((vs.set (bZ e (2 * i)) v60).set (bZ e (2 * i + 1)) (.slice A80 ((gK e (2 * i + 1) (bZ e (2 * i + 1))).length + 1) cap80)) rfl ⟨(by repeat first|exact aI|refine aD ?_|refine aC rfl ?_|refine aH ?_), ?_⟩);refine dF (by decide +kernel) ?_;refine cV ?_;refine aL (kh7 _ _ ?_);clear kh7;refine aB ?_;refine aA rfl rfl rfl (bG rfl rfl _ (aT (by omega))) ?_;refine aA rfl rfl rfl (aG rfl) ?_;refine aJ ?_;refine jI (Sub.joinF (m := m80) (G' := rG) (hput _ _ _ (by rw [← jR]; exact o80)).2) ?_
       refine aL (bB (i + 1, v40, m40, (vs.set (bZ e (2 * i)) v60).set (bZ e (2 * i + 1)) (.slice A80 ((gK e (2 * i + 1) (bZ e (2 * i + 1))).length + 1) cap80), (ms.set (bZ e (2 * i)) m60).set (bZ e (2 * i + 1)) m80) (by first | omega | (dsimp only; omega) | (simp; omega)) ⟨by omega, by rw [ecells_snoc hi]; exact o40, by
         have := (hput _ _ _ (by rw [← jR]; exact o80)).1
         rw [kRows_next hk1] at this; exact this⟩ ?_ ?_ ?_)
       · exact (by repeat constructor)
       · exact (by repeat constructor)
       · repeat first|exact aI|refine aD ?_|refine aC rfl ?_|refine aH ?_
      ·
       refine (dA dV (by omega) rfl rfl rfl fun b79 => ⟨(by repeat first|exact aI|refine aD ?_|refine aC rfl ?_|refine aH ?_), ?_⟩);refine bQ 13 rfl (by decide +kernel) rfl rfl rfl ((aM Tryz.isAgg25 rfl (rdA hrv)).does ⟨(by repeat first|exact aI|refine aD ?_|refine aC rfl ?_|refine aH ?_), ?_⟩);refine bQ 18 rfl (by decide +kernel) rfl rfl rfl (dG dV rfl rfl hro (ys := [.int .i64 ((2 * i + 1 : Nat) : Int)]) ⟨(rdA rfl), trivial⟩ rfl rfl (by omega) (by omega) fun v80 m80 o80 => ⟨(by repeat first|exact aI|refine aD ?_|refine aC rfl ?_|refine aH ?_), ?_⟩);obtain ⟨A80, cap80, rfl, _⟩ := o80.val
       refine aU 19 rfl (by decide +kernel) rfl rfl rfl (by repeat first|exact aI|refine aD ?_|refine aC rfl ?_|refine aH ?_) (bA gD rfl rfl (bZ e (2 * i + 1)) ⟨by omega, by omega, by first | omega | (simp; done) | (simp; omega)⟩) ?_;refine eM 20 rfl (by decide +kernel) rfl rfl (cB Tryz.sizeOf25 rfl rfl rfl rfl (by have := hR.lv; rw [iI] at this; rw [List.length_set]; omega) ((vs.set (bZ e (2 * i)) v60).set (bZ e (2 * i + 1)) (.slice A80 ((gK e (2 * i + 1) (bZ e (2 * i + 1))).length + 1) cap80)) rfl ⟨(by repeat first|exact aI|refine aD ?_|refine aC rfl ?_|refine aH ?_), ?_⟩);refine dF (by decide +kernel) ?_;refine cV ?_;refine aL (kh7 _ _ ?_);clear kh7;refine aB ?_;refine aA rfl rfl rfl (bG rfl rfl _ (aT (by omega))) ?_;refine aA rfl rfl rfl (aG rfl) ?_;refine aJ ?_;refine jI (Sub.joinF (m := m80) (G' := rG) (hput _ _ _ (by rw [← jR]; exact o80)).2) ?_
       refine aL (bB (i + 1, v40, m40, (vs.set (bZ e (2 * i)) v60).set (bZ e (2 * i + 1)) (.slice A80 ((gK e (2 * i + 1) (bZ e (2 * i + 1))).length + 1) cap80), (ms.set (bZ e (2 * i)) m60).set (bZ e (2 * i + 1)) m80) (by first | omega | (dsimp only; omega) | (simp; omega)) ⟨by omega, by rw [ecells_snoc hi]; exact o40, by
         have := (hput _ _ _ (by rw [← jR]; exact o80)).1
         rw [kRows_next hk1] at this; exact this⟩ ?_ ?_ ?_)
       · exact (by repeat constructor)
       · exact (by repeat constructor)
       · repeat first|exact aI|refine aD ?_|refine aC rfl ?_|refine aH ?_
   ·
    refine cG ?_;refine cK ?_;clear kh6;refine cK ?_;refine d5 ?_;refine aL (kh3 _ _ ?_);clear kh3;refine aK fun K11 kh11 => ?_;refine aB ?_;refine aA rfl rfl rfl (aG rfl) ?_;refine aA rfl rfl rfl (aF rfl) ?_;refine aJ ?_;refine aL (kh11 _ _ ?_);clear kh11;refine a7 ?_;have hie' : i = e.length := by omega
    subst hie';rw [List.take_length] at hE;exact bP [(jF bx bat bl bn n ve vs ms.flatten me (List.replicate n 0) (List.replicate n 0)).flatten] Tryz.results100 rfl (Sub.flatF (by unfold jF; repeat (first | exact aI | refine aD ?_ | refine aC rfl ?_))) ⟨bx, _, rfl, rfl, DRep_mk hR hE⟩
end Go.Proofs.YtjjogcnjcnpehaaGreat

/- Package flow: the layers. -/
namespace Go.Proofs.YtjjogcnjcnpehaaGreat
open Go Go.RowKit Fly
set_option linter.unusedVariables false
set_option linter.unusedSimpArgs false
def nI (W : List Nat) : List Int := W.map (fun i : Nat => (i : Int))
theorem nI_len (W : List Nat) : (a6 (nI W)).length = W.length := by simp [nI, a6]
theorem nI_snoc (W : List Nat) (k : Nat) : a6 (nI (W ++ [k])) = a6 (nI W) ++ [.int .i64 (k : Int)] := by simp [nI, a6]
theorem iN {l : List Int} {i : Nat} (h : i < l.length) : (a6 l)[i]? = some (.int .i64 (bU l i)) := by rw [dL h, flAt_eq h]
theorem lB (l : List Int) (i : Nat) (x : Int) : (a6 l).set i (.int .i64 x) = a6 (l.set i x) := by simp [a6, List.map_set]
def mixL (k : Nat) (x : Int) (l : List Int) : List Int := List.replicate k x ++ l.drop k
theorem mixL_len {k : Nat} {x : Int} {l : List Int} (h : k ≤ l.length) : (mixL k x l).length = l.length := by simp [mixL]; omega
theorem mixL_set {k : Nat} {x : Int} {l : List Int} (h : k < l.length) : (a6 (mixL k x l)).set k (.int .i64 x) = a6 (mixL (k + 1) x l) := by
  rw [lB]
  congr 1
  unfold mixL
  rw [List.drop_eq_getElem_cons h, List.set_append_right _ _ (by simp), show k - (List.replicate k x).length = 0 by simp, List.set_cons_zero, List.replicate_succ', List.append_assoc]
  rfl
theorem mixL_all {k : Nat} {x : Int} {l : List Int} (h : k = l.length) : mixL k x l = List.replicate l.length x := by subst h; simp [mixL]
theorem unl_rep (n : Nat) : unl (List.replicate n (-1)) = n := by
  induction n with
  | zero => rfl
  | succ n ih => rw [List.replicate_succ]; unfold unl at ih ⊢; rw [List.countP_cons, ih]; simp
theorem unl_begin {n s : Nat} (hs : s < n) : unl ((List.replicate n (-1)).set s 0) + 1 = n := by
  rw [unl_set (by simpa using hs) (by rw [flAt_rep hs]; decide) (Int.le_refl _), unl_rep]
theorem take_nextI {l : List Int} {j : Nat} {x : Int} (hj : j < l.length) (h : x ∈ l.take (j + 1)) : x ∈ l.take j ∨ x = l[j] := by
  rw [List.take_succ_eq_append_getElem hj] at h
  rcases List.mem_append.1 h with h | h
  · exact .inl h
  · exact .inr (by simpa using h)
set_option maxRecDepth 100000 in
set_option maxHeartbeats 4000000 in
theorem layers_spec (n : Nat) (e : List Arc) (f L nx : List Int) (bx : Nat) (m : Seg) (s t : Nat) (w : World) (hn : NOk n e) (hf : Fits e f) (hL : L.length = n) (hx : nx.length = n) (hS : DRep n e f L nx bx m) (hs : s < n) (ht : t < n) (hw : Owns w [m]) :
    Meets Tryz.prog 117 [.pointer (some ⟨bx, 0, none⟩), .int .i64 (s : Int), .int .i64 (t : Int)] w [m] (fun u own' => ∃ L' m', own' = [m'] ∧ DRep n e f L' (List.replicate n 0) bx m' ∧ Lay n e s f L' ∧ u = .bool (decide (0 ≤ bU L' t))) := by
 have hn1 := hn.n1
 have hel := hn.len
 refine bJ Tryz.func117 rfl Tryz.ntmps117 rfl hw ?_;obtain ⟨bat, bl, bn, ve, vs, ms, me, hmp, hR, hE⟩ := hS
 obtain ⟨A, cap, rfl, _⟩ := hE.val
 refine gB (Sub.permF hmp) ?_
 unfold jF
 refine aK fun K1 kh1 => ?_;refine aB ?_;refine aA rfl rfl rfl (aF rfl) ?_;refine aJ ?_;refine aL (kh1 _ _ ?_);clear kh1;refine aK fun K2 kh2 => ?_;refine aK fun K3 kh3 => ?_;refine aB ?_;refine aA rfl rfl rfl (aG rfl) ?_;refine aA rfl rfl rfl (d6 rfl) ?_;refine aA rfl rfl rfl (aQ i7 rfl) ?_;refine aA rfl rfl rfl (aM Tryz.isAgg25 rfl (rdA rfl)) ?_;refine aA rfl rfl rfl (bS bK rfl) ?_;refine aA rfl rfl rfl (aG rfl) ?_;refine aJ ?_;refine aL (kh3 _ _ ?_);clear kh3;refine aY ?_;refine cS (α := Nat) [0, 1, 2, 17] (fun k => [(18, .int .i64 (k : Int))]) (fun k => [[(bx, blk (eY (.slice A e.length cap) n bat bl bn) 163)], [(bat, blk vs 25)], ms.flatten, me, [(bl, blk (a6 (mixL k (-1) L)) 3)], [(bn, blk (a6 (mixL k 0 nx)) 3)]]) (fun k => k ≤ n) (fun k => n - k) (0) ?_ ?_ ?_ ?_
 · exact (by repeat constructor)
 · repeat first|exact aI|refine aD ?_|refine aC rfl ?_|refine aH ?_
 · exact Nat.zero_le _
 ·
  rintro k hkn;refine aK fun K4 kh4 => ?_;refine aB ?_;refine aA rfl rfl rfl (cD rfl rfl) ?_;refine aJ ?_;refine aL (kh4 _ _ ?_);clear kh4;refine aK fun K5 kh5 => ?_;refine aZ rfl (fun c19 => ?_) (fun c19 => ?_)
  ·
   refine aW ?_;refine aL (kh5 _ _ ?_);clear kh5;refine aK fun K6 kh6 => ?_;refine aY ?_;refine aK fun K7 kh7 => ?_;refine aB ?_;refine aA rfl rfl rfl (aG rfl) ?_;refine aA rfl rfl rfl (aF rfl) ?_;refine aJ ?_;refine aL (kh7 _ _ ?_);clear kh7;refine dH [[(bx, blk (eY (.slice A e.length cap) n bat bl bn) 163)]] rfl ?_;have hk : k < n := by omega
   refine aU 0 rfl (by decide +kernel) rfl rfl rfl (by repeat first|exact aI|refine aD ?_|refine aC rfl ?_|refine aH ?_) (aG rfl) ?_;refine aU 1 rfl (by decide +kernel) rfl rfl rfl (by repeat first|exact aI|refine aD ?_|refine aC rfl ?_|refine aH ?_) (d6 rfl) ?_;refine aU 2 rfl (by decide +kernel) rfl rfl rfl (by repeat first|exact aI|refine aD ?_|refine aC rfl ?_|refine aH ?_) (aQ i7 rfl) ?_;refine aU 3 rfl (by decide +kernel) rfl rfl rfl (by repeat first|exact aI|refine aD ?_|refine aC rfl ?_|refine aH ?_) (aM Tryz.isAgg25 rfl (rdA rfl)) ?_;refine aU 4 rfl (by decide +kernel) rfl rfl rfl (by repeat first|exact aI|refine aD ?_|refine aC rfl ?_|refine aH ?_) (aG rfl) ?_;refine aU 5 rfl (by decide +kernel) rfl rfl rfl (by repeat first|exact aI|refine aD ?_|refine aC rfl ?_|refine aH ?_) (aG rfl) ?_;refine aU 6 rfl (by decide +kernel) rfl rfl rfl (by repeat first|exact aI|refine aD ?_|refine aC rfl ?_|refine aH ?_) (d6 rfl) ?_;refine aU 7 rfl (by decide +kernel) rfl rfl rfl (by repeat first|exact aI|refine aD ?_|refine aC rfl ?_|refine aH ?_) (aQ fa163_3 rfl) ?_;refine aU 8 rfl (by decide +kernel) rfl rfl rfl (by repeat first|exact aI|refine aD ?_|refine aC rfl ?_|refine aH ?_) (aM Tryz.isAgg25 rfl (rdA rfl)) ?_;refine aU 9 rfl (by decide +kernel) rfl rfl rfl (by repeat first|exact aI|refine aD ?_|refine aC rfl ?_|refine aH ?_) (aG rfl) ?_;refine aU 10 rfl (by decide +kernel) rfl rfl rfl (by repeat first|exact aI|refine aD ?_|refine aC rfl ?_|refine aH ?_) (bA bK rfl rfl (k) ⟨by omega, by omega, by first | omega | (simp; done) | (simp; omega)⟩) ?_;refine eM 11 rfl (by decide +kernel) rfl rfl (cB Tryz.sizeOf3 rfl rfl rfl rfl (by rw [aX, mixL_len (by omega)]; omega) (a6 (mixL (k + 1) (-1) L)) (mixL_set (by omega)) ⟨(by repeat first|exact aI|refine aD ?_|refine aC rfl ?_|refine aH ?_), ?_⟩);refine aU 12 rfl (by decide +kernel) rfl rfl rfl (by repeat first|exact aI|refine aD ?_|refine aC rfl ?_|refine aH ?_) (bA bK rfl rfl (k) ⟨by omega, by omega, by first | omega | (simp; done) | (simp; omega)⟩) ?_;refine eM 13 rfl (by decide +kernel) rfl rfl (cB Tryz.sizeOf3 rfl rfl rfl rfl (by rw [aX, mixL_len (by omega)]; omega) (a6 (mixL (k + 1) 0 nx)) (mixL_set (by omega)) ⟨(by repeat first|exact aI|refine aD ?_|refine aC rfl ?_|refine aH ?_), ?_⟩);refine dF (by decide +kernel) ?_;refine cV ?_;refine aL (kh6 _ _ ?_);clear kh6;refine aB ?_;refine aA rfl rfl rfl (bG rfl rfl _ (aT (by omega))) ?_
   refine aA rfl rfl rfl (aG rfl) ?_;refine aJ ?_;refine aL (bB (k + 1) (by first | omega | (dsimp only; omega) | (simp; omega)) (by omega) ?_ ?_ ?_)
   · exact (by repeat constructor)
   · exact (by repeat constructor)
   · repeat first|exact aI|refine aD ?_|refine aC rfl ?_|refine aH ?_
  ·
   refine cG ?_;refine cK ?_;clear kh5;refine cK ?_;refine d5 ?_;refine aL (kh2 _ _ ?_);clear kh2;refine aK fun K8 kh8 => ?_;refine aB ?_;refine aA rfl rfl rfl (aG rfl) ?_;refine aA rfl rfl rfl (d6 rfl) ?_;refine aA rfl rfl rfl (aQ i7 rfl) ?_;refine aA rfl rfl rfl (aM Tryz.isAgg25 rfl (rdA rfl)) ?_;refine aA rfl rfl rfl (aG rfl) ?_;refine aA rfl rfl rfl (bA bK rfl rfl (s) ⟨by omega, by omega, by first | omega | (simp; done) | (simp; omega)⟩) ?_;refine bF rfl rfl (cB Tryz.sizeOf3 rfl rfl rfl rfl (by rw [aX, mixL_len (by omega)]; omega) (a6 ((List.replicate n (-1)).set s 0)) (by rw [mixL_all (by omega), hL]; exact lB ..) ?_);refine aJ ?_;refine aL (kh8 _ _ ?_);clear kh8;refine aK fun K9 kh9 => ?_;refine aB ?_;refine aA rfl rfl rfl (aG rfl) ?_;refine aR rfl rfl rfl (dA dV (by omega) rfl rfl rfl fun b41 => ?_);refine aA rfl rfl rfl (aF rfl) ?_;refine aJ ?_;refine aL (kh9 _ _ ?_);clear kh9;refine aK fun K10 kh10 => ?_;refine aY ?_;have hbn : mixL k 0 nx = List.replicate n 0 := by rw [mixL_all (by omega), hx]
   rw [hbn];refine cS (α := List Int × List Nat × Value × Seg) [0, 2] (fun ⟨L2, work, wv, wm⟩ => [(8, wv)]) (fun ⟨L2, work, wv, wm⟩ => [[(bx, blk (eY (.slice A e.length cap) n bat bl bn) 163)], [(bat, blk vs 25)], ms.flatten, me, [(bl, blk (a6 L2) 3)], [(bn, blk (a6 (List.replicate n 0)) 3)], wm]) (fun ⟨L2, work, wv, wm⟩ => LayB n e s f L2 work (fun _ => True) ∧ OwnQ 3 wv (a6 (nI work)) wm ∧ unl L2 + work.length ≤ n ∧ ∀ u, u < n → bU L2 u + unl L2 ≤ n) (fun ⟨L2, work, wv, wm⟩ => 2 * unl L2 + work.length) ((List.replicate n (-1)).set s 0, [s], .slice (some ⟨b41, 0, none⟩) 1 1, [(b41, blk [.int .i64 (s : Int)] 3)]) ?_ ?_ ?_ ?_
   · exact (by repeat constructor)
   · repeat first|exact aI|refine aD ?_|refine aC rfl ?_|refine aH ?_
   · exact ⟨LayB.begin hn.net hs, OwnQ.one _ _ _, by have := unl_begin hs; simp; omega, fun u hu => by
     have := unl_begin hs
     rw [gU (by simpa using hs), flAt_rep hu]
     split <;> omega⟩
   ·
    rintro ⟨L2, work, wv, wm⟩ ⟨hB, hQ, hU, hM⟩;have hQ0 := hQ
    have hwl := nI_len work
    obtain ⟨bw, ow, cw, pre, sp, rfl, rfl, hq1, hq2, hq3, hq4⟩ := hQ
    refine eX (e := [(8, _), (0, _), (2, _)]) (by repeat constructor) ?_;refine aK fun K11 kh11 => ?_;refine aK fun K12 kh12 => ?_;refine aB ?_;refine aA rfl rfl rfl (aG rfl) ?_;refine aA rfl rfl rfl (bS bK rfl) ?_;refine aA rfl rfl rfl (eQ rfl rfl) ?_;refine aJ ?_;refine aL (kh12 _ _ ?_);clear kh12;refine aZ rfl (fun c44 => ?_) (fun c44 => ?_)
    ·
     obtain ⟨v, rest, rfl⟩ : ∃ v rest, work = v :: rest := by
       cases work with
       | nil => have h0 : (a6 (nI [])).length = 0 := rfl; omega
       | cons v rest => exact ⟨v, rest, rfl⟩
     have hvw := hB.wk v (List.mem_cons_self ..)
     have hpre := hq4 (by simp at hwl; omega)
     refine aW ?_;refine aL (kh11 _ _ ?_);clear kh11;refine aY ?_;refine aK fun K13 kh13 => ?_;refine aB ?_;refine aA rfl rfl rfl (aG rfl) ?_;refine aA rfl rfl rfl (bA bK rfl rfl (ow) ⟨by omega, by omega, by first | omega | (simp; done) | (simp; omega)⟩) ?_;refine aA rfl rfl rfl (aM Tryz.isAgg3 rfl (rdA (v := .int .i64 (v : Int)) (by rw [← hpre]; simp [nI, a6]))) ?_;refine aA rfl rfl rfl (aF rfl) ?_;refine aJ ?_;refine aL (kh13 _ _ ?_);clear kh13;refine aK fun K14 kh14 => ?_;refine aB ?_;refine aA rfl rfl rfl (aG rfl) ?_;refine aA rfl rfl rfl (e5 bK rfl rfl rfl rfl (fun h => by cases h) 1 _ _ (.inr ⟨_, _, rfl, by omega⟩) (.inl ⟨rfl, rfl⟩) (.inl ⟨rfl, rfl⟩) ⟨by omega, by omega, by omega⟩ _ rfl) ?_;refine aA rfl rfl rfl (aF rfl) ?_;refine aJ ?_;refine aL (kh14 _ _ ?_);clear kh14;refine aK fun K15 kh15 => ?_;obtain ⟨rv, rm, rG, hrv, hro, hrp, _⟩ := hR.split (i := v) (by rw [iI]; exact hvw.1)
     rw [i1] at hro;have hrlen := kRow_len e (2 * e.length) v
     obtain ⟨Ar, cr, rfl, hcr⟩ := hro.val
     refine gB (Sub.splitF hrp) ?_;refine aB ?_;refine aA rfl rfl rfl (aG rfl) ?_;refine aA rfl rfl rfl (d6 rfl) ?_;refine aA rfl rfl rfl (aQ lX rfl) ?_;refine aA rfl rfl rfl (aM Tryz.isAgg30 rfl (rdA rfl)) ?_;refine aA rfl rfl rfl (aG rfl) ?_;refine aA rfl rfl rfl (bA gD rfl rfl (v) ⟨by omega, by omega, by first | omega | (simp; done) | (simp; omega)⟩) ?_;refine aA rfl rfl rfl (aM Tryz.isAgg25 rfl (rdA hrv)) ?_;refine aA rfl rfl rfl (bS bK rfl) ?_;refine aA rfl rfl rfl (aG rfl) ?_;refine aJ ?_;refine aL (kh15 _ _ ?_);clear kh15;refine aY ?_;refine cS (α := Nat × List Int × List Nat × Value × Seg) [0, 2, 9, 56, 57] (fun ⟨j, L3, wk, wv3, wm3⟩ => [(58, .int .i64 (j : Int)), (8, wv3)]) (fun ⟨j, L3, wk, wv3, wm3⟩ => [[(bx, blk (eY (.slice A e.length cap) n bat bl bn) 163)], [(bat, blk vs 25)], rm, rG, me, [(bl, blk (a6 L3) 3)], [(bn, blk (a6 (List.replicate n 0)) 3)], wm3]) (fun ⟨j, L3, wk, wv3, wm3⟩ => j ≤ (gK e (2 * e.length) v).length ∧ LayB n e s f L3 wk (fun k => bZ e k ≠ v ∨ (k : Int) ∈ (gK e (2 * e.length) v).take j) ∧ 0 ≤ bU L3 v ∧ OwnQ 3 wv3 (a6 (nI wk)) wm3 ∧ (unl L3 + wk.length ≤ n ∧ ∀ u, u < n → bU L3 u + unl L3 ≤ n) ∧ 2 * unl L3 + wk.length ≤ 2 * unl L2 + rest.length) (fun ⟨j, L3, wk, wv3, wm3⟩ => (gK e (2 * e.length) v).length - j) (0, L2, rest, .slice (if cw = 1 then some ⟨bw, ow, none⟩ else (some ⟨bw, ow, none⟩ : Option Addr).map (·.add (1 * 1))) ((a6 (nI (v :: rest))).length - 1) (cw - 1), [(bw, blk (pre ++ (a6 (nI (v :: rest)) ++ sp)) 3)]) ?_ ?_ ?_ ?_
     · exact (by repeat constructor)
     · repeat first|exact aI|refine aD ?_|refine aC rfl ?_|refine aH ?_
     · exact ⟨Nat.zero_le _, hB.pop.weaken fun k _ h => by
       rcases h with h | h
       · exact h
       · simp at h, hvw.2, OwnQ.tail (x := .int .i64 (v : Int)) (cs := a6 (nI rest)) hQ0, ⟨by simp only [List.length_cons] at hU; omega, hM⟩, Nat.le_refl _⟩
     ·
      rintro ⟨j, L3, wk, wv3, wm3⟩ ⟨hjl, hB3, hv0, hQ3, ⟨hU3, hM3⟩, hmu3⟩;have hl3 := hB3.len
      have hwl3 := nI_len wk
      refine eX (e := [(58, _), (8, _), (0, _), (2, _), (9, _), (56, _), (57, _)]) (by repeat constructor) ?_;refine aK fun K16 kh16 => ?_;refine aB ?_;refine aA rfl rfl rfl (cD rfl rfl) ?_;refine aJ ?_;refine aL (kh16 _ _ ?_);clear kh16;refine aK fun K17 kh17 => ?_;refine aZ rfl (fun c59 => ?_) (fun c59 => ?_)
      ·
       refine aW ?_;refine aL (kh17 _ _ ?_);clear kh17;refine aK fun K18 kh18 => ?_;refine aY ?_;refine aK fun K19 kh19 => ?_;refine aB ?_;have hj : j < (gK e (2 * e.length) v).length := by omega
       obtain ⟨br, sr, rfl, rfl⟩ := hro.at_ (by omega)
       obtain ⟨k, hrk, hk2, hkf⟩ := row_at hj
       have hut := kto_lt hn.net hk2
       refine aA rfl rfl rfl (bA bK rfl rfl (j) ⟨by omega, by omega, by first | omega | (simp; done) | (simp; omega)⟩) ?_;refine aA rfl rfl rfl (aM Tryz.isAgg3 rfl (rdA (v := .int .i64 (k : Int)) (dN (by rw [dL hj, hrk])))) ?_;refine aA rfl rfl rfl (aF rfl) ?_;refine aJ ?_;refine aL (kh19 _ _ ?_);clear kh19;refine aK fun K20 kh20 => ?_;refine aB ?_;refine aA rfl rfl rfl (aG rfl) ?_;refine aA rfl rfl rfl (aG rfl) ?_;refine aR rfl rfl rfl (bD Tryz.call124 rfl (fun w_ hp_ => to_spec n e f bx bat bl bn k cap A w_ (iV (b := bx) hp_ (fun j v hj => hj)) (eU (hE.seen hp_)) hn hf.len hk2) ?_);rintro _ _ ⟨rfl, rfl⟩;dsimp only [List.cons_append, List.nil_append];refine aA rfl rfl rfl (aF rfl) ?_;refine aJ ?_;refine aL (kh20 _ _ ?_);clear kh20;refine aK fun K21 kh21 => ?_;refine aB ?_;refine aA rfl rfl rfl (aG rfl) ?_;refine aA rfl rfl rfl (d6 rfl) ?_;refine aA rfl rfl rfl (aQ i7 rfl) ?_;refine aA rfl rfl rfl (aM Tryz.isAgg25 rfl (rdA rfl)) ?_;refine aA rfl rfl rfl (aG rfl) ?_;refine aA rfl rfl rfl (bA bK rfl rfl (kto e k) ⟨by omega, by omega, by first | omega | (simp; done) | (simp; omega)⟩) ?_;refine aA rfl rfl rfl (aM Tryz.isAgg3 rfl (rdA (iN (by omega)))) ?_;refine aA rfl rfl rfl (cD rfl rfl) ?_;refine aA rfl rfl rfl (aG rfl) ?_;refine cX 73 rfl (fun g73 => ?_) (fun g73 => ?_)
       ·
        refine aO rfl rfl rfl rfl rfl (aG rfl) ?_;refine aO rfl rfl rfl rfl rfl (aG rfl) ?_;refine lZ rfl rfl rfl rfl rfl (bD Tryz.call119 rfl (fun w_ hp_ => left_spec n e f bx bat bl bn k cap A w_ (iV (b := bx) hp_ (fun j v hj => hj)) (eU (hE.seen hp_)) hn hf.len hk2) ?_);rintro _ _ ⟨rfl, rfl⟩;dsimp only [List.cons_append, List.nil_append];refine aO rfl rfl rfl rfl rfl (eQ rfl rfl) ?_;refine aA rfl rfl rfl (cF rfl rfl) ?_;refine aJ ?_;refine aL (kh21 _ _ ?_);clear kh21;refine aZ rfl (fun c78 => ?_) (fun c78 => ?_)
        ·
         have hu1 := unl_set (L := L3) (i := kto e k) (x := bU L3 v + 1) (by omega) g73 (by omega)
         refine aK fun K22 kh22 => ?_;have hMv := hM3 v hvw.1
         refine gY 14 rfl (by decide +kernel) ?_;refine aN rfl rfl rfl (aG rfl) ?_;refine aN rfl rfl rfl (d6 rfl) ?_;refine aN rfl rfl rfl (aQ i7 rfl) ?_;refine aN rfl rfl rfl (aM Tryz.isAgg25 rfl (rdA rfl)) ?_;refine aN rfl rfl rfl (aG rfl) ?_;refine aN rfl rfl rfl (aG rfl) ?_;refine aN rfl rfl rfl (d6 rfl) ?_;refine aN rfl rfl rfl (aQ i7 rfl) ?_;refine aN rfl rfl rfl (aM Tryz.isAgg25 rfl (rdA rfl)) ?_;refine aN rfl rfl rfl (aG rfl) ?_;refine aN rfl rfl rfl (bA bK rfl rfl (v) ⟨by omega, by omega, by first | omega | (simp; done) | (simp; omega)⟩) ?_;refine aN rfl rfl rfl (aM Tryz.isAgg3 rfl (rdA (iN (by omega)))) ?_;refine aN rfl rfl rfl (bG rfl rfl _ (aT (by omega))) ?_;refine aN rfl rfl rfl (bA bK rfl rfl (kto e k) ⟨by omega, by omega, by first | omega | (simp; done) | (simp; omega)⟩) ?_;refine eH (kN ?_);refine bF rfl rfl (cB Tryz.sizeOf3 rfl rfl rfl rfl (by rw [aX]; omega) (a6 (L3.set (kto e k) (bU L3 v + 1))) (lB ..) ?_);refine aJ ?_;refine aL (kh22 _ _ ?_);clear kh22;refine aB ?_;refine aA rfl rfl rfl (aG rfl) ?_;refine aA rfl rfl rfl (aG rfl) ?_;refine aR rfl rfl rfl (dA dV (by omega) rfl rfl rfl fun b95 => ?_);refine aR rfl rfl rfl (o_appendO dV rfl rfl hQ3 (ys := [.int .i64 ((kto e k : Nat) : Int)]) ⟨(rdA rfl), trivial⟩ rfl (by omega) rfl (by omega) (by omega) fun v96 m96 o96 => ?_);refine aA rfl rfl rfl (aF rfl) ?_;refine aJ ?_;refine cV ?_;refine aL (kh18 _ _ ?_);clear kh18;refine aB ?_;refine aA rfl rfl rfl (bG rfl rfl _ (aT (by omega))) ?_;refine aA rfl rfl rfl (aG rfl) ?_;refine aJ ?_
         refine aL (bB (j + 1, L3.set (kto e k) (bU L3 v + 1), wk ++ [kto e k], v96, m96) (by first | omega | (dsimp only; omega) | (simp; omega)) ⟨by omega, by
           have h := hB3.see hn.net hk2 (by rw [hkf]; exact hv0) g73 c78
           rw [hkf] at h
           exact h.weaken (fun q hq hQ => by
           rcases hQ with hQ | hQ
           · exact .inl (.inl hQ)
           · rcases take_nextI hj hQ with hQ | hQ
             · exact .inl (.inr hQ)
             · rw [hrk] at hQ; exact .inr (by omega)), by rw [gU (by omega)]; split <;> omega, by rw [nI_snoc]; exact o96, ⟨by rw [List.length_append]; simp; omega, fun u hu => by rw [gU (by omega)]; have := hM3 u hu; have := hM3 v hvw.1; split <;> omega⟩, by rw [List.length_append]; simp; omega⟩ ?_ ?_ ?_)
         · exact (by repeat constructor)
         · exact (by repeat constructor)
         · repeat first|exact aI|refine aD ?_|refine aC rfl ?_|refine aH ?_
        ·
         refine aW ?_;refine cV ?_;refine aL (kh18 _ _ ?_);clear kh18;refine aB ?_;refine aA rfl rfl rfl (bG rfl rfl _ (aT (by omega))) ?_;refine aA rfl rfl rfl (aG rfl) ?_;refine aJ ?_
         refine aL (bB (j + 1, L3, wk, wv3, wm3) (by first | omega | (dsimp only; omega) | (simp; omega)) ⟨by omega, (hB3.skip (k := k) (by omega)).weaken (fun q hq hQ => by
           rcases hQ with hQ | hQ
           · exact .inl (.inl hQ)
           · rcases take_nextI hj hQ with hQ | hQ
             · exact .inl (.inr hQ)
             · rw [hrk] at hQ; exact .inr (by omega)), hv0, hQ3, ⟨hU3, hM3⟩, hmu3⟩ ?_ ?_ ?_)
         · exact (by repeat constructor)
         · exact (by repeat constructor)
         · repeat first|exact aI|refine aD ?_|refine aC rfl ?_|refine aH ?_
       ·
        refine aS rfl rfl rfl rfl rfl rfl ?_;refine aS rfl rfl rfl rfl rfl rfl ?_;refine aS rfl rfl rfl rfl rfl rfl ?_;refine aS rfl rfl rfl rfl rfl rfl ?_;refine aA rfl rfl rfl (cO rfl rfl) ?_;refine aJ ?_;refine aL (kh21 _ _ ?_);clear kh21;refine gZ rfl ?_;refine aW ?_;refine cV ?_;refine aL (kh18 _ _ ?_);clear kh18;refine aB ?_;refine aA rfl rfl rfl (bG rfl rfl _ (aT (by omega))) ?_;refine aA rfl rfl rfl (aG rfl) ?_;refine aJ ?_
        refine aL (bB (j + 1, L3, wk, wv3, wm3) (by first | omega | (dsimp only; omega) | (simp; omega)) ⟨by omega, (hB3.skip (k := k) (by omega)).weaken (fun q hq hQ => by
          rcases hQ with hQ | hQ
          · exact .inl (.inl hQ)
          · rcases take_nextI hj hQ with hQ | hQ
            · exact .inl (.inr hQ)
            · rw [hrk] at hQ; exact .inr (by omega)), hv0, hQ3, ⟨hU3, hM3⟩, hmu3⟩ ?_ ?_ ?_)
        · exact (by repeat constructor)
        · exact (by repeat constructor)
        · repeat first|exact aI|refine aD ?_|refine aC rfl ?_|refine aH ?_
      ·
       refine cG ?_;refine cK ?_;clear kh17;refine cK ?_;refine d5 ?_;refine cV ?_;refine jI (Sub.joinF (m := rm) (G' := rG) hrp.symm) ?_
       refine aL (bB (L3, wk, wv3, wm3) (by simp only [List.length_cons]; omega) ⟨hB3.weaken fun k hk _ => by
         by_cases h : bZ e k = v
         · right; rw [List.take_of_length_le (by omega), ← h]; exact kRow_has hk
         · exact .inl h, hQ3, hU3, hM3⟩ ?_ ?_ ?_)
       · exact (by repeat constructor)
       · exact (by repeat constructor)
       · repeat first|exact aI|refine aD ?_|refine aC rfl ?_|refine aH ?_
    ·
     obtain rfl : work = [] := by
       cases work with
       | nil => rfl
       | cons v rest => simp at hwl; omega
     refine cG ?_;refine cK ?_;clear kh11;refine cK ?_;refine d5 ?_;refine aL (kh10 _ _ ?_);clear kh10;refine aK fun K23 kh23 => ?_;refine aB ?_;refine aA rfl rfl rfl (aG rfl) ?_;refine aA rfl rfl rfl (d6 rfl) ?_;refine aA rfl rfl rfl (aQ i7 rfl) ?_;refine aA rfl rfl rfl (aM Tryz.isAgg25 rfl (rdA rfl)) ?_;refine aA rfl rfl rfl (aG rfl) ?_;refine aA rfl rfl rfl (bA bK rfl rfl (t) ⟨by omega, by omega, by first | omega | (simp; done) | (simp; omega)⟩) ?_;refine aA rfl rfl rfl (aM Tryz.isAgg3 rfl (rdA (iN (by have := hB.len; omega)))) ?_;refine aA rfl rfl rfl (h7 rfl rfl) ?_;refine aA rfl rfl rfl (aF rfl) ?_;refine aJ ?_;refine aL (kh23 _ _ ?_);clear kh23;refine a7 ?_;exact bP [(jF bx bat bl bn n (.slice A e.length cap) vs ms.flatten me L2 (List.replicate n 0)).flatten] Tryz.results117 rfl (Sub.flatF (by unfold jF; repeat (first | exact aI | refine aD ?_ | refine aC rfl ?_))) ⟨L2, _, rfl, DRep_mk hR hE, hB.done, rfl⟩
end Go.Proofs.YtjjogcnjcnpehaaGreat
