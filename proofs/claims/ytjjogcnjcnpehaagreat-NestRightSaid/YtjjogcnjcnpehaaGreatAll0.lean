import Derived.Test.YtjjogcnjcnpehaaGreatFlyT
import Derived.Test.YtjjogcnjcnpehaaGreatFlyOps3

/- bits.Mul, slices.Repeat of aY (where dist.Add is not of the program). -/
namespace Go.Proofs.YtjjogcnjcnpehaaGreat
open Go Go.RowKit Fly
set_option linter.unusedVariables false
set_option linter.unusedSimpArgs false
theorem and32 {y : Nat} (h : y < 4294967296) : IntKind.u64.wrap ((BitVec.ofInt IntKind.u64.bits (y : Int) &&& BitVec.ofInt IntKind.u64.bits 4294967295).toNat) = (y : Int) := by
  have := and_mask (k := 32) (y := y) (by omega) (by omega)
  rw [Nat.mod_eq_of_lt (by omega)] at this;exact this
theorem shr32 {y : Nat} (h : y < 4294967296) : (y : Int).fdiv (2 ^ (min ((32 : Int).toNat) IntKind.u64.bits)) = 0 := by
  show (y : Int).fdiv 4294967296 = 0
  rw [Int.fdiv_eq_ediv_of_nonneg _ (by decide)];exact Int.ediv_eq_zero_of_lt (by omega) (by omega)
/-- A row that is filled as far as n. -/
def hZ (N n : Nat) (z x : Value) : List Value := List.replicate n x ++ List.replicate (N - n) z
theorem fillTo_len {N n : Nat} (h : n ≤ N) (z x : Value) : (hZ N n z x).length = N := by simp [hZ]; omega
theorem fillTo_next {N n m : Nat} (h : n + m ≤ N) (z x : Value) : (hZ N n z x).take n ++ List.replicate m x ++ (hZ N n z x).drop (n + m) = hZ N (n + m) z x := by
  unfold hZ
  rw [List.take_left' (by simp), List.drop_append, List.drop_of_length_le (by simp), List.nil_append, List.length_replicate, List.drop_replicate, List.append_assoc, ← List.append_assoc, List.replicate_append_replicate]
  congr 2; omega
theorem fillTo_all {N n : Nat} (h : n = N) (z x : Value) : hZ N n z x = List.replicate N x := by subst h; simp [hZ]
theorem fillTo_get {N n j : Nat} {v z x : Value} (h : (List.replicate n x)[j]? = some v) : (hZ N n z x)[j]? = some v := by
  unfold hZ; exact dP h
theorem rep_one {m : Nat} {x : Value} (h : x.oneCell' = true) : (List.replicate m x).all (·.oneCell') = true := by
  rw [List.all_eq_true]; intro y hy; rw [(List.mem_replicate.1 hy).2]; exact h
theorem rep_take {n m j : Nat} {x v : Value} (h : (List.replicate (min n m) x)[j]? = some v) : (List.replicate n x)[j]? = some v := by
  rw [List.getElem?_replicate] at h ⊢
  split at h
  · rw [if_pos (by omega)]; exact h
  · cases h
theorem rep_flat (n : Nat) (z : Value) : (List.replicate n [z]).flatten = List.replicate n z := by
  induction n with
  | zero => rfl
  | succ n ih => simp only [List.replicate_succ, List.flatten_cons, ih]; rfl
set_option maxRecDepth 100000 in
set_option maxHeartbeats 4000000 in
theorem Mul64_spec (y : Nat) (w : World) (hy : y < 4294967296) : Meets Tryz.prog 115 [.int .u64 1, .int .u64 (y : Int)] w [] (fun u m => u = .tuple #[.int .u64 0, .int .u64 (y : Int)] ∧ m = []) := by
 refine bM Tryz.func115 rfl Tryz.ntmps115 rfl Owns.nil ?_;refine aK fun K1 kh1 => ?_;refine aC ?_;refine aA rfl rfl rfl (aF rfl) ?_;refine aA rfl rfl rfl (aF rfl) ?_;refine aJ ?_;refine aL (kh1 _ _ ?_);clear kh1;refine aK fun K2 kh2 => ?_;refine aC ?_;refine aA rfl rfl rfl (aG rfl) ?_;refine aA rfl rfl rfl (o_and rfl rfl 1 (by decide)) ?_;refine aA rfl rfl rfl (aF rfl) ?_;refine aJ ?_;refine aL (kh2 _ _ ?_);clear kh2;refine aK fun K3 kh3 => ?_;refine aC ?_;refine aA rfl rfl rfl (aG rfl) ?_;refine aA rfl rfl rfl (o_shr rfl rfl (by decide) 0 (by decide)) ?_;refine aA rfl rfl rfl (aF rfl) ?_;refine aJ ?_;refine aL (kh3 _ _ ?_);clear kh3;refine aK fun K4 kh4 => ?_;refine aC ?_;refine aA rfl rfl rfl (aG rfl) ?_;refine aA rfl rfl rfl (o_and rfl rfl (y : Int) (and32 hy)) ?_;refine aA rfl rfl rfl (aF rfl) ?_;refine aJ ?_;refine aL (kh4 _ _ ?_);clear kh4;refine aK fun K5 kh5 => ?_;refine aC ?_;refine aA rfl rfl rfl (aG rfl) ?_;refine aA rfl rfl rfl (o_shr rfl rfl (by decide) 0 (shr32 hy)) ?_;refine aA rfl rfl rfl (aF rfl) ?_;refine aJ ?_;refine aL (kh5 _ _ ?_);clear kh5;refine aK fun K6 kh6 => ?_;refine aC ?_;refine aA rfl rfl rfl (aG rfl) ?_;refine aA rfl rfl rfl (aG rfl) ?_;refine aA rfl rfl rfl (o_mul rfl rfl _ (show IntKind.u64.wrap (1 * (y : Int)) = (y : Int) from by rw [Int.one_mul]; exact jK (by omega))) ?_;refine aA rfl rfl rfl (aF rfl) ?_;refine aJ ?_;refine aL (kh6 _ _ ?_);clear kh6;refine aK fun K7 kh7 => ?_;refine aC ?_;refine aA rfl rfl rfl (aG rfl) ?_;refine aA rfl rfl rfl (aG rfl) ?_;refine aA rfl rfl rfl (o_mul rfl rfl _ (show IntKind.u64.wrap (0 * (y : Int)) = 0 from by rw [Int.zero_mul]; rfl)) ?_;refine aA rfl rfl rfl (aG rfl) ?_;refine aA rfl rfl rfl (o_shr rfl rfl (by decide) 0 (shr32 hy)) ?_;refine aA rfl rfl rfl (bF rfl rfl _ (show IntKind.u64.wrap (0 + 0) = 0 from rfl)) ?_;refine aA rfl rfl rfl (aF rfl) ?_;refine aJ ?_;refine aL (kh7 _ _ ?_);clear kh7;refine aK fun K8 kh8 => ?_;refine aC ?_;refine aA rfl rfl rfl (aG rfl) ?_;refine aA rfl rfl rfl (o_and rfl rfl 0 (by decide)) ?_;refine aA rfl rfl rfl (aF rfl) ?_;refine aJ ?_;refine aL (kh8 _ _ ?_);clear kh8;refine aK fun K9 kh9 => ?_;refine aC ?_;refine aA rfl rfl rfl (aG rfl) ?_;refine aA rfl rfl rfl (o_shr rfl rfl (by decide) 0 (by decide)) ?_;refine aA rfl rfl rfl (aF rfl) ?_;refine aJ ?_;refine aL (kh9 _ _ ?_);clear kh9;refine aK fun K10 kh10 => ?_;refine aC ?_;refine aA rfl rfl rfl (aG rfl) ?_;refine aA rfl rfl rfl (aG rfl) ?_;refine aA rfl rfl rfl (aG rfl) ?_;refine aA rfl rfl rfl (o_mul rfl rfl _ (show IntKind.u64.wrap (1 * 0) = 0 from rfl)) ?_
 refine aA rfl rfl rfl (bF rfl rfl _ (show IntKind.u64.wrap (0 + 0) = 0 from rfl)) ?_;refine aA rfl rfl rfl (aF rfl) ?_;refine aJ ?_;refine aL (kh10 _ _ ?_);clear kh10;refine aK fun K11 kh11 => ?_;refine aC ?_;refine aA rfl rfl rfl (aG rfl) ?_;refine aA rfl rfl rfl (aG rfl) ?_;refine aA rfl rfl rfl (o_mul rfl rfl _ (show IntKind.u64.wrap (0 * 0) = 0 from rfl)) ?_;refine aA rfl rfl rfl (aG rfl) ?_;refine aA rfl rfl rfl (bF rfl rfl _ (show IntKind.u64.wrap (0 + 0) = 0 from rfl)) ?_;refine aA rfl rfl rfl (aG rfl) ?_;refine aA rfl rfl rfl (o_shr rfl rfl (by decide) 0 (by decide)) ?_;refine aA rfl rfl rfl (bF rfl rfl _ (show IntKind.u64.wrap (0 + 0) = 0 from rfl)) ?_;refine aA rfl rfl rfl (aF rfl) ?_;refine aJ ?_;refine aL (kh11 _ _ ?_);clear kh11;refine aK fun K12 kh12 => ?_;refine aC ?_;refine aA rfl rfl rfl (aG rfl) ?_;refine aA rfl rfl rfl (aG rfl) ?_;refine aA rfl rfl rfl (o_mul rfl rfl _ (show IntKind.u64.wrap (1 * (y : Int)) = (y : Int) from by rw [Int.one_mul]; exact jK (by omega))) ?_;refine aA rfl rfl rfl (aF rfl) ?_;refine aJ ?_;refine aL (kh12 _ _ ?_);clear kh12;refine a7 ?_;exact bZ [] Tryz.results115 rfl rfl aH ⟨rfl, rfl⟩
set_option maxRecDepth 100000 in
set_option maxHeartbeats 4000000 in
theorem Mul_spec (y : Nat) (w : World) (hy : y < 4294967296) : Meets Tryz.prog 98 [.int .u64 1, .int .u64 (y : Int)] w [] (fun u m => u = .tuple #[.int .u64 0, .int .u64 (y : Int)] ∧ m = []) := by
 refine bM Tryz.func98 rfl Tryz.ntmps98 rfl Owns.nil ?_;refine aK fun K1 kh1 => ?_;refine aC ?_;refine aA rfl rfl rfl (aF rfl) ?_;refine aA rfl rfl rfl (aF rfl) ?_;refine aJ ?_;refine aL (kh1 _ _ ?_);clear kh1;refine aK fun K2 kh2 => ?_;refine gZ rfl ?_;refine aV ?_;refine aL (kh2 _ _ ?_);clear kh2;refine aK fun K3 kh3 => ?_;refine aC ?_;refine aA rfl rfl rfl (aG rfl) ?_;refine aA rfl rfl rfl (aG rfl) ?_;refine aU rfl rfl rfl (bE Tryz.call115 rfl (fun w_ hp_ => Mul64_spec y w_ hy) ?_);rintro _ _ ⟨rfl, rfl⟩;dsimp only [List.cons_append, List.nil_append];refine aA rfl rfl rfl (aG rfl) ?_;refine aA rfl rfl rfl (aW rfl rfl) ?_;refine aA rfl rfl rfl (aW rfl rfl) ?_;refine aA rfl rfl rfl (aF rfl) ?_;refine aA rfl rfl rfl (aF rfl) ?_;refine aJ ?_;refine aL (kh3 _ _ ?_);clear kh3;refine aK fun K4 kh4 => ?_;refine aC ?_;refine aA rfl rfl rfl (aG rfl) ?_;refine aA rfl rfl rfl (aG rfl) ?_;refine aA rfl rfl rfl (aF rfl) ?_;refine aA rfl rfl rfl (aF rfl) ?_;refine aJ ?_;refine aL (kh4 _ _ ?_);clear kh4;refine a7 ?_;exact bZ [] Tryz.results98 rfl rfl aH ⟨rfl, rfl⟩
set_option maxRecDepth 100000 in
set_option maxHeartbeats 4000000 in
theorem RepI_spec (b off cx N : Nat) (x : Int) (w : World) (hx : Ro (Fr w []) w (some ⟨b, off, none⟩) [.int .i64 x]) (hN : 1 ≤ N ∧ N ≤ 1000000) : Meets Tryz.prog 81 [.slice (some ⟨b, off, none⟩) 1 cx, .int .i64 (N : Int)] w [] (fun u m => ∃ bN, u = .slice (some ⟨bN, 0, none⟩) N N ∧ m = [[(bN, blk (List.replicate N (.int .i64 x)) 3)]]) := by
 obtain ⟨b', o', e', hSx, hcx⟩ := hx (by simp)
 obtain ⟨rfl, rfl⟩ : b = b' ∧ off = o' := by cases e'; exact ⟨rfl, rfl⟩
 refine bM Tryz.func81 rfl Tryz.ntmps81 rfl Owns.nil ?_;refine aK fun K1 kh1 => ?_;refine aC ?_;refine aA rfl rfl rfl (aF rfl) ?_;refine aJ ?_;refine aL (kh1 _ _ ?_);clear kh1;refine aK fun K2 kh2 => ?_;refine aK fun K3 kh3 => ?_;refine aC ?_;refine aA rfl rfl rfl (aG rfl) ?_;refine aA rfl rfl rfl (cE rfl rfl) ?_;refine aJ ?_;refine aL (kh3 _ _ ?_);clear kh3;refine a6 rfl (fun c10 => ?_) (fun c10 => ?_)
 · omega -- closed
 ·
  refine aV ?_;refine aL (kh2 _ _ ?_);clear kh2;refine aK fun K4 kh4 => ?_;refine aC ?_;refine aA rfl rfl rfl (aG rfl) ?_;refine aA rfl rfl rfl (bU bK rfl) ?_;refine aA rfl rfl rfl (gS Tryz.runUnderlying3 Tryz.runUnderlying83 rfl _ (jK (by omega))) ?_;refine aA rfl rfl rfl (aG rfl) ?_;refine aA rfl rfl rfl (gS Tryz.runUnderlying3 Tryz.runUnderlying83 rfl _ (jK (by omega))) ?_;refine aU rfl rfl rfl (bE Tryz.call98 rfl (fun w_ hp_ => Mul_spec N w_ (by omega)) ?_);rintro _ _ ⟨rfl, rfl⟩;dsimp only [List.cons_append, List.nil_append];refine aA rfl rfl rfl (aG rfl) ?_;refine aA rfl rfl rfl (aW rfl rfl) ?_;refine aA rfl rfl rfl (aW rfl rfl) ?_;refine aA rfl rfl rfl (aF rfl) ?_;refine aA rfl rfl rfl (aF rfl) ?_;refine aJ ?_;refine aL (kh4 _ _ ?_);clear kh4;refine aK fun K5 kh5 => ?_;refine aK fun K6 kh6 => ?_;refine aC ?_;refine aA rfl rfl rfl (aG rfl) ?_;refine aA rfl rfl rfl (eL rfl rfl) ?_;refine aA rfl rfl rfl (aG rfl) ?_;refine f_falseL 23 rfl (by decide) ?_;refine aQ rfl rfl rfl rfl rfl (aG rfl) ?_;refine aQ rfl rfl rfl rfl rfl (eL rfl rfl) ?_;refine aA rfl rfl rfl (cL rfl rfl) ?_;refine aJ ?_;refine aL (kh6 _ _ ?_);clear kh6;refine a6 rfl (fun c26 => ?_) (fun c26 => ?_)
  · omega -- closed
  ·
   refine aV ?_;refine aL (kh5 _ _ ?_);clear kh5;refine aK fun K7 kh7 => ?_;refine aC ?_;refine aA rfl rfl rfl (aG rfl) ?_;refine aA rfl rfl rfl (gS Tryz.runUnderlying83 Tryz.runUnderlying3 rfl _ (aT (by omega))) ?_;refine aU rfl rfl rfl (dQ dR rfl rfl N rfl (by omega) (by omega) (hZ N 0 (.int .i64 0) (.int .i64 x)) (by rw [rep_flat]; simp [hZ]) fun b30 => ?_);refine aA rfl rfl rfl (aF rfl) ?_;refine aJ ?_;refine aL (kh7 _ _ ?_);clear kh7;refine aK fun K8 kh8 => ?_;refine aC ?_;refine aA rfl rfl rfl (aG rfl) ?_;refine aA rfl rfl rfl (aG rfl) ?_;refine aU rfl rfl rfl (o_copy Tryz.underlying25 (by kernel_rfl) rfl rfl (cs := [.int .i64 x]) (rds_of _ _ fun j v hj => rdS hSx (hcx j v hj)) (by simp [Nat.min_def]; omega) rfl (by rw [fillTo_len (by omega)]; simp; omega) (hZ N 1 (.int .i64 0) (.int .i64 x)) (fillTo_next (m := 1) (by omega) _ _) ?_);refine aA rfl rfl rfl (aF rfl) ?_;refine aJ ?_;refine aL (kh8 _ _ ?_);clear kh8;refine aK fun K9 kh9 => ?_;refine aZ ?_;refine cS (α := Nat) [7] (fun n => [(8, .int .i64 (n : Int))]) (fun n => [[(b30, blk (hZ N n (.int .i64 0) (.int .i64 x)) 3)]]) (fun n => 1 ≤ n ∧ n ≤ N) (fun n => N - n) (1) ?_ ?_ ?_ ?_
   · exact (by repeat constructor)
   · repeat first|exact aH|refine aD ?_|refine aB rfl ?_|refine aI ?_
   · exact ⟨Nat.le_refl _, hN.1⟩
   ·
    rintro n ⟨hn1, hnN⟩;refine aK fun K10 kh10 => ?_;refine aK fun K11 kh11 => ?_;refine aC ?_;refine aA rfl rfl rfl (aG rfl) ?_;refine aA rfl rfl rfl (aG rfl) ?_;refine aA rfl rfl rfl (bU bK rfl) ?_;refine aA rfl rfl rfl (cE rfl rfl) ?_;refine aJ ?_;refine aL (kh11 _ _ ?_);clear kh11;refine a6 rfl (fun c37 => ?_) (fun c37 => ?_)
    ·
     refine aV ?_;refine aL (kh10 _ _ ?_);clear kh10;refine aZ ?_;refine dF [] rfl ?_;refine aS 0 rfl (by decide +kernel) rfl rfl rfl (by repeat first|exact aH|refine aD ?_|refine aB rfl ?_|refine aI ?_) (aG rfl) ?_;refine aS 1 rfl (by decide +kernel) rfl rfl rfl (by repeat first|exact aH|refine aD ?_|refine aB rfl ?_|refine aI ?_) (aG rfl) ?_;refine aS 2 rfl (by decide +kernel) rfl rfl rfl (by repeat first|exact aH|refine aD ?_|refine aB rfl ?_|refine aI ?_) (aG rfl) ?_;refine aS 3 rfl (by decide +kernel) rfl rfl rfl (by repeat first|exact aH|refine aD ?_|refine aB rfl ?_|refine aI ?_) (eV bK rfl rfl rfl rfl (fun h => by cases h) n _ _ (.inr ⟨_, _, rfl, by omega⟩) (.inl ⟨rfl, rfl⟩) (.inl ⟨rfl, rfl⟩) ⟨by omega, by omega, by omega⟩ (.slice (some ⟨b30, n, none⟩) (N - n) (N - n)) (by rw [if_neg (by omega)]; simp [cQ])) ?_;refine aS 4 rfl (by decide +kernel) rfl rfl rfl (by repeat first|exact aH|refine aD ?_|refine aB rfl ?_|refine aI ?_) (aG rfl) ?_;refine aS 5 rfl (by decide +kernel) rfl rfl rfl (by repeat first|exact aH|refine aD ?_|refine aB rfl ?_|refine aI ?_) (aG rfl) ?_;refine aS 6 rfl (by decide +kernel) rfl rfl rfl (by repeat first|exact aH|refine aD ?_|refine aB rfl ?_|refine aI ?_) (eV bK rfl rfl rfl rfl (fun h => by cases h) 0 n _ (.inl ⟨rfl, rfl⟩) (.inr ⟨_, _, rfl, by omega⟩) (.inl ⟨rfl, rfl⟩) ⟨by omega, by omega, by omega⟩ (.slice (some ⟨b30, 0, none⟩) n N) (by rw [if_neg (by omega)]; simp [cQ])) ?_;refine bP 7 rfl (by decide +kernel) rfl rfl rfl (o_copy Tryz.underlying25 (by kernel_rfl) rfl rfl (cs := List.replicate (min n (N - n)) (.int .i64 x)) (rds_of _ _ fun j v hj => rdA (by rw [Nat.zero_add]; exact fillTo_get (rep_take hj))) (by rw [List.length_replicate]) (rep_one rfl) (by rw [fillTo_len (by omega), List.length_replicate]; omega) (hZ N (n + min n (N - n)) (.int .i64 0) (.int .i64 x)) (by rw [List.length_replicate]; exact fillTo_next (by omega) _ _) ⟨(by repeat first|exact aH|refine aD ?_|refine aB rfl ?_|refine aI ?_), ?_⟩);refine aS 8 rfl (by decide +kernel) rfl rfl rfl (by repeat first|exact aH|refine aD ?_|refine aB rfl ?_|refine aI ?_) (bF rfl rfl _ (show IntKind.i64.wrap ((n : Int) + ((List.replicate (min n (N - n)) (Value.int .i64 x)).length : Int)) = ((n + min n (N - n) : Nat) : Int) from by rw [List.length_replicate, aT (by omega)]; omega)) ?_;refine bP 9 rfl (by decide +kernel) rfl rfl rfl ((aF rfl).does ⟨(by repeat first|exact aH|refine aD ?_|refine aB rfl ?_|refine aI ?_), ?_⟩);refine dB (by decide +kernel) ?_;refine cU ?_;refine aL (bA (n + min n (N - n)) (by omega) ⟨by omega, by omega⟩ ?_ ?_ ?_)
     · exact (by repeat constructor)
     · exact (by repeat constructor)
     · repeat first|exact aH|refine aD ?_|refine aB rfl ?_|refine aI ?_
    ·
     refine cG ?_;refine cH ?_;clear kh10;refine cH ?_;refine eB ?_;refine aL (kh9 _ _ ?_);clear kh9;refine aK fun K12 kh12 => ?_;refine aC ?_;refine aA rfl rfl rfl (aG rfl) ?_;refine aA rfl rfl rfl (aF rfl) ?_;refine aJ ?_;refine aL (kh12 _ _ ?_);clear kh12;refine a7 ?_;exact bJ [[(b30, blk (List.replicate N (.int .i64 x)) 3)]] Tryz.results81 rfl (by rw [← fillTo_all (show n = N by omega) (.int .i64 0)]; exact aD aH) ⟨b30, rfl, rfl⟩
end Go.Proofs.YtjjogcnjcnpehaaGreat

/- Networks: flows, cuts, what is left. Plain laws. -/
namespace Go.Proofs.YtjjogcnjcnpehaaGreat
open Go Fly
set_option linter.unusedVariables false
set_option linter.unusedSimpArgs false
def c6 (e : List Arc) (i : Nat) : Arc := e.getD i ⟨0, 0, 0⟩
def bO (f : List Int) (i : Nat) : Int := f.getD i 0
theorem k7 {e : List Arc} {i : Nat} (h : i < e.length) : c6 e i = e[i] := by simp [c6, List.getD_eq_getElem?_getD, h]
theorem flAt_eq {f : List Int} {i : Nat} (h : i < f.length) : bO f i = f[i] := by simp [bO, List.getD_eq_getElem?_getD, h]
/-- Edges forth and back: twice the number, and one of those that are gone back. -/
def bW (e : List Arc) (k : Nat) : Nat := if k % 2 = 0 then (c6 e (k / 2)).src.toNat else (c6 e (k / 2)).dst.toNat
def kto (e : List Arc) (k : Nat) : Nat := if k % 2 = 0 then (c6 e (k / 2)).dst.toNat else (c6 e (k / 2)).src.toNat
def dX (e : List Arc) (f : List Int) (k : Nat) : Int := if k % 2 = 0 then (c6 e (k / 2)).wt - bO f (k / 2) else bO f (k / 2)
/-- What flows out of a node, less what flows in. -/
def net : List Arc → List Int → Nat → Int
  | x :: e, y :: f, v => (if x.src.toNat = v then y else 0) - (if x.dst.toNat = v then y else 0) + net e f v
  | _, _, _ => 0
/-- What flows out of a side, less what flows in. -/
def cross (A : Nat → Bool) : List Arc → List Int → Int
  | x :: e, y :: f => (if A x.src.toNat then y else 0) - (if A x.dst.toNat then y else 0) + cross A e f
  | _, _ => 0
/-- The capacity of a side. -/
def capA (A : Nat → Bool) : List Arc → Int
  | x :: e => (if A x.src.toNat && !A x.dst.toNat then x.wt else 0) + capA A e
  | [] => 0
def f4 (g : Nat → Int) : Nat → Int
  | 0 => 0
  | n + 1 => f4 g n + g n
theorem sumTo_add (g h : Nat → Int) : ∀ n, f4 (fun v => g v + h v) n = f4 g n + f4 h n
  | 0 => rfl
  | n + 1 => by simp only [f4]; rw [sumTo_add g h n]; omega
theorem sumTo_sub (g h : Nat → Int) : ∀ n, f4 (fun v => g v - h v) n = f4 g n - f4 h n
  | 0 => rfl
  | n + 1 => by simp only [f4]; rw [sumTo_sub g h n]; omega
theorem sumTo_zero : ∀ n, f4 (fun _ => 0) n = 0
  | 0 => rfl
  | n + 1 => by simp only [f4]; rw [sumTo_zero n]; rfl
theorem sumTo_congr {g h : Nat → Int} : ∀ {n}, (∀ v, v < n → g v = h v) → f4 g n = f4 h n
  | 0, _ => rfl
  | n + 1, H => by simp only [f4]; rw [sumTo_congr (n := n) fun v hv => H v (by omega), H n (by omega)]
theorem kH (a : Nat) (y : Int) : ∀ n, f4 (fun v => if a = v then y else 0) n = if a < n then y else 0
  | 0 => by simp [f4]
  | n + 1 => by
    simp only [f4]; rw [kH a y n]
    by_cases h : a = n
    · subst h; simp
    · rw [if_neg h]; by_cases h2 : a < n
      · rw [if_pos h2, if_pos (by omega)]; omega
      · rw [if_neg h2, if_neg (by omega)]; omega
theorem sum_side (A : Nat → Bool) (n : Nat) : ∀ (e : List Arc) (f : List Int), (∀ x ∈ e, x.src.toNat < n ∧ x.dst.toNat < n) → f4 (fun v => if A v then net e f v else 0) n = cross A e f
  | [], f, _ => by
    have : (fun v => if A v then net [] f v else 0) = fun _ => (0 : Int) := by funext v; simp [net]
    rw [this, sumTo_zero]; simp [cross]
  | x :: e, [], _ => by
    have : (fun v => if A v then net (x :: e) [] v else 0) = fun _ => (0 : Int) := by funext v; simp [net]
    rw [this, sumTo_zero]; simp [cross]
  | x :: e, y :: f, h => by
    have h0 := h x (List.mem_cons_self ..)
    have ih := sum_side A n e f fun z hz => h z (List.mem_cons_of_mem _ hz)
    have e1 : (fun v => if A v then net (x :: e) (y :: f) v else 0) = fun v => ((if x.src.toNat = v then (if A x.src.toNat then y else 0) else 0) - (if x.dst.toNat = v then (if A x.dst.toNat then y else 0) else 0)) + (if A v then net e f v else 0) := by
      funext v
      simp only [net]
      by_cases hs : x.src.toNat = v <;> by_cases hd : x.dst.toNat = v <;> cases hA : A v <;> simp_all
    rw [e1, sumTo_add, sumTo_sub, kH, kH, if_pos h0.1, if_pos h0.2, ih];simp only [cross]
/-- How far an edge is from being filled, or empty. -/
def kJ (A : Nat → Bool) : List Arc → List Int → Int
  | x :: e, y :: f => (if A x.src.toNat then (if A x.dst.toNat then 0 else x.wt - y) else (if A x.dst.toNat then y else 0)) + kJ A e f
  | _, _ => 0
theorem slack_eq (A : Nat → Bool) : ∀ (e : List Arc) (f : List Int), e.length = f.length → capA A e - cross A e f = kJ A e f
  | [], f, h => by simp [capA, cross, kJ]
  | x :: e, [], h => by simp at h
  | x :: e, y :: f, h => by
    have ih := slack_eq A e f (by simpa using h)
    simp only [capA, cross, kJ];cases A x.src.toNat <;> cases A x.dst.toNat <;> simp <;> omega
structure Fits (e : List Arc) (f : List Int) : Prop where
  len : f.length = e.length
  rng : ∀ i, i < e.length → 0 ≤ bO f i ∧ bO f i ≤ (c6 e i).wt
theorem Fits.tail {x : Arc} {e : List Arc} {y : Int} {f : List Int} (h : Fits (x :: e) (y :: f)) : Fits e f :=
  ⟨by simpa using h.len, fun i hi => by have := h.rng (i + 1) (by simpa using hi); simpa [bO, c6] using this⟩
theorem Fits.head {x : Arc} {e : List Arc} {y : Int} {f : List Int} (h : Fits (x :: e) (y :: f)) : 0 ≤ y ∧ y ≤ x.wt := by
  have := h.rng 0 (by simp); simpa [bO, c6] using this
theorem slack_nn (A : Nat → Bool) : ∀ (e : List Arc) (f : List Int), Fits e f → 0 ≤ kJ A e f
  | [], f, _ => by simp [kJ]
  | x :: e, [], _ => by simp [kJ]
  | x :: e, y :: f, h => by
    have ih := slack_nn A e f h.tail
    have := h.head
    simp only [kJ]
    split <;> split <;> omega
/-- Nothing is left that leads out of the side. -/
def Shut (e : List Arc) (f : List Int) (A : Nat → Bool) : Prop := ∀ k, k < 2 * e.length → 0 < dX e f k → A (bW e k) = true → A (kto e k) = true
theorem slack_zero (A : Nat → Bool) : ∀ (e : List Arc) (f : List Int), Fits e f → (kJ A e f = 0 ↔ ∀ i, i < e.length → (A (c6 e i).src.toNat = true → A (c6 e i).dst.toNat = false → bO f i = (c6 e i).wt) ∧ (A (c6 e i).src.toNat = false → A (c6 e i).dst.toNat = true → bO f i = 0))
  | [], f, _ => by simp [kJ]
  | x :: e, [], h => by have := h.len; simp at this
  | x :: e, y :: f, h => by
    have ih := slack_zero A e f h.tail
    have nn := slack_nn A e f h.tail
    have hh := h.head
    constructor
    · intro hz i hi
      simp only [kJ] at hz
      cases i with
      | zero =>
        have ea : c6 (x :: e) 0 = x := by simp [c6]
        have ef : bO (y :: f) 0 = y := by simp [bO]
        rw [ea, ef];constructor
        · intro h1 h2; rw [h1, h2] at hz; simp at hz; omega
        · intro h1 h2; rw [h1, h2] at hz; simp at hz; omega
      | succ i =>
        have ea : c6 (x :: e) (i + 1) = c6 e i := by simp [c6]
        have ef : bO (y :: f) (i + 1) = bO f i := by simp [bO]
        rw [ea, ef];refine ih.1 ?_ i (by simpa using hi);cases h1 : A x.src.toNat <;> cases h2 : A x.dst.toNat <;> rw [h1, h2] at hz <;> simp at hz <;> omega
    · intro H
      have h0 := H 0 (by simp)
      have ea : c6 (x :: e) 0 = x := by simp [c6]
      have ef : bO (y :: f) 0 = y := by simp [bO]
      rw [ea, ef] at h0
      have hr := ih.2 fun i hi => by
        have := H (i + 1) (by simpa using hi)
        simpa [c6, bO] using this
      simp only [kJ];cases h1 : A x.src.toNat <;> cases h2 : A x.dst.toNat <;> simp [h1, h2] at h0 ⊢ <;> omega
theorem slack_shut {A : Nat → Bool} {e : List Arc} {f : List Int} (h : Fits e f) : kJ A e f = 0 ↔ Shut e f A := by
  rw [slack_zero A e f h];constructor
  · intro H k hk hl hA
    have hi := H (k / 2) (by omega)
    have hr := h.rng (k / 2) (by omega)
    unfold dX at hl; unfold bW at hA; unfold kto
    split
    · rename_i h2
      rw [if_pos h2] at hl hA
      cases hb : A (c6 e (k / 2)).dst.toNat with
      | true => rfl
      | false => have := hi.1 hA hb; omega
    · rename_i h2
      rw [if_neg h2] at hl hA
      cases hb : A (c6 e (k / 2)).src.toNat with
      | true => rfl
      | false => have := hi.2 hb hA; omega
  · intro H i hi
    have hr := h.rng i hi
    have h0 := H (2 * i) (by omega)
    have h1 := H (2 * i + 1) (by omega)
    unfold dX bW kto at h0 h1
    rw [if_pos (by omega), if_pos (by omega), if_pos (by omega), show 2 * i / 2 = i by omega] at h0;rw [if_neg (by omega), if_neg (by omega), if_neg (by omega), show (2 * i + 1) / 2 = i by omega] at h1;constructor
    · intro a b
      rcases Int.lt_or_le 0 ((c6 e i).wt - bO f i) with hlt | hge
      · rw [h0 hlt a] at b; cases b
      · omega
    · intro a b
      rcases Int.lt_or_le 0 (bO f i) with hlt | hge
      · rw [h1 hlt b] at a; cases a
      · omega
/-- A flow of a value from s to t. -/
structure Flow (n : Nat) (e : List Arc) (s t : Nat) (f : List Int) (V : Int) : Prop where
  fits : Fits e f
  cons : ∀ v, v < n → net e f v = (if s = v then V else 0) - (if t = v then V else 0)
def jB (n : Nat) (e : List Arc) : Prop := ∀ x ∈ e, x.src.toNat < n ∧ x.dst.toNat < n
theorem Flow.side {n : Nat} {e : List Arc} {s t : Nat} {f : List Int} {V : Int} (h : Flow n e s t f V) (he : jB n e) {A : Nat → Bool} (hs : s < n) (hA : A s = true) (hB : A t = false) : cross A e f = V := by
  rw [← sum_side A n e f he]
  have : f4 (fun v => if A v then net e f v else 0) n = f4 (fun v => if s = v then V else 0) n := sumTo_congr fun v hv => by
    rw [h.cons v hv]
    by_cases h1 : s = v
    · subst h1
      have : t ≠ s := fun e => by subst e; rw [hA] at hB; cases hB
      simp [hA, this]
    · by_cases h2 : t = v
      · subst h2; simp [hB, h1]
      · simp [h1, h2]
  rw [this, kH, if_pos hs]
/-- No flow is greater than a cut. -/
theorem Flow.le_cut {n : Nat} {e : List Arc} {s t : Nat} {f : List Int} {V : Int} (h : Flow n e s t f V) (he : jB n e) {A : Nat → Bool} (hs : s < n) (hA : A s = true) (hB : A t = false) : V ≤ capA A e := by
  have h1 := h.side he hs hA hB
  have h2 := slack_eq A e f h.fits.len.symm
  have h3 := slack_nn A e f h.fits
  omega
theorem Flow.shut {n : Nat} {e : List Arc} {s t : Nat} {f : List Int} {V : Int} (h : Flow n e s t f V) (he : jB n e) {A : Nat → Bool} (hs : s < n) (hA : A s = true) (hB : A t = false) : V = capA A e ↔ Shut e f A := by
  have h1 := h.side he hs hA hB
  have h2 := slack_eq A e f h.fits.len.symm
  rw [← slack_shut h.fits];omega
/-- What can be reached along what is left. -/
inductive Reach (e : List Arc) (f : List Int) (s : Nat) : Nat → Prop
  | refl : Reach e f s s
  | step {k : Nat} (h : Reach e f s (bW e k)) (hk : k < 2 * e.length) (hl : 0 < dX e f k) : Reach e f s (kto e k)
theorem Reach.within {e : List Arc} {f : List Int} {s v : Nat} (h : Reach e f s v) {A : Nat → Bool} (hs : A s = true) (hA : Shut e f A) : A v = true := by
  induction h with
  | refl => exact hs
  | step _ hk hl ih => exact hA _ hk hl ih
/-- The side of what can be reached. -/
structure Side (n : Nat) (e : List Arc) (s t : Nat) (f : List Int) (A : Nat → Bool) : Prop where
  src : A s = true
  dst : A t = false
  shut : Shut e f A
  reach : ∀ v, v < n → A v = true → Reach e f s v
/-- The least side of the least capacity is the same, whatever the greatest flow is. -/
theorem Side.same {n : Nat} {e : List Arc} {s t : Nat} {f g : List Int} {V W : Int} {A B : Nat → Bool} (he : jB n e) (hs : s < n) (hf : Flow n e s t f V) (hg : Flow n e s t g W) (hA : Side n e s t f A) (hB : Side n e s t g B) : V = W ∧ ∀ v, v < n → A v = B v := by
  have a1 := (hf.shut he hs hA.src hA.dst).2 hA.shut
  have b1 := (hg.shut he hs hB.src hB.dst).2 hB.shut
  have a2 := hf.le_cut he hs hB.src hB.dst
  have b2 := hg.le_cut he hs hA.src hA.dst
  have e1 : V = W := by omega
  have c1 := (hf.shut he hs hB.src hB.dst).1 (by omega)
  have c2 := (hg.shut he hs hA.src hA.dst).1 (by omega)
  refine ⟨e1, fun v hv => ?_⟩
  cases h1 : A v with
  | true => exact ((hA.reach v hv h1).within hB.src c1).symm
  | false =>
    cases h2 : B v with
    | true => rw [(hB.reach v hv h2).within hA.src c2] at h1; cases h1
    | false => rfl
/-- A cut with fewer nodes has a greater capacity. -/
theorem Side.least {n : Nat} {e : List Arc} {s t : Nat} {f : List Int} {V : Int} {A B : Nat → Bool} (he : jB n e) (hs : s < n) (hf : Flow n e s t f V) (hA : Side n e s t f A) (h1 : B s = true) (h2 : B t = false) {u : Nat} (hu : u < n) (hAu : A u = true) (hBu : B u = false) : V < capA B e := by
  have := hf.le_cut he hs h1 h2
  rcases Int.lt_or_le V (capA B e) with h | h
  · exact h
  · have hB := (hf.shut he hs h1 h2).1 (by omega)
    rw [(hA.reach u hu hAu).within h1 hB] at hBu; cases hBu
/-! ### pushing along a way -/
def iI (f : List Int) (k : Nat) (d : Int) : List Int := f.set (k / 2) (bO f (k / 2) + (if k % 2 = 0 then d else -d))
theorem k3 (f : List Int) (k : Nat) (d : Int) : (iI f k d).length = f.length := by simp [iI]
theorem flAt_push {f : List Int} {k : Nat} {d : Int} (hk : k / 2 < f.length) (i : Nat) : bO (iI f k d) i = if k / 2 = i then bO f (k / 2) + (if k % 2 = 0 then d else -d) else bO f i := by
  unfold iI
  unfold bO
  rw [List.getD_eq_getElem?_getD, List.getElem?_set]
  by_cases h : k / 2 = i
  · rw [if_pos h, if_pos hk, if_pos h]; rfl
  · rw [if_neg h, if_neg h, List.getD_eq_getElem?_getD]
theorem net_set : ∀ {e : List Arc} {f : List Int} {i : Nat} (d : Int) (v : Nat), e.length = f.length → i < f.length →
    net e (f.set i (bO f i + d)) v = net e f v + ((if (c6 e i).src.toNat = v then d else 0) - (if (c6 e i).dst.toNat = v then d else 0))
  | [], [], _, _, _, _, h => by simp at h
  | x :: e, [], _, _, _, h, _ => by simp at h
  | [], y :: f, _, _, _, h, _ => by simp at h
  | x :: e, y :: f, 0, d, v, h, _ => by
    have ea : c6 (x :: e) 0 = x := by simp [c6]
    have ef : bO (y :: f) 0 = y := by simp [bO]
    rw [ea, ef];simp only [List.set_cons_zero, net]
    split <;> split <;> omega
  | x :: e, y :: f, i + 1, d, v, h, hi => by
    have ea : c6 (x :: e) (i + 1) = c6 e i := by simp [c6]
    have ef : bO (y :: f) (i + 1) = bO f i := by simp [bO]
    rw [ea, ef];have := net_set (e := e) (f := f) (i := i) d v (by simpa using h) (by simpa using hi)
    simp only [List.set_cons_succ, net, this]; omega
theorem net_push {e : List Arc} {f : List Int} {k : Nat} (d : Int) (v : Nat) (h : e.length = f.length) (hk : k < 2 * e.length) : net e (iI f k d) v = net e f v + ((if bW e k = v then d else 0) - (if kto e k = v then d else 0)) := by
  unfold iI
  rw [net_set _ _ h (by omega)]
  unfold bW kto
  by_cases h2 : k % 2 = 0
  · simp only [h2, if_true]
  · simp only [h2, if_false]; split <;> split <;> omega
/-- A way along edges. -/
def Way (e : List Arc) : Nat → Nat → List Nat → Prop
  | u, t, [] => u = t
  | u, t, k :: r => k < 2 * e.length ∧ bW e k = u ∧ Way e (kto e k) t r
theorem Way.snoc {e : List Arc} : ∀ {W : List Nat} {u v : Nat} {k : Nat}, Way e u v W → k < 2 * e.length → bW e k = v → Way e u (kto e k) (W ++ [k])
  | [], u, v, k, h, hk, hf => by have : u = v := h; subst this; exact ⟨hk, hf, rfl⟩
  | j :: r, u, v, k, ⟨h1, h2, h3⟩, hk, hf => ⟨h1, h2, Way.snoc h3 hk hf⟩
theorem Way.pop {e : List Arc} : ∀ {W : List Nat} {u v : Nat} {k : Nat}, Way e u v (W ++ [k]) → k < 2 * e.length ∧ kto e k = v ∧ Way e u (bW e k) W
  | [], u, v, k, ⟨h1, h2, h3⟩ => ⟨h1, h3, h2.symm⟩
  | j :: r, u, v, k, ⟨h1, h2, h3⟩ => let ⟨a, b, c⟩ := Way.pop h3; ⟨a, b, h1, h2, c⟩
theorem Way.split {e : List Arc} : ∀ {W X : List Nat} {u v : Nat}, Way e u v (W ++ X) → ∃ m, Way e u m W ∧ Way e m v X
  | [], X, u, v, h => ⟨u, rfl, h⟩
  | k :: r, X, u, v, ⟨h1, h2, h3⟩ => let ⟨m, a, b⟩ := Way.split h3; ⟨m, ⟨h1, h2, a⟩, b⟩
theorem Way.lt {e : List Arc} : ∀ {W : List Nat} {u v : Nat}, Way e u v W → ∀ k, k ∈ W → k < 2 * e.length
  | [], _, _, _, k, h => by simp at h
  | j :: r, u, v, ⟨h1, _, h3⟩, k, h => by
    rcases List.mem_cons.1 h with rfl | h
    · exact h1
    · exact Way.lt h3 k h
/-- Each edge leads one layer on. -/
def Up (e : List Arc) (L : List Int) (W : List Nat) : Prop := ∀ k, k ∈ W → bO L (kto e k) = bO L (bW e k) + 1
theorem Way.rise {e : List Arc} {L : List Int} : ∀ {W : List Nat} {u v : Nat}, Way e u v W → Up e L W → ∀ k, k ∈ W → bO L u ≤ bO L (bW e k)
  | [], _, _, _, _, k, h => by simp at h
  | j :: r, u, v, ⟨h1, h2, h3⟩, hU, k, h => by
    rcases List.mem_cons.1 h with rfl | h
    · rw [h2]; exact Int.le_refl _
    · have := Way.rise h3 (fun i hi => hU i (List.mem_cons_of_mem _ hi)) k h
      have := hU j (List.mem_cons_self ..)
      rw [h2] at this;omega
theorem half_eq {e : List Arc} {j k : Nat} (h : j / 2 = k / 2) : j = k ∨ (bW e j = kto e k ∧ kto e j = bW e k) := by
  by_cases hm : j % 2 = k % 2
  · left; omega
  · right
    unfold bW kto
    rw [h]
    by_cases h1 : j % 2 = 0
    · rw [if_pos h1, if_neg (by omega), if_pos h1, if_neg (by omega)]; exact ⟨rfl, rfl⟩
    · rw [if_neg h1, if_pos (by omega), if_neg h1, if_pos (by omega)]; exact ⟨rfl, rfl⟩
/-- No edge comes twice. -/
theorem Way.nodup {e : List Arc} {L : List Int} : ∀ {W : List Nat} {u v : Nat}, Way e u v W → Up e L W → (W.map (· / 2)).Nodup
  | [], _, _, _, _ => by simp
  | j :: r, u, v, ⟨h1, h2, h3⟩, hU => by
    rw [List.map_cons, List.nodup_cons];have hU' : Up e L r := fun i hi => hU i (List.mem_cons_of_mem _ hi)
    refine ⟨fun hm => ?_, Way.nodup h3 hU'⟩;obtain ⟨k, hk, hjk⟩ := List.mem_map.1 hm
    have a := Way.rise h3 hU' k hk
    have b := hU j (List.mem_cons_self ..)
    have c := hU k (List.mem_cons_of_mem _ hk)
    rcases half_eq (e := e) hjk with rfl | ⟨d1, d2⟩
    · omega
    · rw [d1, d2] at c; omega
def eH (f : List Int) (W : List Nat) (d : Int) : List Int := W.foldl (fun f k => iI f k d) f
theorem pushAll_len (W : List Nat) (d : Int) : ∀ f, (eH f W d).length = f.length := by
  induction W with
  | nil => intro f; rfl
  | cons k r ih => intro f; show (eH (iI f k d) r d).length = _; rw [ih, k3]
theorem pushAll_snoc (f : List Int) (W : List Nat) (k : Nat) (d : Int) : eH f (W ++ [k]) d = iI (eH f W d) k d := by simp [eH]
theorem net_pushAll {e : List Arc} {d : Int} : ∀ {W : List Nat} {f : List Int} {u t : Nat}, e.length = f.length → Way e u t W → ∀ v, net e (eH f W d) v = net e f v + ((if u = v then d else 0) - (if t = v then d else 0))
  | [], f, u, t, h, hw, v => by have : u = t := hw; subst this; simp [eH]
  | k :: r, f, u, t, h, ⟨h1, h2, h3⟩, v => by
    show net e (eH (iI f k d) r d) v = _
    rw [net_pushAll (by rw [k3]; exact h) h3 v, net_push d v h h1, h2]; omega
theorem flAt_pushAll {d : Int} : ∀ {W : List Nat} {f : List Int} {i : Nat}, (∀ k, k ∈ W → k / 2 < f.length) → (∀ k, k ∈ W → k / 2 ≠ i) → bO (eH f W d) i = bO f i
  | [], f, i, _, _ => rfl
  | k :: r, f, i, hl, hn => by
    show bO (eH (iI f k d) r d) i = _
    rw [flAt_pushAll (fun j hj => by rw [k3]; exact hl j (List.mem_cons_of_mem _ hj)) fun j hj => hn j (List.mem_cons_of_mem _ hj), flAt_push (hl k (List.mem_cons_self ..)), if_neg (hn k (List.mem_cons_self ..))]
theorem kleft_rng {e : List Arc} {f : List Int} (h : Fits e f) {k : Nat} (hk : k < 2 * e.length) : 0 ≤ dX e f k ∧ dX e f k ≤ (c6 e (k / 2)).wt := by
  have := h.rng (k / 2) (by omega)
  unfold dX; split <;> omega
theorem Fits.push {e : List Arc} {f : List Int} {k : Nat} {d : Int} (h : Fits e f) (hk : k < 2 * e.length) (h0 : 0 ≤ d) (hd : d ≤ dX e f k) : Fits e (iI f k d) :=
  ⟨by rw [k3]; exact h.len, fun i hi => by
    rw [flAt_push (by rw [h.len]; omega)];have := h.rng i hi
    split
    · rename_i e'; subst e'
      unfold dX at hd
      by_cases h2 : k % 2 = 0
      · rw [if_pos h2] at hd ⊢; omega
      · rw [if_neg h2] at hd ⊢; omega
    · exact this⟩
theorem kleft_push {e : List Arc} {f : List Int} {j k : Nat} {d : Int} (hk : k / 2 < f.length) (h : j / 2 ≠ k / 2) : dX e (iI f k d) j = dX e f j := by
  have := flAt_push (d := d) hk (j / 2)
  rw [if_neg fun h' => h h'.symm] at this
  unfold dX; rw [this]
theorem fits_pushAll {e : List Arc} {d : Int} (h0 : 0 ≤ d) : ∀ {W : List Nat} {f : List Int}, Fits e f → (W.map (· / 2)).Nodup → (∀ k, k ∈ W → k < 2 * e.length ∧ d ≤ dX e f k) → Fits e (eH f W d)
  | [], f, h, _, _ => h
  | k :: r, f, h, hn, hk => by
    rw [List.map_cons, List.nodup_cons] at hn;have hkk := hk k (List.mem_cons_self ..)
    show Fits e (eH (iI f k d) r d)
    exact fits_pushAll h0 (h.push hkk.1 h0 hkk.2) hn.2 fun j hj => ⟨(hk j (List.mem_cons_of_mem _ hj)).1, by
      rw [kleft_push (by rw [h.len]; omega) fun e' => hn.1 (e' ▸ List.mem_map.2 ⟨j, hj, rfl⟩)]
      exact (hk j (List.mem_cons_of_mem _ hj)).2⟩
theorem Flow.push {n : Nat} {e : List Arc} {s t : Nat} {f : List Int} {V d : Int} {W : List Nat} (h : Flow n e s t f V) (h0 : 0 ≤ d) (hw : Way e s t W) (hn : (W.map (· / 2)).Nodup) (hd : ∀ k, k ∈ W → d ≤ dX e f k) : Flow n e s t (eH f W d) (V + d) :=
  ⟨fits_pushAll h0 h.fits hn fun k hk => ⟨hw.lt k hk, hd k hk⟩, fun v hv => by
    rw [net_pushAll h.fits.len.symm hw v, h.cons v hv]
    split <;> split <;> omega⟩
theorem net_zero : ∀ (e : List Arc) (m : Nat) (v : Nat), net e (List.replicate m 0) v = 0
  | [], _, _ => by simp [net]
  | x :: e, 0, _ => by simp [net]
  | x :: e, m + 1, v => by simp only [List.replicate_succ, net]; rw [net_zero e m v]; split <;> split <;> omega
theorem flAt_zero (m i : Nat) : bO (List.replicate m 0) i = 0 := by
  unfold bO; rw [List.getD_eq_getElem?_getD, List.getElem?_replicate]; split <;> rfl
theorem Flow.zero {n : Nat} {e : List Arc} {s t : Nat} (hw : ∀ x ∈ e, 0 ≤ x.wt) : Flow n e s t (List.replicate e.length 0) 0 :=
  ⟨⟨by simp, fun i hi => by rw [flAt_zero, k7 hi]; exact ⟨Int.le_refl _, hw _ (List.getElem_mem hi)⟩⟩, fun v _ => by rw [net_zero]; simp⟩
/-- The greatest value there may be. -/
def h7 : List Arc → Int
  | x :: e => x.wt + h7 e
  | [] => 0
theorem net_le : ∀ (e : List Arc) (f : List Int) (v : Nat), Fits e f → net e f v ≤ h7 e
  | [], f, v, _ => by simp [net, h7]
  | x :: e, [], v, h => by have := h.len; simp at this
  | x :: e, y :: f, v, h => by
    have := net_le e f v h.tail
    have := h.head
    simp only [net, h7]
    split <;> split <;> omega
theorem capSum_le (c : Int) : ∀ (e : List Arc), (∀ x ∈ e, x.wt ≤ c) → h7 e ≤ e.length * c
  | [], _ => by simp [h7]
  | x :: e, h => by
    have := capSum_le c e fun y hy => h y (List.mem_cons_of_mem _ hy)
    have := h x (List.mem_cons_self ..)
    simp only [h7, List.length_cons];rw [show ((e.length + 1 : Nat) : Int) * c = e.length * c + c by rw [Int.natCast_add, Int.add_mul]; simp]; omega
theorem Flow.val_le {n : Nat} {e : List Arc} {s t : Nat} {f : List Int} {V : Int} (h : Flow n e s t f V) (hs : s < n) (hst : s ≠ t) : V ≤ h7 e := by
  have h1 := h.cons s hs
  rw [if_pos rfl, if_neg (fun e => hst e.symm)] at h1;have := net_le e f s h.fits
  omega
end Go.Proofs.YtjjogcnjcnpehaaGreat

/- The layers of a network, and ways through them. Plain laws. -/
namespace Go.Proofs.YtjjogcnjcnpehaaGreat
open Go Fly
set_option linter.unusedVariables false
set_option linter.unusedSimpArgs false
theorem gM {L : List Int} {u : Nat} (h : u < L.length) (x : Int) (v : Nat) : bO (L.set u x) v = if u = v then x else bO L v := by
  unfold bO
  rw [List.getD_eq_getElem?_getD, List.getElem?_set]
  by_cases e : u = v
  · rw [if_pos e, if_pos h, if_pos e]; rfl
  · rw [if_neg e, if_neg e, List.getD_eq_getElem?_getD]
def unl (L : List Int) : Nat := L.countP (fun x => decide (x < 0))
theorem unl_set : ∀ {L : List Int} {i : Nat} {x : Int}, i < L.length → bO L i < 0 → 0 ≤ x → unl (L.set i x) + 1 = unl L
  | y :: L, 0, x, _, h, hx => by
    have hy : y < 0 := by simpa [bO] using h
    simp [unl, hy, List.countP_cons, show ¬ x < 0 by omega]
  | y :: L, i + 1, x, hi, h, hx => by
    have := unl_set (L := L) (i := i) (x := x) (by simpa using hi) (by simpa [bO] using h) hx
    unfold unl at this ⊢
    simp only [List.set_cons_succ, List.countP_cons];omega
/-- What is left, seen from s: the layers so far. -/
structure LayB (n : Nat) (e : List Arc) (s : Nat) (f L : List Int) (work : List Nat) (P : Nat → Prop) : Prop where
  len : L.length = n
  ge : ∀ v, v < n → -1 ≤ bO L v
  s0 : bO L s = 0
  pred : ∀ v, v < n → 0 ≤ bO L v → v ≠ s → ∃ k, k < 2 * e.length ∧ 0 < dX e f k ∧ kto e k = v ∧ 0 ≤ bO L (bW e k) ∧ bO L v = bO L (bW e k) + 1
  wk : ∀ v, v ∈ work → v < n ∧ 0 ≤ bO L v
  cl : ∀ k, k < 2 * e.length → 0 < dX e f k → 0 ≤ bO L (bW e k) → bW e k ∉ work → P k → 0 ≤ bO L (kto e k)
variable {n : Nat} {e : List Arc} {s t : Nat} {f L : List Int} {work : List Nat} {P : Nat → Prop}
theorem flAt_rep {n : Nat} {x : Int} {v : Nat} (h : v < n) : bO (List.replicate n x) v = x := by
  unfold bO; rw [List.getD_eq_getElem?_getD, List.getElem?_replicate, if_pos h]; rfl
theorem jS (he : jB n e) {k : Nat} (hk : k < 2 * e.length) : bW e k < n := by
  have := he _ (List.getElem_mem (show k / 2 < e.length by omega))
  unfold bW; rw [k7 (by omega)]; split <;> omega
theorem kto_lt (he : jB n e) {k : Nat} (hk : k < 2 * e.length) : kto e k < n := by
  have := he _ (List.getElem_mem (show k / 2 < e.length by omega))
  unfold kto; rw [k7 (by omega)]; split <;> omega
theorem LayB.begin (he : jB n e) (hs : s < n) : LayB n e s f ((List.replicate n (-1)).set s 0) [s] (fun _ => True) := by
  have G : ∀ v, v < n → bO ((List.replicate n (-1)).set s 0) v = if s = v then 0 else -1 := fun v hv => by rw [gM (by simpa using hs), flAt_rep hv]
  refine ⟨by simp, fun v hv => by rw [G v hv]; split <;> omega, by rw [G s hs, if_pos rfl], fun v hv h hne => ?_, fun v hv => ?_, fun k hk hl hf hn _ => ?_⟩
  · rw [G v hv, if_neg (fun e => hne e.symm)] at h; omega
  · simp at hv; subst hv; exact ⟨hs, by rw [G v hs, if_pos rfl]; exact Int.le_refl _⟩
  · have hlt := jS he hk
    rw [G _ hlt] at hf
    split at hf
    · rename_i e'; exact absurd (by rw [← e']; simp) hn
    · omega
theorem LayB.pop {v : Nat} (h : LayB n e s f L (v :: work) (fun _ => True)) : LayB n e s f L work (fun k => bW e k ≠ v) :=
  ⟨h.len, h.ge, h.s0, h.pred, fun u hu => h.wk u (List.mem_cons_of_mem _ hu), fun k hk hl hf hn hne => h.cl k hk hl hf (by simp; exact ⟨hne, hn⟩) trivial⟩
theorem LayB.weaken {Q : Nat → Prop} (h : LayB n e s f L work P) (hq : ∀ k, k < 2 * e.length → Q k → P k) : LayB n e s f L work Q :=
  ⟨h.len, h.ge, h.s0, h.pred, h.wk, fun k hk hl hf hn hQ => h.cl k hk hl hf hn (hq k hk hQ)⟩
theorem LayB.see {k : Nat} (h : LayB n e s f L work P) (he : jB n e) (hk : k < 2 * e.length) (hf : 0 ≤ bO L (bW e k)) (hu : bO L (kto e k) < 0) (hl : 0 < dX e f k) :
    LayB n e s f (L.set (kto e k) (bO L (bW e k) + 1)) (work ++ [kto e k]) (fun j => P j ∨ j = k) := by
  have ht := kto_lt he hk
  have hfr := jS he hk
  have G : ∀ v, bO (L.set (kto e k) (bO L (bW e k) + 1)) v = if kto e k = v then bO L (bW e k) + 1 else bO L v := fun v => gM (by rw [h.len]; exact ht) _ v
  refine ⟨by simpa using h.len, fun v hv => ?_, ?_, fun v hv hv0 hne => ?_, fun v hv => ?_, fun j hj hjl hjf hjn hP => ?_⟩
  · rw [G]; split
    · omega
    · exact h.ge v hv
  · rw [G, if_neg (fun e' => by rw [e', h.s0] at hu; omega)]; exact h.s0
  · rw [G] at hv0 ⊢
    split at hv0
    · rename_i e'
      rw [if_pos e'];refine ⟨k, hk, hl, e', ?_, ?_⟩
      · rw [G, if_neg (fun e2 => by rw [← e2] at hf; omega)]; exact hf
      · rw [G, if_neg (fun e2 => by rw [← e2] at hf; omega)]
    · rename_i e'
      rw [if_neg e'];obtain ⟨j, a, b, c, d, g⟩ := h.pred v hv hv0 hne
      refine ⟨j, a, b, c, ?_, ?_⟩
      · rw [G, if_neg (fun e2 => by rw [← e2] at d; omega)]; exact d
      · rw [G, if_neg (fun e2 => by rw [← e2] at d; omega)]; exact g
  · rw [G]
    rcases List.mem_append.1 hv with hv | hv
    · have := h.wk v hv
      split
      · exact ⟨this.1, by omega⟩
      · exact this
    · simp at hv; subst hv; rw [if_pos rfl]; exact ⟨ht, by omega⟩
  · simp only [List.mem_append, List.mem_singleton, not_or] at hjn
    rw [G] at hjf ⊢;rw [if_neg (fun e' => hjn.2 e'.symm)] at hjf
    split
    · omega
    · rename_i e'
      rcases hP with hP | rfl
      · exact h.cl j hj hjl hjf hjn.1 hP
      · exact absurd rfl e'
theorem LayB.skip {k : Nat} (h : LayB n e s f L work P) (hn : ¬ (bO L (kto e k) < 0 ∧ 0 < dX e f k)) : LayB n e s f L work (fun j => P j ∨ j = k) :=
  ⟨h.len, h.ge, h.s0, h.pred, h.wk, fun j hj hjl hjf hjn hP => by
    rcases hP with hP | rfl
    · exact h.cl j hj hjl hjf hjn hP
    · omega⟩
/-- The layers, as they are told. -/
structure Lay (n : Nat) (e : List Arc) (s : Nat) (f L : List Int) : Prop where
  len : L.length = n
  ge : ∀ v, v < n → -1 ≤ bO L v
  s0 : bO L s = 0
  pred : ∀ v, v < n → 0 ≤ bO L v → v ≠ s → ∃ k, k < 2 * e.length ∧ 0 < dX e f k ∧ kto e k = v ∧ 0 ≤ bO L (bW e k) ∧ bO L v = bO L (bW e k) + 1
  cl : ∀ k, k < 2 * e.length → 0 < dX e f k → 0 ≤ bO L (bW e k) → 0 ≤ bO L (kto e k)
theorem LayB.done (h : LayB n e s f L [] (fun _ => True)) : Lay n e s f L := ⟨h.len, h.ge, h.s0, h.pred, fun k hk hl hf => h.cl k hk hl hf (by simp) trivial⟩
theorem Lay.reach (h : Lay n e s f L) (he : jB n e) : ∀ (m : Nat) (v : Nat), v < n → bO L v = (m : Int) → Reach e f s v
  | 0, v, hv, hm => by
    by_cases hvs : v = s
    · subst hvs; exact .refl
    · obtain ⟨k, a, b, c, d, g⟩ := h.pred v hv (by omega) hvs; omega
  | m + 1, v, hv, hm => by
    by_cases hvs : v = s
    · subst hvs; exact .refl
    · obtain ⟨k, a, b, c, d, g⟩ := h.pred v hv (by omega) hvs
      have := Lay.reach h he m (bW e k) (jS he a) (by omega)
      rw [← c]; exact .step this a b
theorem Lay.side (h : Lay n e s f L) (he : jB n e) (ht : bO L t < 0) : Side n e s t f (fun v => decide (0 ≤ bO L v)) where
  src := by simp [h.s0]
  dst := by simp; exact ht
  shut := fun k hk hl hA => by simp at hA ⊢; exact h.cl k hk hl hA
  reach := fun v hv hA => by
    simp at hA;exact h.reach he (bO L v).toNat v hv (by omega)
/-! ### rows -/
/-- The edges that lead out of a node, of the first ones. -/
def gE (e : List Arc) (j v : Nat) : List Int := ((List.range j).filter (fun k => bW e k == v)).map (fun k : Nat => (k : Int))
def kY (e : List Arc) (n j : Nat) : List (List Int) := (List.range n).map (gE e j)
theorem iC (e : List Arc) (n j : Nat) : (kY e n j).length = n := by simp [kY]
theorem iT {e : List Arc} {n j v : Nat} (h : v < (kY e n j).length) : (kY e n j)[v] = gE e j v := by simp [kY]
theorem kRow_next (e : List Arc) (j v : Nat) : gE e (j + 1) v = if bW e j = v then gE e j v ++ [(j : Int)] else gE e j v := by
  unfold gE
  rw [List.range_succ, List.filter_append, List.map_append]
  by_cases h : bW e j = v
  · rw [if_pos h]; simp [h]
  · rw [if_neg h]; simp [h]
theorem kRows_next {e : List Arc} {n j : Nat} (h : bW e j < n) : (kY e n j).set (bW e j) (gE e j (bW e j) ++ [(j : Int)]) = kY e n (j + 1) := by
  refine List.ext_getElem (by simp [kY]) fun v h1 h2 => ?_;rw [List.getElem_set, iT, iT, kRow_next]
  split
  · rename_i e'; subst e'; rfl
  · rfl
theorem kRows_zero (e : List Arc) (n : Nat) : kY e n 0 = List.replicate n [] := by
  refine List.ext_getElem (by simp [kY]) fun v h1 h2 => by rw [iT]; simp [gE]
theorem kRow_mem {e : List Arc} {j v : Nat} {x : Int} (h : x ∈ gE e j v) : ∃ k : Nat, x = k ∧ k < j ∧ bW e k = v := by
  unfold gE at h
  obtain ⟨k, hk, rfl⟩ := List.mem_map.1 h
  rw [List.mem_filter] at hk;exact ⟨k, rfl, by simpa using hk.1, by simpa using hk.2⟩
theorem kRow_has {e : List Arc} {j k : Nat} (h : k < j) : (k : Int) ∈ gE e j (bW e k) := by
  unfold gE
  exact List.mem_map.2 ⟨k, List.mem_filter.2 ⟨by simpa using h, by simp⟩, rfl⟩
theorem kRow_len (e : List Arc) (j v : Nat) : (gE e j v).length ≤ j := by
  unfold gE; rw [List.length_map]; exact Nat.le_trans (List.length_filter_le _ _) (by simp)
abbrev row (e : List Arc) (v : Nat) : List Int := gE e (2 * e.length) v
theorem row_at {e : List Arc} {v i : Nat} (h : i < (row e v).length) : ∃ k : Nat, (row e v)[i] = (k : Int) ∧ k < 2 * e.length ∧ bW e k = v := kRow_mem (List.getElem_mem h)
/-! ### ways through the layers -/
/-- An edge through which a way may go on. -/
def Good (e : List Arc) (f L : List Int) (k : Nat) : Prop := 0 < dX e f k ∧ bO L (kto e k) = bO L (bW e k) + 1
structure Nx (n : Nat) (e : List Arc) (nx : List Int) : Prop where
  len : nx.length = n
  rng : ∀ v, v < n → 0 ≤ bO nx v ∧ bO nx v ≤ ((row e v).length : Int)
/-- From here there is no way on. -/
def Dead (e : List Arc) (t : Nat) (nx : List Int) (v : Nat) : Prop := bO nx v = ((row e v).length : Int) ∧ v ≠ t
/-- What has been passed leads nowhere. -/
def Past (n : Nat) (e : List Arc) (t : Nat) (f L nx : List Int) : Prop := ∀ v, v < n → ∀ (j k : Nat), (j : Int) < bO nx v → (row e v)[j]? = some (k : Int) → Good e f L k → Dead e t nx (kto e k)
/-- A way as far as it has come. -/
structure Wy (n : Nat) (e : List Arc) (s : Nat) (f L nx : List Int) (W : List Nat) (v : Nat) : Prop where
  way : Way e s v W
  good : ∀ k, k ∈ W → Good e f L k
  cur : ∀ k, k ∈ W → (row e (bW e k))[(bO nx (bW e k)).toNat]? = some (k : Int)
  nx : Nx n e nx
variable {nx : List Int} {W : List Nat} {v : Nat}
theorem Wy.up (h : Wy n e s f L nx W v) : Up e L W := fun k hk => (h.good k hk).2
theorem Way.end_lt {L : List Int} : ∀ {W : List Nat} {u v : Nat}, Way e u v W → Up e L W → ∀ k, k ∈ W → bO L (bW e k) < bO L v
  | [], _, _, _, _, k, h => by simp at h
  | j :: r, u, v, ⟨h1, h2, h3⟩, hU, k, h => by
    have hU' : Up e L r := fun i hi => hU i (List.mem_cons_of_mem _ hi)
    have hj := hU j (List.mem_cons_self ..)
    rcases List.mem_cons.1 h with rfl | h
    · cases r with
      | nil => have : kto e k = v := h3; rw [← this]; omega
      | cons i r =>
        have := Way.end_lt h3 hU' i (List.mem_cons_self ..)
        have := Way.rise h3 hU' i (List.mem_cons_self ..)
        omega
    · exact Way.end_lt h3 hU' k h
theorem Nx.step (h : Nx n e nx) (hv : v < n) (hlt : bO nx v < ((row e v).length : Int)) : Nx n e (nx.set v (bO nx v + 1)) :=
  ⟨by simpa using h.len, fun u hu => by
    rw [gM (by rw [h.len]; exact hv)];have := h.rng v hv
    split
    · rename_i e'; subst e'; omega
    · exact h.rng u hu⟩
theorem Past.step (h : Past n e t f L nx) (hx : Nx n e nx) (hv : v < n) (hlt : bO nx v < ((row e v).length : Int)) (hd : ∀ k : Nat, (row e v)[(bO nx v).toNat]? = some (k : Int) → Good e f L k → Dead e t nx (kto e k)) :
    Past n e t f L (nx.set v (bO nx v + 1)) := by
  have G : ∀ u, bO (nx.set v (bO nx v + 1)) u = if v = u then bO nx v + 1 else bO nx u := fun u => gM (by rw [hx.len]; exact hv) _ u
  have D : ∀ u, Dead e t nx u → Dead e t (nx.set v (bO nx v + 1)) u := fun u ⟨a, b⟩ => ⟨by rw [G, if_neg (fun e' => by subst e'; omega)]; exact a, b⟩
  intro u hu j k hj hk hg;refine D _ ?_;rw [G] at hj
  split at hj
  · rename_i e'
    subst e'
    by_cases h1 : (j : Int) < bO nx v
    · exact h v hv j k h1 hk hg
    · have := hx.rng v hv
      have : (bO nx v).toNat = j := by omega
      exact hd k (by rw [this]; exact hk) hg
  · exact h u hu j k hj hk hg
theorem Wy.pass (h : Wy n e s f L nx W v) (hv : v < n) (hlt : bO nx v < ((row e v).length : Int)) : Wy n e s f L (nx.set v (bO nx v + 1)) W v :=
  ⟨h.way, h.good, fun k hk => by
    have := h.way.end_lt h.up k hk
    rw [gM (by rw [h.nx.len]; exact hv), if_neg (fun e' => by rw [← e'] at this; omega)]
    exact h.cur k hk, h.nx.step hv hlt⟩
theorem Wy.on {k : Nat} (h : Wy n e s f L nx W v) (hk : k < 2 * e.length) (hf : bW e k = v) (hr : (row e v)[(bO nx v).toNat]? = some (k : Int)) (hg : Good e f L k) : Wy n e s f L nx (W ++ [k]) (kto e k) :=
  ⟨h.way.snoc hk hf, fun j hj => by
    rcases List.mem_append.1 hj with hj | hj
    · exact h.good j hj
    · simp at hj; subst hj; exact hg, fun j hj => by
    rcases List.mem_append.1 hj with hj | hj
    · exact h.cur j hj
    · simp at hj; subst hj; rw [hf]; exact hr, h.nx⟩
theorem Wy.back {k : Nat} (h : Wy n e s f L nx (W ++ [k]) v) : k < 2 * e.length ∧ kto e k = v ∧ Wy n e s f L nx W (bW e k) :=
  let ⟨a, b, c⟩ := h.way.pop
  ⟨a, b, c, fun j hj => h.good j (List.mem_append_left _ hj), fun j hj => h.cur j (List.mem_append_left _ hj), h.nx⟩
theorem Wy.lt {k : Nat} (h : Wy n e s f L nx (W ++ [k]) v) : bO nx (bW e k) < ((row e (bW e k)).length : Int) := by
  have := h.cur k (by simp)
  have h1 := (List.getElem?_eq_some_iff.1 this).1
  omega
/-- If t has a layer there is a way. -/
theorem no_dead (h : Lay n e s f L) (he : jB n e) (hx : Nx n e nx) (hp : Past n e t f L nx) (hd : Dead e t nx s) : ∀ (m : Nat) (v : Nat), v < n → bO L v = (m : Int) → Dead e t nx v
  | 0, v, hv, hm => by
    by_cases hvs : v = s
    · subst hvs; exact hd
    · obtain ⟨k, a, b, c, d, g⟩ := h.pred v hv (by omega) hvs; omega
  | m + 1, v, hv, hm => by
    by_cases hvs : v = s
    · subst hvs; exact hd
    · obtain ⟨k, a, b, c, d, g⟩ := h.pred v hv (by omega) hvs
      have hk := no_dead h he hx hp hd m (bW e k) (jS he a) (by omega)
      obtain ⟨j, hj, hjk⟩ := List.mem_iff_getElem.1 (kRow_has (e := e) a)
      rw [← c];exact hp (bW e k) (jS he a) j k (by rw [hk.1]; exact_mod_cast hj) (by rw [List.getElem?_eq_getElem hj, hjk]) ⟨b, by rw [c]; exact g⟩
theorem way_there (h : Lay n e s f L) (he : jB n e) (ht : t < n) (htl : 0 ≤ bO L t) (hx : Nx n e nx) (hp : Past n e t f L nx) (hd : Dead e t nx s) : False :=
  (no_dead h he hx hp hd (bO L t).toNat t ht (by omega)).2 rfl
theorem Past.start (n : Nat) (e : List Arc) (t : Nat) (f L : List Int) : Past n e t f L (List.replicate n 0) := fun v hv j k hj _ _ => by rw [flAt_zero] at hj; omega
theorem Nx.start (n : Nat) (e : List Arc) : Nx n e (List.replicate n 0) := ⟨by simp, fun v hv => by rw [flAt_zero]; omega⟩
/-! ### measures -/
def remN (n : Nat) (e : List Arc) (nx : List Int) : Int := f4 (fun v => ((row e v).length : Int) - bO nx v) n
theorem remN_step (h : Nx n e nx) (hv : v < n) : remN n e (nx.set v (bO nx v + 1)) = remN n e nx - 1 := by
  unfold remN
  have : f4 (fun u => ((row e u).length : Int) - bO (nx.set v (bO nx v + 1)) u) n = f4 (fun u => (((row e u).length : Int) - bO nx u) - (if v = u then 1 else 0)) n := sumTo_congr fun u hu => by
    rw [gM (by rw [h.len]; exact hv)]
    split
    · rename_i e'; subst e'; omega
    · omega
  rw [this, sumTo_sub, kH, if_pos hv]
theorem sumTo_nn {g : Nat → Int} : ∀ {n}, (∀ v, v < n → 0 ≤ g v) → 0 ≤ f4 g n
  | 0, _ => Int.le_refl _
  | n + 1, h => by have := sumTo_nn (n := n) fun v hv => h v (by omega); have := h n (by omega); simp only [f4]; omega
theorem remN_nn (h : Nx n e nx) : 0 ≤ remN n e nx := sumTo_nn fun v hv => by have := h.rng v hv; omega
def topL : List Int → Nat
  | [] => 0
  | x :: r => x.toNat + topL r
theorem topL_ge : ∀ (L : List Int) (v : Nat), bO L v ≤ (topL L : Int)
  | [], v => by simp [bO, topL]
  | x :: r, 0 => by simp [bO, topL]; omega
  | x :: r, v + 1 => by have := topL_ge r v; simp [bO, topL] at this ⊢; omega
/-- How much is still to be done on a way. -/
def kF (n : Nat) (e : List Arc) (L nx : List Int) (v : Nat) : Nat := (remN n e nx).toNat * (topL L + 3) + (topL L + 1 - bO L v).toNat
theorem wayMu_on {k : Nat} (hg : Good e f L k) (hf : bW e k = v) (h : Nx n e nx) : kF n e L nx (kto e k) < kF n e L nx v := by
  unfold kF
  have := topL_ge L (kto e k)
  have := hg.2
  rw [hf] at this;omega
theorem wayMu_pass {u : Nat} (h : Nx n e nx) (hv : v < n) (hlt : bO nx v < ((row e v).length : Int)) (hu : -1 ≤ bO L u) (w : Nat) : kF n e L (nx.set v (bO nx v + 1)) u < kF n e L nx w := by
  unfold kF
  have h1 := remN_step h hv
  have h2 := remN_nn (h.step hv hlt)
  have e1 : (remN n e nx).toNat = (remN n e (nx.set v (bO nx v + 1))).toNat + 1 := by omega
  rw [e1, Nat.add_mul];have := topL_ge L w
  omega
end Go.Proofs.YtjjogcnjcnpehaaGreat
