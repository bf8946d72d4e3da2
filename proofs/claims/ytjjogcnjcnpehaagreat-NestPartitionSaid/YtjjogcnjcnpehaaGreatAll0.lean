import Derived.Test.YtjjogcnjcnpehaaGreatFlyT
import Derived.Test.YtjjogcnjcnpehaaGreatFlyOps3

/- bits.Mul, slices.Repeat of a6 (where dist.Add is not of the program). -/
namespace Go.Proofs.YtjjogcnjcnpehaaGreat
open Go Go.RowKit Fly
set_option linter.unusedVariables false
set_option linter.unusedSimpArgs false
theorem and32 {y : Nat} (h : y < 4294967296) : IntKind.u64.wrap ((BitVec.ofInt IntKind.u64.bits (y : Int) &&& BitVec.ofInt IntKind.u64.bits 4294967295).toNat) = (y : Int) := by
  have := and_mask (k := 32) (y := y) (by omega) (by omega)
  rw [Nat.mod_eq_of_lt (by omega)] at this;exact this
theorem shr32 {y : Nat} (h : y < 4294967296) : (y : Int).fdiv (2 ^ (min ((32 : Int).toNat) IntKind.u64.bits)) = 0 := by
  show (y : Int).fdiv 4294967296 = 0
  rw [Int.fdiv_eq_ediv_of_nonneg _ (by decide)];exact Int.ediv_eq_zero_of_lt (by omega) (by omega)
/-- A row that is filled as far as n. -/
def iE (N n : Nat) (z x : Value) : List Value := List.replicate n x ++ List.replicate (N - n) z
theorem fillTo_len {N n : Nat} (h : n ≤ N) (z x : Value) : (iE N n z x).length = N := by simp [iE]; omega
theorem fillTo_next {N n m : Nat} (h : n + m ≤ N) (z x : Value) : (iE N n z x).take n ++ List.replicate m x ++ (iE N n z x).drop (n + m) = iE N (n + m) z x := by
  unfold iE
  rw [List.take_left' (by simp), List.drop_append, List.drop_of_length_le (by simp), List.nil_append, List.length_replicate, List.drop_replicate, List.append_assoc, ← List.append_assoc, List.replicate_append_replicate]
  congr 2; omega
theorem fillTo_all {N n : Nat} (h : n = N) (z x : Value) : iE N n z x = List.replicate N x := by subst h; simp [iE]
theorem fillTo_get {N n j : Nat} {v z x : Value} (h : (List.replicate n x)[j]? = some v) : (iE N n z x)[j]? = some v := by
  unfold iE; exact dN h
theorem rep_one {m : Nat} {x : Value} (h : x.oneCell' = true) : (List.replicate m x).all (·.oneCell') = true := by
  rw [List.all_eq_true]; intro y hy; rw [(List.mem_replicate.1 hy).2]; exact h
theorem rep_take {n m j : Nat} {x v : Value} (h : (List.replicate (min n m) x)[j]? = some v) : (List.replicate n x)[j]? = some v := by
  rw [List.getElem?_replicate] at h ⊢
  split at h
  · rw [if_pos (by omega)]; exact h
  · cases h
theorem rep_flat (n : Nat) (z : Value) : (List.replicate n [z]).flatten = List.replicate n z := by
  induction n with
  | zero => rfl
  | succ n ih => simp only [List.replicate_succ, List.flatten_cons, ih]; rfl
set_option maxRecDepth 100000 in
set_option maxHeartbeats 4000000 in
theorem Mul64_spec (y : Nat) (w : World) (hy : y < 4294967296) : Meets Tryz.prog 115 [.int .u64 1, .int .u64 (y : Int)] w [] (fun u m => u = .tuple #[.int .u64 0, .int .u64 (y : Int)] ∧ m = []) := by
 refine bJ Tryz.func115 rfl Tryz.ntmps115 rfl Owns.nil ?_;refine aK fun K1 kh1 => ?_;refine aB ?_;refine aA rfl rfl rfl (aF rfl) ?_;refine aA rfl rfl rfl (aF rfl) ?_;refine aJ ?_;refine aL (kh1 _ _ ?_);clear kh1;refine aK fun K2 kh2 => ?_;refine aB ?_;refine aA rfl rfl rfl (aG rfl) ?_;refine aA rfl rfl rfl (o_and rfl rfl 1 (by decide)) ?_;refine aA rfl rfl rfl (aF rfl) ?_;refine aJ ?_;refine aL (kh2 _ _ ?_);clear kh2;refine aK fun K3 kh3 => ?_;refine aB ?_;refine aA rfl rfl rfl (aG rfl) ?_;refine aA rfl rfl rfl (o_shr rfl rfl (by decide) 0 (by decide)) ?_;refine aA rfl rfl rfl (aF rfl) ?_;refine aJ ?_;refine aL (kh3 _ _ ?_);clear kh3;refine aK fun K4 kh4 => ?_;refine aB ?_;refine aA rfl rfl rfl (aG rfl) ?_;refine aA rfl rfl rfl (o_and rfl rfl (y : Int) (and32 hy)) ?_;refine aA rfl rfl rfl (aF rfl) ?_;refine aJ ?_;refine aL (kh4 _ _ ?_);clear kh4;refine aK fun K5 kh5 => ?_;refine aB ?_;refine aA rfl rfl rfl (aG rfl) ?_;refine aA rfl rfl rfl (o_shr rfl rfl (by decide) 0 (shr32 hy)) ?_;refine aA rfl rfl rfl (aF rfl) ?_;refine aJ ?_;refine aL (kh5 _ _ ?_);clear kh5;refine aK fun K6 kh6 => ?_;refine aB ?_;refine aA rfl rfl rfl (aG rfl) ?_;refine aA rfl rfl rfl (aG rfl) ?_;refine aA rfl rfl rfl (o_mul rfl rfl _ (show IntKind.u64.wrap (1 * (y : Int)) = (y : Int) from by rw [Int.one_mul]; exact jU (by omega))) ?_;refine aA rfl rfl rfl (aF rfl) ?_;refine aJ ?_;refine aL (kh6 _ _ ?_);clear kh6;refine aK fun K7 kh7 => ?_;refine aB ?_;refine aA rfl rfl rfl (aG rfl) ?_;refine aA rfl rfl rfl (aG rfl) ?_;refine aA rfl rfl rfl (o_mul rfl rfl _ (show IntKind.u64.wrap (0 * (y : Int)) = 0 from by rw [Int.zero_mul]; rfl)) ?_;refine aA rfl rfl rfl (aG rfl) ?_;refine aA rfl rfl rfl (o_shr rfl rfl (by decide) 0 (shr32 hy)) ?_;refine aA rfl rfl rfl (bG rfl rfl _ (show IntKind.u64.wrap (0 + 0) = 0 from rfl)) ?_;refine aA rfl rfl rfl (aF rfl) ?_;refine aJ ?_;refine aL (kh7 _ _ ?_);clear kh7;refine aK fun K8 kh8 => ?_;refine aB ?_;refine aA rfl rfl rfl (aG rfl) ?_;refine aA rfl rfl rfl (o_and rfl rfl 0 (by decide)) ?_;refine aA rfl rfl rfl (aF rfl) ?_;refine aJ ?_;refine aL (kh8 _ _ ?_);clear kh8;refine aK fun K9 kh9 => ?_;refine aB ?_;refine aA rfl rfl rfl (aG rfl) ?_;refine aA rfl rfl rfl (o_shr rfl rfl (by decide) 0 (by decide)) ?_;refine aA rfl rfl rfl (aF rfl) ?_;refine aJ ?_;refine aL (kh9 _ _ ?_);clear kh9;refine aK fun K10 kh10 => ?_;refine aB ?_;refine aA rfl rfl rfl (aG rfl) ?_;refine aA rfl rfl rfl (aG rfl) ?_;refine aA rfl rfl rfl (aG rfl) ?_;refine aA rfl rfl rfl (o_mul rfl rfl _ (show IntKind.u64.wrap (1 * 0) = 0 from rfl)) ?_
 refine aA rfl rfl rfl (bG rfl rfl _ (show IntKind.u64.wrap (0 + 0) = 0 from rfl)) ?_;refine aA rfl rfl rfl (aF rfl) ?_;refine aJ ?_;refine aL (kh10 _ _ ?_);clear kh10;refine aK fun K11 kh11 => ?_;refine aB ?_;refine aA rfl rfl rfl (aG rfl) ?_;refine aA rfl rfl rfl (aG rfl) ?_;refine aA rfl rfl rfl (o_mul rfl rfl _ (show IntKind.u64.wrap (0 * 0) = 0 from rfl)) ?_;refine aA rfl rfl rfl (aG rfl) ?_;refine aA rfl rfl rfl (bG rfl rfl _ (show IntKind.u64.wrap (0 + 0) = 0 from rfl)) ?_;refine aA rfl rfl rfl (aG rfl) ?_;refine aA rfl rfl rfl (o_shr rfl rfl (by decide) 0 (by decide)) ?_;refine aA rfl rfl rfl (bG rfl rfl _ (show IntKind.u64.wrap (0 + 0) = 0 from rfl)) ?_;refine aA rfl rfl rfl (aF rfl) ?_;refine aJ ?_;refine aL (kh11 _ _ ?_);clear kh11;refine aK fun K12 kh12 => ?_;refine aB ?_;refine aA rfl rfl rfl (aG rfl) ?_;refine aA rfl rfl rfl (aG rfl) ?_;refine aA rfl rfl rfl (o_mul rfl rfl _ (show IntKind.u64.wrap (1 * (y : Int)) = (y : Int) from by rw [Int.one_mul]; exact jU (by omega))) ?_;refine aA rfl rfl rfl (aF rfl) ?_;refine aJ ?_;refine aL (kh12 _ _ ?_);clear kh12;refine a7 ?_;exact bW [] Tryz.results115 rfl rfl aI ⟨rfl, rfl⟩
set_option maxRecDepth 100000 in
set_option maxHeartbeats 4000000 in
theorem Mul_spec (y : Nat) (w : World) (hy : y < 4294967296) : Meets Tryz.prog 98 [.int .u64 1, .int .u64 (y : Int)] w [] (fun u m => u = .tuple #[.int .u64 0, .int .u64 (y : Int)] ∧ m = []) := by
 refine bJ Tryz.func98 rfl Tryz.ntmps98 rfl Owns.nil ?_;refine aK fun K1 kh1 => ?_;refine aB ?_;refine aA rfl rfl rfl (aF rfl) ?_;refine aA rfl rfl rfl (aF rfl) ?_;refine aJ ?_;refine aL (kh1 _ _ ?_);clear kh1;refine aK fun K2 kh2 => ?_;refine gZ rfl ?_;refine aW ?_;refine aL (kh2 _ _ ?_);clear kh2;refine aK fun K3 kh3 => ?_;refine aB ?_;refine aA rfl rfl rfl (aG rfl) ?_;refine aA rfl rfl rfl (aG rfl) ?_;refine aR rfl rfl rfl (bD Tryz.call115 rfl (fun w_ hp_ => Mul64_spec y w_ hy) ?_);rintro _ _ ⟨rfl, rfl⟩;dsimp only [List.cons_append, List.nil_append];refine aA rfl rfl rfl (aG rfl) ?_;refine aA rfl rfl rfl (aV rfl rfl) ?_;refine aA rfl rfl rfl (aV rfl rfl) ?_;refine aA rfl rfl rfl (aF rfl) ?_;refine aA rfl rfl rfl (aF rfl) ?_;refine aJ ?_;refine aL (kh3 _ _ ?_);clear kh3;refine aK fun K4 kh4 => ?_;refine aB ?_;refine aA rfl rfl rfl (aG rfl) ?_;refine aA rfl rfl rfl (aG rfl) ?_;refine aA rfl rfl rfl (aF rfl) ?_;refine aA rfl rfl rfl (aF rfl) ?_;refine aJ ?_;refine aL (kh4 _ _ ?_);clear kh4;refine a7 ?_;exact bW [] Tryz.results98 rfl rfl aI ⟨rfl, rfl⟩
set_option maxRecDepth 100000 in
set_option maxHeartbeats 4000000 in
theorem RepI_spec (b off cx N : Nat) (x : Int) (w : World) (hx : Ro (Fr w []) w (some ⟨b, off, none⟩) [.int .i64 x]) (hN : 1 ≤ N ∧ N ≤ 1000000) : Meets Tryz.prog 81 [.slice (some ⟨b, off, none⟩) 1 cx, .int .i64 (N : Int)] w [] (fun u m => ∃ bN, u = .slice (some ⟨bN, 0, none⟩) N N ∧ m = [[(bN, blk (List.replicate N (.int .i64 x)) 3)]]) := by
 obtain ⟨b', o', e', hSx, hcx⟩ := hx (by simp)
 obtain ⟨rfl, rfl⟩ : b = b' ∧ off = o' := by cases e'; exact ⟨rfl, rfl⟩
 refine bJ Tryz.func81 rfl Tryz.ntmps81 rfl Owns.nil ?_;refine aK fun K1 kh1 => ?_;refine aB ?_;refine aA rfl rfl rfl (aF rfl) ?_;refine aJ ?_;refine aL (kh1 _ _ ?_);clear kh1;refine aK fun K2 kh2 => ?_;refine aK fun K3 kh3 => ?_;refine aB ?_;refine aA rfl rfl rfl (aG rfl) ?_;refine aA rfl rfl rfl (cD rfl rfl) ?_;refine aJ ?_;refine aL (kh3 _ _ ?_);clear kh3;refine aZ rfl (fun c10 => ?_) (fun c10 => ?_)
 · omega -- closed
 ·
  refine aW ?_;refine aL (kh2 _ _ ?_);clear kh2;refine aK fun K4 kh4 => ?_;refine aB ?_;refine aA rfl rfl rfl (aG rfl) ?_;refine aA rfl rfl rfl (bS bK rfl) ?_;refine aA rfl rfl rfl (g5 Tryz.runUnderlying3 Tryz.runUnderlying83 rfl _ (jU (by omega))) ?_;refine aA rfl rfl rfl (aG rfl) ?_;refine aA rfl rfl rfl (g5 Tryz.runUnderlying3 Tryz.runUnderlying83 rfl _ (jU (by omega))) ?_;refine aR rfl rfl rfl (bD Tryz.call98 rfl (fun w_ hp_ => Mul_spec N w_ (by omega)) ?_);rintro _ _ ⟨rfl, rfl⟩;dsimp only [List.cons_append, List.nil_append];refine aA rfl rfl rfl (aG rfl) ?_;refine aA rfl rfl rfl (aV rfl rfl) ?_;refine aA rfl rfl rfl (aV rfl rfl) ?_;refine aA rfl rfl rfl (aF rfl) ?_;refine aA rfl rfl rfl (aF rfl) ?_;refine aJ ?_;refine aL (kh4 _ _ ?_);clear kh4;refine aK fun K5 kh5 => ?_;refine aK fun K6 kh6 => ?_;refine aB ?_;refine aA rfl rfl rfl (aG rfl) ?_;refine aA rfl rfl rfl (eQ rfl rfl) ?_;refine aA rfl rfl rfl (aG rfl) ?_;refine lD 23 rfl (by decide) ?_;refine aO rfl rfl rfl rfl rfl (aG rfl) ?_;refine aO rfl rfl rfl rfl rfl (eQ rfl rfl) ?_;refine aA rfl rfl rfl (cO rfl rfl) ?_;refine aJ ?_;refine aL (kh6 _ _ ?_);clear kh6;refine aZ rfl (fun c26 => ?_) (fun c26 => ?_)
  · omega -- closed
  ·
   refine aW ?_;refine aL (kh5 _ _ ?_);clear kh5;refine aK fun K7 kh7 => ?_;refine aB ?_;refine aA rfl rfl rfl (aG rfl) ?_;refine aA rfl rfl rfl (g5 Tryz.runUnderlying83 Tryz.runUnderlying3 rfl _ (aT (by omega))) ?_;refine aR rfl rfl rfl (d3 dV rfl rfl N rfl (by omega) (by omega) (iE N 0 (.int .i64 0) (.int .i64 x)) (by rw [rep_flat]; simp [iE]) fun b30 => ?_);refine aA rfl rfl rfl (aF rfl) ?_;refine aJ ?_;refine aL (kh7 _ _ ?_);clear kh7;refine aK fun K8 kh8 => ?_;refine aB ?_;refine aA rfl rfl rfl (aG rfl) ?_;refine aA rfl rfl rfl (aG rfl) ?_;refine aR rfl rfl rfl (o_copy Tryz.underlying25 (by kernel_rfl) rfl rfl (cs := [.int .i64 x]) (rds_of _ _ fun j v hj => rdS hSx (hcx j v hj)) (by simp [Nat.min_def]; omega) rfl (by rw [fillTo_len (by omega)]; simp; omega) (iE N 1 (.int .i64 0) (.int .i64 x)) (fillTo_next (m := 1) (by omega) _ _) ?_);refine aA rfl rfl rfl (aF rfl) ?_;refine aJ ?_;refine aL (kh8 _ _ ?_);clear kh8;refine aK fun K9 kh9 => ?_;refine aY ?_;refine cS (α := Nat) [7] (fun n => [(8, .int .i64 (n : Int))]) (fun n => [[(b30, blk (iE N n (.int .i64 0) (.int .i64 x)) 3)]]) (fun n => 1 ≤ n ∧ n ≤ N) (fun n => N - n) (1) ?_ ?_ ?_ ?_
   · exact (by repeat constructor)
   · repeat first|exact aI|refine aD ?_|refine aC rfl ?_|refine aH ?_
   · exact ⟨Nat.le_refl _, hN.1⟩
   ·
    rintro n ⟨hn1, hnN⟩;refine aK fun K10 kh10 => ?_;refine aK fun K11 kh11 => ?_;refine aB ?_;refine aA rfl rfl rfl (aG rfl) ?_;refine aA rfl rfl rfl (aG rfl) ?_;refine aA rfl rfl rfl (bS bK rfl) ?_;refine aA rfl rfl rfl (cD rfl rfl) ?_;refine aJ ?_;refine aL (kh11 _ _ ?_);clear kh11;refine aZ rfl (fun c37 => ?_) (fun c37 => ?_)
    ·
     refine aW ?_;refine aL (kh10 _ _ ?_);clear kh10;refine aY ?_;refine dH [] rfl ?_;refine aU 0 rfl (by decide +kernel) rfl rfl rfl (by repeat first|exact aI|refine aD ?_|refine aC rfl ?_|refine aH ?_) (aG rfl) ?_;refine aU 1 rfl (by decide +kernel) rfl rfl rfl (by repeat first|exact aI|refine aD ?_|refine aC rfl ?_|refine aH ?_) (aG rfl) ?_;refine aU 2 rfl (by decide +kernel) rfl rfl rfl (by repeat first|exact aI|refine aD ?_|refine aC rfl ?_|refine aH ?_) (aG rfl) ?_;refine aU 3 rfl (by decide +kernel) rfl rfl rfl (by repeat first|exact aI|refine aD ?_|refine aC rfl ?_|refine aH ?_) (e5 bK rfl rfl rfl rfl (fun h => by cases h) n _ _ (.inr ⟨_, _, rfl, by omega⟩) (.inl ⟨rfl, rfl⟩) (.inl ⟨rfl, rfl⟩) ⟨by omega, by omega, by omega⟩ (.slice (some ⟨b30, n, none⟩) (N - n) (N - n)) (by rw [if_neg (by omega)]; simp [cY])) ?_;refine aU 4 rfl (by decide +kernel) rfl rfl rfl (by repeat first|exact aI|refine aD ?_|refine aC rfl ?_|refine aH ?_) (aG rfl) ?_;refine aU 5 rfl (by decide +kernel) rfl rfl rfl (by repeat first|exact aI|refine aD ?_|refine aC rfl ?_|refine aH ?_) (aG rfl) ?_;refine aU 6 rfl (by decide +kernel) rfl rfl rfl (by repeat first|exact aI|refine aD ?_|refine aC rfl ?_|refine aH ?_) (e5 bK rfl rfl rfl rfl (fun h => by cases h) 0 n _ (.inl ⟨rfl, rfl⟩) (.inr ⟨_, _, rfl, by omega⟩) (.inl ⟨rfl, rfl⟩) ⟨by omega, by omega, by omega⟩ (.slice (some ⟨b30, 0, none⟩) n N) (by rw [if_neg (by omega)]; simp [cY])) ?_;refine bQ 7 rfl (by decide +kernel) rfl rfl rfl (o_copy Tryz.underlying25 (by kernel_rfl) rfl rfl (cs := List.replicate (min n (N - n)) (.int .i64 x)) (rds_of _ _ fun j v hj => rdA (by rw [Nat.zero_add]; exact fillTo_get (rep_take hj))) (by rw [List.length_replicate]) (rep_one rfl) (by rw [fillTo_len (by omega), List.length_replicate]; omega) (iE N (n + min n (N - n)) (.int .i64 0) (.int .i64 x)) (by rw [List.length_replicate]; exact fillTo_next (by omega) _ _) ⟨(by repeat first|exact aI|refine aD ?_|refine aC rfl ?_|refine aH ?_), ?_⟩);refine aU 8 rfl (by decide +kernel) rfl rfl rfl (by repeat first|exact aI|refine aD ?_|refine aC rfl ?_|refine aH ?_) (bG rfl rfl _ (show IntKind.i64.wrap ((n : Int) + ((List.replicate (min n (N - n)) (Value.int .i64 x)).length : Int)) = ((n + min n (N - n) : Nat) : Int) from by rw [List.length_replicate, aT (by omega)]; omega)) ?_;refine bQ 9 rfl (by decide +kernel) rfl rfl rfl ((aF rfl).does ⟨(by repeat first|exact aI|refine aD ?_|refine aC rfl ?_|refine aH ?_), ?_⟩);refine dF (by decide +kernel) ?_;refine cV ?_;refine aL (bB (n + min n (N - n)) (by omega) ⟨by omega, by omega⟩ ?_ ?_ ?_)
     · exact (by repeat constructor)
     · exact (by repeat constructor)
     · repeat first|exact aI|refine aD ?_|refine aC rfl ?_|refine aH ?_
    ·
     refine cG ?_;refine cK ?_;clear kh10;refine cK ?_;refine d5 ?_;refine aL (kh9 _ _ ?_);clear kh9;refine aK fun K12 kh12 => ?_;refine aB ?_;refine aA rfl rfl rfl (aG rfl) ?_;refine aA rfl rfl rfl (aF rfl) ?_;refine aJ ?_;refine aL (kh12 _ _ ?_);clear kh12;refine a7 ?_;exact bP [[(b30, blk (List.replicate N (.int .i64 x)) 3)]] Tryz.results81 rfl (by rw [← fillTo_all (show n = N by omega) (.int .i64 0)]; exact aD aI) ⟨b30, rfl, rfl⟩
end Go.Proofs.YtjjogcnjcnpehaaGreat

/- Networks: flows, cuts, what is left. Plain laws. -/
namespace Go.Proofs.YtjjogcnjcnpehaaGreat
open Go Fly
set_option linter.unusedVariables false
set_option linter.unusedSimpArgs false
def dD (e : List Arc) (i : Nat) : Arc := e.getD i ⟨0, 0, 0⟩
def bU (f : List Int) (i : Nat) : Int := f.getD i 0
theorem lH {e : List Arc} {i : Nat} (h : i < e.length) : dD e i = e[i] := by simp [dD, List.getD_eq_getElem?_getD, h]
theorem flAt_eq {f : List Int} {i : Nat} (h : i < f.length) : bU f i = f[i] := by simp [bU, List.getD_eq_getElem?_getD, h]
/-- Edges forth and back: twice the number, and one of those that are gone back. -/
def bZ (e : List Arc) (k : Nat) : Nat := if k % 2 = 0 then (dD e (k / 2)).src.toNat else (dD e (k / 2)).dst.toNat
def kto (e : List Arc) (k : Nat) : Nat := if k % 2 = 0 then (dD e (k / 2)).dst.toNat else (dD e (k / 2)).src.toNat
def d9 (e : List Arc) (f : List Int) (k : Nat) : Int := if k % 2 = 0 then (dD e (k / 2)).wt - bU f (k / 2) else bU f (k / 2)
/-- What flows out of a node, less what flows in. -/
def net : List Arc → List Int → Nat → Int
  | x :: e, y :: f, v => (if x.src.toNat = v then y else 0) - (if x.dst.toNat = v then y else 0) + net e f v
  | _, _, _ => 0
/-- What flows out of a side, less what flows in. -/
def cross (A : Nat → Bool) : List Arc → List Int → Int
  | x :: e, y :: f => (if A x.src.toNat then y else 0) - (if A x.dst.toNat then y else 0) + cross A e f
  | _, _ => 0
/-- The capacity of a side. -/
def capA (A : Nat → Bool) : List Arc → Int
  | x :: e => (if A x.src.toNat && !A x.dst.toNat then x.wt else 0) + capA A e
  | [] => 0
def gC (g : Nat → Int) : Nat → Int
  | 0 => 0
  | n + 1 => gC g n + g n
theorem sumTo_add (g h : Nat → Int) : ∀ n, gC (fun v => g v + h v) n = gC g n + gC h n
  | 0 => rfl
  | n + 1 => by simp only [gC]; rw [sumTo_add g h n]; omega
theorem sumTo_sub (g h : Nat → Int) : ∀ n, gC (fun v => g v - h v) n = gC g n - gC h n
  | 0 => rfl
  | n + 1 => by simp only [gC]; rw [sumTo_sub g h n]; omega
theorem sumTo_zero : ∀ n, gC (fun _ => 0) n = 0
  | 0 => rfl
  | n + 1 => by simp only [gC]; rw [sumTo_zero n]; rfl
theorem sumTo_congr {g h : Nat → Int} : ∀ {n}, (∀ v, v < n → g v = h v) → gC g n = gC h n
  | 0, _ => rfl
  | n + 1, H => by simp only [gC]; rw [sumTo_congr (n := n) fun v hv => H v (by omega), H n (by omega)]
theorem kT (a : Nat) (y : Int) : ∀ n, gC (fun v => if a = v then y else 0) n = if a < n then y else 0
  | 0 => by simp [gC]
  | n + 1 => by
    simp only [gC]; rw [kT a y n]
    by_cases h : a = n
    · subst h; simp
    · rw [if_neg h]; by_cases h2 : a < n
      · rw [if_pos h2, if_pos (by omega)]; omega
      · rw [if_neg h2, if_neg (by omega)]; omega
theorem sum_side (A : Nat → Bool) (n : Nat) : ∀ (e : List Arc) (f : List Int), (∀ x ∈ e, x.src.toNat < n ∧ x.dst.toNat < n) → gC (fun v => if A v then net e f v else 0) n = cross A e f
  | [], f, _ => by
    have : (fun v => if A v then net [] f v else 0) = fun _ => (0 : Int) := by funext v; simp [net]
    rw [this, sumTo_zero]; simp [cross]
  | x :: e, [], _ => by
    have : (fun v => if A v then net (x :: e) [] v else 0) = fun _ => (0 : Int) := by funext v; simp [net]
    rw [this, sumTo_zero]; simp [cross]
  | x :: e, y :: f, h => by
    have h0 := h x (List.mem_cons_self ..)
    have ih := sum_side A n e f fun z hz => h z (List.mem_cons_of_mem _ hz)
    have e1 : (fun v => if A v then net (x :: e) (y :: f) v else 0) = fun v => ((if x.src.toNat = v then (if A x.src.toNat then y else 0) else 0) - (if x.dst.toNat = v then (if A x.dst.toNat then y else 0) else 0)) + (if A v then net e f v else 0) := by
      funext v
      simp only [net]
      by_cases hs : x.src.toNat = v <;> by_cases hd : x.dst.toNat = v <;> cases hA : A v <;> simp_all
    rw [e1, sumTo_add, sumTo_sub, kT, kT, if_pos h0.1, if_pos h0.2, ih];simp only [cross]
/-- How far an edge is from being filled, or empty. -/
def kV (A : Nat → Bool) : List Arc → List Int → Int
  | x :: e, y :: f => (if A x.src.toNat then (if A x.dst.toNat then 0 else x.wt - y) else (if A x.dst.toNat then y else 0)) + kV A e f
  | _, _ => 0
theorem slack_eq (A : Nat → Bool) : ∀ (e : List Arc) (f : List Int), e.length = f.length → capA A e - cross A e f = kV A e f
  | [], f, h => by simp [capA, cross, kV]
  | x :: e, [], h => by simp at h
  | x :: e, y :: f, h => by
    have ih := slack_eq A e f (by simpa using h)
    simp only [capA, cross, kV];cases A x.src.toNat <;> cases A x.dst.toNat <;> simp <;> omega
structure Fits (e : List Arc) (f : List Int) : Prop where
  len : f.length = e.length
  rng : ∀ i, i < e.length → 0 ≤ bU f i ∧ bU f i ≤ (dD e i).wt
theorem Fits.tail {x : Arc} {e : List Arc} {y : Int} {f : List Int} (h : Fits (x :: e) (y :: f)) : Fits e f :=
  ⟨by simpa using h.len, fun i hi => by have := h.rng (i + 1) (by simpa using hi); simpa [bU, dD] using this⟩
theorem Fits.head {x : Arc} {e : List Arc} {y : Int} {f : List Int} (h : Fits (x :: e) (y :: f)) : 0 ≤ y ∧ y ≤ x.wt := by
  have := h.rng 0 (by simp); simpa [bU, dD] using this
theorem slack_nn (A : Nat → Bool) : ∀ (e : List Arc) (f : List Int), Fits e f → 0 ≤ kV A e f
  | [], f, _ => by simp [kV]
  | x :: e, [], _ => by simp [kV]
  | x :: e, y :: f, h => by
    have ih := slack_nn A e f h.tail
    have := h.head
    simp only [kV]
    split <;> split <;> omega
/-- Nothing is left that leads out of the side. -/
def Shut (e : List Arc) (f : List Int) (A : Nat → Bool) : Prop := ∀ k, k < 2 * e.length → 0 < d9 e f k → A (bZ e k) = true → A (kto e k) = true
theorem slack_zero (A : Nat → Bool) : ∀ (e : List Arc) (f : List Int), Fits e f → (kV A e f = 0 ↔ ∀ i, i < e.length → (A (dD e i).src.toNat = true → A (dD e i).dst.toNat = false → bU f i = (dD e i).wt) ∧ (A (dD e i).src.toNat = false → A (dD e i).dst.toNat = true → bU f i = 0))
  | [], f, _ => by simp [kV]
  | x :: e, [], h => by have := h.len; simp at this
  | x :: e, y :: f, h => by
    have ih := slack_zero A e f h.tail
    have nn := slack_nn A e f h.tail
    have hh := h.head
    constructor
    · intro hz i hi
      simp only [kV] at hz
      cases i with
      | zero =>
        have ea : dD (x :: e) 0 = x := by simp [dD]
        have ef : bU (y :: f) 0 = y := by simp [bU]
        rw [ea, ef];constructor
        · intro h1 h2; rw [h1, h2] at hz; simp at hz; omega
        · intro h1 h2; rw [h1, h2] at hz; simp at hz; omega
      | succ i =>
        have ea : dD (x :: e) (i + 1) = dD e i := by simp [dD]
        have ef : bU (y :: f) (i + 1) = bU f i := by simp [bU]
        rw [ea, ef];refine ih.1 ?_ i (by simpa using hi);cases h1 : A x.src.toNat <;> cases h2 : A x.dst.toNat <;> rw [h1, h2] at hz <;> simp at hz <;> omega
    · intro H
      have h0 := H 0 (by simp)
      have ea : dD (x :: e) 0 = x := by simp [dD]
      have ef : bU (y :: f) 0 = y := by simp [bU]
      rw [ea, ef] at h0
      have hr := ih.2 fun i hi => by
        have := H (i + 1) (by simpa using hi)
        simpa [dD, bU] using this
      simp only [kV];cases h1 : A x.src.toNat <;> cases h2 : A x.dst.toNat <;> simp [h1, h2] at h0 ⊢ <;> omega
theorem slack_shut {A : Nat → Bool} {e : List Arc} {f : List Int} (h : Fits e f) : kV A e f = 0 ↔ Shut e f A := by
  rw [slack_zero A e f h];constructor
  · intro H k hk hl hA
    have hi := H (k / 2) (by omega)
    have hr := h.rng (k / 2) (by omega)
    unfold d9 at hl; unfold bZ at hA; unfold kto
    split
    · rename_i h2
      rw [if_pos h2] at hl hA
      cases hb : A (dD e (k / 2)).dst.toNat with
      | true => rfl
      | false => have := hi.1 hA hb; omega
    · rename_i h2
      rw [if_neg h2] at hl hA
      cases hb : A (dD e (k / 2)).src.toNat with
      | true => rfl
      | false => have := hi.2 hb hA; omega
  · intro H i hi
    have hr := h.rng i hi
    have h0 := H (2 * i) (by omega)
    have h1 := H (2 * i + 1) (by omega)
    unfold d9 bZ kto at h0 h1
    rw [if_pos (by omega), if_pos (by omega), if_pos (by omega), show 2 * i / 2 = i by omega] at h0;rw [if_neg (by omega), if_neg (by omega), if_neg (by omega), show (2 * i + 1) / 2 = i by omega] at h1;constructor
    · intro a b
      rcases Int.lt_or_le 0 ((dD e i).wt - bU f i) with hlt | hge
      · rw [h0 hlt a] at b; cases b
      · omega
    · intro a b
      rcases Int.lt_or_le 0 (bU f i) with hlt | hge
      · rw [h1 hlt b] at a; cases a
      · omega
/-- A flow of a value from s to t. -/
structure Flow (n : Nat) (e : List Arc) (s t : Nat) (f : List Int) (V : Int) : Prop where
  fits : Fits e f
  cons : ∀ v, v < n → net e f v = (if s = v then V else 0) - (if t = v then V else 0)
def jJ (n : Nat) (e : List Arc) : Prop := ∀ x ∈ e, x.src.toNat < n ∧ x.dst.toNat < n
theorem Flow.side {n : Nat} {e : List Arc} {s t : Nat} {f : List Int} {V : Int} (h : Flow n e s t f V) (he : jJ n e) {A : Nat → Bool} (hs : s < n) (hA : A s = true) (hB : A t = false) : cross A e f = V := by
  rw [← sum_side A n e f he]
  have : gC (fun v => if A v then net e f v else 0) n = gC (fun v => if s = v then V else 0) n := sumTo_congr fun v hv => by
    rw [h.cons v hv]
    by_cases h1 : s = v
    · subst h1
      have : t ≠ s := fun e => by subst e; rw [hA] at hB; cases hB
      simp [hA, this]
    · by_cases h2 : t = v
      · subst h2; simp [hB, h1]
      · simp [h1, h2]
  rw [this, kT, if_pos hs]
/-- No flow is greater than a cut. -/
theorem Flow.le_cut {n : Nat} {e : List Arc} {s t : Nat} {f : List Int} {V : Int} (h : Flow n e s t f V) (he : jJ n e) {A : Nat → Bool} (hs : s < n) (hA : A s = true) (hB : A t = false) : V ≤ capA A e := by
  have h1 := h.side he hs hA hB
  have h2 := slack_eq A e f h.fits.len.symm
  have h3 := slack_nn A e f h.fits
  omega
theorem Flow.shut {n : Nat} {e : List Arc} {s t : Nat} {f : List Int} {V : Int} (h : Flow n e s t f V) (he : jJ n e) {A : Nat → Bool} (hs : s < n) (hA : A s = true) (hB : A t = false) : V = capA A e ↔ Shut e f A := by
  have h1 := h.side he hs hA hB
  have h2 := slack_eq A e f h.fits.len.symm
  rw [← slack_shut h.fits];omega
/-- What can be reached along what is left. -/
inductive Reach (e : List Arc) (f : List Int) (s : Nat) : Nat → Prop
  | refl : Reach e f s s
  | step {k : Nat} (h : Reach e f s (bZ e k)) (hk : k < 2 * e.length) (hl : 0 < d9 e f k) : Reach e f s (kto e k)
theorem Reach.within {e : List Arc} {f : List Int} {s v : Nat} (h : Reach e f s v) {A : Nat → Bool} (hs : A s = true) (hA : Shut e f A) : A v = true := by
  induction h with
  | refl => exact hs
  | step _ hk hl ih => exact hA _ hk hl ih
/-- The side of what can be reached. -/
structure Side (n : Nat) (e : List Arc) (s t : Nat) (f : List Int) (A : Nat → Bool) : Prop where
  src : A s = true
  dst : A t = false
  shut : Shut e f A
  reach : ∀ v, v < n → A v = true → Reach e f s v
/-- The least side of the least capacity is the same, whatever the greatest flow is. -/
theorem Side.same {n : Nat} {e : List Arc} {s t : Nat} {f g : List Int} {V W : Int} {A B : Nat → Bool} (he : jJ n e) (hs : s < n) (hf : Flow n e s t f V) (hg : Flow n e s t g W) (hA : Side n e s t f A) (hB : Side n e s t g B) : V = W ∧ ∀ v, v < n → A v = B v := by
  have a1 := (hf.shut he hs hA.src hA.dst).2 hA.shut
  have b1 := (hg.shut he hs hB.src hB.dst).2 hB.shut
  have a2 := hf.le_cut he hs hB.src hB.dst
  have b2 := hg.le_cut he hs hA.src hA.dst
  have e1 : V = W := by omega
  have c1 := (hf.shut he hs hB.src hB.dst).1 (by omega)
  have c2 := (hg.shut he hs hA.src hA.dst).1 (by omega)
  refine ⟨e1, fun v hv => ?_⟩
  cases h1 : A v with
  | true => exact ((hA.reach v hv h1).within hB.src c1).symm
  | false =>
    cases h2 : B v with
    | true => rw [(hB.reach v hv h2).within hA.src c2] at h1; cases h1
    | false => rfl
/-- A cut with fewer nodes has a greater capacity. -/
theorem Side.least {n : Nat} {e : List Arc} {s t : Nat} {f : List Int} {V : Int} {A B : Nat → Bool} (he : jJ n e) (hs : s < n) (hf : Flow n e s t f V) (hA : Side n e s t f A) (h1 : B s = true) (h2 : B t = false) {u : Nat} (hu : u < n) (hAu : A u = true) (hBu : B u = false) : V < capA B e := by
  have := hf.le_cut he hs h1 h2
  rcases Int.lt_or_le V (capA B e) with h | h
  · exact h
  · have hB := (hf.shut he hs h1 h2).1 (by omega)
    rw [(hA.reach u hu hAu).within h1 hB] at hBu; cases hBu
/-! ### pushing along a way -/
def iO (f : List Int) (k : Nat) (d : Int) : List Int := f.set (k / 2) (bU f (k / 2) + (if k % 2 = 0 then d else -d))
theorem lC (f : List Int) (k : Nat) (d : Int) : (iO f k d).length = f.length := by simp [iO]
theorem flAt_push {f : List Int} {k : Nat} {d : Int} (hk : k / 2 < f.length) (i : Nat) : bU (iO f k d) i = if k / 2 = i then bU f (k / 2) + (if k % 2 = 0 then d else -d) else bU f i := by
  unfold iO
  unfold bU
  rw [List.getD_eq_getElem?_getD, List.getElem?_set]
  by_cases h : k / 2 = i
  · rw [if_pos h, if_pos hk, if_pos h]; rfl
  · rw [if_neg h, if_neg h, List.getD_eq_getElem?_getD]
theorem net_set : ∀ {e : List Arc} {f : List Int} {i : Nat} (d : Int) (v : Nat), e.length = f.length → i < f.length →
    net e (f.set i (bU f i + d)) v = net e f v + ((if (dD e i).src.toNat = v then d else 0) - (if (dD e i).dst.toNat = v then d else 0))
  | [], [], _, _, _, _, h => by simp at h
  | x :: e, [], _, _, _, h, _ => by simp at h
  | [], y :: f, _, _, _, h, _ => by simp at h
  | x :: e, y :: f, 0, d, v, h, _ => by
    have ea : dD (x :: e) 0 = x := by simp [dD]
    have ef : bU (y :: f) 0 = y := by simp [bU]
    rw [ea, ef];simp only [List.set_cons_zero, net]
    split <;> split <;> omega
  | x :: e, y :: f, i + 1, d, v, h, hi => by
    have ea : dD (x :: e) (i + 1) = dD e i := by simp [dD]
    have ef : bU (y :: f) (i + 1) = bU f i := by simp [bU]
    rw [ea, ef];have := net_set (e := e) (f := f) (i := i) d v (by simpa using h) (by simpa using hi)
    simp only [List.set_cons_succ, net, this]; omega
theorem net_push {e : List Arc} {f : List Int} {k : Nat} (d : Int) (v : Nat) (h : e.length = f.length) (hk : k < 2 * e.length) : net e (iO f k d) v = net e f v + ((if bZ e k = v then d else 0) - (if kto e k = v then d else 0)) := by
  unfold iO
  rw [net_set _ _ h (by omega)]
  unfold bZ kto
  by_cases h2 : k % 2 = 0
  · simp only [h2, if_true]
  · simp only [h2, if_false]; split <;> split <;> omega
/-- A way along edges. -/
def Way (e : List Arc) : Nat → Nat → List Nat → Prop
  | u, t, [] => u = t
  | u, t, k :: r => k < 2 * e.length ∧ bZ e k = u ∧ Way e (kto e k) t r
theorem Way.snoc {e : List Arc} : ∀ {W : List Nat} {u v : Nat} {k : Nat}, Way e u v W → k < 2 * e.length → bZ e k = v → Way e u (kto e k) (W ++ [k])
  | [], u, v, k, h, hk, hf => by have : u = v := h; subst this; exact ⟨hk, hf, rfl⟩
  | j :: r, u, v, k, ⟨h1, h2, h3⟩, hk, hf => ⟨h1, h2, Way.snoc h3 hk hf⟩
theorem Way.pop {e : List Arc} : ∀ {W : List Nat} {u v : Nat} {k : Nat}, Way e u v (W ++ [k]) → k < 2 * e.length ∧ kto e k = v ∧ Way e u (bZ e k) W
  | [], u, v, k, ⟨h1, h2, h3⟩ => ⟨h1, h3, h2.symm⟩
  | j :: r, u, v, k, ⟨h1, h2, h3⟩ => let ⟨a, b, c⟩ := Way.pop h3; ⟨a, b, h1, h2, c⟩
theorem Way.split {e : List Arc} : ∀ {W X : List Nat} {u v : Nat}, Way e u v (W ++ X) → ∃ m, Way e u m W ∧ Way e m v X
  | [], X, u, v, h => ⟨u, rfl, h⟩
  | k :: r, X, u, v, ⟨h1, h2, h3⟩ => let ⟨m, a, b⟩ := Way.split h3; ⟨m, ⟨h1, h2, a⟩, b⟩
theorem Way.lt {e : List Arc} : ∀ {W : List Nat} {u v : Nat}, Way e u v W → ∀ k, k ∈ W → k < 2 * e.length
  | [], _, _, _, k, h => by simp at h
  | j :: r, u, v, ⟨h1, _, h3⟩, k, h => by
    rcases List.mem_cons.1 h with rfl | h
    · exact h1
    · exact Way.lt h3 k h
/-- Each edge leads one layer on. -/
def Up (e : List Arc) (L : List Int) (W : List Nat) : Prop := ∀ k, k ∈ W → bU L (kto e k) = bU L (bZ e k) + 1
theorem Way.rise {e : List Arc} {L : List Int} : ∀ {W : List Nat} {u v : Nat}, Way e u v W → Up e L W → ∀ k, k ∈ W → bU L u ≤ bU L (bZ e k)
  | [], _, _, _, _, k, h => by simp at h
  | j :: r, u, v, ⟨h1, h2, h3⟩, hU, k, h => by
    rcases List.mem_cons.1 h with rfl | h
    · rw [h2]; exact Int.le_refl _
    · have := Way.rise h3 (fun i hi => hU i (List.mem_cons_of_mem _ hi)) k h
      have := hU j (List.mem_cons_self ..)
      rw [h2] at this;omega
theorem half_eq {e : List Arc} {j k : Nat} (h : j / 2 = k / 2) : j = k ∨ (bZ e j = kto e k ∧ kto e j = bZ e k) := by
  by_cases hm : j % 2 = k % 2
  · left; omega
  · right
    unfold bZ kto
    rw [h]
    by_cases h1 : j % 2 = 0
    · rw [if_pos h1, if_neg (by omega), if_pos h1, if_neg (by omega)]; exact ⟨rfl, rfl⟩
    · rw [if_neg h1, if_pos (by omega), if_neg h1, if_pos (by omega)]; exact ⟨rfl, rfl⟩
/-- No edge comes twice. -/
theorem Way.nodup {e : List Arc} {L : List Int} : ∀ {W : List Nat} {u v : Nat}, Way e u v W → Up e L W → (W.map (· / 2)).Nodup
  | [], _, _, _, _ => by simp
  | j :: r, u, v, ⟨h1, h2, h3⟩, hU => by
    rw [List.map_cons, List.nodup_cons];have hU' : Up e L r := fun i hi => hU i (List.mem_cons_of_mem _ hi)
    refine ⟨fun hm => ?_, Way.nodup h3 hU'⟩;obtain ⟨k, hk, hjk⟩ := List.mem_map.1 hm
    have a := Way.rise h3 hU' k hk
    have b := hU j (List.mem_cons_self ..)
    have c := hU k (List.mem_cons_of_mem _ hk)
    rcases half_eq (e := e) hjk with rfl | ⟨d1, d2⟩
    · omega
    · rw [d1, d2] at c; omega
def eL (f : List Int) (W : List Nat) (d : Int) : List Int := W.foldl (fun f k => iO f k d) f
theorem pushAll_len (W : List Nat) (d : Int) : ∀ f, (eL f W d).length = f.length := by
  induction W with
  | nil => intro f; rfl
  | cons k r ih => intro f; show (eL (iO f k d) r d).length = _; rw [ih, lC]
theorem pushAll_snoc (f : List Int) (W : List Nat) (k : Nat) (d : Int) : eL f (W ++ [k]) d = iO (eL f W d) k d := by simp [eL]
theorem net_pushAll {e : List Arc} {d : Int} : ∀ {W : List Nat} {f : List Int} {u t : Nat}, e.length = f.length → Way e u t W → ∀ v, net e (eL f W d) v = net e f v + ((if u = v then d else 0) - (if t = v then d else 0))
  | [], f, u, t, h, hw, v => by have : u = t := hw; subst this; simp [eL]
  | k :: r, f, u, t, h, ⟨h1, h2, h3⟩, v => by
    show net e (eL (iO f k d) r d) v = _
    rw [net_pushAll (by rw [lC]; exact h) h3 v, net_push d v h h1, h2]; omega
theorem flAt_pushAll {d : Int} : ∀ {W : List Nat} {f : List Int} {i : Nat}, (∀ k, k ∈ W → k / 2 < f.length) → (∀ k, k ∈ W → k / 2 ≠ i) → bU (eL f W d) i = bU f i
  | [], f, i, _, _ => rfl
  | k :: r, f, i, hl, hn => by
    show bU (eL (iO f k d) r d) i = _
    rw [flAt_pushAll (fun j hj => by rw [lC]; exact hl j (List.mem_cons_of_mem _ hj)) fun j hj => hn j (List.mem_cons_of_mem _ hj), flAt_push (hl k (List.mem_cons_self ..)), if_neg (hn k (List.mem_cons_self ..))]
theorem kleft_rng {e : List Arc} {f : List Int} (h : Fits e f) {k : Nat} (hk : k < 2 * e.length) : 0 ≤ d9 e f k ∧ d9 e f k ≤ (dD e (k / 2)).wt := by
  have := h.rng (k / 2) (by omega)
  unfold d9; split <;> omega
theorem Fits.push {e : List Arc} {f : List Int} {k : Nat} {d : Int} (h : Fits e f) (hk : k < 2 * e.length) (h0 : 0 ≤ d) (hd : d ≤ d9 e f k) : Fits e (iO f k d) :=
  ⟨by rw [lC]; exact h.len, fun i hi => by
    rw [flAt_push (by rw [h.len]; omega)];have := h.rng i hi
    split
    · rename_i e'; subst e'
      unfold d9 at hd
      by_cases h2 : k % 2 = 0
      · rw [if_pos h2] at hd ⊢; omega
      · rw [if_neg h2] at hd ⊢; omega
    · exact this⟩
theorem kleft_push {e : List Arc} {f : List Int} {j k : Nat} {d : Int} (hk : k / 2 < f.length) (h : j / 2 ≠ k / 2) : d9 e (iO f k d) j = d9 e f j := by
  have := flAt_push (d := d) hk (j / 2)
  rw [if_neg fun h' => h h'.symm] at this
  unfold d9; rw [this]
theorem fits_pushAll {e : List Arc} {d : Int} (h0 : 0 ≤ d) : ∀ {W : List Nat} {f : List Int}, Fits e f → (W.map (· / 2)).Nodup → (∀ k, k ∈ W → k < 2 * e.length ∧ d ≤ d9 e f k) → Fits e (eL f W d)
  | [], f, h, _, _ => h
  | k :: r, f, h, hn, hk => by
    rw [List.map_cons, List.nodup_cons] at hn;have hkk := hk k (List.mem_cons_self ..)
    show Fits e (eL (iO f k d) r d)
    exact fits_pushAll h0 (h.push hkk.1 h0 hkk.2) hn.2 fun j hj => ⟨(hk j (List.mem_cons_of_mem _ hj)).1, by
      rw [kleft_push (by rw [h.len]; omega) fun e' => hn.1 (e' ▸ List.mem_map.2 ⟨j, hj, rfl⟩)]
      exact (hk j (List.mem_cons_of_mem _ hj)).2⟩
theorem Flow.push {n : Nat} {e : List Arc} {s t : Nat} {f : List Int} {V d : Int} {W : List Nat} (h : Flow n e s t f V) (h0 : 0 ≤ d) (hw : Way e s t W) (hn : (W.map (· / 2)).Nodup) (hd : ∀ k, k ∈ W → d ≤ d9 e f k) : Flow n e s t (eL f W d) (V + d) :=
  ⟨fits_pushAll h0 h.fits hn fun k hk => ⟨hw.lt k hk, hd k hk⟩, fun v hv => by
    rw [net_pushAll h.fits.len.symm hw v, h.cons v hv]
    split <;> split <;> omega⟩
theorem net_zero : ∀ (e : List Arc) (m : Nat) (v : Nat), net e (List.replicate m 0) v = 0
  | [], _, _ => by simp [net]
  | x :: e, 0, _ => by simp [net]
  | x :: e, m + 1, v => by simp only [List.replicate_succ, net]; rw [net_zero e m v]; split <;> split <;> omega
theorem flAt_zero (m i : Nat) : bU (List.replicate m 0) i = 0 := by
  unfold bU; rw [List.getD_eq_getElem?_getD, List.getElem?_replicate]; split <;> rfl
theorem Flow.zero {n : Nat} {e : List Arc} {s t : Nat} (hw : ∀ x ∈ e, 0 ≤ x.wt) : Flow n e s t (List.replicate e.length 0) 0 :=
  ⟨⟨by simp, fun i hi => by rw [flAt_zero, lH hi]; exact ⟨Int.le_refl _, hw _ (List.getElem_mem hi)⟩⟩, fun v _ => by rw [net_zero]; simp⟩
/-- The greatest value there may be. -/
def iF : List Arc → Int
  | x :: e => x.wt + iF e
  | [] => 0
theorem net_le : ∀ (e : List Arc) (f : List Int) (v : Nat), Fits e f → net e f v ≤ iF e
  | [], f, v, _ => by simp [net, iF]
  | x :: e, [], v, h => by have := h.len; simp at this
  | x :: e, y :: f, v, h => by
    have := net_le e f v h.tail
    have := h.head
    simp only [net, iF]
    split <;> split <;> omega
theorem capSum_le (c : Int) : ∀ (e : List Arc), (∀ x ∈ e, x.wt ≤ c) → iF e ≤ e.length * c
  | [], _ => by simp [iF]
  | x :: e, h => by
    have := capSum_le c e fun y hy => h y (List.mem_cons_of_mem _ hy)
    have := h x (List.mem_cons_self ..)
    simp only [iF, List.length_cons];rw [show ((e.length + 1 : Nat) : Int) * c = e.length * c + c by rw [Int.natCast_add, Int.add_mul]; simp]; omega
theorem Flow.val_le {n : Nat} {e : List Arc} {s t : Nat} {f : List Int} {V : Int} (h : Flow n e s t f V) (hs : s < n) (hst : s ≠ t) : V ≤ iF e := by
  have h1 := h.cons s hs
  rw [if_pos rfl, if_neg (fun e => hst e.symm)] at h1;have := net_le e f s h.fits
  omega
end Go.Proofs.YtjjogcnjcnpehaaGreat

/- The layers of a network, and ways through them. Plain laws. -/
namespace Go.Proofs.YtjjogcnjcnpehaaGreat
open Go Fly
set_option linter.unusedVariables false
set_option linter.unusedSimpArgs false
theorem gU {L : List Int} {u : Nat} (h : u < L.length) (x : Int) (v : Nat) : bU (L.set u x) v = if u = v then x else bU L v := by
  unfold bU
  rw [List.getD_eq_getElem?_getD, List.getElem?_set]
  by_cases e : u = v
  · rw [if_pos e, if_pos h, if_pos e]; rfl
  · rw [if_neg e, if_neg e, List.getD_eq_getElem?_getD]
def unl (L : List Int) : Nat := L.countP (fun x => decide (x < 0))
theorem unl_set : ∀ {L : List Int} {i : Nat} {x : Int}, i < L.length → bU L i < 0 → 0 ≤ x → unl (L.set i x) + 1 = unl L
  | y :: L, 0, x, _, h, hx => by
    have hy : y < 0 := by simpa [bU] using h
    simp [unl, hy, List.countP_cons, show ¬ x < 0 by omega]
  | y :: L, i + 1, x, hi, h, hx => by
    have := unl_set (L := L) (i := i) (x := x) (by simpa using hi) (by simpa [bU] using h) hx
    unfold unl at this ⊢
    simp only [List.set_cons_succ, List.countP_cons];omega
/-- What is left, seen from s: the layers so far. -/
structure LayB (n : Nat) (e : List Arc) (s : Nat) (f L : List Int) (work : List Nat) (P : Nat → Prop) : Prop where
  len : L.length = n
  ge : ∀ v, v < n → -1 ≤ bU L v
  s0 : bU L s = 0
  pred : ∀ v, v < n → 0 ≤ bU L v → v ≠ s → ∃ k, k < 2 * e.length ∧ 0 < d9 e f k ∧ kto e k = v ∧ 0 ≤ bU L (bZ e k) ∧ bU L v = bU L (bZ e k) + 1
  wk : ∀ v, v ∈ work → v < n ∧ 0 ≤ bU L v
  cl : ∀ k, k < 2 * e.length → 0 < d9 e f k → 0 ≤ bU L (bZ e k) → bZ e k ∉ work → P k → 0 ≤ bU L (kto e k)
variable {n : Nat} {e : List Arc} {s t : Nat} {f L : List Int} {work : List Nat} {P : Nat → Prop}
theorem flAt_rep {n : Nat} {x : Int} {v : Nat} (h : v < n) : bU (List.replicate n x) v = x := by
  unfold bU; rw [List.getD_eq_getElem?_getD, List.getElem?_replicate, if_pos h]; rfl
theorem j4 (he : jJ n e) {k : Nat} (hk : k < 2 * e.length) : bZ e k < n := by
  have := he _ (List.getElem_mem (show k / 2 < e.length by omega))
  unfold bZ; rw [lH (by omega)]; split <;> omega
theorem kto_lt (he : jJ n e) {k : Nat} (hk : k < 2 * e.length) : kto e k < n := by
  have := he _ (List.getElem_mem (show k / 2 < e.length by omega))
  unfold kto; rw [lH (by omega)]; split <;> omega
theorem LayB.begin (he : jJ n e) (hs : s < n) : LayB n e s f ((List.replicate n (-1)).set s 0) [s] (fun _ => True) := by
  have G : ∀ v, v < n → bU ((List.replicate n (-1)).set s 0) v = if s = v then 0 else -1 := fun v hv => by rw [gU (by simpa using hs), flAt_rep hv]
  refine ⟨by simp, fun v hv => by rw [G v hv]; split <;> omega, by rw [G s hs, if_pos rfl], fun v hv h hne => ?_, fun v hv => ?_, fun k hk hl hf hn _ => ?_⟩
  · rw [G v hv, if_neg (fun e => hne e.symm)] at h; omega
  · simp at hv; subst hv; exact ⟨hs, by rw [G v hs, if_pos rfl]; exact Int.le_refl _⟩
  · have hlt := j4 he hk
    rw [G _ hlt] at hf
    split at hf
    · rename_i e'; exact absurd (by rw [← e']; simp) hn
    · omega
theorem LayB.pop {v : Nat} (h : LayB n e s f L (v :: work) (fun _ => True)) : LayB n e s f L work (fun k => bZ e k ≠ v) :=
  ⟨h.len, h.ge, h.s0, h.pred, fun u hu => h.wk u (List.mem_cons_of_mem _ hu), fun k hk hl hf hn hne => h.cl k hk hl hf (by simp; exact ⟨hne, hn⟩) trivial⟩
theorem LayB.weaken {Q : Nat → Prop} (h : LayB n e s f L work P) (hq : ∀ k, k < 2 * e.length → Q k → P k) : LayB n e s f L work Q :=
  ⟨h.len, h.ge, h.s0, h.pred, h.wk, fun k hk hl hf hn hQ => h.cl k hk hl hf hn (hq k hk hQ)⟩
theorem LayB.see {k : Nat} (h : LayB n e s f L work P) (he : jJ n e) (hk : k < 2 * e.length) (hf : 0 ≤ bU L (bZ e k)) (hu : bU L (kto e k) < 0) (hl : 0 < d9 e f k) :
    LayB n e s f (L.set (kto e k) (bU L (bZ e k) + 1)) (work ++ [kto e k]) (fun j => P j ∨ j = k) := by
  have ht := kto_lt he hk
  have hfr := j4 he hk
  have G : ∀ v, bU (L.set (kto e k) (bU L (bZ e k) + 1)) v = if kto e k = v then bU L (bZ e k) + 1 else bU L v := fun v => gU (by rw [h.len]; exact ht) _ v
  refine ⟨by simpa using h.len, fun v hv => ?_, ?_, fun v hv hv0 hne => ?_, fun v hv => ?_, fun j hj hjl hjf hjn hP => ?_⟩
  · rw [G]; split
    · omega
    · exact h.ge v hv
  · rw [G, if_neg (fun e' => by rw [e', h.s0] at hu; omega)]; exact h.s0
  · rw [G] at hv0 ⊢
    split at hv0
    · rename_i e'
      rw [if_pos e'];refine ⟨k, hk, hl, e', ?_, ?_⟩
      · rw [G, if_neg (fun e2 => by rw [← e2] at hf; omega)]; exact hf
      · rw [G, if_neg (fun e2 => by rw [← e2] at hf; omega)]
    · rename_i e'
      rw [if_neg e'];obtain ⟨j, a, b, c, d, g⟩ := h.pred v hv hv0 hne
      refine ⟨j, a, b, c, ?_, ?_⟩
      · rw [G, if_neg (fun e2 => by rw [← e2] at d; omega)]; exact d
      · rw [G, if_neg (fun e2 => by rw [← e2] at d; omega)]; exact g
  · rw [G]
    rcases List.mem_append.1 hv with hv | hv
    · have := h.wk v hv
      split
      · exact ⟨this.1, by omega⟩
      · exact this
    · simp at hv; subst hv; rw [if_pos rfl]; exact ⟨ht, by omega⟩
  · simp only [List.mem_append, List.mem_singleton, not_or] at hjn
    rw [G] at hjf ⊢;rw [if_neg (fun e' => hjn.2 e'.symm)] at hjf
    split
    · omega
    · rename_i e'
      rcases hP with hP | rfl
      · exact h.cl j hj hjl hjf hjn.1 hP
      · exact absurd rfl e'
theorem LayB.skip {k : Nat} (h : LayB n e s f L work P) (hn : ¬ (bU L (kto e k) < 0 ∧ 0 < d9 e f k)) : LayB n e s f L work (fun j => P j ∨ j = k) :=
  ⟨h.len, h.ge, h.s0, h.pred, h.wk, fun j hj hjl hjf hjn hP => by
    rcases hP with hP | rfl
    · exact h.cl j hj hjl hjf hjn hP
    · omega⟩
/-- The layers, as they are told. -/
structure Lay (n : Nat) (e : List Arc) (s : Nat) (f L : List Int) : Prop where
  len : L.length = n
  ge : ∀ v, v < n → -1 ≤ bU L v
  s0 : bU L s = 0
  pred : ∀ v, v < n → 0 ≤ bU L v → v ≠ s → ∃ k, k < 2 * e.length ∧ 0 < d9 e f k ∧ kto e k = v ∧ 0 ≤ bU L (bZ e k) ∧ bU L v = bU L (bZ e k) + 1
  cl : ∀ k, k < 2 * e.length → 0 < d9 e f k → 0 ≤ bU L (bZ e k) → 0 ≤ bU L (kto e k)
theorem LayB.done (h : LayB n e s f L [] (fun _ => True)) : Lay n e s f L := ⟨h.len, h.ge, h.s0, h.pred, fun k hk hl hf => h.cl k hk hl hf (by simp) trivial⟩
theorem Lay.reach (h : Lay n e s f L) (he : jJ n e) : ∀ (m : Nat) (v : Nat), v < n → bU L v = (m : Int) → Reach e f s v
  | 0, v, hv, hm => by
    by_cases hvs : v = s
    · subst hvs; exact .refl
    · obtain ⟨k, a, b, c, d, g⟩ := h.pred v hv (by omega) hvs; omega
  | m + 1, v, hv, hm => by
    by_cases hvs : v = s
    · subst hvs; exact .refl
    · obtain ⟨k, a, b, c, d, g⟩ := h.pred v hv (by omega) hvs
      have := Lay.reach h he m (bZ e k) (j4 he a) (by omega)
      rw [← c]; exact .step this a b
theorem Lay.side (h : Lay n e s f L) (he : jJ n e) (ht : bU L t < 0) : Side n e s t f (fun v => decide (0 ≤ bU L v)) where
  src := by simp [h.s0]
  dst := by simp; exact ht
  shut := fun k hk hl hA => by simp at hA ⊢; exact h.cl k hk hl hA
  reach := fun v hv hA => by
    simp at hA;exact h.reach he (bU L v).toNat v hv (by omega)
/-! ### rows -/
/-- The edges that lead out of a node, of the first ones. -/
def gK (e : List Arc) (j v : Nat) : List Int := ((List.range j).filter (fun k => bZ e k == v)).map (fun k : Nat => (k : Int))
def lA (e : List Arc) (n j : Nat) : List (List Int) := (List.range n).map (gK e j)
theorem iI (e : List Arc) (n j : Nat) : (lA e n j).length = n := by simp [lA]
theorem i1 {e : List Arc} {n j v : Nat} (h : v < (lA e n j).length) : (lA e n j)[v] = gK e j v := by simp [lA]
theorem kRow_next (e : List Arc) (j v : Nat) : gK e (j + 1) v = if bZ e j = v then gK e j v ++ [(j : Int)] else gK e j v := by
  unfold gK
  rw [List.range_succ, List.filter_append, List.map_append]
  by_cases h : bZ e j = v
  · rw [if_pos h]; simp [h]
  · rw [if_neg h]; simp [h]
theorem kRows_next {e : List Arc} {n j : Nat} (h : bZ e j < n) : (lA e n j).set (bZ e j) (gK e j (bZ e j) ++ [(j : Int)]) = lA e n (j + 1) := by
  refine List.ext_getElem (by simp [lA]) fun v h1 h2 => ?_;rw [List.getElem_set, i1, i1, kRow_next]
  split
  · rename_i e'; subst e'; rfl
  · rfl
theorem kRows_zero (e : List Arc) (n : Nat) : lA e n 0 = List.replicate n [] := by
  refine List.ext_getElem (by simp [lA]) fun v h1 h2 => by rw [i1]; simp [gK]
theorem kRow_mem {e : List Arc} {j v : Nat} {x : Int} (h : x ∈ gK e j v) : ∃ k : Nat, x = k ∧ k < j ∧ bZ e k = v := by
  unfold gK at h
  obtain ⟨k, hk, rfl⟩ := List.mem_map.1 h
  rw [List.mem_filter] at hk;exact ⟨k, rfl, by simpa using hk.1, by simpa using hk.2⟩
theorem kRow_has {e : List Arc} {j k : Nat} (h : k < j) : (k : Int) ∈ gK e j (bZ e k) := by
  unfold gK
  exact List.mem_map.2 ⟨k, List.mem_filter.2 ⟨by simpa using h, by simp⟩, rfl⟩
theorem kRow_len (e : List Arc) (j v : Nat) : (gK e j v).length ≤ j := by
  unfold gK; rw [List.length_map]; exact Nat.le_trans (List.length_filter_le _ _) (by simp)
abbrev row (e : List Arc) (v : Nat) : List Int := gK e (2 * e.length) v
theorem row_at {e : List Arc} {v i : Nat} (h : i < (row e v).length) : ∃ k : Nat, (row e v)[i] = (k : Int) ∧ k < 2 * e.length ∧ bZ e k = v := kRow_mem (List.getElem_mem h)
/-! ### ways through the layers -/
/-- An edge through which a way may go on. -/
def Good (e : List Arc) (f L : List Int) (k : Nat) : Prop := 0 < d9 e f k ∧ bU L (kto e k) = bU L (bZ e k) + 1
structure Nx (n : Nat) (e : List Arc) (nx : List Int) : Prop where
  len : nx.length = n
  rng : ∀ v, v < n → 0 ≤ bU nx v ∧ bU nx v ≤ ((row e v).length : Int)
/-- From here there is no way on. -/
def Dead (e : List Arc) (t : Nat) (nx : List Int) (v : Nat) : Prop := bU nx v = ((row e v).length : Int) ∧ v ≠ t
/-- What has been passed leads nowhere. -/
def Past (n : Nat) (e : List Arc) (t : Nat) (f L nx : List Int) : Prop := ∀ v, v < n → ∀ (j k : Nat), (j : Int) < bU nx v → (row e v)[j]? = some (k : Int) → Good e f L k → Dead e t nx (kto e k)
/-- A way as far as it has come. -/
structure Wy (n : Nat) (e : List Arc) (s : Nat) (f L nx : List Int) (W : List Nat) (v : Nat) : Prop where
  way : Way e s v W
  good : ∀ k, k ∈ W → Good e f L k
  cur : ∀ k, k ∈ W → (row e (bZ e k))[(bU nx (bZ e k)).toNat]? = some (k : Int)
  nx : Nx n e nx
variable {nx : List Int} {W : List Nat} {v : Nat}
theorem Wy.up (h : Wy n e s f L nx W v) : Up e L W := fun k hk => (h.good k hk).2
theorem Way.end_lt {L : List Int} : ∀ {W : List Nat} {u v : Nat}, Way e u v W → Up e L W → ∀ k, k ∈ W → bU L (bZ e k) < bU L v
  | [], _, _, _, _, k, h => by simp at h
  | j :: r, u, v, ⟨h1, h2, h3⟩, hU, k, h => by
    have hU' : Up e L r := fun i hi => hU i (List.mem_cons_of_mem _ hi)
    have hj := hU j (List.mem_cons_self ..)
    rcases List.mem_cons.1 h with rfl | h
    · cases r with
      | nil => have : kto e k = v := h3; rw [← this]; omega
      | cons i r =>
        have := Way.end_lt h3 hU' i (List.mem_cons_self ..)
        have := Way.rise h3 hU' i (List.mem_cons_self ..)
        omega
    · exact Way.end_lt h3 hU' k h
theorem Nx.step (h : Nx n e nx) (hv : v < n) (hlt : bU nx v < ((row e v).length : Int)) : Nx n e (nx.set v (bU nx v + 1)) :=
  ⟨by simpa using h.len, fun u hu => by
    rw [gU (by rw [h.len]; exact hv)];have := h.rng v hv
    split
    · rename_i e'; subst e'; omega
    · exact h.rng u hu⟩
theorem Past.step (h : Past n e t f L nx) (hx : Nx n e nx) (hv : v < n) (hlt : bU nx v < ((row e v).length : Int)) (hd : ∀ k : Nat, (row e v)[(bU nx v).toNat]? = some (k : Int) → Good e f L k → Dead e t nx (kto e k)) :
    Past n e t f L (nx.set v (bU nx v + 1)) := by
  have G : ∀ u, bU (nx.set v (bU nx v + 1)) u = if v = u then bU nx v + 1 else bU nx u := fun u => gU (by rw [hx.len]; exact hv) _ u
  have D : ∀ u, Dead e t nx u → Dead e t (nx.set v (bU nx v + 1)) u := fun u ⟨a, b⟩ => ⟨by rw [G, if_neg (fun e' => by subst e'; omega)]; exact a, b⟩
  intro u hu j k hj hk hg;refine D _ ?_;rw [G] at hj
  split at hj
  · rename_i e'
    subst e'
    by_cases h1 : (j : Int) < bU nx v
    · exact h v hv j k h1 hk hg
    · have := hx.rng v hv
      have : (bU nx v).toNat = j := by omega
      exact hd k (by rw [this]; exact hk) hg
  · exact h u hu j k hj hk hg
theorem Wy.pass (h : Wy n e s f L nx W v) (hv : v < n) (hlt : bU nx v < ((row e v).length : Int)) : Wy n e s f L (nx.set v (bU nx v + 1)) W v :=
  ⟨h.way, h.good, fun k hk => by
    have := h.way.end_lt h.up k hk
    rw [gU (by rw [h.nx.len]; exact hv), if_neg (fun e' => by rw [← e'] at this; omega)]
    exact h.cur k hk, h.nx.step hv hlt⟩
theorem Wy.on {k : Nat} (h : Wy n e s f L nx W v) (hk : k < 2 * e.length) (hf : bZ e k = v) (hr : (row e v)[(bU nx v).toNat]? = some (k : Int)) (hg : Good e f L k) : Wy n e s f L nx (W ++ [k]) (kto e k) :=
  ⟨h.way.snoc hk hf, fun j hj => by
    rcases List.mem_append.1 hj with hj | hj
    · exact h.good j hj
    · simp at hj; subst hj; exact hg, fun j hj => by
    rcases List.mem_append.1 hj with hj | hj
    · exact h.cur j hj
    · simp at hj; subst hj; rw [hf]; exact hr, h.nx⟩
theorem Wy.back {k : Nat} (h : Wy n e s f L nx (W ++ [k]) v) : k < 2 * e.length ∧ kto e k = v ∧ Wy n e s f L nx W (bZ e k) :=
  let ⟨a, b, c⟩ := h.way.pop
  ⟨a, b, c, fun j hj => h.good j (List.mem_append_left _ hj), fun j hj => h.cur j (List.mem_append_left _ hj), h.nx⟩
theorem Wy.lt {k : Nat} (h : Wy n e s f L nx (W ++ [k]) v) : bU nx (bZ e k) < ((row e (bZ e k)).length : Int) := by
  have := h.cur k (by simp)
  have h1 := (List.getElem?_eq_some_iff.1 this).1
  omega
/-- If t has a layer there is a way. -/
theorem no_dead (h : Lay n e s f L) (he : jJ n e) (hx : Nx n e nx) (hp : Past n e t f L nx) (hd : Dead e t nx s) : ∀ (m : Nat) (v : Nat), v < n → bU L v = (m : Int) → Dead e t nx v
  | 0, v, hv, hm => by
    by_cases hvs : v = s
    · subst hvs; exact hd
    · obtain ⟨k, a, b, c, d, g⟩ := h.pred v hv (by omega) hvs; omega
  | m + 1, v, hv, hm => by
    by_cases hvs : v = s
    · subst hvs; exact hd
    · obtain ⟨k, a, b, c, d, g⟩ := h.pred v hv (by omega) hvs
      have hk := no_dead h he hx hp hd m (bZ e k) (j4 he a) (by omega)
      obtain ⟨j, hj, hjk⟩ := List.mem_iff_getElem.1 (kRow_has (e := e) a)
      rw [← c];exact hp (bZ e k) (j4 he a) j k (by rw [hk.1]; exact_mod_cast hj) (by rw [List.getElem?_eq_getElem hj, hjk]) ⟨b, by rw [c]; exact g⟩
theorem way_there (h : Lay n e s f L) (he : jJ n e) (ht : t < n) (htl : 0 ≤ bU L t) (hx : Nx n e nx) (hp : Past n e t f L nx) (hd : Dead e t nx s) : False :=
  (no_dead h he hx hp hd (bU L t).toNat t ht (by omega)).2 rfl
theorem Past.start (n : Nat) (e : List Arc) (t : Nat) (f L : List Int) : Past n e t f L (List.replicate n 0) := fun v hv j k hj _ _ => by rw [flAt_zero] at hj; omega
theorem Nx.start (n : Nat) (e : List Arc) : Nx n e (List.replicate n 0) := ⟨by simp, fun v hv => by rw [flAt_zero]; omega⟩
/-! ### measures -/
def remN (n : Nat) (e : List Arc) (nx : List Int) : Int := gC (fun v => ((row e v).length : Int) - bU nx v) n
theorem remN_step (h : Nx n e nx) (hv : v < n) : remN n e (nx.set v (bU nx v + 1)) = remN n e nx - 1 := by
  unfold remN
  have : gC (fun u => ((row e u).length : Int) - bU (nx.set v (bU nx v + 1)) u) n = gC (fun u => (((row e u).length : Int) - bU nx u) - (if v = u then 1 else 0)) n := sumTo_congr fun u hu => by
    rw [gU (by rw [h.len]; exact hv)]
    split
    · rename_i e'; subst e'; omega
    · omega
  rw [this, sumTo_sub, kT, if_pos hv]
theorem sumTo_nn {g : Nat → Int} : ∀ {n}, (∀ v, v < n → 0 ≤ g v) → 0 ≤ gC g n
  | 0, _ => Int.le_refl _
  | n + 1, h => by have := sumTo_nn (n := n) fun v hv => h v (by omega); have := h n (by omega); simp only [gC]; omega
theorem remN_nn (h : Nx n e nx) : 0 ≤ remN n e nx := sumTo_nn fun v hv => by have := h.rng v hv; omega
def topL : List Int → Nat
  | [] => 0
  | x :: r => x.toNat + topL r
theorem topL_ge : ∀ (L : List Int) (v : Nat), bU L v ≤ (topL L : Int)
  | [], v => by simp [bU, topL]
  | x :: r, 0 => by simp [bU, topL]; omega
  | x :: r, v + 1 => by have := topL_ge r v; simp [bU, topL] at this ⊢; omega
/-- How much is still to be done on a way. -/
def kR (n : Nat) (e : List Arc) (L nx : List Int) (v : Nat) : Nat := (remN n e nx).toNat * (topL L + 3) + (topL L + 1 - bU L v).toNat
theorem wayMu_on {k : Nat} (hg : Good e f L k) (hf : bZ e k = v) (h : Nx n e nx) : kR n e L nx (kto e k) < kR n e L nx v := by
  unfold kR
  have := topL_ge L (kto e k)
  have := hg.2
  rw [hf] at this;omega
theorem wayMu_pass {u : Nat} (h : Nx n e nx) (hv : v < n) (hlt : bU nx v < ((row e v).length : Int)) (hu : -1 ≤ bU L u) (w : Nat) : kR n e L (nx.set v (bU nx v + 1)) u < kR n e L nx w := by
  unfold kR
  have h1 := remN_step h hv
  have h2 := remN_nn (h.step hv hlt)
  have e1 : (remN n e nx).toNat = (remN n e (nx.set v (bU nx v + 1))).toNat + 1 := by omega
  rw [e1, Nat.add_mul];have := topL_ge L w
  omega
end Go.Proofs.YtjjogcnjcnpehaaGreat
