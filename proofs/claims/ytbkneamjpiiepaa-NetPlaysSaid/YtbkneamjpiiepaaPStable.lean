/- Stable sorting in place: plain laws. Elements bear a tag each (their first place); they are compared by their key, then by their tag. -/
import Derived.Test.YtbkneamjpiiepaaFlyD

namespace Go.Proofs.Ytbkneamjpiiepaa
open Go Fly
set_option linter.unusedVariables false
set_option linter.unusedSectionVars false
set_option linter.unusedSimpArgs false

abbrev TT := (Int × Int × Int) × Nat
def td : TT := ((0, 0, 0), 0)
abbrev tk (x : TT) : Int := x.1.1
def lx (x y : TT) : Prop := tk x < tk y ∨ (tk x = tk y ∧ x.2 < y.2)
theorem lx_trans {x y z : TT} (h : lx x y) (k : lx y z) : lx x z := by unfold lx at *; omega
theorem lx_asymm {x y : TT} (h : lx x y) (k : lx y x) : False := by unfold lx at *; omega
theorem lx_of_lt {x y : TT} (h : tk x < tk y) : lx x y := .inl h
theorem lx_of_nlt {x y : TT} (h : ¬ tk y < tk x) (ht : x.2 < y.2) : lx x y := by unfold lx; omega
/-- The element in a place. -/
def el (l : List TT) (i : Nat) : TT := l.getD i td
theorem el_eq {l : List TT} {i : Nat} (h : i < l.length) : el l i = l[i] := by simp [el, List.getD_eq_getElem?_getD, h]
theorem el_app1 {l r : List TT} {i : Nat} (h : i < l.length) : el (l ++ r) i = el l i := by simp [el, List.getD_eq_getElem?_getD, List.getElem?_append_left h]
theorem el_app2 {l r : List TT} {i : Nat} (h : l.length ≤ i) : el (l ++ r) i = el r (i - l.length) := by simp [el, List.getD_eq_getElem?_getD, List.getElem?_append_right h]
theorem el_set {l : List TT} {i j : Nat} {x : TT} (h : i < l.length) : el (l.set i x) j = if i = j then x else el l j := by
  unfold el
  rw [List.getD_eq_getElem?_getD, List.getElem?_set]
  by_cases e : i = j
  · rw [if_pos e, if_pos h, if_pos e]; rfl
  · rw [if_neg e, if_neg e, ← List.getD_eq_getElem?_getD]
theorem el_ext {l r : List TT} (hl : l.length = r.length) (h : ∀ i, i < l.length → el l i = el r i) : l = r :=
  List.ext_getElem hl fun j a b => by have := h j a; rwa [el_eq a, el_eq b] at this
/-- Sorted from a on, ahead of b. -/
def SI (l : List TT) (a b : Nat) : Prop := ∀ i j, a ≤ i → i < j → j < b → lx (el l i) (el l j)
/-- Sorted from a to b, all else as it was. -/
structure Srt (l l' : List TT) (a b : Nat) : Prop where
  len : l'.length = l.length
  perm : l'.Perm l
  out : ∀ i, i < a ∨ b ≤ i → el l' i = el l i
  mem : ∀ i, a ≤ i → i < b → ∃ j, a ≤ j ∧ j < b ∧ el l' i = el l j
  srt : SI l' a b
theorem Srt.same {l : List TT} {a b : Nat} (h : SI l a b) : Srt l l a b := ⟨rfl, List.Perm.refl _, fun _ _ => rfl, fun i h1 h2 => ⟨i, h1, h2, rfl⟩, h⟩
theorem SI.one {l : List TT} {a b : Nat} (h : b ≤ a + 1) : SI l a b := fun i j h1 h2 h3 => by omega
theorem SI.sub {l : List TT} {a b a' b' : Nat} (h : SI l a b) (h1 : a ≤ a') (h2 : b' ≤ b) : SI l a' b' := fun i j i1 i2 i3 => h i j (by omega) i2 (by omega)
/-- A list cut in three. -/
theorem cut3 (l : List TT) {a b : Nat} (h1 : a ≤ b) (h2 : b ≤ l.length) : ∃ P A R, l = P ++ (A ++ R) ∧ P.length = a ∧ A.length = b - a ∧ R.length = l.length - b :=
  ⟨l.take a, (l.drop a).take (b - a), l.drop b, by
    conv => lhs; rw [← List.take_append_drop a l, ← List.take_append_drop (b - a) (l.drop a)]
    rw [List.drop_drop, show a + (b - a) = b by omega], by simp; omega, by simp; omega, by simp⟩
theorem el_mid {P A R : List TT} {i : Nat} (h : i < A.length) : el (P ++ (A ++ R)) (P.length + i) = el A i := by
  rw [el_app2 (by omega), show P.length + i - P.length = i by omega, el_app1 h]
theorem Srt.of_split {P A C R : List TT} (hp : C.Perm A) (hs : C.Pairwise lx) : Srt (P ++ (A ++ R)) (P ++ (C ++ R)) P.length (P.length + A.length) where
  len := by simp [hp.length_eq]
  perm := ((hp.append_right R).append_left P)
  out := fun i hi => by
    rcases hi with hi | hi
    · rw [el_app1 hi, el_app1 hi]
    · have hC := hp.length_eq
      rw [el_app2 (by omega), el_app2 (by omega), el_app2 (by omega), el_app2 (by omega), hC]
  mem := fun i h1 h2 => by
    have hC := hp.length_eq
    have e := el_mid (P := P) (A := C) (R := R) (i := i - P.length) (by omega)
    rw [show P.length + (i - P.length) = i by omega] at e
    have hlt : i - P.length < C.length := by omega
    have hm : el C (i - P.length) ∈ C := by rw [el_eq hlt]; exact List.getElem_mem _
    obtain ⟨j, hj, hje⟩ := List.mem_iff_getElem.1 (hp.mem_iff.1 hm)
    exact ⟨P.length + j, by omega, by omega, by rw [e, el_mid hj, el_eq hj, hje]⟩
  srt := fun i j h1 h2 h3 => by
    have hC := hp.length_eq
    have e1 := el_mid (P := P) (A := C) (R := R) (i := i - P.length) (by omega)
    have e2 := el_mid (P := P) (A := C) (R := R) (i := j - P.length) (by omega)
    rw [show P.length + (i - P.length) = i by omega] at e1
    rw [show P.length + (j - P.length) = j by omega] at e2
    rw [e1, e2, el_eq (by omega), el_eq (by omega)]
    exact List.pairwise_iff_getElem.1 hs _ _ _ _ (by omega)
theorem SI.pair {P A R : List TT} {a b : Nat} (h : SI (P ++ (A ++ R)) a b) (ha : a ≤ P.length) (hb : P.length + A.length ≤ b) : A.Pairwise lx :=
  List.pairwise_iff_getElem.2 fun i j hi hj hij => by
    have := h (P.length + i) (P.length + j) (by omega) (by omega) (by omega)
    rwa [el_mid hi, el_mid hj, el_eq hi, el_eq hj] at this

/-! ### putting one in -/
/-- While x goes down: S1 ahead of it is sorted, S2 behind it is sorted and later. -/
structure Ins (P S1 : List TT) (x : TT) (S2 R : List TT) : Prop where
  s1 : S1.Pairwise lx
  s2 : S2.Pairwise lx
  cross : ∀ y ∈ S1, ∀ z ∈ S2, lx y z
  late : ∀ z ∈ S2, lx x z
theorem Ins.done {P S1 S2 R : List TT} {x : TT} (h : Ins P S1 x S2 R) (he : ∀ y ∈ S1, lx y x) : (S1 ++ x :: S2).Pairwise lx := by
  rw [List.pairwise_append]
  refine ⟨h.s1, List.pairwise_cons.2 ⟨h.late, h.s2⟩, fun y hy z hz => ?_⟩
  rcases List.mem_cons.1 hz with rfl | hz
  · exact he y hy
  · exact h.cross y hy z hz
theorem Ins.step {P S1 S2 R : List TT} {x y : TT} (h : Ins P (S1 ++ [y]) x S2 R) (hxy : lx x y) : Ins P S1 x (y :: S2) R where
  s1 := (List.pairwise_append.1 h.s1).1
  s2 := List.pairwise_cons.2 ⟨fun z hz => h.cross y (by simp) z hz, h.s2⟩
  cross := fun a ha z hz => by
    rcases List.mem_cons.1 hz with rfl | hz
    · exact (List.pairwise_append.1 h.s1).2.2 a ha z (by simp)
    · exact h.cross a (by simp [ha]) z hz
  late := fun z hz => by
    rcases List.mem_cons.1 hz with rfl | hz
    · exact hxy
    · exact h.late z hz
theorem Ins.stop {P S1 S2 R : List TT} {x y : TT} (h : Ins P (S1 ++ [y]) x S2 R) (hyx : lx y x) : ∀ z ∈ S1 ++ [y], lx z x := fun z hz => by
  rcases List.mem_append.1 hz with hz | hz
  · exact lx_trans ((List.pairwise_append.1 h.s1).2.2 z hz y (by simp)) hyx
  · simp at hz; subst hz; exact hyx
/-- Two that stand side by side change places. -/
theorem set_adj {P S1 S2 : List TT} {x y : TT} {j : Nat} (hj : j = P.length + S1.length) : ((P ++ (S1 ++ y :: x :: S2)).set (j + 1) y).set j x = P ++ (S1 ++ x :: y :: S2) := by
  subst hj
  rw [← List.append_assoc, ← List.append_assoc, List.set_append_right _ _ (by simp), List.set_append_right _ _ (by simp)]
  simp
theorem set_adj2 {P S1 S2 : List TT} {x y : TT} {j : Nat} (hj : j = P.length + S1.length) : ((P ++ (S1 ++ y :: x :: S2)).set j x).set (j + 1) y = P ++ (S1 ++ x :: y :: S2) := by
  rw [List.set_comm _ _ (by omega)]; exact set_adj hj
theorem el_adj {P S1 S2 : List TT} {x : TT} {j : Nat} (hj : j = P.length + S1.length) : el (P ++ (S1 ++ x :: S2)) j = x := by
  subst hj
  rw [← List.append_assoc, el_app2 (by simp), List.length_append, Nat.sub_self]; rfl

/-! ### two that are exchanged -/
theorem swap_at {P X M Y Q : List TT} {x y : TT} {i j : Nat} (hi : i = P.length) (hj : j = P.length + 1 + M.length) : (((P ++ x :: (M ++ y :: Q)).set i y).set j x) = P ++ y :: (M ++ x :: Q) := by
  subst hi hj
  rw [List.set_append_right _ _ (Nat.le_refl _), Nat.sub_self, List.set_cons_zero, List.set_append_right _ _ (by omega), show P.length + 1 + M.length - P.length = M.length + 1 by omega, List.set_cons_succ, List.set_append_right _ _ (Nat.le_refl _), Nat.sub_self, List.set_cons_zero]
/-- The ranges X and Y, of which the first k are exchanged. -/
def exch (P X M Y Q : List TT) (k : Nat) : List TT := P ++ (Y.take k ++ (X.drop k ++ (M ++ (X.take k ++ (Y.drop k ++ Q)))))
theorem exch_zero (P X M Y Q : List TT) : exch P X M Y Q 0 = P ++ (X ++ (M ++ (Y ++ Q))) := by simp [exch]
theorem exch_all {P X M Y Q : List TT} {k : Nat} (hx : X.length = k) (hy : Y.length = k) : exch P X M Y Q k = P ++ (Y ++ (M ++ (X ++ Q))) := by
  unfold exch; rw [List.take_of_length_le (by omega), List.take_of_length_le (by omega), List.drop_of_length_le (by omega), List.drop_of_length_le (by omega)]; simp
theorem exch_len {P X M Y Q : List TT} {k : Nat} (hxy : X.length = Y.length) : (exch P X M Y Q k).length = P.length + X.length + M.length + Y.length + Q.length := by simp [exch]; omega
theorem exch_split {P X M Y Q : List TT} {k : Nat} (hk : k < X.length) (hxy : X.length = Y.length) : exch P X M Y Q k = (P ++ Y.take k) ++ X[k] :: ((X.drop (k + 1) ++ (M ++ X.take k)) ++ Y[k] :: (Y.drop (k + 1) ++ Q)) := by
  unfold exch
  rw [List.drop_eq_getElem_cons hk, List.drop_eq_getElem_cons (show k < Y.length by omega)]
  simp only [List.append_assoc, List.cons_append]
theorem exch_el1 {P X M Y Q : List TT} {k i : Nat} (hk : k < X.length) (hxy : X.length = Y.length) (hi : i = P.length + k) : el (exch P X M Y Q k) i = X[k] := by
  rw [exch_split hk hxy, el_app2 (by simp; omega)]
  rw [show i - (P ++ Y.take k).length = 0 by simp; omega]; rfl
theorem exch_el2 {P X M Y Q : List TT} {k j : Nat} (hk : k < X.length) (hxy : X.length = Y.length) (hj : j = P.length + X.length + M.length + k) : el (exch P X M Y Q k) j = Y[k]'(by omega) := by
  rw [exch_split hk hxy, el_app2 (by simp; omega)]
  rw [show j - (P ++ Y.take k).length = (X.drop (k + 1) ++ (M ++ X.take k)).length + 1 by simp; omega]
  show el ((X.drop (k + 1) ++ (M ++ X.take k)) ++ Y[k] :: (Y.drop (k + 1) ++ Q)) _ = _
  rw [el_app2 (Nat.le_refl _), Nat.sub_self]; rfl
theorem exch_next {P X M Y Q : List TT} {k i j : Nat} (hk : k < X.length) (hxy : X.length = Y.length) (hi : i = P.length + k) (hj : j = P.length + X.length + M.length + k) :
    ((exch P X M Y Q k).set i (Y[k]'(by omega))).set j X[k] = exch P X M Y Q (k + 1) := by
  rw [exch_split hk hxy]
  have := swap_at (P := P ++ Y.take k) (X := []) (M := X.drop (k + 1) ++ (M ++ X.take k)) (Y := []) (Q := Y.drop (k + 1) ++ Q) (x := X[k]) (y := Y[k]'(by omega)) (i := i) (j := j) (by simp; omega) (by simp; omega)
  rw [this]
  unfold exch
  rw [List.take_succ_eq_append_getElem hk, List.take_succ_eq_append_getElem (show k < Y.length by omega)]
  simp only [List.append_assoc, List.cons_append, List.nil_append]

/-! ### two sorted ranges -/
structure Mrg (l : List TT) (a m b : Nat) : Prop where
  am : a < m
  mb : m < b
  bl : b ≤ l.length
  s1 : SI l a m
  s2 : SI l m b
  tag : ∀ i j, a ≤ i → i < m → m ≤ j → j < b → (el l i).2 < (el l j).2
/-- What is known of the split while it is looked for. -/
structure Half (l : List TT) (s0 r0 p s r : Nat) : Prop where
  lo : s0 ≤ s
  mid : s ≤ r
  hi : r ≤ r0
  left : ∀ c, s0 ≤ c → c < s → lx (el l c) (el l (p - c))
  right : ∀ c, r ≤ c → c < r0 → lx (el l (p - c)) (el l c)
theorem Half.start {l : List TT} {s0 r0 p : Nat} (h : s0 ≤ r0) : Half l s0 r0 p s0 r0 := ⟨Nat.le_refl _, h, Nat.le_refl _, fun c h1 h2 => by omega, fun c h1 h2 => by omega⟩
theorem Half.up {l : List TT} {a m b s0 r0 p s r c : Nat} (hM : Mrg l a m b) (h : Half l s0 r0 p s r) (h1 : s ≤ c) (h2 : c < r) (hs0 : a ≤ s0) (hr0 : r0 ≤ m) (hp : ∀ c, s0 ≤ c → c < r0 → m ≤ p - c ∧ p - c < b ∧ c ≤ p) (hc : lx (el l c) (el l (p - c))) : Half l s0 r0 p (c + 1) r := by
  have := h.lo; have := h.hi
  refine ⟨by omega, by omega, h.hi, fun x hx hxc => ?_, h.right⟩
  have px := hp x hx (by omega)
  have pc := hp c (by omega) (by omega)
  rcases Nat.lt_or_ge x c with hlt | hge
  · exact lx_trans (hM.s1 x c (by omega) hlt (by omega)) (lx_trans hc (hM.s2 (p - c) (p - x) (by omega) (by omega) (by omega)))
  · obtain rfl : x = c := by omega
    exact hc
theorem Half.down {l : List TT} {a m b s0 r0 p s r c : Nat} (hM : Mrg l a m b) (h : Half l s0 r0 p s r) (h1 : s ≤ c) (h2 : c < r) (hs0 : a ≤ s0) (hr0 : r0 ≤ m) (hp : ∀ c, s0 ≤ c → c < r0 → m ≤ p - c ∧ p - c < b ∧ c ≤ p) (hc : lx (el l (p - c)) (el l c)) : Half l s0 r0 p s c := by
  have := h.lo; have := h.hi
  refine ⟨h.lo, by omega, by omega, h.left, fun x hx hxr => ?_⟩
  have px := hp x (by omega) hxr
  have pc := hp c (by omega) (by omega)
  rcases Nat.lt_or_ge c x with hlt | hge
  · exact lx_trans (hM.s2 (p - x) (p - c) (by omega) (by omega) (by omega)) (lx_trans hc (hM.s1 c x (by omega) hlt (by omega)))
  · obtain rfl : x = c := by omega
    exact hc
/-- What turning a part about its middle makes. -/
structure Rot (l l' : List TT) (a m b : Nat) : Prop where
  len : l'.length = l.length
  perm : l'.Perm l
  out : ∀ i, i < a ∨ b ≤ i → el l' i = el l i
  fst : ∀ i, a ≤ i → i < a + (b - m) → el l' i = el l (i + (m - a))
  snd : ∀ i, a + (b - m) ≤ i → i < b → el l' i = el l (i - (b - m))
theorem Rot.of_split {P X Y Q : List TT} : Rot (P ++ (X ++ (Y ++ Q))) (P ++ (Y ++ (X ++ Q))) P.length (P.length + X.length) (P.length + X.length + Y.length) where
  len := by simp; omega
  perm := List.Perm.append_left P (by rw [← List.append_assoc, ← List.append_assoc]; exact List.perm_append_comm.append_right Q)
  out := fun i hi => by
    rcases hi with hi | hi
    · rw [el_app1 hi, el_app1 hi]
    · rw [el_app2 (by omega), el_app2 (by omega), el_app2 (by omega), el_app2 (by omega), el_app2 (by omega), el_app2 (by omega), show i - P.length - X.length - Y.length = i - P.length - Y.length - X.length by omega]
  fst := fun i h1 h2 => by
    rw [el_app2 h1, el_app1 (by omega), el_app2 (by omega), el_app2 (by omega), el_app1 (by omega)]; congr 1; omega
  snd := fun i h1 h2 => by
    rw [el_app2 (by omega), el_app2 (by omega), el_app1 (by omega), el_app2 (by omega), el_app1 (by omega)]; congr 1; omega
theorem Rot.none {l : List TT} {a m b : Nat} (h : a = m ∨ m = b) (hm : a ≤ m ∧ m ≤ b) : Rot l l a m b :=
  ⟨rfl, List.Perm.refl _, fun _ _ => rfl, fun i h1 h2 => by rcases h with rfl | rfl <;> congr 1 <;> omega, fun i h1 h2 => by rcases h with rfl | rfl <;> congr 1 <;> omega⟩
/-- Behind the turn: each of the lower half comes ahead of each of the upper half. -/
structure Halves (l : List TT) (a mid b st en : Nat) : Prop where
  cross : ∀ i j, a ≤ i → i < mid → mid ≤ j → j < b → lx (el l i) (el l j)
  s1 : SI l a st
  s2 : SI l st mid
  s3 : SI l mid en
  s4 : SI l en b
  t1 : ∀ i j, a ≤ i → i < st → st ≤ j → j < mid → (el l i).2 < (el l j).2
  t2 : ∀ i j, mid ≤ i → i < en → en ≤ j → j < b → (el l i).2 < (el l j).2
theorem halves {l l1 : List TT} {a m b s0 r0 mid st : Nat} (hM : Mrg l a m b) (hH : Half l s0 r0 (mid + m - 1) st st) (hR : Rot l l1 st m (mid + m - st)) (hmid : a < mid ∧ mid < b) (h2m : 2 * mid ≤ a + b)
    (hc : (mid < m ∧ s0 = mid + m - b ∧ r0 = mid ∧ b ≤ mid + m) ∨ (m ≤ mid ∧ s0 = a ∧ r0 = m)) (ha0 : a ≤ s0) : Halves l1 a mid b st (mid + m - st) := by
  have h1 := hH.lo; have h2 := hH.hi; have hbl := hM.bl; have ham := hM.am; have hmb := hM.mb
  have hst : st ≤ m ∧ st ≤ mid := by rcases hc with hc | hc <;> omega
  have hen : m ≤ mid + m - st ∧ mid + m - st ≤ b := by rcases hc with hc | hc <;> omega
  have e1 : ∀ i, i < st → el l1 i = el l i := fun i hi => hR.out i (.inl hi)
  have e2 : ∀ i, st ≤ i → i < mid → el l1 i = el l (i + (m - st)) := fun i h h' => hR.fst i h (by omega)
  have e3 : ∀ i, mid ≤ i → i < mid + m - st → el l1 i = el l (i - (mid - st)) := fun i h h' => by have := hR.snd i (by omega) h'; rw [this]; congr 1; omega
  have e4 : ∀ i, mid + m - st ≤ i → el l1 i = el l i := fun i hi => hR.out i (.inr hi)
  -- the two facts that the search has found
  have f1 : s0 < st → st - 1 < m ∧ lx (el l (st - 1)) (el l (mid + m - st)) := fun h => by
    have := hH.left (st - 1) (by omega) (by omega)
    rw [show mid + m - 1 - (st - 1) = mid + m - st by omega] at this
    exact ⟨by omega, this⟩
  have f2 : st < r0 → lx (el l (mid + m - 1 - st)) (el l st) := fun h => hH.right st (Nat.le_refl _) h
  have le1 : ∀ i, a ≤ i → i < st → st - 1 < m → el l i = el l (st - 1) ∨ lx (el l i) (el l (st - 1)) := fun i hi hs hm => by
    rcases Nat.lt_or_ge i (st - 1) with h | h
    · exact .inr (hM.s1 i (st - 1) hi h hm)
    · exact .inl (by congr 1; omega)
  have comb : ∀ {x y z w : TT}, (x = y ∨ lx x y) → lx y z → (z = w ∨ lx z w) → lx x w := fun h1 h2 h3 => by
    rcases h1 with rfl | h1
    · rcases h3 with rfl | h3
      · exact h2
      · exact lx_trans h2 h3
    · rcases h3 with rfl | h3
      · exact lx_trans h1 h2
      · exact lx_trans h1 (lx_trans h2 h3)
  refine ⟨fun i j hi him hmj hjb => ?_, fun i j hi hij hj => ?_, fun i j hi hij hj => ?_, fun i j hi hij hj => ?_, fun i j hi hij hj => ?_, fun i j hi hij h3 h4 => ?_, fun i j hi hij h3 h4 => ?_⟩
  · rcases Nat.lt_or_ge i st with hi1 | hi1
    · rw [e1 i hi1]
      rcases Nat.lt_or_ge j (mid + m - st) with hj1 | hj1
      · rw [e3 j hmj hj1]; exact hM.s1 _ _ hi (by omega) (by omega)
      · rw [e4 j hj1]
        have hs : s0 < st := by rcases hc with hc | hc <;> omega
        obtain ⟨q1, q2⟩ := f1 hs
        refine comb (le1 i hi hi1 q1) q2 ?_
        rcases Nat.lt_or_ge (mid + m - st) j with h | h
        · exact .inr (hM.s2 _ _ (by omega) h hjb)
        · exact .inl (by congr 1; omega)
    · rw [e2 i hi1 him]
      rcases Nat.lt_or_ge j (mid + m - st) with hj1 | hj1
      · rw [e3 j hmj hj1]
        have hs : st < r0 := by rcases hc with hc | hc <;> omega
        refine comb ?_ (f2 hs) ?_
        · rcases Nat.lt_or_ge (i + (m - st)) (mid + m - 1 - st) with h | h
          · exact .inr (hM.s2 _ _ (by omega) h (by omega))
          · exact .inl (by congr 1; omega)
        · rcases Nat.lt_or_ge st (j - (mid - st)) with h | h
          · exact .inr (hM.s1 _ _ (by omega) h (by omega))
          · exact .inl (by congr 1; omega)
      · rw [e4 j hj1]; exact hM.s2 _ _ (by omega) (by omega) hjb
  · rw [e1 i (by omega), e1 j hj]; exact hM.s1 i j hi hij (by omega)
  · rw [e2 i hi (by omega), e2 j (by omega) hj]; exact hM.s2 _ _ (by omega) (by omega) (by omega)
  · rw [e3 i hi (by omega), e3 j (by omega) hj]; exact hM.s1 _ _ (by omega) (by omega) (by omega)
  · rw [e4 i hi, e4 j (by omega)]; exact hM.s2 _ _ (by omega) hij hj
  · rw [e1 i hij, e2 j h3 h4]; exact hM.tag _ _ hi (by omega) (by omega) (by omega)
  · rw [e3 i hi hij, e4 j h3]
    have := hM.tag (i - (mid - st)) j (by omega) (by omega) (by omega) h4
    omega
theorem Halves.done {l l1 l2 l3 : List TT} {a m b mid st en : Nat} (hp : l1.Perm l) (hl : l1.length = l.length) (ho : ∀ i, i < a ∨ b ≤ i → el l1 i = el l i) (hmem : ∀ i, a ≤ i → i < b → ∃ j, a ≤ j ∧ j < b ∧ el l1 i = el l j) (hH : Halves l1 a mid b st en) (hmid : a < mid ∧ mid < b) (h2 : Srt l1 l2 a mid) (h3 : Srt l2 l3 mid b) : Srt l l3 a b where
  len := by rw [h3.len, h2.len, hl]
  perm := (h3.perm.trans h2.perm).trans hp
  out := fun i hi => by rw [h3.out i (by omega), h2.out i (by omega), ho i hi]
  mem := fun i h4 h5 => by
    rcases Nat.lt_or_ge i mid with h | h
    · rw [h3.out i (.inl h)]
      obtain ⟨j, q1, q2, q3⟩ := h2.mem i h4 h
      obtain ⟨k, r1, r2, r3⟩ := hmem j q1 (by omega)
      exact ⟨k, r1, r2, by rw [q3, r3]⟩
    · obtain ⟨j, q1, q2, q3⟩ := h3.mem i h h5
      rw [q3, h2.out j (.inr q1)]
      obtain ⟨k, r1, r2, r3⟩ := hmem j (by omega) q2
      exact ⟨k, r1, r2, r3⟩
  srt := fun i j h4 hij h5 => by
    rcases Nat.lt_or_ge j mid with hj | hj
    · rw [h3.out i (by omega), h3.out j (by omega)]; exact h2.srt i j h4 hij hj
    · rcases Nat.lt_or_ge i mid with hi | hi
      · rw [h3.out i (.inl hi)]
        obtain ⟨i', q1, q2, q3⟩ := h2.mem i h4 hi
        obtain ⟨j', r1, r2, r3⟩ := h3.mem j hj h5
        rw [q3, r3, h2.out j' (.inr r1)]
        exact hH.cross i' j' q1 q2 r1 r2
      · exact h3.srt i j hi hij h5
theorem Rot.mem {l l1 : List TT} {a m b a0 b0 : Nat} (h : Rot l l1 a m b) (hm : a ≤ m ∧ m ≤ b) (h0 : a0 ≤ a ∧ b ≤ b0) : ∀ i, a0 ≤ i → i < b0 → ∃ j, a0 ≤ j ∧ j < b0 ∧ el l1 i = el l j := fun i h1 h2 => by
  by_cases h3 : i < a ∨ b ≤ i
  · exact ⟨i, h1, h2, h.out i h3⟩
  · rcases Nat.lt_or_ge i (a + (b - m)) with h4 | h4
    · exact ⟨i + (m - a), by omega, by omega, h.fst i (by omega) h4⟩
    · exact ⟨i - (b - m), by omega, by omega, h.snd i h4 (by omega)⟩

/-! ### one against many -/
/-- Where one goes in among B, which is sorted. -/
structure Fnd (x : TT) (B : List TT) (i j : Nat) : Prop where
  ij : i ≤ j
  jl : j ≤ B.length
  lo : ∀ c, c < i → lx (el B c) x
  hi : ∀ c, j ≤ c → c < B.length → lx x (el B c)
theorem Fnd.start {x : TT} {B : List TT} : Fnd x B 0 B.length := ⟨Nat.zero_le _, Nat.le_refl _, fun c h => by omega, fun c h1 h2 => by omega⟩
theorem el_pair {B : List TT} (hB : B.Pairwise lx) {i j : Nat} (hij : i < j) (hj : j < B.length) : lx (el B i) (el B j) := by
  rw [el_eq (by omega), el_eq hj]; exact List.pairwise_iff_getElem.1 hB i j (by omega) hj hij
theorem Fnd.up {x : TT} {B : List TT} {i j c : Nat} (h : Fnd x B i j) (hB : B.Pairwise lx) (h1 : i ≤ c) (h2 : c < j) (hc : lx (el B c) x) : Fnd x B (c + 1) j := by
  have := h.jl
  refine ⟨by omega, h.jl, fun k hk => ?_, h.hi⟩
  rcases Nat.lt_or_ge k c with hlt | hge
  · exact lx_trans (el_pair hB hlt (by omega)) hc
  · obtain rfl : k = c := by omega
    exact hc
theorem Fnd.down {x : TT} {B : List TT} {i j c : Nat} (h : Fnd x B i j) (hB : B.Pairwise lx) (h1 : i ≤ c) (h2 : c < j) (hc : lx x (el B c)) : Fnd x B i c := by
  have := h.jl
  refine ⟨by omega, by omega, h.lo, fun k hk hkl => ?_⟩
  rcases Nat.lt_or_ge c k with hlt | hge
  · exact lx_trans hc (el_pair hB hlt hkl)
  · obtain rfl : k = c := by omega
    exact hc
theorem Fnd.put {x : TT} {B : List TT} {q : Nat} (h : Fnd x B q q) (hB : B.Pairwise lx) : (B.take q ++ x :: B.drop q).Pairwise lx := by
  rw [← List.take_append_drop q B, List.pairwise_append] at hB
  rw [List.pairwise_append, List.pairwise_cons]
  have hq := h.jl
  have lo : ∀ y ∈ B.take q, lx y x := fun y hy => by
    obtain ⟨c, hc, rfl⟩ := List.mem_iff_getElem.1 hy
    have hc' : c < q := by simp at hc; omega
    have := h.lo c hc'
    rw [el_eq (by omega)] at this
    rwa [List.getElem_take]
  have hi : ∀ y ∈ B.drop q, lx x y := fun y hy => by
    obtain ⟨c, hc, rfl⟩ := List.mem_iff_getElem.1 hy
    have hc' : q + c < B.length := by simp at hc; omega
    have := h.hi (q + c) (by omega) hc'
    rw [el_eq hc'] at this
    rwa [List.getElem_drop]
  refine ⟨hB.1, ⟨hi, hB.2.1⟩, fun y hy z hz => ?_⟩
  rcases List.mem_cons.1 hz with rfl | hz
  · exact lo y hy
  · exact hB.2.2 y hy z hz
theorem put_perm (x : TT) (B : List TT) (q : Nat) : (B.take q ++ x :: B.drop q).Perm (x :: B) := by
  have := List.perm_middle (a := x) (l₁ := B.take q) (l₂ := B.drop q)
  rwa [List.take_append_drop] at this
theorem put_perm' (x : TT) (B : List TT) (q : Nat) : (B.take q ++ x :: B.drop q).Perm (B ++ [x]) := (put_perm x B q).trans (List.perm_append_singleton x B).symm

/-! ### blocks -/
theorem Mrg.split {l : List TT} {a m b : Nat} (h : Mrg l a m b) : ∃ P A B R, l = P ++ (A ++ (B ++ R)) ∧ P.length = a ∧ A.length = m - a ∧ B.length = b - m ∧ A.Pairwise lx ∧ B.Pairwise lx ∧ ∀ x ∈ A, ∀ y ∈ B, x.2 < y.2 := by
  have h1 := h.am; have h2 := h.mb; have h3 := h.bl
  obtain ⟨P, A, R1, rfl, hP, hA, hR1⟩ := cut3 l (a := a) (b := m) (by omega) (by omega)
  obtain ⟨Z, B, R, rfl, hZ, hB, hR⟩ := cut3 R1 (a := 0) (b := b - m) (by omega) (by omega)
  obtain rfl : Z = [] := List.eq_nil_of_length_eq_zero hZ
  simp only [List.nil_append] at h ⊢
  refine ⟨P, A, B, R, rfl, hP, hA, by omega, h.s1.pair (by omega) (by omega), ?_, fun x hx y hy => ?_⟩
  · have := h.s2
    rw [← List.append_assoc] at this
    exact SI.pair this (by simp; omega) (by simp; omega)
  · obtain ⟨i, hi, rfl⟩ := List.mem_iff_getElem.1 hx
    obtain ⟨j, hj, rfl⟩ := List.mem_iff_getElem.1 hy
    have := h.tag (a + i) (m + j) (by omega) (by omega) (by omega) (by omega)
    rw [← hP, el_mid hi, ← List.append_assoc, show m + j = (P ++ A).length + j by simp; omega, el_mid hj, el_eq hi, el_eq hj] at this
    exact this
theorem SI.of_out {l l' : List TT} {a b a' b' : Nat} (h : Srt l l' a b) (hs : SI l a' b') (hd : b' ≤ a ∨ b ≤ a') : SI l' a' b' := fun i j h1 h2 h3 => by
  rw [h.out i (by omega), h.out j (by omega)]; exact hs i j h1 h2 h3
/-- Blocks of s, q of which are sorted; what lies behind a block's end has greater tags. -/
structure Stp (l0 l : List TT) (s q : Nat) : Prop where
  len : l.length = l0.length
  perm : l.Perm l0
  srt : ∀ c, c < q → SI l (c * s) ((c + 1) * s)
  tag : ∀ c i j, i < c * s → c * s ≤ j → j < l.length → (el l i).2 < (el l j).2
structure Blk (l0 l : List TT) (s : Nat) : Prop where
  len : l.length = l0.length
  perm : l.Perm l0
  srt : ∀ c, SI l (c * s) (min ((c + 1) * s) l.length)
  tag : ∀ c i j, i < c * s → c * s ≤ j → j < l.length → (el l i).2 < (el l j).2
theorem mul_le {c q s : Nat} (h : c ≤ q) : c * s ≤ q * s := Nat.mul_le_mul_right s h
theorem succ_mul' (q s : Nat) : (q + 1) * s = q * s + s := Nat.succ_mul q s
/-- Tags stay apart at a block's ends, when one is sorted. -/
theorem keep_tag {l l' : List TT} {a b e : Nat} (h : Srt l l' a b) (hb : b ≤ l.length) (he : e ≤ a ∨ b ≤ e) (ht : ∀ i j, i < e → e ≤ j → j < l.length → (el l i).2 < (el l j).2) : ∀ i j, i < e → e ≤ j → j < l'.length → (el l' i).2 < (el l' j).2 := fun i j hi hij hj => by
  rw [h.len] at hj
  have key : ∀ k, k < l.length → ∃ k', k' < l.length ∧ (k < e → k' < e) ∧ (e ≤ k → e ≤ k') ∧ el l' k = el l k' := fun k hk => by
    by_cases hk' : k < a ∨ b ≤ k
    · exact ⟨k, hk, id, id, h.out k hk'⟩
    · obtain ⟨j, q1, q2, q3⟩ := h.mem k (by omega) (by omega)
      exact ⟨j, by omega, by omega, by omega, q3⟩
  obtain ⟨i', a1, a2, a3, a4⟩ := key i (by omega)
  obtain ⟨j', b1, b2, b3, b4⟩ := key j hj
  rw [a4, b4]
  exact ht i' j' (a2 hi) (b3 hij) b1
theorem ends {c q s : Nat} : c * s ≤ q * s ∨ q * s + s ≤ c * s := by
  rcases Nat.lt_or_ge q c with h | h
  · exact .inr (by rw [← succ_mul']; exact mul_le h)
  · exact .inl (mul_le h)
theorem Stp.next {l0 l l' : List TT} {s q : Nat} (h : Stp l0 l s q) (hs : Srt l l' (q * s) (q * s + s)) (hb : q * s + s ≤ l.length) : Stp l0 l' s (q + 1) where
  len := by rw [hs.len, h.len]
  perm := hs.perm.trans h.perm
  srt := fun c hc => by
    rcases Nat.lt_or_ge c q with h1 | h1
    · exact (h.srt c h1).of_out hs (.inl (mul_le h1))
    · obtain rfl : c = q := by omega
      rw [succ_mul']; exact hs.srt
  tag := fun c => keep_tag hs hb ends (h.tag c)
theorem Stp.last {l0 l l' : List TT} {s q : Nat} (h : Stp l0 l s q) (hs : Srt l l' (q * s) l.length) (hq : q * s ≤ l.length) (hb : l.length < q * s + s) : Blk l0 l' s where
  len := by rw [hs.len, h.len]
  perm := hs.perm.trans h.perm
  srt := fun c => by
    rcases Nat.lt_trichotomy c q with h1 | h1 | h1
    · exact ((h.srt c h1).of_out hs (.inl (mul_le h1))).sub (Nat.le_refl _) (Nat.min_le_left _ _)
    · subst h1; rw [hs.len, succ_mul', Nat.min_eq_right (by omega)]; exact hs.srt
    · have h2 := mul_le (s := s) h1
      rw [succ_mul'] at h2
      rw [hs.len]
      intro i j i1 i2 i3
      have := Nat.lt_of_lt_of_le i3 (Nat.min_le_right _ _)
      omega
  tag := fun c => keep_tag hs (Nat.le_refl _) (by
    rcases ends (c := c) (q := q) (s := s) with h1 | h1
    · exact .inl h1
    · exact .inr (by omega)) (h.tag c)
/-- While blocks of s are put together to blocks of twice s. -/
structure Twi (l0 l : List TT) (s q : Nat) : Prop where
  stp : Stp l0 l (2 * s) q
  srt : ∀ c, SI l (c * s) (min ((c + 1) * s) l.length)
  tag : ∀ c i j, q * (2 * s) ≤ i → i < c * s → c * s ≤ j → j < l.length → (el l i).2 < (el l j).2
theorem dbl (c s : Nat) : c * (2 * s) = 2 * c * s := by rw [← Nat.mul_assoc, Nat.mul_comm c 2]
theorem dbl1 (c s : Nat) : (2 * c + 1) * s = c * (2 * s) + s := by rw [succ_mul', dbl]
theorem dbl2 (c s : Nat) : (2 * c + 1 + 1) * s = c * (2 * s) + 2 * s := by rw [succ_mul', dbl1]; omega
theorem Blk.twi {l0 l : List TT} {s : Nat} (h : Blk l0 l s) : Twi l0 l s 0 where
  stp := ⟨h.len, h.perm, fun c hc => by omega, fun c i j h1 h2 h3 => h.tag (2 * c) i j (by rw [← dbl]; exact h1) (by rw [← dbl]; exact h2) h3⟩
  srt := h.srt
  tag := fun c i j _ => h.tag c i j
theorem Twi.mrg {l0 l : List TT} {s q b : Nat} (h : Twi l0 l s q) (hs : 0 < s) (hb : b ≤ l.length) (h1 : q * (2 * s) + s < b) (h2 : b ≤ q * (2 * s) + 2 * s) : Mrg l (q * (2 * s)) (q * (2 * s) + s) b where
  am := by omega
  mb := h1
  bl := hb
  s1 := by have := h.srt (2 * q); rw [dbl1, ← dbl, Nat.min_eq_left (by omega)] at this; exact this
  s2 := by have := h.srt (2 * q + 1); rw [dbl1, dbl2] at this; exact this.sub (Nat.le_refl _) (by omega)
  tag := fun i j i1 i2 i3 i4 => h.tag (2 * q + 1) i j i1 (by rw [dbl1]; exact i2) (by rw [dbl1]; exact i3) (by omega)
theorem Twi.next {l0 l l' : List TT} {s q : Nat} (h : Twi l0 l s q) (hs : Srt l l' (q * (2 * s)) (q * (2 * s) + 2 * s)) (hb : q * (2 * s) + 2 * s ≤ l.length) : Twi l0 l' s (q + 1) where
  stp := h.stp.next hs hb
  srt := fun c => by
    rw [hs.len]
    rcases Nat.lt_or_ge c (2 * q) with h1 | h1
    · exact (h.srt c).of_out hs (.inl (Nat.le_trans (Nat.min_le_left _ _) (by rw [dbl]; exact mul_le h1)))
    · rcases Nat.lt_or_ge c (2 * q + 1 + 1) with h2 | h2
      · have a1 : q * (2 * s) ≤ c * s := by rw [dbl]; exact mul_le h1
        have a2 : (c + 1) * s ≤ q * (2 * s) + 2 * s := by rw [← dbl2]; exact mul_le h2
        exact hs.srt.sub a1 (Nat.le_trans (Nat.min_le_left _ _) a2)
      · exact (h.srt c).of_out hs (.inr (by rw [← dbl2]; exact mul_le h2))
  tag := fun c i j i1 i2 i3 i4 => by
    rw [succ_mul'] at i1
    rw [hs.out i (.inr i1), hs.out j (.inr (by omega))]
    exact h.tag c i j (by omega) i2 i3 (by rw [← hs.len]; exact i4)
theorem Twi.rest {l0 l : List TT} {s q : Nat} (h : Twi l0 l s q) (h1 : l.length ≤ q * (2 * s) + s) : SI l (q * (2 * s)) l.length := by
  have := h.srt (2 * q)
  rw [dbl1, ← dbl, Nat.min_eq_right h1] at this
  exact this
theorem Blk.all {l0 l : List TT} {s : Nat} (h : Blk l0 l s) (hs : l.length ≤ s) : SI l 0 l.length := by
  have := h.srt 0
  rwa [Nat.zero_mul, Nat.zero_add, Nat.one_mul, Nat.min_eq_right hs] at this
theorem Stp.begin {l : List TT} {s : Nat} (h : ∀ i j, i < j → j < l.length → (el l i).2 < (el l j).2) : Stp l l s 0 :=
  ⟨rfl, List.Perm.refl _, fun c hc => by omega, fun c i j h1 h2 h3 => h i j (by omega) h3⟩
/-- There is but one sorted list. -/
theorem lx_unique : ∀ {l r : List TT}, l.Perm r → l.Pairwise lx → r.Pairwise lx → l = r
  | [], r, h, _, _ => (List.nil_perm.1 h).symm
  | x :: l, [], h, _, _ => by have := h.length_eq; simp at this
  | x :: l, y :: r, h, h1, h2 => by
    rw [List.pairwise_cons] at h1 h2
    by_cases e : x = y
    · subst e; rw [lx_unique (List.Perm.cons_inv h) h1.2 h2.2]
    · have m1 : x ∈ r := by
        rcases List.mem_cons.1 (h.mem_iff.1 (List.mem_cons_self ..)) with h3 | h3
        · exact absurd h3 e
        · exact h3
      have m2 : y ∈ l := by
        rcases List.mem_cons.1 (h.mem_iff.2 (List.mem_cons_self ..)) with h3 | h3
        · exact absurd h3.symm e
        · exact h3
      exact (lx_asymm (h1.1 y m2) (h2.1 x m1)).elim
theorem SI.all_pair {l : List TT} (h : SI l 0 l.length) : l.Pairwise lx :=
  List.pairwise_iff_getElem.2 fun i j hi hj hij => by have := h i j (Nat.zero_le _) hij hj; rwa [el_eq hi, el_eq hj] at this
end Go.Proofs.Ytbkneamjpiiepaa
