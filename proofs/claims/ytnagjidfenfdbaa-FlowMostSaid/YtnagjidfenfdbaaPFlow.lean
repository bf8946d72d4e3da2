/- Networks: flows, cuts, what is left. Plain laws. -/
import Derived.Test.YtnagjidfenfdbaaFlyOps3

namespace Go.Proofs.Ytnagjidfenfdbaa
open Go Fly
set_option linter.unusedVariables false
set_option linter.unusedSimpArgs false

def arcAt (e : List Arc) (i : Nat) : Arc := e.getD i ⟨0, 0, 0⟩
def flAt (f : List Int) (i : Nat) : Int := f.getD i 0
theorem arcAt_eq {e : List Arc} {i : Nat} (h : i < e.length) : arcAt e i = e[i] := by simp [arcAt, List.getD_eq_getElem?_getD, h]
theorem flAt_eq {f : List Int} {i : Nat} (h : i < f.length) : flAt f i = f[i] := by simp [flAt, List.getD_eq_getElem?_getD, h]
/-- Edges forth and back: twice the number, and one of those that are gone back. -/
def kfrom (e : List Arc) (k : Nat) : Nat := if k % 2 = 0 then (arcAt e (k / 2)).src.toNat else (arcAt e (k / 2)).dst.toNat
def kto (e : List Arc) (k : Nat) : Nat := if k % 2 = 0 then (arcAt e (k / 2)).dst.toNat else (arcAt e (k / 2)).src.toNat
def kleft (e : List Arc) (f : List Int) (k : Nat) : Int := if k % 2 = 0 then (arcAt e (k / 2)).wt - flAt f (k / 2) else flAt f (k / 2)
/-- What flows out of a node, less what flows in. -/
def net : List Arc → List Int → Nat → Int
  | x :: e, y :: f, v => (if x.src.toNat = v then y else 0) - (if x.dst.toNat = v then y else 0) + net e f v
  | _, _, _ => 0
/-- What flows out of a side, less what flows in. -/
def cross (A : Nat → Bool) : List Arc → List Int → Int
  | x :: e, y :: f => (if A x.src.toNat then y else 0) - (if A x.dst.toNat then y else 0) + cross A e f
  | _, _ => 0
/-- The capacity of a side. -/
def capA (A : Nat → Bool) : List Arc → Int
  | x :: e => (if A x.src.toNat && !A x.dst.toNat then x.wt else 0) + capA A e
  | [] => 0
def sumTo (g : Nat → Int) : Nat → Int
  | 0 => 0
  | n + 1 => sumTo g n + g n
theorem sumTo_add (g h : Nat → Int) : ∀ n, sumTo (fun v => g v + h v) n = sumTo g n + sumTo h n
  | 0 => rfl
  | n + 1 => by simp only [sumTo]; rw [sumTo_add g h n]; omega
theorem sumTo_sub (g h : Nat → Int) : ∀ n, sumTo (fun v => g v - h v) n = sumTo g n - sumTo h n
  | 0 => rfl
  | n + 1 => by simp only [sumTo]; rw [sumTo_sub g h n]; omega
theorem sumTo_zero : ∀ n, sumTo (fun _ => 0) n = 0
  | 0 => rfl
  | n + 1 => by simp only [sumTo]; rw [sumTo_zero n]; rfl
theorem sumTo_congr {g h : Nat → Int} : ∀ {n}, (∀ v, v < n → g v = h v) → sumTo g n = sumTo h n
  | 0, _ => rfl
  | n + 1, H => by simp only [sumTo]; rw [sumTo_congr (n := n) fun v hv => H v (by omega), H n (by omega)]
theorem sumTo_one (a : Nat) (y : Int) : ∀ n, sumTo (fun v => if a = v then y else 0) n = if a < n then y else 0
  | 0 => by simp [sumTo]
  | n + 1 => by
    simp only [sumTo]; rw [sumTo_one a y n]
    by_cases h : a = n
    · subst h; simp
    · rw [if_neg h]; by_cases h2 : a < n
      · rw [if_pos h2, if_pos (by omega)]; omega
      · rw [if_neg h2, if_neg (by omega)]; omega
theorem sum_side (A : Nat → Bool) (n : Nat) : ∀ (e : List Arc) (f : List Int), (∀ x ∈ e, x.src.toNat < n ∧ x.dst.toNat < n) → sumTo (fun v => if A v then net e f v else 0) n = cross A e f
  | [], f, _ => by
    have : (fun v => if A v then net [] f v else 0) = fun _ => (0 : Int) := by funext v; simp [net]
    rw [this, sumTo_zero]; simp [cross]
  | x :: e, [], _ => by
    have : (fun v => if A v then net (x :: e) [] v else 0) = fun _ => (0 : Int) := by funext v; simp [net]
    rw [this, sumTo_zero]; simp [cross]
  | x :: e, y :: f, h => by
    have h0 := h x (List.mem_cons_self ..)
    have ih := sum_side A n e f fun z hz => h z (List.mem_cons_of_mem _ hz)
    have e1 : (fun v => if A v then net (x :: e) (y :: f) v else 0) = fun v => ((if x.src.toNat = v then (if A x.src.toNat then y else 0) else 0) - (if x.dst.toNat = v then (if A x.dst.toNat then y else 0) else 0)) + (if A v then net e f v else 0) := by
      funext v
      simp only [net]
      by_cases hs : x.src.toNat = v <;> by_cases hd : x.dst.toNat = v <;> cases hA : A v <;> simp_all
    rw [e1, sumTo_add, sumTo_sub, sumTo_one, sumTo_one, if_pos h0.1, if_pos h0.2, ih]
    simp only [cross]
/-- How far an edge is from being filled, or empty. -/
def slack (A : Nat → Bool) : List Arc → List Int → Int
  | x :: e, y :: f => (if A x.src.toNat then (if A x.dst.toNat then 0 else x.wt - y) else (if A x.dst.toNat then y else 0)) + slack A e f
  | _, _ => 0
theorem slack_eq (A : Nat → Bool) : ∀ (e : List Arc) (f : List Int), e.length = f.length → capA A e - cross A e f = slack A e f
  | [], f, h => by simp [capA, cross, slack]
  | x :: e, [], h => by simp at h
  | x :: e, y :: f, h => by
    have ih := slack_eq A e f (by simpa using h)
    simp only [capA, cross, slack]
    cases A x.src.toNat <;> cases A x.dst.toNat <;> simp <;> omega
structure Fits (e : List Arc) (f : List Int) : Prop where
  len : f.length = e.length
  rng : ∀ i, i < e.length → 0 ≤ flAt f i ∧ flAt f i ≤ (arcAt e i).wt
theorem Fits.tail {x : Arc} {e : List Arc} {y : Int} {f : List Int} (h : Fits (x :: e) (y :: f)) : Fits e f :=
  ⟨by simpa using h.len, fun i hi => by have := h.rng (i + 1) (by simpa using hi); simpa [flAt, arcAt] using this⟩
theorem Fits.head {x : Arc} {e : List Arc} {y : Int} {f : List Int} (h : Fits (x :: e) (y :: f)) : 0 ≤ y ∧ y ≤ x.wt := by
  have := h.rng 0 (by simp); simpa [flAt, arcAt] using this
theorem slack_nn (A : Nat → Bool) : ∀ (e : List Arc) (f : List Int), Fits e f → 0 ≤ slack A e f
  | [], f, _ => by simp [slack]
  | x :: e, [], _ => by simp [slack]
  | x :: e, y :: f, h => by
    have ih := slack_nn A e f h.tail
    have := h.head
    simp only [slack]
    split <;> split <;> omega
/-- Nothing is left that leads out of the side. -/
def Shut (e : List Arc) (f : List Int) (A : Nat → Bool) : Prop := ∀ k, k < 2 * e.length → 0 < kleft e f k → A (kfrom e k) = true → A (kto e k) = true
theorem slack_zero (A : Nat → Bool) : ∀ (e : List Arc) (f : List Int), Fits e f → (slack A e f = 0 ↔ ∀ i, i < e.length → (A (arcAt e i).src.toNat = true → A (arcAt e i).dst.toNat = false → flAt f i = (arcAt e i).wt) ∧ (A (arcAt e i).src.toNat = false → A (arcAt e i).dst.toNat = true → flAt f i = 0))
  | [], f, _ => by simp [slack]
  | x :: e, [], h => by have := h.len; simp at this
  | x :: e, y :: f, h => by
    have ih := slack_zero A e f h.tail
    have nn := slack_nn A e f h.tail
    have hh := h.head
    constructor
    · intro hz i hi
      simp only [slack] at hz
      cases i with
      | zero =>
        have ea : arcAt (x :: e) 0 = x := by simp [arcAt]
        have ef : flAt (y :: f) 0 = y := by simp [flAt]
        rw [ea, ef]
        constructor
        · intro h1 h2; rw [h1, h2] at hz; simp at hz; omega
        · intro h1 h2; rw [h1, h2] at hz; simp at hz; omega
      | succ i =>
        have ea : arcAt (x :: e) (i + 1) = arcAt e i := by simp [arcAt]
        have ef : flAt (y :: f) (i + 1) = flAt f i := by simp [flAt]
        rw [ea, ef]
        refine ih.1 ?_ i (by simpa using hi)
        cases h1 : A x.src.toNat <;> cases h2 : A x.dst.toNat <;> rw [h1, h2] at hz <;> simp at hz <;> omega
    · intro H
      have h0 := H 0 (by simp)
      have ea : arcAt (x :: e) 0 = x := by simp [arcAt]
      have ef : flAt (y :: f) 0 = y := by simp [flAt]
      rw [ea, ef] at h0
      have hr := ih.2 fun i hi => by
        have := H (i + 1) (by simpa using hi)
        simpa [arcAt, flAt] using this
      simp only [slack]
      cases h1 : A x.src.toNat <;> cases h2 : A x.dst.toNat <;> simp [h1, h2] at h0 ⊢ <;> omega
theorem slack_shut {A : Nat → Bool} {e : List Arc} {f : List Int} (h : Fits e f) : slack A e f = 0 ↔ Shut e f A := by
  rw [slack_zero A e f h]
  constructor
  · intro H k hk hl hA
    have hi := H (k / 2) (by omega)
    have hr := h.rng (k / 2) (by omega)
    unfold kleft at hl; unfold kfrom at hA; unfold kto
    split
    · rename_i h2
      rw [if_pos h2] at hl hA
      cases hb : A (arcAt e (k / 2)).dst.toNat with
      | true => rfl
      | false => have := hi.1 hA hb; omega
    · rename_i h2
      rw [if_neg h2] at hl hA
      cases hb : A (arcAt e (k / 2)).src.toNat with
      | true => rfl
      | false => have := hi.2 hb hA; omega
  · intro H i hi
    have hr := h.rng i hi
    have h0 := H (2 * i) (by omega)
    have h1 := H (2 * i + 1) (by omega)
    unfold kleft kfrom kto at h0 h1
    rw [if_pos (by omega), if_pos (by omega), if_pos (by omega), show 2 * i / 2 = i by omega] at h0
    rw [if_neg (by omega), if_neg (by omega), if_neg (by omega), show (2 * i + 1) / 2 = i by omega] at h1
    constructor
    · intro a b
      rcases Int.lt_or_le 0 ((arcAt e i).wt - flAt f i) with hlt | hge
      · rw [h0 hlt a] at b; cases b
      · omega
    · intro a b
      rcases Int.lt_or_le 0 (flAt f i) with hlt | hge
      · rw [h1 hlt b] at a; cases a
      · omega

/-- A flow of a value from s to t. -/
structure Flow (n : Nat) (e : List Arc) (s t : Nat) (f : List Int) (V : Int) : Prop where
  fits : Fits e f
  cons : ∀ v, v < n → net e f v = (if s = v then V else 0) - (if t = v then V else 0)
def NetOk (n : Nat) (e : List Arc) : Prop := ∀ x ∈ e, x.src.toNat < n ∧ x.dst.toNat < n
theorem Flow.side {n : Nat} {e : List Arc} {s t : Nat} {f : List Int} {V : Int} (h : Flow n e s t f V) (he : NetOk n e) {A : Nat → Bool} (hs : s < n) (hA : A s = true) (hB : A t = false) : cross A e f = V := by
  rw [← sum_side A n e f he]
  have : sumTo (fun v => if A v then net e f v else 0) n = sumTo (fun v => if s = v then V else 0) n := sumTo_congr fun v hv => by
    rw [h.cons v hv]
    by_cases h1 : s = v
    · subst h1
      have : t ≠ s := fun e => by subst e; rw [hA] at hB; cases hB
      simp [hA, this]
    · by_cases h2 : t = v
      · subst h2; simp [hB, h1]
      · simp [h1, h2]
  rw [this, sumTo_one, if_pos hs]
/-- No flow is greater than a cut. -/
theorem Flow.le_cut {n : Nat} {e : List Arc} {s t : Nat} {f : List Int} {V : Int} (h : Flow n e s t f V) (he : NetOk n e) {A : Nat → Bool} (hs : s < n) (hA : A s = true) (hB : A t = false) : V ≤ capA A e := by
  have h1 := h.side he hs hA hB
  have h2 := slack_eq A e f h.fits.len.symm
  have h3 := slack_nn A e f h.fits
  omega
theorem Flow.shut {n : Nat} {e : List Arc} {s t : Nat} {f : List Int} {V : Int} (h : Flow n e s t f V) (he : NetOk n e) {A : Nat → Bool} (hs : s < n) (hA : A s = true) (hB : A t = false) : V = capA A e ↔ Shut e f A := by
  have h1 := h.side he hs hA hB
  have h2 := slack_eq A e f h.fits.len.symm
  rw [← slack_shut h.fits]
  omega
/-- What can be reached along what is left. -/
inductive Reach (e : List Arc) (f : List Int) (s : Nat) : Nat → Prop
  | refl : Reach e f s s
  | step {k : Nat} (h : Reach e f s (kfrom e k)) (hk : k < 2 * e.length) (hl : 0 < kleft e f k) : Reach e f s (kto e k)
theorem Reach.within {e : List Arc} {f : List Int} {s v : Nat} (h : Reach e f s v) {A : Nat → Bool} (hs : A s = true) (hA : Shut e f A) : A v = true := by
  induction h with
  | refl => exact hs
  | step _ hk hl ih => exact hA _ hk hl ih
/-- The side of what can be reached. -/
structure Side (n : Nat) (e : List Arc) (s t : Nat) (f : List Int) (A : Nat → Bool) : Prop where
  src : A s = true
  dst : A t = false
  shut : Shut e f A
  reach : ∀ v, v < n → A v = true → Reach e f s v
/-- The least side of the least capacity is the same, whatever the greatest flow is. -/
theorem Side.same {n : Nat} {e : List Arc} {s t : Nat} {f g : List Int} {V W : Int} {A B : Nat → Bool} (he : NetOk n e) (hs : s < n) (hf : Flow n e s t f V) (hg : Flow n e s t g W) (hA : Side n e s t f A) (hB : Side n e s t g B) : V = W ∧ ∀ v, v < n → A v = B v := by
  have a1 := (hf.shut he hs hA.src hA.dst).2 hA.shut
  have b1 := (hg.shut he hs hB.src hB.dst).2 hB.shut
  have a2 := hf.le_cut he hs hB.src hB.dst
  have b2 := hg.le_cut he hs hA.src hA.dst
  have e1 : V = W := by omega
  have c1 := (hf.shut he hs hB.src hB.dst).1 (by omega)
  have c2 := (hg.shut he hs hA.src hA.dst).1 (by omega)
  refine ⟨e1, fun v hv => ?_⟩
  cases h1 : A v with
  | true => exact ((hA.reach v hv h1).within hB.src c1).symm
  | false =>
    cases h2 : B v with
    | true => rw [(hB.reach v hv h2).within hA.src c2] at h1; cases h1
    | false => rfl
/-- A cut with fewer nodes has a greater capacity. -/
theorem Side.least {n : Nat} {e : List Arc} {s t : Nat} {f : List Int} {V : Int} {A B : Nat → Bool} (he : NetOk n e) (hs : s < n) (hf : Flow n e s t f V) (hA : Side n e s t f A) (h1 : B s = true) (h2 : B t = false) {u : Nat} (hu : u < n) (hAu : A u = true) (hBu : B u = false) : V < capA B e := by
  have := hf.le_cut he hs h1 h2
  rcases Int.lt_or_le V (capA B e) with h | h
  · exact h
  · have hB := (hf.shut he hs h1 h2).1 (by omega)
    rw [(hA.reach u hu hAu).within h1 hB] at hBu; cases hBu

/-! ### pushing along a way -/
def fpush (f : List Int) (k : Nat) (d : Int) : List Int := f.set (k / 2) (flAt f (k / 2) + (if k % 2 = 0 then d else -d))
theorem fpush_len (f : List Int) (k : Nat) (d : Int) : (fpush f k d).length = f.length := by simp [fpush]
theorem flAt_push {f : List Int} {k : Nat} {d : Int} (hk : k / 2 < f.length) (i : Nat) : flAt (fpush f k d) i = if k / 2 = i then flAt f (k / 2) + (if k % 2 = 0 then d else -d) else flAt f i := by
  unfold fpush
  unfold flAt
  rw [List.getD_eq_getElem?_getD, List.getElem?_set]
  by_cases h : k / 2 = i
  · rw [if_pos h, if_pos hk, if_pos h]; rfl
  · rw [if_neg h, if_neg h, List.getD_eq_getElem?_getD]
theorem net_set : ∀ {e : List Arc} {f : List Int} {i : Nat} (d : Int) (v : Nat), e.length = f.length → i < f.length →
    net e (f.set i (flAt f i + d)) v = net e f v + ((if (arcAt e i).src.toNat = v then d else 0) - (if (arcAt e i).dst.toNat = v then d else 0))
  | [], [], _, _, _, _, h => by simp at h
  | x :: e, [], _, _, _, h, _ => by simp at h
  | [], y :: f, _, _, _, h, _ => by simp at h
  | x :: e, y :: f, 0, d, v, h, _ => by
    have ea : arcAt (x :: e) 0 = x := by simp [arcAt]
    have ef : flAt (y :: f) 0 = y := by simp [flAt]
    rw [ea, ef]
    simp only [List.set_cons_zero, net]
    split <;> split <;> omega
  | x :: e, y :: f, i + 1, d, v, h, hi => by
    have ea : arcAt (x :: e) (i + 1) = arcAt e i := by simp [arcAt]
    have ef : flAt (y :: f) (i + 1) = flAt f i := by simp [flAt]
    rw [ea, ef]
    have := net_set (e := e) (f := f) (i := i) d v (by simpa using h) (by simpa using hi)
    simp only [List.set_cons_succ, net, this]; omega
theorem net_push {e : List Arc} {f : List Int} {k : Nat} (d : Int) (v : Nat) (h : e.length = f.length) (hk : k < 2 * e.length) : net e (fpush f k d) v = net e f v + ((if kfrom e k = v then d else 0) - (if kto e k = v then d else 0)) := by
  unfold fpush
  rw [net_set _ _ h (by omega)]
  unfold kfrom kto
  by_cases h2 : k % 2 = 0
  · simp only [h2, if_true]
  · simp only [h2, if_false]; split <;> split <;> omega
/-- A way along edges. -/
def Way (e : List Arc) : Nat → Nat → List Nat → Prop
  | u, t, [] => u = t
  | u, t, k :: r => k < 2 * e.length ∧ kfrom e k = u ∧ Way e (kto e k) t r
theorem Way.snoc {e : List Arc} : ∀ {W : List Nat} {u v : Nat} {k : Nat}, Way e u v W → k < 2 * e.length → kfrom e k = v → Way e u (kto e k) (W ++ [k])
  | [], u, v, k, h, hk, hf => by have : u = v := h; subst this; exact ⟨hk, hf, rfl⟩
  | j :: r, u, v, k, ⟨h1, h2, h3⟩, hk, hf => ⟨h1, h2, Way.snoc h3 hk hf⟩
theorem Way.pop {e : List Arc} : ∀ {W : List Nat} {u v : Nat} {k : Nat}, Way e u v (W ++ [k]) → k < 2 * e.length ∧ kto e k = v ∧ Way e u (kfrom e k) W
  | [], u, v, k, ⟨h1, h2, h3⟩ => ⟨h1, h3, h2.symm⟩
  | j :: r, u, v, k, ⟨h1, h2, h3⟩ => let ⟨a, b, c⟩ := Way.pop h3; ⟨a, b, h1, h2, c⟩
theorem Way.split {e : List Arc} : ∀ {W X : List Nat} {u v : Nat}, Way e u v (W ++ X) → ∃ m, Way e u m W ∧ Way e m v X
  | [], X, u, v, h => ⟨u, rfl, h⟩
  | k :: r, X, u, v, ⟨h1, h2, h3⟩ => let ⟨m, a, b⟩ := Way.split h3; ⟨m, ⟨h1, h2, a⟩, b⟩
theorem Way.lt {e : List Arc} : ∀ {W : List Nat} {u v : Nat}, Way e u v W → ∀ k, k ∈ W → k < 2 * e.length
  | [], _, _, _, k, h => by simp at h
  | j :: r, u, v, ⟨h1, _, h3⟩, k, h => by
    rcases List.mem_cons.1 h with rfl | h
    · exact h1
    · exact Way.lt h3 k h
/-- Each edge leads one layer on. -/
def Up (e : List Arc) (L : List Int) (W : List Nat) : Prop := ∀ k, k ∈ W → flAt L (kto e k) = flAt L (kfrom e k) + 1
theorem Way.rise {e : List Arc} {L : List Int} : ∀ {W : List Nat} {u v : Nat}, Way e u v W → Up e L W → ∀ k, k ∈ W → flAt L u ≤ flAt L (kfrom e k)
  | [], _, _, _, _, k, h => by simp at h
  | j :: r, u, v, ⟨h1, h2, h3⟩, hU, k, h => by
    rcases List.mem_cons.1 h with rfl | h
    · rw [h2]; exact Int.le_refl _
    · have := Way.rise h3 (fun i hi => hU i (List.mem_cons_of_mem _ hi)) k h
      have := hU j (List.mem_cons_self ..)
      rw [h2] at this
      omega
theorem half_eq {e : List Arc} {j k : Nat} (h : j / 2 = k / 2) : j = k ∨ (kfrom e j = kto e k ∧ kto e j = kfrom e k) := by
  by_cases hm : j % 2 = k % 2
  · left; omega
  · right
    unfold kfrom kto
    rw [h]
    by_cases h1 : j % 2 = 0
    · rw [if_pos h1, if_neg (by omega), if_pos h1, if_neg (by omega)]; exact ⟨rfl, rfl⟩
    · rw [if_neg h1, if_pos (by omega), if_neg h1, if_pos (by omega)]; exact ⟨rfl, rfl⟩
/-- No edge comes twice. -/
theorem Way.nodup {e : List Arc} {L : List Int} : ∀ {W : List Nat} {u v : Nat}, Way e u v W → Up e L W → (W.map (· / 2)).Nodup
  | [], _, _, _, _ => by simp
  | j :: r, u, v, ⟨h1, h2, h3⟩, hU => by
    rw [List.map_cons, List.nodup_cons]
    have hU' : Up e L r := fun i hi => hU i (List.mem_cons_of_mem _ hi)
    refine ⟨fun hm => ?_, Way.nodup h3 hU'⟩
    obtain ⟨k, hk, hjk⟩ := List.mem_map.1 hm
    have a := Way.rise h3 hU' k hk
    have b := hU j (List.mem_cons_self ..)
    have c := hU k (List.mem_cons_of_mem _ hk)
    rcases half_eq (e := e) hjk with rfl | ⟨d1, d2⟩
    · omega
    · rw [d1, d2] at c; omega
def pushAll (f : List Int) (W : List Nat) (d : Int) : List Int := W.foldl (fun f k => fpush f k d) f
theorem pushAll_len (W : List Nat) (d : Int) : ∀ f, (pushAll f W d).length = f.length := by
  induction W with
  | nil => intro f; rfl
  | cons k r ih => intro f; show (pushAll (fpush f k d) r d).length = _; rw [ih, fpush_len]
theorem pushAll_snoc (f : List Int) (W : List Nat) (k : Nat) (d : Int) : pushAll f (W ++ [k]) d = fpush (pushAll f W d) k d := by simp [pushAll]
theorem net_pushAll {e : List Arc} {d : Int} : ∀ {W : List Nat} {f : List Int} {u t : Nat}, e.length = f.length → Way e u t W → ∀ v, net e (pushAll f W d) v = net e f v + ((if u = v then d else 0) - (if t = v then d else 0))
  | [], f, u, t, h, hw, v => by have : u = t := hw; subst this; simp [pushAll]
  | k :: r, f, u, t, h, ⟨h1, h2, h3⟩, v => by
    show net e (pushAll (fpush f k d) r d) v = _
    rw [net_pushAll (by rw [fpush_len]; exact h) h3 v, net_push d v h h1, h2]; omega
theorem flAt_pushAll {d : Int} : ∀ {W : List Nat} {f : List Int} {i : Nat}, (∀ k, k ∈ W → k / 2 < f.length) → (∀ k, k ∈ W → k / 2 ≠ i) → flAt (pushAll f W d) i = flAt f i
  | [], f, i, _, _ => rfl
  | k :: r, f, i, hl, hn => by
    show flAt (pushAll (fpush f k d) r d) i = _
    rw [flAt_pushAll (fun j hj => by rw [fpush_len]; exact hl j (List.mem_cons_of_mem _ hj)) fun j hj => hn j (List.mem_cons_of_mem _ hj), flAt_push (hl k (List.mem_cons_self ..)), if_neg (hn k (List.mem_cons_self ..))]
theorem kleft_rng {e : List Arc} {f : List Int} (h : Fits e f) {k : Nat} (hk : k < 2 * e.length) : 0 ≤ kleft e f k ∧ kleft e f k ≤ (arcAt e (k / 2)).wt := by
  have := h.rng (k / 2) (by omega)
  unfold kleft; split <;> omega
theorem Fits.push {e : List Arc} {f : List Int} {k : Nat} {d : Int} (h : Fits e f) (hk : k < 2 * e.length) (h0 : 0 ≤ d) (hd : d ≤ kleft e f k) : Fits e (fpush f k d) :=
  ⟨by rw [fpush_len]; exact h.len, fun i hi => by
    rw [flAt_push (by rw [h.len]; omega)]
    have := h.rng i hi
    split
    · rename_i e'; subst e'
      unfold kleft at hd
      by_cases h2 : k % 2 = 0
      · rw [if_pos h2] at hd ⊢; omega
      · rw [if_neg h2] at hd ⊢; omega
    · exact this⟩
theorem kleft_push {e : List Arc} {f : List Int} {j k : Nat} {d : Int} (hk : k / 2 < f.length) (h : j / 2 ≠ k / 2) : kleft e (fpush f k d) j = kleft e f j := by
  have := flAt_push (d := d) hk (j / 2)
  rw [if_neg fun h' => h h'.symm] at this
  unfold kleft; rw [this]
theorem fits_pushAll {e : List Arc} {d : Int} (h0 : 0 ≤ d) : ∀ {W : List Nat} {f : List Int}, Fits e f → (W.map (· / 2)).Nodup → (∀ k, k ∈ W → k < 2 * e.length ∧ d ≤ kleft e f k) → Fits e (pushAll f W d)
  | [], f, h, _, _ => h
  | k :: r, f, h, hn, hk => by
    rw [List.map_cons, List.nodup_cons] at hn
    have hkk := hk k (List.mem_cons_self ..)
    show Fits e (pushAll (fpush f k d) r d)
    exact fits_pushAll h0 (h.push hkk.1 h0 hkk.2) hn.2 fun j hj => ⟨(hk j (List.mem_cons_of_mem _ hj)).1, by
      rw [kleft_push (by rw [h.len]; omega) fun e' => hn.1 (e' ▸ List.mem_map.2 ⟨j, hj, rfl⟩)]
      exact (hk j (List.mem_cons_of_mem _ hj)).2⟩
theorem Flow.push {n : Nat} {e : List Arc} {s t : Nat} {f : List Int} {V d : Int} {W : List Nat} (h : Flow n e s t f V) (h0 : 0 ≤ d) (hw : Way e s t W) (hn : (W.map (· / 2)).Nodup) (hd : ∀ k, k ∈ W → d ≤ kleft e f k) : Flow n e s t (pushAll f W d) (V + d) :=
  ⟨fits_pushAll h0 h.fits hn fun k hk => ⟨hw.lt k hk, hd k hk⟩, fun v hv => by
    rw [net_pushAll h.fits.len.symm hw v, h.cons v hv]
    split <;> split <;> omega⟩
theorem net_zero : ∀ (e : List Arc) (m : Nat) (v : Nat), net e (List.replicate m 0) v = 0
  | [], _, _ => by simp [net]
  | x :: e, 0, _ => by simp [net]
  | x :: e, m + 1, v => by simp only [List.replicate_succ, net]; rw [net_zero e m v]; split <;> split <;> omega
theorem flAt_zero (m i : Nat) : flAt (List.replicate m 0) i = 0 := by
  unfold flAt; rw [List.getD_eq_getElem?_getD, List.getElem?_replicate]; split <;> rfl
theorem Flow.zero {n : Nat} {e : List Arc} {s t : Nat} (hw : ∀ x ∈ e, 0 ≤ x.wt) : Flow n e s t (List.replicate e.length 0) 0 :=
  ⟨⟨by simp, fun i hi => by rw [flAt_zero, arcAt_eq hi]; exact ⟨Int.le_refl _, hw _ (List.getElem_mem hi)⟩⟩, fun v _ => by rw [net_zero]; simp⟩
/-- The greatest value there may be. -/
def capSum : List Arc → Int
  | x :: e => x.wt + capSum e
  | [] => 0
theorem net_le : ∀ (e : List Arc) (f : List Int) (v : Nat), Fits e f → net e f v ≤ capSum e
  | [], f, v, _ => by simp [net, capSum]
  | x :: e, [], v, h => by have := h.len; simp at this
  | x :: e, y :: f, v, h => by
    have := net_le e f v h.tail
    have := h.head
    simp only [net, capSum]
    split <;> split <;> omega
theorem capSum_le (c : Int) : ∀ (e : List Arc), (∀ x ∈ e, x.wt ≤ c) → capSum e ≤ e.length * c
  | [], _ => by simp [capSum]
  | x :: e, h => by
    have := capSum_le c e fun y hy => h y (List.mem_cons_of_mem _ hy)
    have := h x (List.mem_cons_self ..)
    simp only [capSum, List.length_cons]
    rw [show ((e.length + 1 : Nat) : Int) * c = e.length * c + c by rw [Int.natCast_add, Int.add_mul]; simp]; omega
theorem Flow.val_le {n : Nat} {e : List Arc} {s t : Nat} {f : List Int} {V : Int} (h : Flow n e s t f V) (hs : s < n) (hst : s ≠ t) : V ≤ capSum e := by
  have h1 := h.cons s hs
  rw [if_pos rfl, if_neg (fun e => hst e.symm)] at h1
  have := net_le e f s h.fits
  omega
end Go.Proofs.Ytnagjidfenfdbaa
