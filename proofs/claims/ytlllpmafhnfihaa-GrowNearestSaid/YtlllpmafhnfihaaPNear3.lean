/- Searches from both ends; walks that are told. Plain laws. -/
import Derived.Test.YtlllpmafhnfihaaPNear2

namespace Go.Proofs.Ytlllpmafhnfihaa
open Go Fly
set_option linter.unusedVariables false
set_option linter.unusedSimpArgs false

/-- The distance from s to t. -/
structure IsB (e : List Arc) (p : Nat → Bool) (s t : Nat) (x : Int) : Prop where
  le : x ≤ INF
  walk : x < INF → Wk e p s t x
  min : ∀ m, Wk e p s t m → x ≤ m
theorem IsB.unique {e : List Arc} {p : Nat → Bool} {s t : Nat} {x y : Int} (h : IsB e p s t x) (k : IsB e p s t y) : x = y := by
  have key : ∀ {x y : Int}, IsB e p s t x → IsB e p s t y → x ≤ y := fun {x y} h k => by
    by_cases hy : y < INF
    · exact h.min _ (k.walk hy)
    · have := h.le; have := k.le; omega
  have a := key h k
  have b := key k h
  omega
theorem IsD.isB {n : Nat} {e : List Arc} {p : Nat → Bool} {s t : Nat} {d : List Int} (h : IsD n e p s d) (ht : t < n) : IsB e p s t (dg d t) :=
  ⟨(h.rng t ht).2, h.walk t ht, fun m hm => h.le hm⟩
theorem Wk.mono {e : List Arc} {p q : Nat → Bool} {s v : Nat} {m : Int} (hpq : ∀ i, p i = true → q i = true) (h : Wk e p s v m) : Wk e q s v m := by
  induction h with
  | nil => exact .nil
  | step hi hp _ ih => exact .step hi (hpq _ hp) ih

/-- A walk turned about. -/
theorem Wk.rev {e r : List Arc} {p : Nat → Bool} (hl : e.length = r.length) (hr : ∀ i (h : i < e.length) (h' : i < r.length), r[i].src = e[i].dst ∧ r[i].dst = e[i].src ∧ r[i].wt = e[i].wt) {s v : Nat} {m : Int} (h : Wk e p s v m) : Wk r p v s m := by
  induction h with
  | nil => exact .nil
  | @step n i hi hp _ ih =>
    have hi' : i < r.length := by omega
    obtain ⟨a, b, c⟩ := hr i hi hi'
    have h1 := Wk.one (p := p) hi' hp
    rw [a, b, c] at h1
    have := h1.trans ih
    rwa [Int.add_comm] at this
theorem trn_rev (back : Bool) (l : List Arc) : ∀ i (h : i < (l.map (trn back)).length) (h' : i < (l.map (trn (!back))).length), (l.map (trn (!back)))[i].src = (l.map (trn back))[i].dst ∧ (l.map (trn (!back)))[i].dst = (l.map (trn back))[i].src ∧ (l.map (trn (!back)))[i].wt = (l.map (trn back))[i].wt := fun i h h' => by
  rw [List.getElem_map, List.getElem_map]
  cases back <;> exact ⟨rfl, rfl, rfl⟩
theorem Wk.turn {back : Bool} {l : List Arc} {p : Nat → Bool} {s v : Nat} {m : Int} (h : Wk (l.map (trn back)) p s v m) : Wk (l.map (trn (!back))) p v s m :=
  h.rev (by simp) (trn_rev back l)

/-- Both searches, and the best so far. -/
structure Both (n : Nat) (l : List Arc) (p : Nat → Bool) (back : Bool) (s t : Nat) (dx bx : List Int) (Tx : List (Option Int)) (ox : List Nat) (dy by_ : List Int) (Ty : List (Option Int)) (oy : List Nat) (best : Int) : Prop where
  x : SS n (l.map (trn back)) p s dx bx Tx ox (RF (l.map (trn back)) ox)
  y : SS n (l.map (trn (!back))) p t dy by_ Ty oy (RF (l.map (trn (!back))) oy)
  b0 : 0 ≤ best ∧ best ≤ INF
  up : best < INF → Wk (l.map (trn back)) p s t best
  low : ∀ u, u < n → best ≤ dg dx u + dg dy u
variable {n : Nat} {l : List Arc} {p : Nat → Bool} {back : Bool} {s t : Nat} {dx bx : List Int} {Tx : List (Option Int)} {ox : List Nat} {dy by_ : List Int} {Ty : List (Option Int)} {oy : List Nat} {best : Int}
theorem Both.swap (h : Both n l p back s t dx bx Tx ox dy by_ Ty oy best) : Both n l p (!back) t s dy by_ Ty oy dx bx Tx ox best :=
  ⟨h.y, by rw [Bool.not_not]; exact h.x, h.b0, fun hb => (h.up hb).turn, fun u hu => by have := h.low u hu; omega⟩
theorem Both.start (hs : s < n) (ht : t < n) {dx0 bx0 dy0 by0 : List Int} {Tx0 Ty0 : List (Option Int)} (hx : SS n (l.map (trn back)) p s dx0 bx0 Tx0 [] (RF (l.map (trn back)) [])) (hy : SS n (l.map (trn (!back))) p t dy0 by0 Ty0 [] (RF (l.map (trn (!back))) []))
    (ex : ∀ u, u < n → dg dx0 u = if s = u then 0 else INF) (ey : ∀ u, u < n → dg dy0 u = if t = u then 0 else INF) : Both n l p back s t dx0 bx0 Tx0 [] dy0 by0 Ty0 [] (dadd (dg dx0 t) (dg dy0 s)) := by
  have hI : (0 : Int) < INF := by decide
  refine ⟨hx, hy, ?_, fun hb => ?_, fun u hu => ?_⟩
  · rw [ex t ht, ey s hs]; unfold dadd; split <;> split <;> split <;> omega
  · rw [ex t ht, ey s hs] at hb ⊢
    by_cases e : s = t
    · subst e; rw [if_pos rfl] at hb ⊢; exact .nil
    · rw [if_neg e, if_neg (fun h => e h.symm)] at hb; unfold dadd at hb; rw [if_pos (by decide)] at hb; omega
  · rw [ex t ht, ey s hs, ex u hu, ey u hu]; unfold dadd
    split <;> split <;> split <;> split <;> split <;> omega
/-- What a step of one search leaves. -/
theorem Both.step (h : Both n l p back s t dx bx Tx ox dy by_ Ty oy best) {dx' bx' : List Int} {Tx' : List (Option Int)} {v : Nat} {best' : Int} (hv : v < n)
    (hx : SS n (l.map (trn back)) p s dx' bx' Tx' (v :: ox) (RF (l.map (trn back)) (v :: ox))) (hle : ∀ u, dg dx' u ≤ dg dx u)
    (hch : ∀ u, dg dx' u = dg dx u ∨ ∃ (i : Nat) (h : i < (l.map (trn back)).length), (l.map (trn back))[i].src.toNat = v ∧ (l.map (trn back))[i].dst.toNat = u)
    (h1 : best' ≤ best) (h2 : ∀ (i : Nat) (h : i < (l.map (trn back)).length), (l.map (trn back))[i].src.toNat = v → best' ≤ dg dx' (l.map (trn back))[i].dst.toNat + dg dy (l.map (trn back))[i].dst.toNat)
    (h3 : best' = best ∨ ∃ u, u < n ∧ best' = dadd (dg dx' u) (dg dy u)) : Both n l p back s t dx' bx' Tx' (v :: ox) dy by_ Ty oy best' := by
  have hb := h.b0
  refine ⟨hx, h.y, ?_, fun hlt => ?_, fun u hu => ?_⟩
  · rcases h3 with rfl | ⟨u, hu, rfl⟩
    · exact hb
    · have := hx.rng u hu; have := h.y.rng u hu
      unfold dadd; split <;> omega
  · rcases h3 with rfl | ⟨u, hu, rfl⟩
    · exact h.up hlt
    · have a := hx.rng u hu
      have b := h.y.rng u hu
      have e : dadd (dg dx' u) (dg dy u) = dg dx' u + dg dy u := dadd_lt hlt (Int.le_refl _)
      rw [e] at hlt ⊢
      have w2 := (h.y.walk u hu (by omega)).turn
      rw [Bool.not_not] at w2
      exact (hx.walk u hu (by omega)).trans w2
  · rcases hch u with e | ⟨i, hi, e1, rfl⟩
    · rw [e]; have := h.low u hu; omega
    · exact h2 i hi e1
/-- Both have gone far enough. -/
theorem Both.stop (h : Both n l p back s t dx bx Tx ox dy by_ Ty oy best) (hdst : ∀ (b : Bool) i (h : i < (l.map (trn b)).length), (l.map (trn b))[i].dst.toNat < n) (hwt : ∀ (b : Bool), ∀ x ∈ l.map (trn b), 0 ≤ x.wt) (hs : s < n) (ht : t < n) {a b : Int} (ha : a ≤ INF) (hb : b ≤ INF)
    (hTx : ∀ (u : Nat) (x : Int), Tx[u]? = some (some x) → a ≤ x) (hTy : ∀ (u : Nat) (x : Int), Ty[u]? = some (some x) → b ≤ x) (hst : best ≤ dadd a b) : IsB (l.map (trn back)) p s t best := by
  have hab := dadd_le a b
  have key : ∀ {v : Nat} {m : Int}, Wk (l.map (trn back)) p s v m → ∀ q, Wk (l.map (trn (!back))) p t v q → m + q < best → m < a := by
    intro v m hm
    induction hm with
    | nil =>
      intro q hq hlt
      rcases Int.lt_or_le 0 a with h' | h'
      · exact h'
      · have := (h.y.near (hdst _) (hwt _) ht hTy hb hq (by omega)).2
        have := h.low s hs
        have := h.x.zero
        omega
    | @step m' i hi hp hw ih =>
      intro q hq hlt
      have hi' : i < (l.map (trn (!back))).length := by simpa using hi
      obtain ⟨r1, r2, r3⟩ := trn_rev back l i hi hi'
      have hq2 : Wk (l.map (trn (!back))) p t (l.map (trn back))[i].src.toNat (q + (l.map (trn back))[i].wt) := by
        have h1 := Wk.one (p := p) hi' hp
        rw [r1, r2, r3] at h1
        exact hq.trans h1
      have hlt' := ih _ hq2 (by omega)
      obtain ⟨huo, hud⟩ := h.x.near (hdst _) (hwt _) hs hTx ha hw hlt'
      have hrel := h.x.rel i hi hp ⟨hi, huo⟩
      rcases Int.lt_or_le (m' + (l.map (trn back))[i].wt) a with h' | h'
      · exact h'
      · have := (h.y.near (hdst _) (hwt _) ht hTy hb hq (by omega)).2
        have := h.low _ (hdst back i hi)
        omega
  refine ⟨h.b0.2, h.up, fun m hm => ?_⟩
  rcases Int.lt_or_le m best with hlt | hle
  · have h1 := key hm 0 .nil (by omega)
    have h2 := (h.x.near (hdst _) (hwt _) hs hTx ha hm h1).2
    have := h.low t ht
    have := h.y.zero
    omega
  · exact hle
/-- One search is through. -/
theorem Both.over (h : Both n l p back s t dx bx Tx ox dy by_ Ty oy best) (ht : t < n) (hd : IsD n (l.map (trn back)) p s dx) : IsB (l.map (trn back)) p s t best :=
  ⟨h.b0.2, h.up, fun m hm => by have := hd.le hm; have := h.low t ht; have := h.y.zero; omega⟩
theorem IsB.turn {x : Int} (h : IsB (l.map (trn back)) p s t x) : IsB (l.map (trn (!back))) p t s x :=
  ⟨h.le, fun hx => (h.walk hx).turn, fun m hm => h.min m (by have := hm.turn; rwa [Bool.not_not] at this)⟩
end Go.Proofs.Ytlllpmafhnfihaa
