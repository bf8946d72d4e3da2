/- Lists without equals side by side; rising lists. -/
import Derived.Test.YtkmkakpadgljeaaFlyD

namespace Go.Proofs.Ytkmkakpadgljeaa
open Go Fly
set_option linter.unusedVariables false
set_option linter.unusedSectionVars false
set_option linter.unusedSimpArgs false

variable {α : Type} [DecidableEq α]
/-- Of equals that stand side by side the first one. -/
def cpt : List α → List α
  | [] => []
  | [x] => [x]
  | x :: y :: r => if x = y then cpt (y :: r) else x :: cpt (y :: r)
theorem cpt_head : ∀ (x : α) (r : List α), ∃ r', cpt (x :: r) = x :: r'
  | x, [] => ⟨[], rfl⟩
  | x, y :: r => by
    obtain ⟨r', h⟩ := cpt_head y r
    by_cases e : x = y
    · subst e; exact ⟨r', by rw [cpt, if_pos rfl, h]⟩
    · exact ⟨cpt (y :: r), by rw [cpt, if_neg e]⟩
theorem cpt_snoc : ∀ (xs : List α) (z : α), cpt (xs ++ [z]) = if xs.getLast? = some z then cpt xs else cpt xs ++ [z]
  | [], z => by simp [cpt]
  | [x], z => by
    by_cases e : x = z <;> simp [cpt, e]
  | x :: y :: r, z => by
    have ih := cpt_snoc (y :: r) z
    have e1 : (x :: y :: r).getLast? = (y :: r).getLast? := by simp [List.getLast?_cons_cons]
    show cpt (x :: y :: (r ++ [z])) = _
    rw [cpt, e1]
    rw [show y :: (r ++ [z]) = (y :: r) ++ [z] from rfl, ih]
    by_cases e : x = y
    · rw [if_pos e]; rw [show cpt (x :: y :: r) = cpt (y :: r) by rw [cpt, if_pos e]]
    · rw [if_neg e]; rw [show cpt (x :: y :: r) = x :: cpt (y :: r) by rw [cpt, if_neg e]]
      split <;> simp
theorem cpt_len_le : ∀ (l : List α), (cpt l).length ≤ l.length
  | [] => Nat.le_refl _
  | [x] => Nat.le_refl _
  | x :: y :: r => by
    have := cpt_len_le (y :: r)
    simp only [cpt]; split <;> simp only [List.length_cons] at * <;> omega
theorem cpt_mem : ∀ (l : List α) (a : α), a ∈ cpt l ↔ a ∈ l
  | [], a => Iff.rfl
  | [x], a => Iff.rfl
  | x :: y :: r, a => by
    have ih := cpt_mem (y :: r) a
    simp only [cpt]
    split
    · rename_i e; subst e; rw [ih]; simp
    · simp only [List.mem_cons] at ih ⊢; rw [ih]
/-- The next one. -/
theorem cpt_next {l : List α} {j : Nat} (h0 : 0 < j) (hj : j < l.length) : cpt (l.take (j + 1)) = if l[j - 1]'(by omega) = l[j] then cpt (l.take j) else cpt (l.take j) ++ [l[j]] := by
  rw [List.take_succ_eq_append_getElem hj, cpt_snoc]
  have : (l.take j).getLast? = some (l[j - 1]'(by omega)) := by
    rw [List.getLast?_eq_getElem?, List.length_take, Nat.min_eq_left (by omega), List.getElem?_take_of_lt (by omega), List.getElem?_eq_getElem (by omega)]
  rw [this]
  by_cases e : l[j - 1]'(by omega) = l[j] <;> simp [e]
theorem cpt_one {l : List α} (h : 0 < l.length) : cpt (l.take 1) = l.take 1 := by
  cases l with
  | nil => simp at h
  | cons x r => rfl
/-- Of a rising list only one of each is left. -/
theorem cpt_rising {R : α → α → Prop} (ht : ∀ a b c, R a b → R b c → R a c) (hR : ∀ a b, R a b → a ≠ b) : ∀ {l : List α}, l.Pairwise (fun x y => x = y ∨ R x y) → (cpt l).Pairwise R
  | [], _ => List.Pairwise.nil
  | [x], _ => by simp [cpt]
  | x :: y :: r, h => by
    have h' := List.pairwise_cons.1 h
    have ih := cpt_rising ht hR h'.2
    simp only [cpt]
    split
    · exact ih
    · rename_i e
      refine List.pairwise_cons.2 ⟨fun z hz => ?_, ih⟩
      rcases h'.1 z ((cpt_mem _ _).1 hz) with h1 | h1
      · subst h1
        obtain ⟨r', hr'⟩ := cpt_head y r
        rw [hr'] at hz ih
        have h2 := (h'.1 y (List.mem_cons_self ..)).resolve_left e
        rcases List.mem_cons.1 hz with h3 | h3
        · exact absurd h3 e
        · exact absurd rfl (hR _ _ (ht _ _ _ h2 ((List.pairwise_cons.1 ih).1 x h3)))
      · exact h1
/-- Rising lists of the same members are the same. -/
theorem rising_eq {R : α → α → Prop} (ht : ∀ a b c, R a b → R b c → R a c) (hR : ∀ a b, R a b → a ≠ b) : ∀ {l r : List α}, l.Pairwise R → r.Pairwise R → (∀ a, a ∈ l ↔ a ∈ r) → l = r
  | [], [], _, _, _ => rfl
  | [], y :: r, _, _, h => by have := (h y).2 (List.mem_cons_self ..); simp at this
  | x :: l, [], _, _, h => by have := (h x).1 (List.mem_cons_self ..); simp at this
  | x :: l, y :: r, hl, hr, h => by
    rw [List.pairwise_cons] at hl hr
    have e : x = y := by
      rcases List.mem_cons.1 ((h x).1 (List.mem_cons_self ..)) with e | e
      · exact e
      · rcases List.mem_cons.1 ((h y).2 (List.mem_cons_self ..)) with e' | e'
        · exact e'.symm
        · exact absurd rfl (hR _ _ (ht _ _ _ (hl.1 y e') (hr.1 x e)))
    subst e
    congr 1
    refine rising_eq ht hR hl.2 hr.2 fun a => ⟨fun ha => ?_, fun ha => ?_⟩
    · rcases List.mem_cons.1 ((h a).1 (List.mem_cons_of_mem _ ha)) with e | e
      · exact absurd e.symm (hR _ _ (hl.1 a ha))
      · exact e
    · rcases List.mem_cons.1 ((h a).2 (List.mem_cons_of_mem _ ha)) with e | e
      · exact absurd e.symm (hR _ _ (hr.1 a ha))
      · exact e
theorem rising_int {l r : List Int} (hl : l.Pairwise (· < ·)) (hr : r.Pairwise (· < ·)) (h : ∀ a, a ∈ l ↔ a ∈ r) : l = r :=
  rising_eq (R := fun a b : Int => a < b) (fun a b c h1 h2 => Int.lt_trans h1 h2) (fun a b h e => by subst e; exact Int.lt_irrefl _ h) hl hr h
theorem cpt_int {l : List Int} (h : l.Pairwise (· ≤ ·)) : (cpt l).Pairwise (· < ·) :=
  cpt_rising (R := fun a b : Int => a < b) (fun a b c h1 h2 => Int.lt_trans h1 h2) (fun a b h e => by subst e; exact Int.lt_irrefl _ h) (h.imp fun {a b} (h : a ≤ b) => by omega)
end Go.Proofs.Ytkmkakpadgljeaa
