/- Facts on regions: which vertices are in them. -/
import Derived.Test.YtlllpmafhnfihaaFRing

namespace Go.Proofs.Ytlllpmafhnfihaa
open Go Fly
set_option linter.unusedVariables false
set_option linter.unusedSimpArgs false
set_option linter.unusedSectionVars false

structure RegOk (n : Nat) (l : List Arc) (c mn : Nat) (L : List Int) : Prop where
  is : L = (bfs n (fun v : Nat => nbrs (v : Int) l) c (List.replicate n false)).1.take mn
  c : c < n
  m : 1 ≤ mn ∧ mn ≤ 1024
  rng : ∀ x ∈ L, 0 ≤ x ∧ x < (n : Int)
  nd : L.Nodup
theorem reg_ok {N : Int} {l : List Arc} {c most : Int} (h : (regR N l c most).2 = 0) : (gcheck N l).2 = 0 ∧ ∃ n cn mn : Nat, N = (n : Int) ∧ c = (cn : Int) ∧ most = (mn : Int) ∧ RegOk n l cn mn (regR N l c most).1 := by
  unfold regR at h ⊢
  by_cases h1 : (gcheck N l).2 ≠ 0
  · rw [if_pos h1] at h; exact absurd h h1
  · by_cases h2 : c < 0 ∨ N ≤ c
    · rw [if_neg h1, if_pos h2] at h; cases h
    · by_cases h3 : most < 1 ∨ 1024 < most
      · rw [if_neg h1, if_neg h2, if_pos h3] at h; cases h
      · rw [if_neg h1, if_neg h2, if_neg h3]
        have hg : (gcheck N l).2 = 0 := by omega
        have hz := gcheck_zero hg
        obtain ⟨n, rfl⟩ : ∃ n : Nat, N = (n : Int) := ⟨N.toNat, by omega⟩
        have hI := BInv.go (nbrs_rngG hg).2 (BInv.start (n := n) (c := c.toNat) (b := List.replicate n false) (by simp) (by omega)) n
        refine ⟨hg, n, c.toNat, most.toNat, rfl, by omega, by omega, rfl, by omega, by omega, fun x hx => hI.rng x (List.mem_of_mem_take hx), ?_⟩
        exact hI.nd.sublist (List.take_sublist _ _)
theorem ringL_mem {l : List Arc} {M : List Int} {u : Int} : ∀ {m : Nat}, u ∈ ringL l M m ↔ ∃ v, v < m ∧ u = (v : Int) ∧ rgB l M v = true
  | 0 => by simp [ringL]
  | m + 1 => by
    have ih := ringL_mem (l := l) (M := M) (u := u) (m := m)
    unfold ringL
    by_cases h : rgB l M m = true
    · rw [if_pos h, List.mem_append, ih, List.mem_singleton]
      constructor
      · rintro (⟨v, h1, h2, h3⟩ | rfl)
        · exact ⟨v, by omega, h2, h3⟩
        · exact ⟨m, by omega, rfl, h⟩
      · rintro ⟨v, h1, h2, h3⟩
        rcases Nat.lt_or_ge v m with hv | hv
        · exact .inl ⟨v, hv, h2, h3⟩
        · exact .inr (by have : v = m := by omega
                         rw [h2, this])
    · rw [if_neg h, ih]
      constructor
      · rintro ⟨v, h1, h2, h3⟩; exact ⟨v, by omega, h2, h3⟩
      · rintro ⟨v, h1, h2, h3⟩
        rcases Nat.lt_or_ge v m with hv | hv
        · exact ⟨v, hv, h2, h3⟩
        · have : v = m := by omega
          subst this; exact absurd h3 h
theorem ringL_rising (l : List Arc) (M : List Int) : ∀ m, (ringL l M m).Pairwise (· < ·)
  | 0 => List.Pairwise.nil
  | m + 1 => by
    unfold ringL
    split
    · rw [List.pairwise_append]
      refine ⟨ringL_rising l M m, by simp, fun a ha b hb => ?_⟩
      simp only [List.mem_singleton] at hb
      obtain ⟨v, hv, rfl, _⟩ := ringL_mem.1 ha
      omega
    · exact ringL_rising l M m
theorem ringL_nodup (l : List Arc) (M : List Int) (m : Nat) : (ringL l M m).Nodup := (ringL_rising l M m).imp fun {a b} h e => by omega
theorem ring_reg {n : Nat} {l : List Arc} {M : List Int} (hg : (gcheck (n : Int) l).2 = 0) (hr : ∀ x ∈ M, 0 ≤ x ∧ x < (n : Int)) (hn : M.Nodup) : ringR (n : Int) l M = (ringL l M n, 0) := by
  have hl := ints_card hr hn
  have hz := gcheck_zero hg
  unfold ringR
  rw [if_neg (by rw [hg]; simp), if_neg (by omega), if_neg, if_neg (by simpa using hn), Int.toNat_natCast]
  rw [Bool.not_eq_true, List.any_eq_false]
  intro x hx
  have := hr x hx
  unfold offV; simp; omega
theorem not_take_of_nodup {M : List Int} {k : Nat} (hk : k < M.length) (h : M.Nodup) : M[k] ∉ M.take k := fun hm => nodup_not hk hm h
end Go.Proofs.Ytlllpmafhnfihaa
