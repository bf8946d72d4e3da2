/- Labels made tidy are right, and their sizes. -/
import Derived.Test.YtkmkakpadgljeaaPCut

namespace Go.Proofs.Ytkmkakpadgljeaa
open Go Fly
set_option linter.unusedVariables false
set_option linter.unusedSimpArgs false
set_option linter.unusedSectionVars false

theorem tdy_at {L : List Int} {k : Nat} (hk : k < L.length) : (tdy L)[k]'(by rw [tdy_len]; exact hk) = (((sns (L.take (k + 1))).idxOf L[k] : Nat) : Int) := by
  have hm : L[k] ∈ sns (L.take (k + 1)) := sns_mem (by omega) _ (by rw [List.take_succ_eq_append_getElem hk]; exact List.mem_append_right _ (List.mem_singleton.2 rfl))
  obtain ⟨r, hr⟩ := sns_take L (k + 1)
  have e : (tdy L)[k]'(by rw [tdy_len]; exact hk) = (((sns L).idxOf L[k] : Nat) : Int) := by simp [tdy]
  rw [e, hr, List.idxOf_append, if_pos hm]
theorem rgo_tdy {L : List Int} : ∀ (m k : Nat), L.length - k = m → k ≤ L.length → rgo ((sns (L.take k)).length : Int) ((tdy L).drop k) = true
  | 0, k, h, hk => rgo_end (by rw [tdy_len]; omega) _
  | m + 1, k, h, hk => by
    have hk' : k < L.length := by omega
    have ih := rgo_tdy (L := L) m (k + 1) (by omega) (by omega)
    rw [rgo_drop (by rw [tdy_len]; exact hk'), tdy_at hk']
    have hs := sns_next hk'
    by_cases hx : L[k] ∈ sns (L.take k)
    · rw [if_pos hx] at hs
      rw [hs] at ih ⊢
      have := List.idxOf_lt_length_of_mem hx
      rw [if_neg (by omega), if_neg (by omega)]
      exact ih
    · rw [if_neg hx] at hs
      have hi : (sns (L.take (k + 1))).idxOf L[k] = (sns (L.take k)).length := by rw [hs, List.idxOf_append, if_neg hx]; simp
      rw [hi, if_neg (by omega), if_pos rfl]
      rw [hs, List.length_append, List.length_singleton] at ih
      exact ih
theorem right_tdy {L : List Int} {n : Nat} (hL : L.length = n) : rightB (n : Int) (tdy L) = true := by
  have := rgo_tdy (L := L) L.length 0 (by omega) (by omega)
  unfold rightB
  rw [List.take_zero, List.drop_zero] at this
  have h0 : ((sns ([] : List Int)).length : Int) = 0 := rfl
  rw [h0] at this
  rw [this, tdy_len, hL]
  simp
theorem sns_nodup {L : List Int} : ∀ {k : Nat}, k ≤ L.length → (sns (L.take k)).Nodup
  | 0, _ => by simp [sns]
  | k + 1, h => by
    have := sns_nodup (L := L) (k := k) (by omega)
    rw [sns_next (by omega)]
    split
    · exact this
    · rename_i hx
      rw [List.nodup_append]
      exact ⟨this, by simp, fun a ha b hb e => by simp at hb; subst hb; subst e; exact hx ha⟩
theorem sns_sub {L : List Int} : ∀ {k : Nat}, k ≤ L.length → ∀ x ∈ sns (L.take k), x ∈ L
  | 0, _, x, hx => by simp [sns] at hx
  | k + 1, h, x, hx => by
    rw [sns_next (by omega)] at hx
    split at hx
    · exact sns_sub (k := k) (by omega) x hx
    · rcases List.mem_append.1 hx with hx | hx
      · exact sns_sub (k := k) (by omega) x hx
      · simp only [List.mem_singleton] at hx; rw [hx]; exact List.getElem_mem _
theorem max_tdy {L : List Int} (h0 : 0 < L.length) : maxL (tdy L) = ((sns L).length : Int) - 1 := by
  have hx : ∀ x ∈ tdy L, x ≤ ((sns L).length : Int) - 1 := fun x hx => by have := tdy_rng x hx; omega
  have h1 := maxL_le (by rw [tdy_len]; exact h0) hx
  have hpos : 0 < (sns L).length := by
    have : L[0] ∈ sns L := by have := sns_mem (L := L) (k := L.length) (Nat.le_refl _) L[0] (by simp); simpa using this
    exact List.length_pos_of_mem this
  have hlt : (sns L).length - 1 < (sns L).length := by omega
  have hin : (sns L)[(sns L).length - 1] ∈ L := by
    have := sns_sub (L := L) (k := L.length) (Nat.le_refl _) (sns L)[(sns L).length - 1] (by rw [List.take_length]; exact List.getElem_mem _)
    exact this
  have hnd : (sns L).Nodup := by have := sns_nodup (L := L) (k := L.length) (Nat.le_refl _); rwa [List.take_length] at this
  have hix : (sns L).idxOf (sns L)[(sns L).length - 1] = (sns L).length - 1 := by
    have g := List.getElem_idxOf (List.idxOf_lt_length_of_mem (List.getElem_mem hlt))
    have hlt2 := List.idxOf_lt_length_of_mem (List.getElem_mem hlt)
    refine Classical.byContradiction fun hne => ?_
    exact (List.pairwise_iff_getElem.1 hnd) _ _ hlt2 hlt (by omega) g
  have h2 : (((sns L).length - 1 : Nat) : Int) ≤ maxL (tdy L) := le_maxL (List.mem_map.2 ⟨_, hin, by rw [hix]⟩)
  omega
theorem sizes_tdy {L : List Int} (h0 : 0 < L.length) : szs (sns L).length (tdy L) = sizesL (tdy L) := by
  unfold sizesL
  rw [max_tdy h0, show (((sns L).length : Int) - 1 + 1).toNat = (sns L).length by omega]
end Go.Proofs.Ytkmkakpadgljeaa
