/- Moves come to an end (plain laws for LocalEnds). -/
import Derived.Test.YtagidegklmgilaaFLoc7
namespace Go.Proofs.Ytagidegklmgilaa
open Go Go.RowKit Fly
set_option linter.unusedVariables false
set_option linter.unusedSimpArgs false


theorem impGo_stop0 {n : Nat} {rows : Nat → List Int} {bd : Int} {s : LSt} (h : ¬ 0 < (mvOf n rows bd s).2.2) : ∀ k, impGo n rows bd k s = (s, 0)
  | 0 => rfl
  | k + 1 => by rw [impGo, if_neg h]
theorem impGo_add {n : Nat} {rows : Nat → List Int} {bd : Int} : ∀ (a b : Nat) (s : LSt), impGo n rows bd (a + b) s = ((impGo n rows bd b (impGo n rows bd a s).1).1, (impGo n rows bd a s).2 + (impGo n rows bd b (impGo n rows bd a s).1).2)
  | 0, b, s => by simp [impGo]
  | a + 1, b, s => by
    by_cases h : 0 < (mvOf n rows bd s).2.2
    · have ih := impGo_add (n := n) (rows := rows) (bd := bd) a b (mvDo s.1 (mvOf n rows bd s).1.toNat (mvOf n rows bd s).2.1)
      rw [show a + 1 + b = (a + b) + 1 by omega, impGo, impGo, if_pos h, if_pos h, ih]
      refine Prod.ext rfl ?_
      simp only
      omega
    · rw [impGo_stop0 h, impGo_stop0 h]
      simp only [impGo_stop0 h, Nat.add_zero]
theorem impGo_le {n : Nat} {rows : Nat → List Int} {bd : Int} : ∀ (k : Nat) (s : LSt), (impGo n rows bd k s).2 ≤ k
  | 0, s => Nat.le_refl _
  | k + 1, s => by
    rw [impGo]
    split
    · have := impGo_le (n := n) (rows := rows) (bd := bd) k (mvDo s.1 (mvOf n rows bd s).1.toNat (mvOf n rows bd s).2.1)
      simp only; omega
    · simp
theorem impGo_less {n : Nat} {rows : Nat → List Int} {bd : Int} : ∀ (k : Nat) (s : LSt), (impGo n rows bd k s).2 < k → ¬ 0 < (mvOf n rows bd (impGo n rows bd k s).1).2.2
  | 0, s, h => by simp [impGo] at h
  | k + 1, s, h => by
    rw [impGo] at h ⊢
    by_cases hc : 0 < (mvOf n rows bd s).2.2
    · rw [if_pos hc] at h ⊢
      exact impGo_less k _ (by simp only at h; omega)
    · rw [if_neg hc]; exact hc
structure LInv (n : Nat) (l : List Arc) (bd : Int) (s : LSt) : Prop where
  len : s.1.length = n
  right : rightB (n : Int) s.1 = true
  size : s.2 = sizesL s.1
  bound : ∀ x ∈ s.2, x ≤ bd
theorem LInv.step {n : Nat} {l : List Arc} {bd : Int} {s : LSt} (hg : (gcheck (n : Int) l).2 = 0) (h : LInv n l bd s) (ho : 0 < (mvOf n (fun v => nbrs (v : Int) l) bd s).2.2) :
    LInv n l bd (mvDo s.1 (mvOf n (fun v => nbrs (v : Int) l) bd s).1.toNat (mvOf n (fun v => nbrs (v : Int) l) bd s).2.1) ∧ (cutN n l (mvDo s.1 (mvOf n (fun v => nbrs (v : Int) l) bd s).1.toNat (mvOf n (fun v => nbrs (v : Int) l) bd s).2.1).1 : Int) = cutN n l s.1 - (mvOf n (fun v => nbrs (v : Int) l) bd s).2.2 := by
  obtain ⟨L, S⟩ := s
  obtain ⟨hL, hrt, hS, hB⟩ := h
  simp only at hL hrt hS hB
  subst hS
  have hn1 := (lok_begin hg hrt).n1
  obtain ⟨_, hin, hsz, hsz1⟩ := sizesL_len hrt hn1.1
  obtain ⟨y, j, hbe, hyn, hjS, hmay⟩ := (to_is (n := n) (L := L) (S := sizesL L) (rows := fun v => nbrs (v : Int) l) (bd := bd) n (Nat.le_refl _)).resolve_left (fun h => by unfold mvOf at ho; rw [h] at ho; simp at ho)
  have e : mvOf n (fun v => nbrs (v : Int) l) bd (L, sizesL L) = ((y : Int), (j : Int), gn L (nbrs (y : Int) l) (lab L (y : Int)) (j : Int)) := hbe
  rw [e] at ho ⊢
  simp only [Int.toNat_natCast]
  have hL2 : (L.set y (j : Int)).length = n := by rw [List.length_set]; exact hL
  have hgood : Good n l := raw_good (gcheck_zero hg).2.2.2
  have hcut := cut_set hgood (L := L) (v := y) (by omega) (j : Int)
  have hct : cutN n l (tdy (L.set y (j : Int))) = cutN n l (L.set y (j : Int)) := cut_tdy hL2
  refine ⟨⟨by unfold mvDo; rw [tdy_len]; exact hL2, right_tdy hL2, sizes_tdy (by omega), ?_⟩, ?_⟩
  · refine size_move (M := (sizesL L).length) (by omega) hjS (fun x hx => ⟨(hin x hx).1, (hin x hx).2.1⟩) (fun i hi => ?_) ?_
    · rw [← sizes_cnt hi]; exact hB _ (List.getElem_mem hi)
    · rw [← sizes_cnt hjS]; have := hmay.2; rw [List.getD_eq_getElem?_getD, List.getElem?_eq_getElem hjS] at this; exact this
  · show (cutN n l (tdy (L.set y (j : Int))) : Int) = _
    rw [hct]; exact hcut
theorem LInv.go {n : Nat} {l : List Arc} {bd : Int} (hg : (gcheck (n : Int) l).2 = 0) : ∀ (k : Nat) (s : LSt), LInv n l bd s → LInv n l bd (impGo n (fun v => nbrs (v : Int) l) bd k s).1 ∧ cutN n l (impGo n (fun v => nbrs (v : Int) l) bd k s).1.1 + (impGo n (fun v => nbrs (v : Int) l) bd k s).2 ≤ cutN n l s.1
  | 0, s, h => ⟨h, by simp [impGo]⟩
  | k + 1, s, h => by
    rw [impGo]
    by_cases hc : 0 < (mvOf n (fun v => nbrs (v : Int) l) bd s).2.2
    · rw [if_pos hc]
      obtain ⟨h1, h2⟩ := h.step hg hc
      obtain ⟨h3, h4⟩ := LInv.go hg k _ h1
      refine ⟨h3, ?_⟩
      simp only
      omega
    · rw [if_neg hc]; exact ⟨h, by simp⟩
/-- As many moves as there were pairs between labels are enough. -/
theorem LInv.stops {n : Nat} {l : List Arc} {bd : Int} (hg : (gcheck (n : Int) l).2 = 0) {s : LSt} (h : LInv n l bd s) {k : Nat} (hk : cutN n l s.1 ≤ k) : ¬ 0 < (mvOf n (fun v => nbrs (v : Int) l) bd (impGo n (fun v => nbrs (v : Int) l) bd k s).1).2.2 := by
  obtain ⟨h1, h2⟩ := LInv.go hg k s h
  rcases Nat.lt_or_ge (impGo n (fun v => nbrs (v : Int) l) bd k s).2 k with hl | hl
  · exact impGo_less k s hl
  · intro ho
    have := (h1.step hg ho).2
    omega

end Go.Proofs.Ytagidegklmgilaa
