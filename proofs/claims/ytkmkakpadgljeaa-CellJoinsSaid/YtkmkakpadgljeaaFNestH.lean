/- Members and children of a right nest: plain laws. -/
import Derived.Test.YtkmkakpadgljeaaFNest2
namespace Go.Proofs.Ytkmkakpadgljeaa
open Go Go.RowKit Fly
set_option linter.unusedVariables false
set_option linter.unusedSimpArgs false


theorem nodup_notH {M : List Int} {k : Nat} (hk : k < M.length) (h : M[k] ∈ M.take k) : ¬ M.Nodup := fun hn => by
  obtain ⟨i, hi, e⟩ := List.mem_iff_getElem.1 h
  rw [List.getElem_take] at e
  have hik : i < k := by simp at hi; omega
  exact List.pairwise_iff_getElem.1 hn i k (by omega) hk hik e
theorem memTo_rising (L : List Int) (c : Int) (k : Nat) : (memTo L c k).Pairwise (· < ·) := by
  unfold memTo
  rw [List.pairwise_map]
  exact (List.pairwise_lt_range.filter _).imp fun {a b} h => by omega
theorem memTo_nodup (L : List Int) (c : Int) (k : Nat) : (memTo L c k).Nodup := (memTo_rising L c k).imp fun {a b} h e => by omega
theorem list_range (L : List Int) : L = (List.range L.length).map fun v => L.getD v 0 := by
  refine List.ext_getElem (by simp) fun i h1 h2 => ?_
  simp [List.getD_eq_getElem?_getD, h1]
theorem memTo_cnt (L : List Int) (c : Int) : (memTo L c L.length).length = cntI L c := by
  unfold memTo cntI
  rw [List.length_map]
  conv => rhs; rw [list_range L]
  rw [List.filter_map, List.length_map]; rfl
/-- How many vertices bear one of some labels. -/
def inCnt (n : Nat) (B Ch : List Int) : Nat := ((List.range n).filter fun v => decide (B.getD v 0 ∈ Ch)).length
theorem inCnt_le (n : Nat) (B Ch : List Int) : inCnt n B Ch ≤ n := by
  unfold inCnt; exact Nat.le_trans (List.length_filter_le _ _) (by simp)
theorem filter_or_len {α : Type} (p q : α → Bool) (h : ∀ x, p x = true → q x = false) : ∀ l : List α, (l.filter fun x => p x || q x).length = (l.filter p).length + (l.filter q).length
  | [] => rfl
  | x :: l => by
    have ih := filter_or_len p q h l
    simp only [List.filter_cons]
    cases hp : p x
    · cases hq : q x
      · simpa using ih
      · simp; omega
    · have := h x hp
      rw [this]; simp; omega
theorem inCnt_next {n : Nat} {B Ch : List Int} {j : Nat} (hj : j < Ch.length) (hn : Ch.Nodup) : inCnt n B (Ch.take (j + 1)) = inCnt n B (Ch.take j) + (memTo B Ch[j] n).length := by
  unfold inCnt memTo
  rw [List.length_map, List.take_succ_eq_append_getElem hj, ← filter_or_len (fun v => decide (B.getD v 0 ∈ Ch.take j)) (fun v => decide (B.getD v 0 = Ch[j]))]
  · congr 1
    apply List.filter_congr
    intro v _
    rw [Bool.eq_iff_iff]; simp only [Bool.or_eq_true, decide_eq_true_eq, List.mem_append, List.mem_singleton]
  · intro v hv
    rw [decide_eq_false]
    intro e
    rw [decide_eq_true_eq, e] at hv
    exact absurd hn (nodup_notH hj hv)
theorem inCnt_zero (n : Nat) (B : List Int) : inCnt n B [] = 0 := by unfold inCnt; simp
section
variable {n : Nat} {l : List Arc} {bs : List Int} {L : List (List Int)}
theorem ch_mem {k i : Nat} (hi : i = k + 1) {c x : Int} (hT : (L.getD i []).length = n) : x ∈ chL L ((i : Int) + 1) c ↔ ∃ v : Nat, v < n ∧ (L.getD i []).getD v 0 = c ∧ (L.getD k []).getD v 0 = x := by
  subst hi
  unfold chL
  rw [show (((k + 1 : Nat) : Int) + 1).toNat - 1 = k + 1 by omega, show (((k + 1 : Nat) : Int) + 1).toNat - 2 = k by omega, cpt_mem, (sortI_perm _).mem_iff]
  unfold lowL
  simp only [List.mem_map]
  constructor
  · rintro ⟨v, hv, rfl⟩
    obtain ⟨w, rfl, h1, h2⟩ := memTo_mem.1 hv
    exact ⟨w, by omega, h2, by simp⟩
  · rintro ⟨v, h1, h2, rfl⟩
    exact ⟨(v : Int), memTo_mem.2 ⟨v, rfl, by omega, h2⟩, by simp⟩
theorem ch_nodup (L : List (List Int)) (q c : Int) : (chL L q c).Nodup := (cpt_int (sortI_sorted _)).imp fun {a b} h e => by omega
theorem ch_len (L : List (List Int)) (i : Nat) (c : Int) : (chL L ((i : Int) + 1) c).length ≤ (memTo (L.getD i []) c (L.getD i []).length).length := by
  unfold chL
  rw [show ((i : Int) + 1).toNat - 1 = i by omega]
  refine Nat.le_trans (cpt_len_le _) ?_
  rw [sortI_len]; unfold lowL; simp
theorem row_lab (h : NestOk n l bs L) {k : Nat} (hk : k < bs.length) {v : Nat} (hv : v < n) : 0 ≤ (L.getD k []).getD v 0 ∧ (L.getD k []).getD v 0 < maxL (L.getD k []) + 1 := by
  have hl := h.rowlen hk
  have hv' : v < (L.getD k []).length := by omega
  have hr := right_range (h.right hk) (by have := h.n1; omega) _ (List.getElem_mem hv')
  have e : (L.getD k []).getD v 0 = (L.getD k [])[v] := by rw [List.getD_eq_getElem?_getD, List.getElem?_eq_getElem hv']; rfl
  rw [e]; have := le_maxL (List.getElem_mem hv'); omega
theorem ch_rng (h : NestOk n l bs L) {k i : Nat} (hi : i = k + 1) (hk : i < bs.length) {c x : Int} (hx : x ∈ chL L ((i : Int) + 1) c) : 0 ≤ x ∧ x < maxL (L.getD k []) + 1 := by
  obtain ⟨v, hv, _, rfl⟩ := (ch_mem hi (h.rowlen hk)).1 hx
  exact row_lab h (by omega) hv
theorem ch_within (h : NestOk n l bs L) {k : Nat} (hk : k + 1 < bs.length) {u v : Nat} (hu : u < n) (hv : v < n) (e : (L.getD k []).getD u 0 = (L.getD k []).getD v 0) : (L.getD (k + 1) []).getD u 0 = (L.getD (k + 1) []).getD v 0 := by
  have hw := h.within hk (by omega)
  rw [Nat.add_sub_cancel] at hw
  have hl := h.rowlen (k := k) (by omega)
  exact hw u (by omega) v (by omega) e
theorem ch_parent (h : NestOk n l bs L) {k i : Nat} (hi : i = k + 1) (hk : i < bs.length) {c x : Int} (hx : x ∈ chL L ((i : Int) + 1) c) : paV L ((k : Int) + 1) x = c := by
  obtain ⟨v, hv, h1, h2⟩ := (ch_mem hi (h.rowlen hk)).1 hx
  subst hi
  have hl := h.rowlen (k := k) (by omega)
  have hvm : (v : Int) ∈ memTo (L.getD k []) x (L.getD k []).length := memTo_mem.2 ⟨v, rfl, by omega, h2⟩
  have hpos := List.length_pos_of_mem hvm
  obtain ⟨u, hu, hul, hux⟩ := memTo_mem.1 (List.getElem_mem hpos)
  unfold paV
  rw [show ((k : Int) + 1).toNat = k + 1 by omega, Nat.add_sub_cancel, headD_get hpos, hu, Int.toNat_natCast]
  rw [ch_within h hk (by omega) hv (by rw [hux, h2])]
  exact h1
theorem ch_sum (h : NestOk n l bs L) {k i : Nat} (hi : i = k + 1) (hk : i < bs.length) {c : Int} : inCnt n (L.getD k []) (chL L ((i : Int) + 1) c) = (memTo (L.getD i []) c (L.getD i []).length).length := by
  unfold inCnt memTo
  rw [List.length_map, h.rowlen hk]
  congr 1
  apply List.filter_congr
  intro v hv
  rw [List.mem_range] at hv
  rw [decide_eq_decide, ch_mem hi (h.rowlen hk)]
  subst hi
  constructor
  · rintro ⟨u, hu, h1, h2⟩
    rw [← ch_within h hk hu hv h2]; exact h1
  · intro h1; exact ⟨v, hv, h1, rfl⟩
end
theorem clE_at {n : Nat} {l : List Arc} {bs : List Int} {L : List (List Int)} (h : NestOk n l bs L) {k : Nat} (hk : k < bs.length) {c : Nat} (hc : (c : Int) < maxL (L.getD k []) + 1) : clE (n : Int) l bs L ((k : Int) + 1) (c : Int) = 0 := clE_ok h hk ⟨by omega, hc⟩

end Go.Proofs.Ytkmkakpadgljeaa
