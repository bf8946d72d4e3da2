/- How many letters a net holds. -/
import Derived.Test.YtbkneamjpiiepaaPLink

namespace Go.Proofs.Ytbkneamjpiiepaa
open Go Go.RowKit Go.Sort Fly
set_option linter.unusedVariables false
set_option linter.unusedSimpArgs false

/-- A sum over all links, row by row: the first a rows, and b of the next. -/
def sum2 (g : Int × Int → Nat) (n a b : Nat) : Nat := ((List.range a).map fun i : Nat => ((List.range n).map fun j : Nat => g (Int.ofNat i, Int.ofNat j)).sum).sum + ((List.range b).map fun j : Nat => g (Int.ofNat a, Int.ofNat j)).sum
theorem sum2_step (g : Int × Int → Nat) (n a b : Nat) : sum2 g n a (b + 1) = sum2 g n a b + g (Int.ofNat a, Int.ofNat b) := by
  unfold sum2; rw [List.range_succ, List.map_append, List.sum_append]; simp; omega
theorem sum2_row (g : Int × Int → Nat) (n a : Nat) : sum2 g n (a + 1) 0 = sum2 g n a n := by
  unfold sum2; rw [List.range_succ, List.map_append, List.sum_append]; simp
theorem sum2_zero (g : Int × Int → Nat) (n : Nat) : sum2 g n 0 0 = 0 := by simp [sum2]
theorem sum_le {l : List Nat} : ∀ {x : Nat}, x ∈ l → x ≤ l.sum := by
  induction l with
  | nil => intro x h; cases h
  | cons a l ih => intro x h; simp only [List.sum_cons]; rcases List.mem_cons.1 h with rfl | h; · omega
                   · have := ih h; omega
theorem sum_flat {α β : Type} (f : α → List β) (g : β → Nat) (l : List α) : ((l.flatMap f).map g).sum = (l.map fun x => ((f x).map g).sum).sum := by
  induction l with
  | nil => rfl
  | cons a l ih => simp only [List.flatMap_cons, List.map_append, List.sum_append, List.map_cons, List.sum_cons, ih]
theorem sum2_all (g : Int × Int → Nat) (n : Nat) : sum2 g n n 0 = ((allP n).map g).sum := by
  unfold sum2 allP
  rw [sum_flat]
  simp only [List.map_map, List.range_zero, List.map_nil, List.sum_nil, Nat.add_zero]
  rfl
theorem range_sum_mono (f : Nat → Nat) : ∀ (b n : Nat), b ≤ n → ((List.range b).map f).sum ≤ ((List.range n).map f).sum
  | b, 0, h => by obtain rfl : b = 0 := by omega
                  exact Nat.le_refl _
  | b, n + 1, h => by
    by_cases hb : b = n + 1
    · subst hb; exact Nat.le_refl _
    · refine Nat.le_trans (range_sum_mono f b n (by omega)) ?_
      rw [List.range_succ, List.map_append, List.sum_append]; omega
theorem sum2_le (g : Int × Int → Nat) {n a b : Nat} (ha : a < n) (hb : b ≤ n) : sum2 g n a b ≤ ((allP n).map g).sum := by
  rw [← sum2_all]
  have h1 : sum2 g n a b ≤ sum2 g n (a + 1) 0 := by
    rw [sum2_row]; unfold sum2
    have := range_sum_mono (fun j : Nat => g (Int.ofNat a, Int.ofNat j)) b n hb
    omega
  refine Nat.le_trans h1 ?_
  have := range_sum_mono (fun i : Nat => ((List.range n).map fun j : Nat => g (Int.ofNat i, Int.ofNat j)).sum) (a + 1) n (by omega)
  unfold sum2
  simp only [List.range_zero, List.map_nil, List.sum_nil, Nat.add_zero]
  exact this
theorem filter_sum {α : Type} (p : α → Bool) (l : List α) : (l.filter p).length = (l.map fun x => if p x then 1 else 0).sum := by
  induction l with
  | nil => rfl
  | cons a l ih => by_cases h : p a <;> simp [h, ih]; omega
theorem sum_upd {α : Type} [DecidableEq α] {l : List α} (hn : l.Nodup) {x : α} (hx : x ∈ l) (f g : α → Nat) (h : ∀ y, y ≠ x → g y = f y) : (l.map g).sum + f x = (l.map f).sum + g x := by
  induction l with
  | nil => cases hx
  | cons a l ih =>
    have hn' := List.nodup_cons.1 hn
    simp only [List.map_cons, List.sum_cons]
    by_cases e : x = a
    · subst e
      have : l.map g = l.map f := List.map_congr_left fun y hy => h y fun e => hn'.1 (e ▸ hy)
      rw [this]; omega
    · have := ih hn'.2 ((List.mem_cons.1 hx).resolve_left e)
      have := h a (fun e' => e e'.symm)
      omega

/-- The links that are meant, row by row. -/
def lst2 (q : Int × Int → Bool) (n a b : Nat) : List (Int × Int) := ((List.range a).flatMap fun i : Nat => ((List.range n).map fun j : Nat => ((Int.ofNat i, Int.ofNat j) : Int × Int)).filter q) ++ ((List.range b).map fun j : Nat => ((Int.ofNat a, Int.ofNat j) : Int × Int)).filter q
theorem lst2_step (q : Int × Int → Bool) (n a b : Nat) : lst2 q n a (b + 1) = lst2 q n a b ++ (if q (Int.ofNat a, Int.ofNat b) then [(Int.ofNat a, Int.ofNat b)] else []) := by
  unfold lst2; rw [List.range_succ, List.map_append, List.filter_append, List.append_assoc]
  congr 2
  by_cases h : q (Int.ofNat a, Int.ofNat b) = true
  · rw [if_pos h]; simp only [List.map_cons, List.map_nil, List.filter_cons, h, if_true, List.filter_nil]
  · rw [if_neg h]; simp only [List.map_cons, List.map_nil, List.filter_cons, h, if_false, List.filter_nil]; rfl
theorem lst2_row (q : Int × Int → Bool) (n a : Nat) : lst2 q n (a + 1) 0 = lst2 q n a n := by
  unfold lst2; rw [List.range_succ, List.flatMap_append]; simp
theorem lst2_zero (q : Int × Int → Bool) (n : Nat) : lst2 q n 0 0 = [] := by simp [lst2]
theorem lst2_all (q : Int × Int → Bool) (n : Nat) : lst2 q n n 0 = (allP n).filter q := by
  unfold lst2 allP; rw [List.filter_flatMap]; simp
theorem lst2_len (q : Int × Int → Bool) {n a b : Nat} (ha : a < n) (hb : b ≤ n) (hn : n ≤ 65) : (lst2 q n a b).length ≤ 4225 := by
  have h1 : (lst2 q n a b).length = sum2 (fun k => if q k then 1 else 0) n a b := by
    unfold lst2 sum2
    rw [List.length_append, filter_sum, List.map_map, List.length_flatMap]
    congr 2
    refine List.map_congr_left fun i _ => ?_
    rw [filter_sum, List.map_map]; rfl
  rw [h1]
  refine Nat.le_trans (sum2_le _ ha hb) ?_
  rw [← filter_sum]
  refine Nat.le_trans (List.length_filter_le _ _) ?_
  rw [allP_len]
  exact Nat.le_trans (Nat.mul_le_mul hn hn) (by decide)

def bagLen (A : NetM) (k : Int × Int) : Nat := (A.bag k).length
def bagOne (A : NetM) (k : Int × Int) : Nat := if !(A.bag k).isEmpty then 1 else 0
def NetM.tot (A : NetM) : Nat := ((allP A.down.length).map (bagLen A)).sum
theorem NetM.links_sum (A : NetM) : A.links.length = ((allP A.down.length).map (bagOne A)).sum := filter_sum _ _
theorem NetM.tot_put (A : NetM) {l : Int × Int} (hb : ¬ A.Bad l) (s : List ByteArray) : (A.put l s).tot + (A.bag l).length = A.tot + s.length := by
  have := sum_upd (nodup_of_lt (allP_sorted A.down.length)) (x := l) (by unfold NetM.Bad NetM.Non at hb; exact mem_allP.2 (by omega)) (bagLen A) (bagLen (A.put l s)) (fun y hy => by simp [bagLen, hy])
  simpa [bagLen, NetM.tot] using this
theorem found_le {A : NetM} {l : Int × Int} {k : Int} (h : A.found l k = 0) : 0 < (A.bag l).length := by have := (NetM.found_zero h).2; omega
/-- What an act does to how many there are. -/
structure Step (A B : NetM) (d : Int) : Prop where
  nodes : B.down.length = A.down.length
  tot : (B.tot : Int) = A.tot + d
theorem step_send (A : NetM) (l : Int × Int) (s : ByteArray) : Step A (A.send l s).2 (if (A.send l s).1 = 0 then 1 else 0) := by
  unfold NetM.send
  by_cases h1 : A.Bad l
  · simp only [if_pos h1]; exact ⟨rfl, by simp⟩
  · by_cases h2 : 262144 < s.size
    · simp only [if_neg h1, if_pos h2]; exact ⟨rfl, by simp⟩
    · by_cases h3 : A.isDown l.1 = true
      · simp only [if_neg h1, if_neg h2, if_pos h3]; exact ⟨rfl, by simp⟩
      · by_cases h4 : 4096 ≤ (A.bag l).length
        · simp only [if_neg h1, if_neg h2, if_neg h3, if_pos h4]; exact ⟨rfl, by simp⟩
        · simp only [if_neg h1, if_neg h2, if_neg h3, if_neg h4]
          refine ⟨rfl, ?_⟩
          have := A.tot_put h1 (A.bag l ++ [s])
          simp only [List.length_append, List.length_singleton] at this
          simp only [if_pos]; omega
theorem step_copy (A : NetM) (l : Int × Int) (k : Int) : Step A (A.copy l k).2 (if (A.copy l k).1 = 0 then 1 else 0) := by
  unfold NetM.copy
  by_cases h1 : A.found l k ≠ 0
  · simp only [if_pos h1]; exact ⟨rfl, by simp [h1]⟩
  · have h1' : A.found l k = 0 := by omega
    by_cases h4 : 4096 ≤ (A.bag l).length
    · simp only [if_neg h1, if_pos h4]; exact ⟨rfl, by simp⟩
    · simp only [if_neg h1, if_neg h4]
      refine ⟨rfl, ?_⟩
      have := A.tot_put (NetM.found_zero h1').1 (A.bag l ++ [(A.bag l).getD k.toNat ⟨#[]⟩])
      simp only [List.length_append, List.length_singleton] at this
      simp only [if_pos]; omega
theorem erase_len {A : NetM} {l : Int × Int} {k : Int} (h : A.found l k = 0) : ((A.bag l).eraseIdx k.toNat).length = (A.bag l).length - 1 := by
  obtain ⟨_, h1, h2⟩ := NetM.found_zero h
  exact List.length_eraseIdx_of_lt (by omega)
theorem step_take (A : NetM) (l : Int × Int) (k : Int) : Step A (A.take l k).2 (if (A.take l k).1.2 = 0 then -1 else 0) := by
  unfold NetM.take
  by_cases h1 : A.found l k ≠ 0
  · simp only [if_pos h1]; exact ⟨rfl, by simp [h1]⟩
  · have h1' : A.found l k = 0 := by omega
    by_cases h4 : A.isDown l.2 = true
    · simp only [if_neg h1, if_pos h4]; exact ⟨rfl, by simp⟩
    · simp only [if_neg h1, if_neg h4]
      refine ⟨rfl, ?_⟩
      have := A.tot_put (NetM.found_zero h1').1 ((A.bag l).eraseIdx k.toNat)
      rw [erase_len h1'] at this
      have := found_le h1'
      simp only [if_pos]; omega
theorem step_lose (A : NetM) (l : Int × Int) (k : Int) : Step A (A.lose l k).2 (if (A.lose l k).1 = 0 then -1 else 0) := by
  unfold NetM.lose
  by_cases h1 : A.found l k ≠ 0
  · simp only [if_pos h1]; exact ⟨rfl, by simp [h1]⟩
  · have h1' : A.found l k = 0 := by omega
    simp only [if_neg h1]
    refine ⟨rfl, ?_⟩
    have := A.tot_put (NetM.found_zero h1').1 ((A.bag l).eraseIdx k.toNat)
    rw [erase_len h1'] at this
    have := found_le h1'
    simp only [if_pos]; omega
theorem new_tot (n : Nat) : (NetM.new n).tot = 0 := by
  have : ∀ l : List (Int × Int), (l.map (bagLen (NetM.new n))).sum = 0 := fun l => by induction l with
    | nil => rfl
    | cons a l ih => simp only [List.map_cons, List.sum_cons, ih]; rfl
  exact this _
end Go.Proofs.Ytbkneamjpiiepaa
