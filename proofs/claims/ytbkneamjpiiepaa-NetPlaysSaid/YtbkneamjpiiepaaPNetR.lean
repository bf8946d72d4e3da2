/- The document's net: one list of letters; and how it is the other one. -/
import Derived.Test.YtbkneamjpiiepaaPLink

namespace Go.Proofs.Ytbkneamjpiiepaa
open Go Go.RowKit Go.Sort Fly
set_option linter.unusedVariables false
set_option linter.unusedSimpArgs false

/-- The places of what is meant. -/
def idx {α : Type} (p : α → Bool) : Nat → List α → List Nat
  | _, [] => []
  | n, x :: r => if p x then n :: idx p (n + 1) r else idx p (n + 1) r
theorem idx_append {α : Type} (p : α → Bool) : ∀ (a b : List α) (n : Nat), idx p n (a ++ b) = idx p n a ++ idx p (n + a.length) b
  | [], b, n => by simp [idx]
  | x :: a, b, n => by
    have := idx_append p a b (n + 1)
    simp only [List.cons_append, idx, List.length_cons, this]
    rw [show n + 1 + a.length = n + (a.length + 1) by omega]
    split <;> simp
theorem idx_next {α : Type} (p : α → Bool) {l : List α} {k : Nat} (hk : k < l.length) : idx p 0 (l.take (k + 1)) = idx p 0 (l.take k) ++ (if p l[k] then [k] else []) := by
  rw [List.take_succ_eq_append_getElem hk, idx_append]
  congr 1
  simp only [idx, List.length_take, Nat.min_eq_left (Nat.le_of_lt hk), Nat.zero_add]
theorem idx_len {α : Type} (p : α → Bool) : ∀ (l : List α) (n : Nat), (idx p n l).length = (l.filter p).length
  | [], n => rfl
  | x :: l, n => by
    have := idx_len p l (n + 1)
    by_cases h : p x <;> simp [idx, h, this]
theorem idx_lt {α : Type} (p : α → Bool) (l : List α) (n : Nat) : (idx p n l).length ≤ l.length := by rw [idx_len]; exact List.length_filter_le _ _
theorem idx_get {α : Type} (p : α → Bool) : ∀ (l : List α) (n k : Nat) (h : k < (idx p n l).length),
    n ≤ (idx p n l)[k] ∧ (idx p n l)[k] - n < l.length ∧ l[(idx p n l)[k] - n]? = (l.filter p)[k]? ∧ (l.eraseIdx ((idx p n l)[k] - n)).filter p = (l.filter p).eraseIdx k
  | [], n, k, h => by simp [idx] at h
  | x :: l, n, k, h => by
    by_cases hx : p x
    · simp only [idx, hx, if_true] at h ⊢
      cases k with
      | zero => simp [hx]
      | succ k =>
        have h' : k < (idx p (n + 1) l).length := by simpa using h
        obtain ⟨h1, h2, h3, h4⟩ := idx_get p l (n + 1) k h'
        simp only [List.getElem_cons_succ, List.filter_cons, hx, if_true, List.getElem?_cons_succ, List.length_cons]
        have e : (idx p (n + 1) l)[k] - n = (idx p (n + 1) l)[k] - (n + 1) + 1 := by omega
        rw [e]
        refine ⟨by omega, by omega, by simpa using h3, ?_⟩
        simp [hx, h4]
    · simp only [idx, hx, Bool.false_eq_true, if_false] at h ⊢
      obtain ⟨h1, h2, h3, h4⟩ := idx_get p l (n + 1) k h
      simp only [List.filter_cons, hx, Bool.false_eq_true, if_false, List.length_cons]
      have e : (idx p (n + 1) l)[k] - n = (idx p (n + 1) l)[k] - (n + 1) + 1 := by omega
      rw [e]
      refine ⟨by omega, by omega, by simpa using h3, ?_⟩
      simp [hx, h4]
theorem erase_other {α : Type} (q : α → Bool) : ∀ (l : List α) (i : Nat) (h : i < l.length), q l[i] = false → (l.eraseIdx i).filter q = l.filter q
  | [], i, h, _ => by simp at h
  | x :: l, 0, h, hq => by simp at hq; simp [hq]
  | x :: l, i + 1, h, hq => by
    have := erase_other q l i (by simpa using h) (by simpa using hq)
    simp only [List.eraseIdx_cons_succ, List.filter_cons, this]

abbrev Lt := Int × Int × ByteArray
def ltCs (x : Lt) : List Value := [.int .i64 x.1, .int .i64 x.2.1, .string x.2.2]
theorem ltCs_len (x : Lt) : (ltCs x).length = 3 := rfl
structure NetR where
  up : List Bool
  lts : List Lt
  tim : List (Int × Int × Int)
  clk : Int
namespace NetR
def on (l : Int × Int) (x : Lt) : Bool := decide (x.1 = l.1) && decide (x.2.1 = l.2)
abbrev Non (R : NetR) (v : Int) : Prop := v < 0 ∨ (R.up.length : Int) ≤ v
abbrev Bad (R : NetR) (l : Int × Int) : Prop := R.Non l.1 ∨ R.Non l.2 ∨ l.1 = l.2
def bagI (R : NetR) (l : Int × Int) : List Nat := idx (on l) 0 R.lts
def bagS (R : NetR) (l : Int × Int) : List ByteArray := (R.lts.filter (on l)).map (·.2.2)
def isUp (R : NetR) (v : Int) : Bool := R.up.getD v.toNat true
def send (R : NetR) (l : Int × Int) (s : ByteArray) : Int × NetR :=
  if R.Bad l then (190, R) else if 262144 < s.size then (2, R) else if R.isUp l.1 = false then (191, R) else if 4096 ≤ (R.bagI l).length then (2, R) else (0, { R with lts := R.lts ++ [(l.1, l.2, s)] })
def find (R : NetR) (l : Int × Int) (k : Int) : Int × Int :=
  if R.Bad l then (0, 190) else if k < 0 ∨ ((R.bagI l).length : Int) ≤ k then (0, 5) else ((((R.bagI l).getD k.toNat 0 : Nat) : Int), 0)
abbrev drop (R : NetR) (i : Nat) : NetR := { R with lts := R.lts.eraseIdx i }
def body (R : NetR) (i : Nat) : ByteArray := (R.lts.getD i (0, 0, ⟨#[]⟩)).2.2
def take (R : NetR) (l : Int × Int) (k : Int) : (ByteArray × Int) × NetR :=
  if (R.find l k).2 ≠ 0 then ((⟨#[]⟩, (R.find l k).2), R) else if R.isUp l.2 = false then ((⟨#[]⟩, 191), R) else ((R.body (R.find l k).1.toNat, 0), R.drop (R.find l k).1.toNat)
def copy (R : NetR) (l : Int × Int) (k : Int) : Int × NetR :=
  if (R.find l k).2 ≠ 0 then ((R.find l k).2, R) else if 4096 ≤ (R.bagI l).length then (2, R) else (0, { R with lts := R.lts ++ [R.lts.getD (R.find l k).1.toNat (0, 0, ⟨#[]⟩)] })
def lose (R : NetR) (l : Int × Int) (k : Int) : Int × NetR :=
  if (R.find l k).2 ≠ 0 then ((R.find l k).2, R) else (0, R.drop (R.find l k).1.toNat)
def looked (R : NetR) (l : Int × Int) : Int := if R.Bad l then 190 else 0
def links (R : NetR) : List (Int × Int) := (allP R.up.length).filter fun k => !(R.bagI k).isEmpty
def turn (R : NetR) (v : Int) (u : Bool) : Int × NetR := if R.Non v then (190, R) else if R.isUp v = u then (191, R) else (0, { R with up := R.up.set v.toNat u })
def goDown (R : NetR) (v : Int) : Int × NetR := if R.Non v then (190, R) else if R.isUp v = false then (191, R) else (0, { R with up := R.up.set v.toNat false, tim := R.tim.filter (fun t => !decide (t.1 = v)) })
def setT (R : NetR) (v at_ tag : Int) : Int × NetR :=
  if R.Non v then (190, R) else if R.isUp v = false then (191, R) else if at_ ≤ R.clk ∨ 1073741824 < at_ then (1, R) else if 16384 ≤ R.tim.length then (2, R) else (0, { R with tim := R.tim ++ [(v, at_, tag)] })
def due (R : NetR) : List (Int × Int × Int) := (List.range R.up.length).flatMap fun v : Nat => R.tim.filter fun t => decide (t.1 = Int.ofNat v) && decide (t.2.1 = R.clk + 1)
def tick (R : NetR) : (List (Int × Int × Int) × Int) × NetR :=
  if 1073741824 ≤ R.clk then (([], 1), R) else ((R.due, 0), { R with clk := R.clk + 1, tim := R.tim.filter fun t => !decide (t.2.1 = R.clk + 1) })
def new (n : Nat) : NetR := ⟨List.replicate n true, [], [], 0⟩
theorem find_zero {R : NetR} {l : Int × Int} {k : Int} (h : (R.find l k).2 = 0) : ¬ R.Bad l ∧ 0 ≤ k ∧ k < (R.bagI l).length ∧ (R.find l k).1 = (((R.bagI l).getD k.toNat 0 : Nat) : Int) := by
  unfold find at h ⊢
  by_cases h1 : R.Bad l
  · rw [if_pos h1] at h; simp at h
  · by_cases h2 : k < 0 ∨ ((R.bagI l).length : Int) ≤ k
    · rw [if_neg h1, if_pos h2] at h; simp at h
    · rw [if_neg h1, if_neg h2]; exact ⟨h1, by omega, by omega, rfl⟩
theorem find_at {R : NetR} {l : Int × Int} {k : Int} (h : (R.find l k).2 = 0) : ∃ hi : (R.find l k).1.toNat < R.lts.length, (R.find l k).1 = ((R.find l k).1.toNat : Int) ∧ (R.lts.filter (on l))[k.toNat]? = some (R.lts[(R.find l k).1.toNat]) ∧ (R.lts.eraseIdx (R.find l k).1.toNat).filter (on l) = (R.lts.filter (on l)).eraseIdx k.toNat := by
  obtain ⟨_, h1, h2, h3⟩ := find_zero h
  have hk : k.toNat < (idx (on l) 0 R.lts).length := by unfold bagI at h2; omega
  obtain ⟨_, q1, q2, q3⟩ := idx_get (on l) R.lts 0 k.toNat hk
  have e : (R.find l k).1 = (((idx (on l) 0 R.lts)[k.toNat] : Nat) : Int) := by
    rw [h3]; unfold bagI; rw [List.getD_eq_getElem?_getD, List.getElem?_eq_getElem hk]; rfl
  have e2 : (R.find l k).1.toNat = (idx (on l) 0 R.lts)[k.toNat] := by rw [e]; simp
  simp only [Nat.sub_zero] at q1 q2 q3
  refine ⟨by rw [e2]; exact q1, by rw [e]; simp, ?_, by rw [e2]; exact q3⟩
  rw [← q2]
  simp only [e2]
  exact List.getElem?_eq_getElem q1
end NetR
end Go.Proofs.Ytbkneamjpiiepaa
