/- Plain laws of graphs: no program in sight. -/
import Derived.Test.YtkmkakpadgljeaaFlyD

namespace Go.Proofs.Ytkmkakpadgljeaa
open Go Fly
set_option linter.unusedVariables false

def arcBad (N : Int) (x : Arc) : Bool := decide (x.src < 0 ∨ N ≤ x.src ∨ x.dst < 0 ∨ N ≤ x.dst)

def gcheck (N : Int) (l : List Arc) : Int × Int :=
  if N < 1 ∨ 1024 < N then (0, 1) else if 8192 < l.length then (0, 2) else
  match l.findIdx? (arcBad N) with
  | some i => (i, 30)
  | none => (0, 0)

theorem gcheck_range {N : Int} {l : List Arc} (h : N < 1 ∨ 1024 < N) : gcheck N l = (0, 1) := by simp [gcheck, h]
theorem gcheck_long {N : Int} {l : List Arc} (h : 1 ≤ N ∧ N ≤ 1024) (hl : 8192 < l.length) : gcheck N l = (0, 2) := by
  have : ¬ (N < 1 ∨ 1024 < N) := by omega
  simp [gcheck, this, hl]
theorem gcheck_ok {N : Int} {l : List Arc} (h : 1 ≤ N ∧ N ≤ 1024) (hl : l.length ≤ 8192) (hall : ∀ j (h : j < l.length), arcBad N l[j] = false) : gcheck N l = (0, 0) := by
  have h1 : ¬ (N < 1 ∨ 1024 < N) := by omega
  have h2 : ¬ 8192 < l.length := by omega
  have h3 : l.findIdx? (arcBad N) = none := by
    rw [List.findIdx?_eq_none_iff]
    intro x hx
    obtain ⟨j, hj, rfl⟩ := List.mem_iff_getElem.1 hx
    exact hall j hj
  simp [gcheck, h1, h2, h3]
theorem gcheck_bad {N : Int} {l : List Arc} {k : Nat} (h : 1 ≤ N ∧ N ≤ 1024) (hl : l.length ≤ 8192) (hk : k < l.length) (hall : ∀ j (h : j < l.length), j < k → arcBad N l[j] = false) (hb : arcBad N l[k] = true) :
    gcheck N l = ((k : Int), 30) := by
  have h1 : ¬ (N < 1 ∨ 1024 < N) := by omega
  have h2 : ¬ 8192 < l.length := by omega
  have h3 : l.findIdx? (arcBad N) = some k := by
    rw [List.findIdx?_eq_some_iff_getElem]
    exact ⟨hk, hb, fun j hj => by simp [hall j (by omega) hj]⟩
  simp [gcheck, h1, h2, h3]

theorem wrap_u64_of {x : Int} (h : I64 x) : IntKind.u64.wrap x = if x < 0 then x + 18446744073709551616 else x := by
  unfold I64 at h; unfold IntKind.wrap IntKind.bits IntKind.signed; simp only; split <;> rename_i hc <;> simp at hc <;> split <;> omega
theorem badU {N x : Int} (hN : 1 ≤ N ∧ N ≤ 1024) (h : I64 x) : IntKind.u64.wrap N ≤ IntKind.u64.wrap x ↔ (x < 0 ∨ N ≤ x) := by
  have hN' : I64 N := ⟨by omega, by omega⟩
  rw [wrap_u64_of h, wrap_u64_of hN']; unfold I64 at h; split <;> split <;> omega
theorem arcBadL {N : Int} {x : Arc} (hN : 1 ≤ N ∧ N ≤ 1024) (h : ArcOk x) (hb : IntKind.u64.wrap N ≤ IntKind.u64.wrap x.src) : arcBad N x = true := by
  have := (badU hN h.src).1 hb
  unfold arcBad; simp; omega
theorem arcBadR {N : Int} {x : Arc} (hN : 1 ≤ N ∧ N ≤ 1024) (h : ArcOk x) (hb : IntKind.u64.wrap N ≤ IntKind.u64.wrap x.dst) : arcBad N x = true := by
  have := (badU hN h.dst).1 hb
  unfold arcBad; simp; omega
theorem arcGood {N : Int} {x : Arc} (hN : 1 ≤ N ∧ N ≤ 1024) (h : ArcOk x) (h1 : ¬ IntKind.u64.wrap N ≤ IntKind.u64.wrap x.src) (h2 : ¬ IntKind.u64.wrap N ≤ IntKind.u64.wrap x.dst) : arcBad N x = false := by
  have a := mt (badU hN h.src).2 h1
  have b := mt (badU hN h.dst).2 h2
  unfold arcBad; simp; omega
theorem good_next {N : Int} {l : List Arc} {k : Nat} {hk : k < l.length} (hall : ∀ j (h : j < l.length), j < k → arcBad N l[j] = false) (hb : arcBad N l[k] = false) :
    ∀ j (h : j < l.length), j < k + 1 → arcBad N l[j] = false := fun j h hj => by
  by_cases e : j = k
  · subst e; exact hb
  · exact hall j h (by omega)

def glooked (N : Int) (l : List Arc) (v : Int) : Int := if (gcheck N l).2 ≠ 0 then (gcheck N l).2 else if v < 0 ∨ N ≤ v then 5 else 0
theorem glooked_bad {N : Int} {l : List Arc} {v : Int} (h : (gcheck N l).2 ≠ 0) : glooked N l v = (gcheck N l).2 := if_pos h
theorem glooked_none {N : Int} {l : List Arc} {v : Int} (h : (gcheck N l).2 = 0) (hv : v < 0 ∨ N ≤ v) : glooked N l v = 5 := by simp [glooked, h, hv]
theorem glooked_ok {N : Int} {l : List Arc} {v : Int} (h : (gcheck N l).2 = 0) (h0 : 0 ≤ v) (h1 : v < N) : glooked N l v = 0 := by
  have : ¬ (v < 0 ∨ N ≤ v) := by omega
  simp [glooked, h, this]

/-- The places at which something is so. -/
def idxs {α : Type} (p : α → Bool) (l : List α) : List Int := (l.zipIdx.filter (fun x => p x.1)).map (fun x => (x.2 : Int))
theorem idxs_succ {α : Type} {p : α → Bool} {l : List α} {k : Nat} (hk : k < l.length) : idxs p (l.take (k + 1)) = idxs p (l.take k) ++ (if p l[k] then [(k : Int)] else []) := by
  unfold idxs
  rw [List.take_succ_eq_append_getElem hk, List.zipIdx_append, List.filter_append, List.map_append]
  congr 1
  have : (l.take k).length = k := by simp; omega
  simp only [this, Nat.zero_add, List.zipIdx_cons, List.zipIdx_nil, List.filter_cons, List.filter_nil]
  split <;> simp
theorem idxs_yes {α : Type} {p : α → Bool} {l : List α} {k : Nat} (hk : k < l.length) (h : p l[k] = true) : idxs p (l.take (k + 1)) = idxs p (l.take k) ++ [(k : Int)] := by rw [idxs_succ hk, if_pos h]
theorem idxs_no {α : Type} {p : α → Bool} {l : List α} {k : Nat} (hk : k < l.length) (h : p l[k] = false) : idxs p (l.take (k + 1)) = idxs p (l.take k) := by rw [idxs_succ hk, h]; simp


/-- The first place at which something is so, or -1. -/
def fidx {α : Type} (p : α → Bool) (l : List α) : Int := match l.findIdx? p with
  | some i => i
  | none => -1
theorem fidx_at {α : Type} {p : α → Bool} {l : List α} {k : Nat} (hk : k < l.length) (h : p l[k] = true) (hpre : ∀ j (h : j < l.length), j < k → p l[j] = false) : fidx p l = (k : Int) := by
  have : l.findIdx? p = some k := by rw [List.findIdx?_eq_some_iff_getElem]; exact ⟨hk, h, fun j hj => by simp [hpre j (by omega) hj]⟩
  unfold fidx; rw [this]
theorem fidx_none {α : Type} {p : α → Bool} {l : List α} (h : ∀ j (h : j < l.length), p l[j] = false) : fidx p l = -1 := by
  have : l.findIdx? p = none := by
    rw [List.findIdx?_eq_none_iff]; intro x hx
    obtain ⟨j, hj, rfl⟩ := List.mem_iff_getElem.1 hx
    exact h j hj
  unfold fidx; rw [this]
theorem false_next {α : Type} {p : α → Bool} {l : List α} {k : Nat} {hk : k < l.length} (h : ∀ j (a : j < l.length), j < k → p l[j] = false) (e : p l[k] = false) : ∀ j (a : j < l.length), j < k + 1 → p l[j] = false := fun j a hj => by
  by_cases hjk : j = k
  · subst hjk; exact e
  · exact h j a (by omega)
theorem fidx_has {α : Type} {p : α → Bool} {l : List α} : decide (0 ≤ fidx p l) = l.any p := by
  unfold fidx
  cases h : l.findIdx? p with
  | none =>
    rw [List.findIdx?_eq_none_iff] at h
    have : l.any p = false := by rw [List.any_eq_false]; intro x hx; simp [h x hx]
    rw [this]; rfl
  | some i =>
    rw [List.findIdx?_eq_some_iff_getElem] at h
    obtain ⟨hi, hp, _⟩ := h
    have : l.any p = true := List.any_eq_true.2 ⟨_, List.getElem_mem hi, hp⟩
    rw [this]; simp
end Go.Proofs.Ytkmkakpadgljeaa
