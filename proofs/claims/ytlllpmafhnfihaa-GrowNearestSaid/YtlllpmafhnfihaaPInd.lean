/- The graph of some vertices: plain laws. -/
import Derived.Test.YtlllpmafhnfihaaPGraph
import Derived.Test.YtlllpmafhnfihaaPParts
import Derived.Test.YtlllpmafhnfihaaFlyMap

namespace Go.Proofs.Ytlllpmafhnfihaa
open Go Fly
set_option linter.unusedVariables false
set_option linter.unusedSimpArgs false

/-- The kept vertices. -/
def verts (keep : List Bool) : List Int := idxs id keep
/-- How many kept ones are before a vertex. -/
def vrank (keep : List Bool) (v : Nat) : Nat := (verts (keep.take v)).length
def subArc (keep : List Bool) (x : Arc) : Arc := ⟨vrank keep x.src.toNat, vrank keep x.dst.toNat, x.wt⟩
def kin (keep : List Bool) (x : Arc) : Bool := keep.getD x.src.toNat false && keep.getD x.dst.toNat false
def subArcs (keep : List Bool) (l : List Arc) : List Arc := (l.filter (kin keep)).map (subArc keep)

theorem verts_all {keep : List Bool} {k : Nat} (h : keep.length ≤ k) : verts (keep.take k) = verts keep := by rw [List.take_of_length_le h]
theorem verts_yes {keep : List Bool} {k : Nat} (h : k < keep.length) (hk : keep[k] = true) : verts (keep.take (k + 1)) = verts (keep.take k) ++ [(k : Int)] := idxs_yes (p := id) h hk
theorem verts_no {keep : List Bool} {k : Nat} (h : k < keep.length) (hk : keep[k] = false) : verts (keep.take (k + 1)) = verts (keep.take k) := idxs_no (p := id) h hk
theorem verts_le (keep : List Bool) : (verts keep).length ≤ keep.length := by unfold verts; rw [idxs_length]; exact List.countP_le_length

theorem verts_take_le (keep : List Bool) (k : Nat) : (verts (keep.take k)).length ≤ k := Nat.le_trans (verts_le _) (List.length_take_le _ _)
/-- The map tells each kept vertex its number. -/
def Numbers (ents : List (Int × Value × Nat)) (keep : List Bool) (k : Nat) : Prop := ∀ j (h : j < keep.length), j < k → keep[j] = true → mget ents (j : Int) = some (.int .i64 (vrank keep j : Int))
theorem numbers_start (keep : List Bool) : Numbers [] keep 0 := fun j h hj => by omega
theorem numbers_yes {ents : List (Int × Value × Nat)} {keep : List Bool} {k c : Nat} (h : k < keep.length) (hn : Numbers ents keep k) (hk : keep[k] = true) : Numbers (mput ents (k : Int) (.int .i64 ((verts (keep.take k)).length : Int)) c) keep (k + 1) := fun j hj hjk hkj => by
  rw [mget_put]
  by_cases e : j = k
  · subst e; rw [if_pos rfl]; rfl
  · rw [if_neg (by omega)]; exact hn j hj (by omega) hkj
theorem numbers_no {ents : List (Int × Value × Nat)} {keep : List Bool} {k : Nat} (h : k < keep.length) (hn : Numbers ents keep k) (hk : keep[k] = false) : Numbers ents keep (k + 1) := fun j hj hjk hkj => by
  by_cases e : j = k
  · subst e; rw [hk] at hkj; cases hkj
  · exact hn j hj (by omega) hkj
theorem look_num {ents : List (Int × Value × Nat)} {keep : List Bool} (hn : ∀ (j : Nat) (h : j < keep.length), keep[j] = true → mget ents (j : Int) = some (.int .i64 (vrank keep j : Int))) {x : Int} (h0 : 0 ≤ x) (h : x.toNat < keep.length) (hk : keep[x.toNat] = true) {z : Value} :
    (mget ents x).getD z = .int .i64 (vrank keep x.toNat : Int) := by
  have := hn x.toNat h hk
  rw [show ((x.toNat : Nat) : Int) = x from by omega] at this
  rw [this]; rfl
theorem kin_get {keep : List Bool} {x : Arc} (h1 : x.src.toNat < keep.length) (h2 : x.dst.toNat < keep.length) : kin keep x = (keep[x.src.toNat] && keep[x.dst.toNat]) := by
  simp [kin, List.getD_eq_getElem?_getD, h1, h2]
theorem sub_yes {keep : List Bool} {l : List Arc} {k : Nat} (hk : k < l.length) (h : kin keep l[k] = true) : subArcs keep (l.take (k + 1)) = subArcs keep (l.take k) ++ [subArc keep l[k]] := by
  unfold subArcs; rw [List.take_succ_eq_append_getElem hk, List.filter_append, List.map_append]; simp [h]
theorem sub_no {keep : List Bool} {l : List Arc} {k : Nat} (hk : k < l.length) (h : kin keep l[k] = false) : subArcs keep (l.take (k + 1)) = subArcs keep (l.take k) := by
  unfold subArcs; rw [List.take_succ_eq_append_getElem hk, List.filter_append, List.map_append]; simp [h]
theorem sub_len (keep : List Bool) (l : List Arc) : (subArcs keep l).length ≤ l.length := by unfold subArcs; rw [List.length_map]; exact List.length_filter_le _ _
theorem idxs_len_le {α : Type} (p : α → Bool) (l : List α) : (idxs p l).length ≤ l.length := by rw [idxs_length]; exact List.countP_le_length
theorem sub_take_le (keep : List Bool) (l : List Arc) (k : Nat) : (subArcs keep (l.take k)).length ≤ k := Nat.le_trans (sub_len _ _) (List.length_take_le _ _)
theorem idxs_take_le {α : Type} (p : α → Bool) (l : List α) (k : Nat) : (idxs p (l.take k)).length ≤ k := Nat.le_trans (idxs_len_le _ _) (List.length_take_le _ _)
end Go.Proofs.Ytlllpmafhnfihaa
