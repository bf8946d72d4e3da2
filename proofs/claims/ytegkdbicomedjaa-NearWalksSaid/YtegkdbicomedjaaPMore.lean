/- One arc more. Plain laws. -/
import Derived.Test.YtegkdbicomedjaaPWalk

namespace Go.Proofs.Ytegkdbicomedjaa
open Go Fly
set_option linter.unusedVariables false
set_option linter.unusedSimpArgs false

/-- The way over the new arc. -/
def over (D Y : List Int) (u : Nat) (w : Int) (v : Nat) : Int := if dg D u < INF ∧ dg Y v < INF then dg D u + w + dg Y v else INF
theorem Wk.more {e : List Arc} {a : Arc} {s v : Nat} {m : Int} (h : Wk e (fun _ => true) s v m) : Wk (e ++ [a]) (fun _ => true) s v m := by
  induction h with
  | nil => exact .nil
  | @step n i hi hp _ ih =>
    have hi' : i < (e ++ [a]).length := by simp; omega
    have eq : (e ++ [a])[i] = e[i] := List.getElem_append_left hi
    have := Wk.step (p := fun _ => true) hi' rfl (by rw [eq]; exact ih)
    rwa [eq] at this
theorem more_is {n : Nat} {e : List Arc} {a : Arc} {s : Nat} {D Y : List Int} (hD : IsD n e (fun _ => true) s D) (hY : IsD n e (fun _ => true) a.dst.toNat Y) (hs : s < n) (hu : a.src.toNat < n) (hv : a.dst.toNat < n) (hw : 0 ≤ a.wt) (hwe : ∀ x ∈ e, 0 ≤ x.wt) (hsrc : ∀ i (h : i < e.length), e[i].src.toNat < n) (hdst : ∀ i (h : i < e.length), e[i].dst.toNat < n)
    (hb : ∀ v, v < n → dg D a.src.toNat < INF → dg Y v < INF → dg D a.src.toNat + a.wt + dg Y v ≤ INF) :
    IsD n (e ++ [a]) (fun _ => true) s ((List.range n).map (fun v => min (dg D v) (over D Y a.src.toNat a.wt v))) := by
  have hl : ((List.range n).map (fun v => min (dg D v) (over D Y a.src.toNat a.wt v))).length = n := by simp
  have G : ∀ v, v < n → dg ((List.range n).map (fun v => min (dg D v) (over D Y a.src.toNat a.wt v))) v = min (dg D v) (over D Y a.src.toNat a.wt v) := fun v hv => by rw [dg_eq (by rw [hl]; exact hv)]; simp
  have hDr := hD.rng
  have hYr := hY.rng
  have O : ∀ v, v < n → 0 ≤ over D Y a.src.toNat a.wt v ∧ over D Y a.src.toNat a.wt v ≤ INF := fun v hv => by
    unfold over; have := hDr _ hu; have := hYr v hv
    split
    · rename_i h; have := hb v hv h.1 h.2; omega
    · omega
  have step : ∀ x : Arc, 0 ≤ x.wt → x.src.toNat < n → x.dst.toNat < n → dg D x.dst.toNat ≤ dg D x.src.toNat + x.wt → dg Y x.dst.toNat ≤ dg Y x.src.toNat + x.wt →
      min (dg D x.dst.toNat) (over D Y a.src.toNat a.wt x.dst.toNat) ≤ min (dg D x.src.toNat) (over D Y a.src.toNat a.wt x.src.toNat) + x.wt := fun x hx h1 h2 hd hy => by
    have h3 := hYr _ h1
    have h4 := hYr _ h2
    have h5 := hDr _ h1
    have h6 := hDr _ h2
    have o2 := O _ h2
    unfold over at o2 ⊢
    by_cases c1 : dg D a.src.toNat < INF ∧ dg Y x.src.toNat < INF
    · rw [if_pos c1]
      by_cases c2 : dg D a.src.toNat < INF ∧ dg Y x.dst.toNat < INF
      · rw [if_pos c2]; omega
      · have := hb _ h1 c1.1 c1.2
        have : dg Y x.dst.toNat = INF := by omega
        rw [if_neg c2]; have := hDr _ hu; omega
    · rw [if_neg c1]
      split <;> omega
  refine ⟨hl, fun v hv => ?_, ?_, fun i hi _ => ?_, fun v hv hlt => ?_⟩
  · rw [G v hv]; have := O v hv; have := hDr v hv; omega
  · rw [G s hs, hD.zero]; have := O s hs; omega
  · by_cases hie : i < e.length
    · have eq : (e ++ [a])[i] = e[i] := List.getElem_append_left hie
      rw [eq, G _ (hdst i hie), G _ (hsrc i hie)]
      exact step e[i] (hwe _ (List.getElem_mem hie)) (hsrc i hie) (hdst i hie) (hD.arcs i hie rfl) (hY.arcs i hie rfl)
    · have ei : i = e.length := by simp at hi; omega
      have eq : (e ++ [a])[i] = a := by subst ei; simp
      rw [eq, G _ hv, G _ hu]
      have h0 := hY.zero
      have h1 := hDr _ hu
      have h2 := hYr _ hu
      have o1 := O _ hu
      have o2 := O _ hv
      have o3 := hDr _ hv
      unfold over at o1 o2 ⊢
      rw [h0] at o2 ⊢
      by_cases c : dg D a.src.toNat < INF
      · rw [if_pos ⟨c, by decide⟩] at o2 ⊢
        by_cases c2 : dg D a.src.toNat < INF ∧ dg Y a.src.toNat < INF
        · rw [if_pos c2]; omega
        · rw [if_neg c2]; omega
      · rw [if_neg (fun h => c h.1)] at o2 ⊢
        rw [if_neg (fun h => c h.1)]; omega
  · rw [G v hv] at hlt ⊢
    rcases Int.le_total (dg D v) (over D Y a.src.toNat a.wt v) with h | h
    · rw [Int.min_eq_left h] at hlt ⊢
      exact (hD.walk v hv hlt).more
    · rw [Int.min_eq_right h] at hlt ⊢
      unfold over at hlt ⊢
      by_cases c : dg D a.src.toNat < INF ∧ dg Y v < INF
      · rw [if_pos c]
        have w1 := (hD.walk _ hu c.1).more (a := a)
        have w2 := (hY.walk v hv c.2).more (a := a)
        have hi : e.length < (e ++ [a]).length := by simp
        have eq : (e ++ [a])[e.length] = a := by simp
        have w3 := Wk.step (p := fun _ => true) hi rfl (by rw [eq]; exact w1)
        rw [eq] at w3
        exact w3.trans w2
      · rw [if_neg c] at hlt; omega
end Go.Proofs.Ytegkdbicomedjaa
