/- The net's pure model, and how its bags lie in memory. -/
import Derived.Test.YtbkneamjpiiepaaFlyMap
import Derived.Test.YtbkneamjpiiepaaFlySlice

namespace Go.Proofs.Ytbkneamjpiiepaa
open Go Go.RowKit Fly
set_option linter.unusedVariables false
set_option linter.unusedSimpArgs false

structure NetM where
  down : List Bool
  bag : Int × Int → List ByteArray
  timers : List (Int × Int × Int)
  now : Int

namespace NetM
abbrev Non (A : NetM) (v : Int) : Prop := v < 0 ∨ (A.down.length : Int) ≤ v
abbrev Bad (A : NetM) (l : Int × Int) : Prop := A.Non l.1 ∨ A.Non l.2 ∨ l.1 = l.2
def looked (A : NetM) (l : Int × Int) : Int := if A.Bad l then 190 else 0
abbrev put (A : NetM) (l : Int × Int) (s : List ByteArray) : NetM := { A with bag := fun k => if k = l then s else A.bag k }
def isDown (A : NetM) (v : Int) : Bool := A.down.getD v.toNat false
def send (A : NetM) (l : Int × Int) (s : ByteArray) : Int × NetM :=
  if A.Bad l then (190, A) else if 262144 < s.size then (2, A) else if A.isDown l.1 then (191, A) else if 4096 ≤ (A.bag l).length then (2, A) else (0, A.put l (A.bag l ++ [s]))
def found (A : NetM) (l : Int × Int) (k : Int) : Int := if A.Bad l then 190 else if k < 0 ∨ ((A.bag l).length : Int) ≤ k then 5 else 0
def copy (A : NetM) (l : Int × Int) (k : Int) : Int × NetM :=
  if A.found l k ≠ 0 then (A.found l k, A) else if 4096 ≤ (A.bag l).length then (2, A) else (0, A.put l (A.bag l ++ [(A.bag l).getD k.toNat ⟨#[]⟩]))
def take (A : NetM) (l : Int × Int) (k : Int) : (ByteArray × Int) × NetM :=
  if A.found l k ≠ 0 then ((⟨#[]⟩, A.found l k), A) else if A.isDown l.2 then ((⟨#[]⟩, 191), A) else (((A.bag l).getD k.toNat ⟨#[]⟩, 0), A.put l ((A.bag l).eraseIdx k.toNat))
def lose (A : NetM) (l : Int × Int) (k : Int) : Int × NetM :=
  if A.found l k ≠ 0 then (A.found l k, A) else (0, A.put l ((A.bag l).eraseIdx k.toNat))
def new (n : Nat) : NetM := ⟨List.replicate n false, fun _ => [], [], 0⟩
theorem looked_zero {A : NetM} {l : Int × Int} : A.looked l = 0 ↔ ¬ A.Bad l := by unfold looked; split <;> simp_all
theorem looked_is (A : NetM) {l : Int × Int} (h : A.Bad l) : A.looked l = 190 := if_pos h
theorem looked_bad {A : NetM} {l : Int × Int} (h : ¬ A.looked l = 0) : A.Bad l ∧ A.looked l = 190 := by unfold looked at h ⊢; split <;> simp_all
theorem found_bad {A : NetM} {l : Int × Int} {k : Int} (h : A.Bad l) : A.found l k = 190 := by simp [found, h]
theorem found_zero {A : NetM} {l : Int × Int} {k : Int} (h : A.found l k = 0) : ¬ A.Bad l ∧ 0 ≤ k ∧ k < (A.bag l).length := by
  unfold found at h
  split at h
  · simp at h
  · split at h
    · simp at h
    · rename_i h1 h2; exact ⟨h1, by omega, by omega⟩
end NetM

def strs (l : List ByteArray) : List Value := l.map .string
theorem strs_length (l : List ByteArray) : (strs l).length = l.length := by simp [strs]
theorem strs_get {l : List ByteArray} {i : Nat} (h : i < l.length) : (strs l)[i]? = some (.string l[i]) := by simp [strs, h]
theorem strs_append (l r : List ByteArray) : strs (l ++ r) = strs l ++ strs r := by simp [strs]

/-- The bags' blocks: each entry of the map owns its own. -/
inductive Held (T : TypeId) (f : Int × Int → List ByteArray) : List ((Int × Int) × Value × Nat) → Seg → Prop
  | nil : Held T f [] []
  | cons {e : (Int × Int) × Value × Nat} {r : List ((Int × Int) × Value × Nat)} {m G : Seg} (h : Own T 1 e.2.1 (f e.1).length (strs (f e.1)) m) (t : Held T f r G) : Held T f (e :: r) (m ++ G)

theorem Held.other {T : TypeId} {f g : Int × Int → List ByteArray} {r : List ((Int × Int) × Value × Nat)} {G : Seg} (h : Held T f r G) (hg : ∀ q ∈ r.map (·.1), g q = f q) : Held T g r G := by
  induction h with
  | nil => exact .nil
  | cons h t ih => exact .cons (by rw [hg _ (by simp)]; exact h) (ih fun q hq => hg q (by simp only [List.map_cons, List.mem_cons]; exact .inr hq))

theorem Held.opened {T : TypeId} {f : Int × Int → List ByteArray} {r : List ((Int × Int) × Value × Nat)} {G : Seg} (h : Held T f r G) (hn : (r.map (·.1)).Nodup) {k : Int × Int} {v : Value} (hv : mget r k = some v) :
    ∃ m G', Own T 1 v (f k).length (strs (f k)) m ∧ G.Perm (m ++ G') ∧ (∀ g : Int × Int → List ByteArray, (∀ q, q ≠ k → g q = f q) → ∀ v' m' c, Own T 1 v' (g k).length (strs (g k)) m' → ∃ G'', Held T g (mput r k v' c) G'' ∧ (m' ++ G').Perm G'') ∧
      (∀ g : Int × Int → List ByteArray, (∀ q, q ≠ k → g q = f q) → ∃ G'', Held T g (mdel r k) G'' ∧ G'.Perm G'') := by
  induction h with
  | nil => cases hv
  | @cons e r m G h t ih =>
    simp only [List.map_cons, List.nodup_cons] at hn
    simp only [mget] at hv
    by_cases hx : k = e.1
    · rw [if_pos hx] at hv; cases hv
      subst hx
      refine ⟨m, G, h, List.Perm.refl _, fun g hg v' m' c ho => ⟨m' ++ G, ?_, List.Perm.refl _⟩, fun g hg => ⟨G, ?_, List.Perm.refl _⟩⟩
      · simp only [mput, if_pos]
        exact .cons (e := (e.1, v', e.2.2)) ho (t.other fun q hq => hg q fun he => hn.1 (he ▸ hq))
      · simp only [mdel, if_pos]
        exact t.other fun q hq => hg q fun he => hn.1 (he ▸ hq)
    · rw [if_neg hx] at hv
      obtain ⟨m1, G1, h1, h2, h3, h4⟩ := ih hn.2 hv
      refine ⟨m1, m ++ G1, h1, ?_, fun g hg v' m' c ho => ?_, fun g hg => ?_⟩
      · exact (h2.append_left m).trans (by rw [← List.append_assoc, ← List.append_assoc]; exact List.perm_append_comm.append_right _)
      · obtain ⟨G'', q1, q2⟩ := h3 g hg v' m' c ho
        refine ⟨m ++ G'', ?_, ?_⟩
        · simp only [mput, if_neg hx]; exact .cons (by rw [hg _ (fun he => hx he.symm)]; exact h) q1
        · refine List.Perm.trans ?_ (q2.append_left m)
          rw [← List.append_assoc, ← List.append_assoc]; exact List.perm_append_comm.append_right _
      · obtain ⟨G'', q1, q2⟩ := h4 g hg
        refine ⟨m ++ G'', ?_, q2.append_left m⟩
        simp only [mdel, if_neg hx]; exact .cons (by rw [hg _ (fun he => hx he.symm)]; exact h) q1
theorem Held.fresh {T : TypeId} {f : Int × Int → List ByteArray} {r : List ((Int × Int) × Value × Nat)} {G : Seg} (h : Held T f r G) {k : Int × Int} (hv : mget r k = none) (g : Int × Int → List ByteArray) (hg : ∀ q, q ≠ k → g q = f q) (v' : Value) (m' : Seg) (c : Nat)
    (ho : Own T 1 v' (g k).length (strs (g k)) m') : ∃ G'', Held T g (mput r k v' c) G'' ∧ (m' ++ G).Perm G'' := by
  induction h with
  | nil =>
    refine ⟨m' ++ [], ?_, List.Perm.refl _⟩
    exact .cons (e := (k, v', c)) ho .nil
  | @cons e r m G h t ih =>
    simp only [mget] at hv
    by_cases hx : k = e.1
    · rw [if_pos hx] at hv; cases hv
    · rw [if_neg hx] at hv
      obtain ⟨G'', q1, q2⟩ := ih hv
      refine ⟨m ++ G'', ?_, ?_⟩
      · simp only [mput, if_neg hx]; exact .cons (by rw [hg _ (fun he => hx he.symm)]; exact h) q1
      · refine List.Perm.trans ?_ (q2.append_left m)
        rw [← List.append_assoc, ← List.append_assoc]; exact List.perm_append_comm.append_right _

theorem strs_one (l : List ByteArray) : (strs l).all (·.oneCell') = true := by
  rw [List.all_eq_true]; intro x hx; obtain ⟨s, _, rfl⟩ := List.mem_map.1 hx; rfl
theorem del_read {l : List ByteArray} {sp : List Value} {k j : Nat} {v : Value} (hk : k < l.length) (h : (strs (l.drop (k + 1)))[j]? = some v) : (strs (l.take k) ++ (strs (l.drop k) ++ sp))[k + 1 + j]? = some v := by
  have hl : (strs (l.take k)).length = k := by simp [strs]; omega
  have hj : j < l.length - (k + 1) := by have := (List.getElem?_eq_some_iff.1 h).1; simpa [strs] using this
  rw [List.getElem?_append_right (by omega), hl, List.getElem?_append_left (by simp [strs]; omega)]
  simp only [strs, List.getElem?_map, List.getElem?_drop] at h ⊢
  rw [show k + (k + 1 + j - k) = k + 1 + j from by omega]; exact h
theorem del_clear (l : List ByteArray) (sp : List Value) (k : Nat) (hk : k < l.length) (x : Value) :
    (strs (l.take k) ++ (strs (l.drop (k + 1)) ++ (strs (l.drop k) ++ sp).drop (strs (l.drop (k + 1))).length)).set (k + (l.length - (k + 1))) x = strs (l.eraseIdx k) ++ x :: sp := by
  have := moved_up (strs (l.take k)) (strs (l.drop (k + 1))) (strs (l.drop k)) sp x (by simp [strs]; omega)
  rw [← strs_append, ← List.eraseIdx_eq_take_drop_succ] at this
  rw [← this]
  congr 1
  simp [strs]; omega
theorem mdel_put {α : Type} [DecidableEq α] (l : List (α × Value × Nat)) (x : α) (v : Value) (c : Nat) : mdel (mput l x v c) x = mdel l x := by
  induction l with
  | nil => simp [mput, mdel]
  | cons e r ih =>
    simp only [mput]
    by_cases h : x = e.1
    · simp [h, mdel]
    · simp [h, mdel, ih]
/-- A bag, there or not. -/
theorem Held.bag {T : TypeId} {f : Int × Int → List ByteArray} {r : List ((Int × Int) × Value × Nat)} {G : Seg} (h : Held T f r G) (hn : (r.map (·.1)).Nodup) (hz : ∀ k, mget r k = none → f k = []) (k : Int × Int) :
    ∃ m G', Own T 1 ((mget r k).getD (.slice none 0 0)) (f k).length (strs (f k)) m ∧ G.Perm (m ++ G') ∧ (∀ g : Int × Int → List ByteArray, (∀ q, q ≠ k → g q = f q) → ∀ v' m' c, Own T 1 v' (g k).length (strs (g k)) m' → ∃ G'', Held T g (mput r k v' c) G'' ∧ (m' ++ G').Perm G'') := by
  cases hg : mget r k with
  | some v =>
    obtain ⟨m, G', h1, h2, h3, _⟩ := h.opened hn hg
    exact ⟨m, G', h1, h2, h3⟩
  | none =>
    refine ⟨[], G, by rw [hz k hg]; exact Own.nil _ _, by simp, fun g hgg v' m' c ho => h.fresh hg g hgg v' m' c ho⟩
theorem NetM.bag_put (A : NetM) (l : Int × Int) (s : List ByteArray) : (A.put l s).bag l = s := by simp [NetM.put]
theorem NetM.bag_other (A : NetM) (l : Int × Int) (s : List ByteArray) {q : Int × Int} (h : q ≠ l) : (A.put l s).bag q = A.bag q := by simp [NetM.put, h]

theorem Sub.flat {segs out : List Seg} (h : Sub segs out) : Sub segs [out.flatten] := by
  obtain ⟨rest, h⟩ := h; exact ⟨rest, by simpa using h⟩
theorem Sub.join {segs r : List Seg} {m G G'' : Seg} (h : Sub segs (m :: G :: r)) (hp : (m ++ G).Perm G'') : Sub segs (G'' :: r) := by
  obtain ⟨rest, h⟩ := h
  refine ⟨rest, h.trans ?_⟩
  simp only [List.flatten_cons, ← List.append_assoc]
  exact (hp.append_right _).append_right _
theorem Sub.split {G : Seg} {tl : List Seg} {m G' : Seg} (hp : G.Perm (m ++ G')) : Sub (G :: tl) (m :: G' :: tl) := by
  refine ⟨[], ?_⟩
  simp only [List.flatten_cons, List.append_nil, ← List.append_assoc]
  exact hp.append_right _
theorem Sub.of_perm {m : Seg} {out : List Seg} (h : m.Perm out.flatten) : Sub [m] out := ⟨[], by simpa using h⟩
theorem Sub.opened {m : Seg} {tl out : List Seg} (h : m.Perm out.flatten) : Sub (m :: tl) (out ++ tl) := ⟨[], by simp only [List.flatten_cons, List.flatten_append, List.append_nil]; exact h.append_right _⟩
theorem Sub.shut {m : Seg} {tl out : List Seg} (h : m.Perm out.flatten) : Sub (out ++ tl) (m :: tl) := ⟨[], by simp only [List.flatten_cons, List.flatten_append, List.append_nil]; exact h.symm.append_right _⟩
theorem Sub.splitAt {segs out : List Seg} {G m G' : Seg} [p : Pick segs G out] (hp : G.Perm (m ++ G')) : Sub segs (m :: G' :: out) :=
  ⟨[], by simp only [List.flatten_cons, List.append_nil, ← List.append_assoc]; exact p.perm.trans (hp.append_right _)⟩
theorem Sub.joinAt {segs s1 s2 : List Seg} {m G' G'' : Seg} [p : Pick segs m s1] [q : Pick s1 G' s2] (hp : (m ++ G').Perm G'') : Sub segs (G'' :: s2) :=
  ⟨[], by simp only [List.flatten_cons, List.append_nil]; exact p.perm.trans ((q.perm.append_left m).trans (by rw [← List.append_assoc]; exact hp.append_right _))⟩
theorem Sub.two {segs : List Seg} : Sub segs [[], []] := ⟨segs.flatten, by simp⟩
theorem Sub.permAt {segs s1 : List Seg} {G' G'' : Seg} [p : Pick segs G' s1] (hp : G'.Perm G'') : Sub segs (G'' :: s1) :=
  ⟨[], by simp only [List.flatten_cons, List.append_nil]; exact p.perm.trans (hp.append_right _)⟩
theorem Sub.trans {a b c : List Seg} (h : Sub a b) (k : Sub b c) : Sub a c := by
  obtain ⟨r, h⟩ := h
  obtain ⟨s, k⟩ := k
  exact ⟨s ++ r, h.trans (by rw [← List.append_assoc]; exact k.append_right r)⟩
end Go.Proofs.Ytbkneamjpiiepaa
