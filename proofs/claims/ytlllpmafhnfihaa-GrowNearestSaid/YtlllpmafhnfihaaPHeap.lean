/- An indexed heap: entries in an array, and where each number stands. Plain laws. -/
import Derived.Test.YtlllpmafhnfihaaFlyD

namespace Go.Proofs.Ytlllpmafhnfihaa
open Go Fly
set_option linter.unusedVariables false
set_option linter.unusedSimpArgs false

structure Ent where
  id : Nat
  key : Int
deriving DecidableEq
def entCs (x : Ent) : List Value := [.int .i64 (x.id : Int), .int .u64 x.key]
theorem entCs_len (x : Ent) : (entCs x).length = 2 := rfl

/-- Is an entry ahead of another one? -/
def elt (a b : Ent) : Prop := a.key < b.key ∨ (a.key = b.key ∧ a.id < b.id)
instance (a b : Ent) : Decidable (elt a b) := by unfold elt; infer_instance
def ele (a b : Ent) : Prop := ¬ elt b a
theorem ele_trans {a b c : Ent} (h : ele a b) (k : ele b c) : ele a c := by unfold ele elt at *; omega
theorem ele_of {a b : Ent} (h : elt a b) : ele a b := by unfold ele elt at *; omega
theorem ele_refl (a : Ent) : ele a a := by unfold ele elt; omega

def eg (l : List Ent) (i : Nat) : Ent := l.getD i ⟨0, 0⟩
theorem eg_eq {l : List Ent} {i : Nat} (h : i < l.length) : eg l i = l[i] := by simp [eg, List.getD_eq_getElem?_getD, h]
def par (c : Nat) : Nat := (c - 1) / 2
def sw (l : List Ent) (i j : Nat) : List Ent := (l.set i (eg l j)).set j (eg l i)
theorem sw_len (l : List Ent) (i j : Nat) : (sw l i j).length = l.length := by simp [sw]
theorem eg_sw {l : List Ent} {i j : Nat} (hi : i < l.length) (hj : j < l.length) (k : Nat) : eg (sw l i j) k = if k = j then eg l i else if k = i then eg l j else eg l k := by
  unfold sw
  by_cases hk : k < l.length
  · rw [eg_eq (by simpa using hk), List.getElem_set, List.getElem_set]
    by_cases e1 : k = j
    · simp [e1]
    · by_cases e2 : k = i
      · rw [if_neg (fun h => e1 h.symm), if_pos e2.symm, if_neg e1, if_pos e2]
      · rw [if_neg (fun h => e1 h.symm), if_neg (fun h => e2 h.symm), if_neg e1, if_neg e2, eg_eq hk]
  · have h1 : k ≠ j := by omega
    have h2 : k ≠ i := by omega
    rw [if_neg h1, if_neg h2]
    simp [eg, List.getD_eq_getElem?_getD, Nat.le_of_not_lt hk]
theorem sw_perm {l : List Ent} {i j : Nat} (hi : i < l.length) (hj : j < l.length) : (sw l i j).Perm l := by
  unfold sw; rw [eg_eq hi, eg_eq hj]; exact List.set_set_perm hi hj
theorem sw_drop {l : List Ent} {i j n : Nat} (hi : i < n) (hj : j < n) : (sw l i j).drop n = l.drop n := by
  unfold sw; rw [List.drop_set_of_lt hj, List.drop_set_of_lt hi]

/-! ### the order -/
def Full (l : List Ent) (n : Nat) : Prop := ∀ c, 0 < c → c < n → ele (eg l (par c)) (eg l c)
theorem full_root {l : List Ent} {n : Nat} (h : Full l n) : ∀ i, i < n → ele (eg l 0) (eg l i) := by
  intro i
  induction i using Nat.strongRecOn with
  | _ i ih =>
    intro hi
    rcases Nat.eq_zero_or_pos i with rfl | h0
    · exact ele_refl _
    · exact ele_trans (ih (par i) (by unfold par; omega) (by unfold par; omega)) (h i h0 hi)

structure UpOk (l : List Ent) (n j : Nat) : Prop where
  u1 : ∀ c, 0 < c → c < n → c ≠ j → ele (eg l (par c)) (eg l c)
  u2 : 0 < j → ∀ c, 0 < c → c < n → par c = j → ele (eg l (par j)) (eg l c)
theorem up_zero {l : List Ent} {n : Nat} (h : UpOk l n 0) : Full l n := fun c h0 hn => h.u1 c h0 hn (by omega)
theorem up_stop {l : List Ent} {n j : Nat} (h : UpOk l n j) (hs : ¬ elt (eg l j) (eg l (par j))) : Full l n := fun c h0 hn => by
  by_cases e : c = j
  · subst e; exact hs
  · exact h.u1 c h0 hn e
theorem up_step {l : List Ent} {n j : Nat} (h : UpOk l n j) (h0 : 0 < j) (hj : j < n) (hn : n ≤ l.length) (hs : elt (eg l j) (eg l (par j))) : UpOk (sw l (par j) j) n (par j) := by
  have hp : par j < j := by unfold par; omega
  have G := eg_sw (l := l) (i := par j) (j := j) (by omega) (by omega)
  refine ⟨fun c c0 cn hc => ?_, fun hp0 c c0 cn hc => ?_⟩
  · rw [G (par c), G c]
    by_cases e1 : c = j
    · subst e1
      rw [if_neg (show par c ≠ c by omega), if_pos rfl, if_pos rfl]
      exact ele_of hs
    · rw [if_neg e1, if_neg hc]
      by_cases e2 : par c = j
      · rw [if_pos e2]; exact h.u2 h0 c c0 cn e2
      · rw [if_neg e2]
        by_cases e3 : par c = par j
        · rw [if_pos e3]
          exact ele_trans (ele_of hs) (by have := h.u1 c c0 cn e1; rwa [e3] at this)
        · rw [if_neg e3]; exact h.u1 c c0 cn e1
  · have hpp : par (par j) < par j := by unfold par at *; omega
    rw [G (par (par j)), G c, if_neg (by omega), if_neg (by omega)]
    have hb := h.u1 (par j) hp0 (by omega) (by omega)
    by_cases e1 : c = j
    · rw [if_pos e1]; exact hb
    · rw [if_neg e1, if_neg (fun e => by rw [e] at hc; omega)]
      exact ele_trans hb (by have := h.u1 c c0 cn e1; rwa [hc] at this)

structure DnOk (l : List Ent) (n i0 i : Nat) : Prop where
  d1 : ∀ c, 0 < c → c < n → par c ≠ i → (c ≠ i ∨ i ≠ i0) → ele (eg l (par c)) (eg l c)
  d2 : 0 < i → ∀ c, 0 < c → c < n → par c = i → ele (eg l (par i)) (eg l c)
theorem dn_stop {l : List Ent} {n i0 i : Nat} (h : DnOk l n i0 i) (hs : ∀ c, 0 < c → c < n → par c = i → ele (eg l i) (eg l c)) : ∀ c, 0 < c → c < n → (c ≠ i ∨ i ≠ i0) → ele (eg l (par c)) (eg l c) := fun c c0 cn hc => by
  by_cases e : par c = i
  · rw [e]; exact hs c c0 cn e
  · exact h.d1 c c0 cn e hc
theorem dn_moved {l : List Ent} {n i0 i : Nat} (h : ∀ c, 0 < c → c < n → (c ≠ i ∨ i ≠ i0) → ele (eg l (par c)) (eg l c)) (hi : i0 < i) : Full l n := fun c c0 cn => h c c0 cn (.inr (by omega))
theorem dn_stays {l : List Ent} {n i : Nat} (h : ∀ c, 0 < c → c < n → (c ≠ i ∨ i ≠ i) → ele (eg l (par c)) (eg l c)) (hd : DnOk l n i i) : UpOk l n i :=
  ⟨fun c c0 cn hc => h c c0 cn (.inl hc), hd.d2⟩
theorem dn_step {l : List Ent} {n i0 i j : Nat} (h : DnOk l n i0 i) (hi0 : i0 ≤ i) (hj0 : 0 < j) (hj : par j = i) (hjn : j < n) (hn : n ≤ l.length) (hs : elt (eg l j) (eg l i)) (hb : ∀ c, 0 < c → c < n → par c = i → ele (eg l j) (eg l c)) : DnOk (sw l i j) n i0 j := by
  have hij : i < j := by unfold par at hj; omega
  have G := eg_sw (l := l) (i := i) (j := j) (by omega) (by omega)
  refine ⟨fun c c0 cn hc _ => ?_, fun _ c c0 cn hc => ?_⟩
  · rw [G (par c), G c, if_neg hc]
    by_cases e1 : c = j
    · subst e1; rw [if_pos hj, if_pos rfl]; exact ele_of hs
    · rw [if_neg e1]
      by_cases e2 : par c = i
      · rw [if_pos e2, if_neg (by unfold par at e2; omega)]; exact hb c c0 cn e2
      · rw [if_neg e2]
        by_cases e3 : c = i
        · subst e3; rw [if_pos rfl]; exact h.d2 c0 j hj0 hjn hj
        · rw [if_neg e3]; exact h.d1 c c0 cn e2 (.inl e3)
  · rw [G (par j), G c, hj, if_neg (by omega), if_pos rfl]
    have hcj : j < c := by unfold par at hc; omega
    rw [if_neg (by omega), if_neg (by omega)]
    have := h.d1 c c0 cn (by omega) (.inl (by omega))
    rwa [hc] at this

/-! ### where each number stands -/
structure HOk (l : List Ent) (at_ : List Int) : Prop where
  h1 : ∀ i, i < l.length → at_[(eg l i).id]? = some (i : Int)
  h2 : ∀ k, k < at_.length → at_[k]? = some (-1) ∨ ∃ i : Nat, i < l.length ∧ at_[k]? = some (i : Int) ∧ (eg l i).id = k
theorem HOk.lt {l : List Ent} {at_ : List Int} (h : HOk l at_) {i : Nat} (hi : i < l.length) : (eg l i).id < at_.length := by
  rcases Nat.lt_or_ge (eg l i).id at_.length with h' | h'
  · exact h'
  · have := h.h1 i hi; rw [List.getElem?_eq_none h'] at this; cases this
theorem HOk.inj {l : List Ent} {at_ : List Int} (h : HOk l at_) {i j : Nat} (hi : i < l.length) (hj : j < l.length) (e : (eg l i).id = (eg l j).id) : i = j := by
  have a := h.h1 i hi
  have b := h.h1 j hj
  rw [e, b] at a
  have := Option.some.inj a; omega
def swAt (l : List Ent) (at_ : List Int) (i j : Nat) : List Int := (at_.set (eg l j).id (i : Int)).set (eg l i).id (j : Int)
theorem swAt_len (l : List Ent) (at_ : List Int) (i j : Nat) : (swAt l at_ i j).length = at_.length := by simp [swAt]
theorem HOk.sw {l : List Ent} {at_ : List Int} (h : HOk l at_) {i j : Nat} (hi : i < l.length) (hj : j < l.length) : HOk (sw l i j) (swAt l at_ i j) := by
  have G := eg_sw (l := l) hi hj
  have A : ∀ k, (swAt l at_ i j)[k]? = if (eg l i).id = k then some (j : Int) else if (eg l j).id = k then some (i : Int) else at_[k]? := fun k => by
    unfold swAt
    rw [List.getElem?_set, List.getElem?_set]
    have a := h.lt hi
    have b := h.lt hj
    simp only [List.length_set, a, b, if_true]
  refine ⟨fun p hp => ?_, fun k hk => ?_⟩
  · rw [sw_len] at hp
    rw [G p, A]
    by_cases e1 : p = j
    · rw [if_pos e1, if_pos rfl, e1]
    · rw [if_neg e1]
      by_cases e2 : p = i
      · subst e2
        rw [if_pos rfl, if_neg (fun e => e1 (h.inj hp hj e)), if_pos rfl]
      · rw [if_neg e2, if_neg (fun e => e2 (h.inj hp hi e.symm)), if_neg (fun e => e1 (h.inj hp hj e.symm))]
        exact h.h1 p hp
  · rw [swAt_len] at hk
    rw [A]
    by_cases e1 : (eg l i).id = k
    · exact .inr ⟨j, by rw [sw_len]; exact hj, by rw [if_pos e1], by rw [G j, if_pos rfl]; exact e1⟩
    · rw [if_neg e1]
      by_cases e2 : (eg l j).id = k
      · refine .inr ⟨i, by rw [sw_len]; exact hi, by rw [if_pos e2], ?_⟩
        rw [G i]
        split
        · rename_i e; subst e; exact e2
        · rw [if_pos rfl]; exact e2
      · rw [if_neg e2]
        rcases h.h2 k hk with h' | ⟨p, hp, ep, eid⟩
        · exact .inl h'
        · refine .inr ⟨p, by rw [sw_len]; exact hp, ep, ?_⟩
          rw [G p, if_neg (fun e => e2 (by rw [← e]; exact eid)), if_neg (fun e => e1 (by rw [← e]; exact eid))]
          exact eid
/-- One more entry. -/
theorem eg_app {l : List Ent} {e : Ent} {i : Nat} : eg (l ++ [e]) i = if i < l.length then eg l i else if i = l.length then e else ⟨0, 0⟩ := by
  unfold eg
  rw [List.getD_eq_getElem?_getD, List.getD_eq_getElem?_getD]
  by_cases h : i < l.length
  · rw [if_pos h, List.getElem?_append_left h]
  · rw [if_neg h, List.getElem?_append_right (by omega)]
    by_cases h' : i = l.length
    · subst h'; simp
    · rw [if_neg h', List.getElem?_eq_none (by simp; omega)]; rfl
theorem HOk.push {l : List Ent} {at_ : List Int} (h : HOk l at_) {e : Ent} (he : at_[e.id]? = some (-1)) : HOk (l ++ [e]) (at_.set e.id (l.length : Int)) := by
  have hel : e.id < at_.length := (List.getElem?_eq_some_iff.1 he).1
  refine ⟨fun i hi => ?_, fun k hk => ?_⟩
  · rw [eg_app]
    by_cases hil : i < l.length
    · rw [if_pos hil, List.getElem?_set_ne, h.h1 i hil]
      intro e'; have := h.h1 i hil; rw [← e', he] at this; have := Option.some.inj this; omega
    · have : i = l.length := by simp at hi; omega
      rw [if_neg hil, if_pos this, List.getElem?_set_self hel, this]
  · rw [List.length_set] at hk
    by_cases e' : e.id = k
    · subst e'
      exact .inr ⟨l.length, by simp, by rw [List.getElem?_set_self hel], by rw [eg_app, if_neg (by omega), if_pos rfl]⟩
    · rw [List.getElem?_set_ne e']
      rcases h.h2 k hk with h' | ⟨p, hp, ep, eid⟩
      · exact .inl h'
      · exact .inr ⟨p, by simp; omega, ep, by rw [eg_app, if_pos hp]; exact eid⟩
theorem eg_take {l : List Ent} {n i : Nat} (h : i < n) : eg (l.take n) i = eg l i := by
  unfold eg; rw [List.getD_eq_getElem?_getD, List.getD_eq_getElem?_getD, List.getElem?_take_of_lt h]
/-- The last entry is gone. -/
theorem HOk.pop {l : List Ent} {at_ : List Int} (h : HOk l at_) {n : Nat} (hn : l.length = n + 1) : HOk (l.take n) (at_.set (eg l n).id (-1)) := by
  have hlen : (l.take n).length = n := by simp; omega
  refine ⟨fun i hi => ?_, fun k hk => ?_⟩
  · rw [hlen] at hi
    rw [eg_take hi, List.getElem?_set_ne, h.h1 i (by omega)]
    intro e; have := h.inj (by omega) (by omega) e; omega
  · rw [List.length_set] at hk
    by_cases e : (eg l n).id = k
    · rw [← e]; exact .inl (by rw [List.getElem?_set_self (by omega)])
    · rw [List.getElem?_set_ne e]
      rcases h.h2 k hk with h' | ⟨p, hp, ep, eid⟩
      · exact .inl h'
      · have : p ≠ n := fun e' => e (by rw [← e']; exact eid)
        exact .inr ⟨p, by omega, ep, by rw [eg_take (by omega)]; exact eid⟩
theorem eg_set {l : List Ent} {i : Nat} {e : Ent} (h : i < l.length) (k : Nat) : eg (l.set i e) k = if i = k then e else eg l k := by
  unfold eg; rw [List.getD_eq_getElem?_getD, List.getD_eq_getElem?_getD, List.getElem?_set]
  split
  · rename_i e'; subst e'; simp [h]
  · rfl
theorem HOk.key {l : List Ent} {at_ : List Int} (h : HOk l at_) {i : Nat} (hi : i < l.length) (x : Int) : HOk (l.set i ⟨(eg l i).id, x⟩) at_ := by
  have G := eg_set (e := ⟨(eg l i).id, x⟩) hi
  have I : ∀ p, (eg (l.set i ⟨(eg l i).id, x⟩) p).id = (eg l p).id := fun p => by rw [G p]; split <;> simp_all
  refine ⟨fun p hp => by rw [I]; exact h.h1 p (by simpa using hp), fun k hk => ?_⟩
  rcases h.h2 k hk with h' | ⟨p, hp, ep, eid⟩
  · exact .inl h'
  · exact .inr ⟨p, by simpa using hp, ep, by rw [I]; exact eid⟩

/-! ### what order is left by each change -/
theorem up_push {l : List Ent} {e : Ent} (h : Full l l.length) : UpOk (l ++ [e]) (l.length + 1) l.length := by
  refine ⟨fun c c0 cn hc => ?_, fun h0 c c0 cn hc => ?_⟩
  · rw [eg_app, eg_app, if_pos (by unfold par; omega), if_pos (by omega)]
    exact h c c0 (by omega)
  · unfold par at hc; omega
theorem dn_key {l : List Ent} {i : Nat} {x : Int} (h : Full l l.length) (hi : i < l.length) : DnOk (l.set i ⟨(eg l i).id, x⟩) l.length i i := by
  have G := eg_set (e := ⟨(eg l i).id, x⟩) hi
  refine ⟨fun c c0 cn hc hc' => ?_, fun h0 c c0 cn hc => ?_⟩
  · rw [G (par c), G c, if_neg (fun e => hc e.symm), if_neg (by omega)]; exact h c c0 cn
  · rw [G (par i), G c, if_neg (by unfold par; omega), if_neg (by unfold par at hc; omega)]
    have a := h i h0 hi
    have b := h c c0 cn
    rw [hc] at b
    exact ele_trans a b
theorem dn_swap {l : List Ent} {i n : Nat} (h : Full l l.length) (hn : l.length = n + 1) (hi : i ≤ n) : DnOk (sw l i n) n i i := by
  have G := eg_sw (l := l) (i := i) (j := n) (by omega) (by omega)
  refine ⟨fun c c0 cn hc hc' => ?_, fun h0 c c0 cn hc => ?_⟩
  · rw [G (par c), G c, if_neg (by unfold par; omega), if_neg hc, if_neg (by omega), if_neg (by omega)]; exact h c c0 (by omega)
  · rw [G (par i), G c, if_neg (by unfold par; omega), if_neg (by unfold par; omega), if_neg (by omega), if_neg (by unfold par at hc; omega)]
    have a := h i h0 (by omega)
    have b := h c c0 (by omega)
    rw [hc] at b
    exact ele_trans a b
theorem full_take {l : List Ent} {n : Nat} (h : Full l n) : Full (l.take n) n := fun c c0 cn => by
  rw [eg_take (by unfold par; omega), eg_take cn]; exact h c c0 cn
theorem full_zero (l : List Ent) (n : Nat) (h : n ≤ 1) : Full l n := fun c c0 cn => by omega
theorem full_cut {l : List Ent} {n m : Nat} (h : Full l n) (hm : m ≤ n) : Full l m := fun c c0 cn => h c c0 (by omega)

/-! ### the table -/
/-- Of each number its key, if it is in. -/
structure HT (T : List (Option Int)) (l : List Ent) : Prop where
  inT : ∀ e ∈ l, T[e.id]? = some (some e.key)
  inL : ∀ k x, T[k]? = some (some x) → (⟨k, x⟩ : Ent) ∈ l
  nd : (l.map Ent.id).Nodup
theorem HT.perm {T : List (Option Int)} {l l' : List Ent} (h : HT T l) (p : l'.Perm l) : HT T l' :=
  ⟨fun e he => h.inT e (p.mem_iff.1 he), fun k x hk => p.mem_iff.2 (h.inL k x hk), (p.map _).nodup_iff.2 h.nd⟩
theorem HT.nil (n : Nat) : HT (List.replicate n none) [] :=
  ⟨fun e he => by simp at he, fun k x hk => (by rw [List.getElem?_replicate] at hk; split at hk <;> cases hk), by simp⟩
theorem HT.cut {T : List (Option Int)} {l : List Ent} {e : Ent} (h : HT T (e :: l)) : HT (T.set e.id none) l := by
  have hnd := h.nd
  rw [List.map_cons, List.nodup_cons] at hnd
  have hne : ∀ x ∈ l, e.id ≠ x.id := fun x hx e' => hnd.1 (by rw [e']; exact List.mem_map_of_mem hx)
  refine ⟨fun x hx => ?_, fun k x hk => ?_, hnd.2⟩
  · rw [List.getElem?_set_ne (hne x hx)]; exact h.inT x (List.mem_cons_of_mem _ hx)
  · by_cases ek : e.id = k
    · subst ek; rw [List.getElem?_set] at hk; simp at hk
    · rw [List.getElem?_set_ne ek] at hk
      rcases List.mem_cons.1 (h.inL k x hk) with e' | h'
      · rw [← e'] at ek; exact absurd rfl ek
      · exact h'
theorem HT.add {T : List (Option Int)} {l : List Ent} {e : Ent} (h : HT T l) (he : T[e.id]? = some none) : HT (T.set e.id (some e.key)) (e :: l) := by
  have hlt : e.id < T.length := (List.getElem?_eq_some_iff.1 he).1
  have hne : ∀ x ∈ l, e.id ≠ x.id := fun x hx e' => by have := h.inT x hx; rw [← e', he] at this; cases this
  refine ⟨fun x hx => ?_, fun k x hk => ?_, ?_⟩
  · rcases List.mem_cons.1 hx with rfl | hx
    · rw [List.getElem?_set_self hlt]
    · rw [List.getElem?_set_ne (hne x hx)]; exact h.inT x hx
  · by_cases ek : e.id = k
    · subst ek; rw [List.getElem?_set_self hlt] at hk
      have := Option.some.inj (Option.some.inj hk)
      rw [← this]; exact List.mem_cons_self ..
    · rw [List.getElem?_set_ne ek] at hk; exact List.mem_cons_of_mem _ (h.inL k x hk)
  · rw [List.map_cons, List.nodup_cons]
    refine ⟨fun hm => ?_, h.nd⟩
    obtain ⟨x, hx, e'⟩ := List.mem_map.1 hm
    exact hne x hx e'.symm
theorem erase_perm : ∀ (l : List Ent) (i : Nat) (h : i < l.length), (l[i] :: l.eraseIdx i).Perm l
  | x :: l, 0, _ => by simp
  | x :: l, i + 1, h => by
    simp only [List.getElem_cons_succ, List.eraseIdx_cons_succ]
    exact (List.Perm.swap x _ _).trans ((erase_perm l i (by simpa using h)).cons x)
theorem HT.key {T : List (Option Int)} {l : List Ent} {i : Nat} (h : HT T l) (hi : i < l.length) (x : Int) : HT (T.set (eg l i).id (some x)) (l.set i ⟨(eg l i).id, x⟩) := by
  have p1 : (l[i] :: l.eraseIdx i).Perm l := erase_perm l i hi
  have hs : (l.set i ⟨(eg l i).id, x⟩)[i]'(by simpa using hi) = ⟨(eg l i).id, x⟩ := by simp
  have p2 : ((⟨(eg l i).id, x⟩ : Ent) :: l.eraseIdx i).Perm (l.set i ⟨(eg l i).id, x⟩) := by
    have := erase_perm (l.set i ⟨(eg l i).id, x⟩) i (by simpa using hi)
    rwa [hs, List.eraseIdx_set_eq] at this
  have h1 := (h.perm p1).cut
  rw [← eg_eq hi] at h1
  have hlt : (eg l i).id < T.length := by
    have := h.inT (eg l i) (by rw [eg_eq hi]; exact List.getElem_mem hi)
    exact (List.getElem?_eq_some_iff.1 this).1
  have h2 := h1.add (e := ⟨(eg l i).id, x⟩) (by show (T.set (eg l i).id none)[(eg l i).id]? = _; rw [List.getElem?_set_self hlt])
  rw [List.set_set] at h2
  exact h2.perm p2.symm
/-- How many are in. -/
def tcount (T : List (Option Int)) : Nat := T.countP Option.isSome
theorem HT.count : ∀ {l : List Ent} {T : List (Option Int)}, HT T l → l.length = tcount T
  | [], T, h => by
    unfold tcount
    rw [List.length_nil, eq_comm, List.countP_eq_zero]
    intro o ho
    obtain ⟨k, hk, rfl⟩ := List.mem_iff_getElem.1 ho
    cases e : T[k] with
    | none => simp
    | some x => have := h.inL k x (by rw [List.getElem?_eq_getElem hk, e]); simp at this
  | e :: l, T, h => by
    have hc := h.cut.count
    have he := h.inT e (List.mem_cons_self ..)
    have hlt : e.id < T.length := (List.getElem?_eq_some_iff.1 he).1
    have hv : T[e.id] = some e.key := by rw [List.getElem?_eq_getElem hlt] at he; exact Option.some.inj he
    rw [List.length_cons, hc]
    unfold tcount
    rw [List.countP_set hlt]
    have : 0 < T.countP Option.isSome := List.countP_pos_iff.2 ⟨_, List.getElem_mem hlt, by rw [hv]; rfl⟩
    simp [hv]; omega
/-- Who is on top. -/
def IsTop (T : List (Option Int)) (k : Nat) (x : Int) : Prop := T[k]? = some (some x) ∧ ∀ j y, T[j]? = some (some y) → ele ⟨k, x⟩ ⟨j, y⟩
theorem IsTop.unique {T : List (Option Int)} {k j : Nat} {x y : Int} (h : IsTop T k x) (h' : IsTop T j y) : k = j ∧ x = y := by
  have a := h.2 j y h'.1
  have b := h'.2 k x h.1
  unfold ele elt at a b
  dsimp only at a b
  omega
theorem HT.top {T : List (Option Int)} {l : List Ent} (h : HT T l) (hf : Full l l.length) (h0 : 0 < l.length) : IsTop T (eg l 0).id (eg l 0).key := by
  refine ⟨h.inT _ (by rw [eg_eq h0]; exact List.getElem_mem h0), fun j y hj => ?_⟩
  obtain ⟨i, hi, e⟩ := List.mem_iff_getElem.1 (h.inL j y hj)
  have := full_root hf i hi
  rw [eg_eq hi, e] at this
  exact this
theorem HT.len {T : List (Option Int)} {l : List Ent} (h : HT T l) {i : Nat} (hi : i < l.length) : T[(eg l i).id]? = some (some (eg l i).key) := h.inT _ (by rw [eg_eq hi]; exact List.getElem_mem hi)
theorem HT.at_none {T : List (Option Int)} {l : List Ent} {at_ : List Int} (h : HT T l) (ho : HOk l at_) (hl : at_.length = T.length) {k : Nat} (hk : at_[k]? = some (-1)) : T[k]? = some none := by
  have hlt : k < T.length := by rw [← hl]; exact (List.getElem?_eq_some_iff.1 hk).1
  rw [List.getElem?_eq_getElem hlt]
  cases e : T[k] with
  | none => rfl
  | some x =>
    obtain ⟨i, hi, e'⟩ := List.mem_iff_getElem.1 (h.inL k x (by rw [List.getElem?_eq_getElem hlt, e]))
    have := ho.h1 i hi
    rw [eg_eq hi, e'] at this
    dsimp only at this
    rw [hk] at this
    have := Option.some.inj this; omega
end Go.Proofs.Ytlllpmafhnfihaa
namespace Go.Proofs.Ytlllpmafhnfihaa
open Go Fly
set_option linter.unusedVariables false
set_option linter.unusedSimpArgs false
/-! ### what the heap's calls answer, of the table -/
def topPick (i : Nat) (o : Option Int) (t : Option (Nat × Int)) : Option (Nat × Int) := match o, t with
  | none, t => t
  | some x, none => some (i, x)
  | some x, some (j, y) => if y < x then some (j, y) else some (i, x)
def topFrom : List (Option Int) → Nat → Option (Nat × Int)
  | [], _ => none
  | o :: r, i => topPick i o (topFrom r (i + 1))
def topR (T : List (Option Int)) : Option (Nat × Int) := topFrom T 0
theorem topFrom_none : ∀ {T : List (Option Int)} {i : Nat}, topFrom T i = none → tcount T = 0
  | [], _, _ => rfl
  | o :: r, i, h => by
    simp only [topFrom, topPick] at h
    split at h
    · have := topFrom_none h; simpa [tcount] using this
    · cases h
    · split at h <;> cases h
theorem topFrom_some : ∀ {T : List (Option Int)} {i k : Nat} {x : Int}, topFrom T i = some (k, x) → i ≤ k ∧ T[k - i]? = some (some x) ∧ ∀ j y, T[j]? = some (some y) → ele ⟨k, x⟩ ⟨i + j, y⟩
  | [], _, _, _, h => by simp [topFrom] at h
  | o :: r, i, k, x, h => by
    have step : ∀ {k x}, topFrom r (i + 1) = some (k, x) → i ≤ k ∧ (o :: r)[k - i]? = some (some x) ∧ ∀ j y, (o :: r)[j + 1]? = some (some y) → ele ⟨k, x⟩ ⟨i + (j + 1), y⟩ := fun {k x} h => by
      obtain ⟨a, b, c⟩ := topFrom_some h
      refine ⟨by omega, ?_, fun j y hj => ?_⟩
      · rw [show k - i = (k - (i + 1)) + 1 from by omega]; simpa using b
      · have := c j y (by simpa using hj)
        rw [show i + (j + 1) = i + 1 + j from by omega]; exact this
    simp only [topFrom, topPick] at h
    split at h
    · obtain ⟨a, b, c⟩ := step h
      refine ⟨a, b, fun j y hj => ?_⟩
      cases j with
      | zero => simp at hj
      | succ j => exact c j y hj
    · rename_i x0 hr
      cases h
      refine ⟨Nat.le_refl _, by simp, fun j y hj => ?_⟩
      cases j with
      | zero => simp at hj; subst hj; exact ele_refl _
      | succ j =>
        have h0 := topFrom_none hr
        unfold tcount at h0
        rw [List.countP_eq_zero] at h0
        have := h0 _ (List.mem_of_getElem? (by simpa using hj : r[j]? = some (some y)))
        simp at this
    · rename_i x0 j0 y0 hr
      obtain ⟨a, b, c⟩ := step hr
      have ha := (topFrom_some hr).1
      split at h
      · rename_i hlt
        cases h
        refine ⟨a, b, fun j y hj => ?_⟩
        cases j with
        | zero => simp at hj; subst hj; unfold ele elt; dsimp only; omega
        | succ j => exact c j y hj
      · rename_i hlt
        cases h
        refine ⟨Nat.le_refl _, by simp, fun j y hj => ?_⟩
        cases j with
        | zero => simp at hj; subst hj; exact ele_refl _
        | succ j =>
          refine ele_trans ?_ (c j y hj)
          unfold ele elt; dsimp only; omega
theorem topR_some {T : List (Option Int)} {k : Nat} {x : Int} (h : topR T = some (k, x)) : IsTop T k x := by
  obtain ⟨_, b, c⟩ := topFrom_some h
  exact ⟨by simpa using b, fun j y hj => by have := c j y hj; simpa using this⟩
theorem IsTop.topR {T : List (Option Int)} {k : Nat} {x : Int} (h : IsTop T k x) : topR T = some (k, x) := by
  cases e : Go.Proofs.Ytlllpmafhnfihaa.topR T with
  | none =>
    have h0 := topFrom_none e
    unfold tcount at h0
    rw [List.countP_eq_zero] at h0
    have := h0 _ (List.mem_of_getElem? h.1)
    simp at this
  | some p =>
    obtain ⟨j, y⟩ := p
    obtain ⟨rfl, rfl⟩ := h.unique (topR_some e)
    rfl
theorem topR_none {T : List (Option Int)} (h : tcount T = 0) : topR T = none := by
  cases e : topR T with
  | none => rfl
  | some p =>
    obtain ⟨j, y⟩ := p
    unfold tcount at h
    rw [List.countP_eq_zero] at h
    have := h _ (List.mem_of_getElem? (topR_some e).1)
    simp at this
def topA (T : List (Option Int)) : Int × Int × Int := match topR T with
  | some (k, x) => ((k : Int), x, 0)
  | none => (0, 0, 5)
def popT (T : List (Option Int)) : List (Option Int) := match topR T with
  | some (k, _) => T.set k none
  | none => T
def lowerR (T : List (Option Int)) (id key : Int) : List (Option Int) × Bool × Int :=
  if 0 ≤ id ∧ id < T.length then
    match T[id.toNat]? with
    | some (some k) => if k ≤ key then (T, false, 0) else (T.set id.toNat (some key), true, 0)
    | _ => (T.set id.toNat (some key), true, 0)
  else (T, false, 5)
def dropR (T : List (Option Int)) (id : Int) : List (Option Int) × Bool × Int :=
  if 0 ≤ id ∧ id < T.length then
    match T[id.toNat]? with
    | some (some _) => (T.set id.toNat none, true, 0)
    | _ => (T, false, 0)
  else (T, false, 5)
def keyA (T : List (Option Int)) (id : Int) : Int × Bool × Int :=
  if 0 ≤ id ∧ id < T.length then
    match T[id.toNat]? with
    | some (some k) => (k, true, 0)
    | _ => (0, false, 0)
  else (0, false, 5)
theorem popT_len (T : List (Option Int)) : (popT T).length = T.length := by unfold popT; split <;> simp
theorem lowerR_len (T : List (Option Int)) (id key : Int) : (lowerR T id key).1.length = T.length := by
  unfold lowerR; split
  · split
    · split <;> simp
    · simp
  · rfl
theorem dropR_len (T : List (Option Int)) (id : Int) : (dropR T id).1.length = T.length := by
  unfold dropR; split
  · split <;> simp
  · rfl
theorem tcount_le (T : List (Option Int)) : tcount T ≤ T.length := List.countP_le_length
end Go.Proofs.Ytlllpmafhnfihaa
