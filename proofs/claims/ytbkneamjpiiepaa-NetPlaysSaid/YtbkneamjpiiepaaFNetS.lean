/- The document's net is the net. -/
import Derived.Test.YtbkneamjpiiepaaFNetR2
import Derived.Test.YtbkneamjpiiepaaFLinks
import Derived.Test.YtbkneamjpiiepaaFNetC
namespace Go.Proofs.Ytbkneamjpiiepaa
open Go Go.RowKit Fly
set_option linter.unusedVariables false
set_option linter.unusedSimpArgs false


structure Sim (A : NetM) (R : NetR) : Prop where
  up : R.up = A.down.map (!·)
  bag : ∀ l, A.bag l = R.bagS l
  tim : R.tim = A.timers
  clk : R.clk = A.now
section
variable {A : NetM} {R : NetR}
theorem Sim.len (h : Sim A R) : R.up.length = A.down.length := by rw [h.up, List.length_map]
theorem Sim.non (h : Sim A R) (v : Int) : R.Non v ↔ A.Non v := by unfold NetR.Non NetM.Non; rw [h.len]
theorem Sim.bad (h : Sim A R) (l : Int × Int) : R.Bad l ↔ A.Bad l := by unfold NetR.Bad NetM.Bad; rw [h.non, h.non]
theorem Sim.isUp (h : Sim A R) (v : Int) : R.isUp v = !A.isDown v := by
  unfold NetR.isUp NetM.isDown
  rw [h.up, List.getD_eq_getElem?_getD, List.getD_eq_getElem?_getD, List.getElem?_map]
  cases A.down[v.toNat]? <;> rfl
theorem Sim.blen (h : Sim A R) (l : Int × Int) : (R.bagI l).length = (A.bag l).length := by rw [h.bag, bagS_len]
theorem on_iff {l : Int × Int} {x : Lt} : NetR.on l x = true ↔ l = (x.1, x.2.1) := by
  simp only [NetR.on, Bool.and_eq_true, decide_eq_true_eq]
  constructor
  · rintro ⟨h1, h2⟩; exact Prod.ext h1.symm h2.symm
  · rintro rfl; exact ⟨rfl, rfl⟩
theorem Sim.putL (h : Sim A R) (l : Int × Int) (x : Lt) (hx : l = (x.1, x.2.1)) : Sim (A.put l (A.bag l ++ [x.2.2])) { R with lts := R.lts ++ [x] } where
  up := h.up
  tim := h.tim
  clk := h.clk
  bag := fun k => by
    show (if k = l then A.bag l ++ [x.2.2] else A.bag k) = ((R.lts ++ [x]).filter (NetR.on k)).map (·.2.2)
    rw [List.filter_append, List.map_append]
    by_cases e : k = l
    · rw [if_pos e]
      have : NetR.on k x = true := on_iff.2 (e.trans hx)
      have hb := h.bag l
      rw [← e] at hb ⊢
      rw [hb, List.filter_cons_of_pos this]; rfl
    · rw [if_neg e]
      have : ¬ NetR.on k x = true := fun q => e ((on_iff.1 q).trans hx.symm)
      rw [List.filter_cons_of_neg this, h.bag]; simp [NetR.bagS]
theorem Sim.cutL (h : Sim A R) (l : Int × Int) (k : Nat) {i : Nat} (hi : i < R.lts.length) (h1 : (R.lts.filter (NetR.on l))[k]? = some R.lts[i]) (h2 : (R.lts.eraseIdx i).filter (NetR.on l) = (R.lts.filter (NetR.on l)).eraseIdx k) : Sim (A.put l ((A.bag l).eraseIdx k)) (R.drop i) where
  up := h.up
  tim := h.tim
  clk := h.clk
  bag := fun q => by
    show (if q = l then (A.bag l).eraseIdx k else A.bag q) = ((R.lts.eraseIdx i).filter (NetR.on q)).map (·.2.2)
    by_cases e : q = l
    · subst e
      rw [if_pos rfl, h2, h.bag]
      unfold NetR.bagS
      rw [List.eraseIdx_eq_take_drop_succ, List.eraseIdx_eq_take_drop_succ, List.map_append, List.map_take, List.map_drop]
    · rw [if_neg e, h.bag]
      have hon : NetR.on l R.lts[i] = true := (List.mem_filter.1 (List.mem_of_getElem? h1)).2
      have hq : NetR.on q R.lts[i] = false := by
        cases hh : NetR.on q R.lts[i] with
        | false => rfl
        | true => exact absurd ((on_iff.1 hh).trans (on_iff.1 hon).symm) e
      rw [erase_other (NetR.on q) R.lts i hi hq]; rfl
/-- Both answer alike, and stay alike. -/
structure Alike {α : Type} (x : α × NetM) (y : α × NetR) (R : NetR) : Prop where
  eq : y.1 = x.1
  sim : Sim x.2 y.2
  more : y.2.lts.length ≤ R.lts.length + 1
theorem Alike.same {α : Type} {e : α} (h : Sim A R) : Alike (e, A) (e, R) R := ⟨rfl, h, Nat.le_succ _⟩
theorem Sim.send (h : Sim A R) (l : Int × Int) (s : ByteArray) : Alike (A.send l s) (R.send l s) R := by
  unfold NetM.send NetR.send
  have hup : (R.isUp l.1 = false) ↔ A.isDown l.1 = true := by rw [h.isUp]; simp
  simp only [h.bad, hup, h.blen]
  by_cases h1 : A.Bad l
  · simp only [if_pos h1]; exact .same h
  · by_cases h2 : 262144 < s.size
    · simp only [if_neg h1, if_pos h2]; exact .same h
    · by_cases h3 : A.isDown l.1 = true
      · simp only [if_neg h1, if_neg h2, if_pos h3]; exact .same h
      · by_cases h4 : 4096 ≤ (A.bag l).length
        · simp only [if_neg h1, if_neg h2, if_neg h3, if_pos h4]; exact .same h
        · simp only [if_neg h1, if_neg h2, if_neg h3, if_neg h4]
          exact ⟨rfl, h.putL l (l.1, l.2, s) rfl, by simp⟩
theorem Sim.found (h : Sim A R) (l : Int × Int) (k : Int) : (R.find l k).2 = A.found l k := by
  unfold NetR.find NetM.found
  simp only [h.bad, h.blen]
  split
  · rfl
  · split <;> rfl
theorem Sim.get (h : Sim A R) {l : Int × Int} {k : Nat} {x : Lt} (h1 : (R.lts.filter (NetR.on l))[k]? = some x) : (A.bag l).getD k ⟨#[]⟩ = x.2.2 := by
  rw [h.bag, List.getD_eq_getElem?_getD]; unfold NetR.bagS
  rw [List.getElem?_map, h1]; rfl
theorem Sim.take (h : Sim A R) (l : Int × Int) (k : Int) : Alike (A.take l k) (R.take l k) R := by
  unfold NetM.take NetR.take
  have hup : (R.isUp l.2 = false) ↔ A.isDown l.2 = true := by rw [h.isUp]; simp
  have hf := h.found l k
  simp only [hf, hup]
  by_cases h1 : A.found l k ≠ 0
  · simp only [if_pos h1]; exact .same h
  · by_cases h3 : A.isDown l.2 = true
    · simp only [if_neg h1, if_pos h3]; exact .same h
    · simp only [if_neg h1, if_neg h3]
      obtain ⟨hi, _, q1, q2⟩ := NetR.find_at (R := R) (l := l) (k := k) (by rw [hf]; omega)
      refine ⟨?_, h.cutL l k.toNat hi q1 q2, ?_⟩
      · simp only [h.get q1, NetR.body, List.getD_eq_getElem?_getD, List.getElem?_eq_getElem hi, Option.getD_some]
      · have := List.length_eraseIdx_of_lt hi; show (R.lts.eraseIdx _).length ≤ _; omega
theorem Sim.lose (h : Sim A R) (l : Int × Int) (k : Int) : Alike (A.lose l k) (R.lose l k) R := by
  unfold NetM.lose NetR.lose
  have hf := h.found l k
  simp only [hf]
  by_cases h1 : A.found l k ≠ 0
  · simp only [if_pos h1]; exact .same h
  · simp only [if_neg h1]
    obtain ⟨hi, _, q1, q2⟩ := NetR.find_at (R := R) (l := l) (k := k) (by rw [hf]; omega)
    refine ⟨rfl, h.cutL l k.toNat hi q1 q2, ?_⟩
    have := List.length_eraseIdx_of_lt hi; show (R.lts.eraseIdx _).length ≤ _; omega
theorem Sim.copy (h : Sim A R) (l : Int × Int) (k : Int) : Alike (A.copy l k) (R.copy l k) R := by
  unfold NetM.copy NetR.copy
  have hf := h.found l k
  simp only [hf, h.blen]
  by_cases h1 : A.found l k ≠ 0
  · simp only [if_pos h1]; exact .same h
  · by_cases h4 : 4096 ≤ (A.bag l).length
    · simp only [if_neg h1, if_pos h4]; exact .same h
    · simp only [if_neg h1, if_neg h4]
      obtain ⟨hi, _, q1, _⟩ := NetR.find_at (R := R) (l := l) (k := k) (by rw [hf]; omega)
      refine ⟨rfl, ?_, by simp⟩
      have hon : NetR.on l (R.lts[(R.find l k).1.toNat]) = true := (List.mem_filter.1 (List.mem_of_getElem? q1)).2
      have := h.putL l (R.lts[(R.find l k).1.toNat]) (on_iff.1 hon)
      simp only [h.get q1, List.getD_eq_getElem?_getD, List.getElem?_eq_getElem hi, Option.getD_some]
      exact this
theorem Sim.looked (h : Sim A R) (l : Int × Int) : R.looked l = A.looked l := by
  unfold NetR.looked NetM.looked; simp only [h.bad]
theorem Sim.links (h : Sim A R) : R.links = A.links := by
  unfold NetR.links NetM.links
  rw [h.len]
  refine List.filter_congr fun k _ => ?_
  have := h.blen k
  cases h1 : R.bagI k with
  | nil => cases h2 : A.bag k with
    | nil => rfl
    | cons => rw [h1, h2] at this; simp at this
  | cons => cases h2 : A.bag k with
    | nil => rw [h1, h2] at this; simp at this
    | cons => rfl
theorem Sim.turn (h : Sim A R) (v : Int) : Alike (A.turn v false) (R.turn v true) R := by
  unfold NetM.turn NetR.turn
  have hup : (R.isUp v = true) ↔ A.isDown v = false := by rw [h.isUp]; simp
  simp only [h.non, hup]
  by_cases h1 : A.Non v
  · simp only [if_pos h1]; exact .same h
  · by_cases h2 : A.isDown v = false
    · simp only [if_neg h1, if_pos h2]; exact .same h
    · simp only [if_neg h1, if_neg h2]
      exact ⟨rfl, ⟨by simp [h.up, List.map_set], h.bag, h.tim, h.clk⟩, by simp⟩
theorem Sim.down (h : Sim A R) (v : Int) : Alike (A.goDown v) (R.goDown v) R := by
  unfold NetM.goDown NetM.turn NetR.goDown
  have hup : (R.isUp v = false) ↔ A.isDown v = true := by rw [h.isUp]; simp
  simp only [h.non, hup]
  by_cases h1 : A.Non v
  · simp only [if_pos h1, ne_eq]; exact .same h
  · by_cases h2 : A.isDown v = true
    · simp only [if_neg h1, if_pos h2]; exact .same h
    · simp only [if_neg h1, if_neg h2, ne_eq, not_true, if_false]
      exact ⟨rfl, ⟨by simp [h.up, List.map_set], h.bag, by simp [h.tim], h.clk⟩, by simp⟩
theorem Sim.setT (h : Sim A R) (v at_ tag : Int) : Alike (A.setT v at_ tag) (R.setT v at_ tag) R := by
  unfold NetM.setT NetR.setT
  have hup : (R.isUp v = false) ↔ A.isDown v = true := by rw [h.isUp]; simp
  simp only [h.non, hup, h.tim, h.clk]
  by_cases h1 : A.Non v
  · simp only [if_pos h1]; exact .same h
  · by_cases h2 : A.isDown v = true
    · simp only [if_neg h1, if_pos h2]; exact .same h
    · by_cases h3 : at_ ≤ A.now ∨ 1073741824 < at_
      · simp only [if_neg h1, if_neg h2, if_pos h3]; exact .same h
      · by_cases h4 : 16384 ≤ A.timers.length
        · simp only [if_neg h1, if_neg h2, if_neg h3, if_pos h4]; exact .same h
        · simp only [if_neg h1, if_neg h2, if_neg h3, if_neg h4]
          exact ⟨rfl, ⟨h.up, h.bag, by simp [h.tim], by simp [h.clk]⟩, by simp⟩
theorem due_same (h : Sim A R) (hn : ∀ t ∈ A.timers, 0 ≤ t.1 ∧ t.1 < (A.down.length : Int)) (hl : A.down.length ≤ 65) : R.due = byNode A.due := by
  unfold NetR.due byNode NetM.due
  rw [h.tim, h.clk, h.len]
  obtain ⟨d, hd⟩ : ∃ d, 65 = A.down.length + d := ⟨65 - A.down.length, by omega⟩
  rw [hd, List.range_add, List.flatMap_append]
  have e1 : ((List.range d).map (fun x => A.down.length + x)).flatMap (fun n : Nat => (A.timers.filter fun t => decide (t.2.1 = A.now + 1)).filter fun t => decide (t.1 = (n : Int))) = [] := by
    rw [List.flatMap_eq_nil_iff]
    intro n hx
    obtain ⟨y, _, rfl⟩ := List.mem_map.1 hx
    rw [List.filter_eq_nil_iff]
    intro t ht
    have := hn t (List.mem_filter.1 ht).1
    simp only [decide_eq_true_eq]; omega
  rw [e1, List.append_nil]
  congr 1
  funext n
  rw [List.filter_filter]
  rfl
theorem Sim.tick (h : Sim A R) (hn : ∀ t ∈ A.timers, 0 ≤ t.1 ∧ t.1 < (A.down.length : Int)) (hl : A.down.length ≤ 65) : Alike A.tick R.tick R := by
  unfold NetM.tick NetR.tick
  rw [due_same h hn hl]
  simp only [h.clk, h.tim]
  by_cases h1 : 1073741824 ≤ A.now
  · simp only [if_pos h1]; exact .same h
  · simp only [if_neg h1]
    exact ⟨rfl, ⟨h.up, h.bag, by simp [h.tim], by simp [h.clk]⟩, by simp⟩
theorem Sim.start (n : Nat) : Sim (NetM.new n) (NetR.new n) := ⟨by simp [NetM.new, NetR.new], fun _ => rfl, rfl, rfl⟩
end

end Go.Proofs.Ytbkneamjpiiepaa
