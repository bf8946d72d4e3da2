import Derived.Test.YtkhjckghpakliaaAll2
import Derived.Test.YtkhjckghpakliaaFlyT
import Derived.Test.YtkhjckghpakliaaAll0
import Derived.Shelf.Lays
import Derived.Test.YtkhjckghpakliaaProg
import Derived.Test.YtkhjckghpakliaaAll1

/- split.seams: labels that can be joined. -/
namespace Go.Proofs.Ytkhjckghpakliaa
open Go Go.RowKit Fly
set_option linter.unusedVariables false
set_option linter.unusedSimpArgs false


theorem mput_len {α : Type} [DecidableEq α] (x : α) (v : Value) (c : Nat) : ∀ l : List (α × Value × Nat), (mput l x v c).length ≤ l.length + 1
  | [] => by simp [mput]
  | e :: r => by
    have := mput_len x v c r
    unfold mput; split
    · simp
    · simp; omega
theorem mget_mem {α : Type} [DecidableEq α] {e : α × Value × Nat} : ∀ {l : List (α × Value × Nat)}, (l.map (·.1)).Nodup → e ∈ l → mget l e.1 = some e.2.1
  | f :: l, hn, h => by
    rw [List.map_cons, List.nodup_cons] at hn
    rcases List.mem_cons.1 h with rfl | h
    · simp [mget]
    · unfold mget
      rw [if_neg (fun e' => hn.1 (by rw [← e']; exact List.mem_map.2 ⟨e, h, rfl⟩))]
      exact mget_mem hn.2 h
theorem mget_app {α : Type} [DecidableEq α] (x : α) (z : Value) (c : Nat) : ∀ l : List (α × Value × Nat), mget l x = none → mget (l ++ [(x, z, c)]) x = some z
  | [], _ => by simp [mget]
  | e :: r, h => by
    unfold mget at h
    split at h
    · cases h
    · rename_i hne
      rw [List.cons_append]; unfold mget; rw [if_neg hne]; exact mget_app x z c r h
theorem ment_val {α : Type} [DecidableEq α] (l : List (α × Value × Nat)) (x : α) (z : Value) (c : Nat) : (mget (ment l x z c) x).getD z = (mget l x).getD z := by
  unfold ment
  split
  · rfl
  · rename_i h
    have h' : mget l x = none := by cases hg : mget l x with
      | none => rfl
      | some v => rw [hg] at h; simp at h
    rw [mget_app x z c l h', h']; rfl
def keyP (L : List Int) (p : Pr) : Int × Int := (min (lab L p.1) (lab L p.2), max (lab L p.1) (lab L p.2))
def okP (L : List Int) (bd : Int) (p : Pr) : Bool := decide (lab L p.1 ≠ lab L p.2 ∧ (cntI L (lab L p.1) : Int) + cntI L (lab L p.2) ≤ bd)
def cntK (ps : List Pr) (L : List Int) (k : Int × Int) : Nat := (ps.filter fun p => decide (keyP L p = k)).length
/-- All seams, with their pairs. -/
def smL (ps : List Pr) (L : List Int) (bd : Int) : List Sm := (ps.filter (okP L bd)).map fun p => ((keyP L p).1, (keyP L p).2, (cntK ps L (keyP L p) : Int))
theorem okP_same {L : List Int} {bd : Int} {p q : Pr} (h : okP L bd p = true) (e : keyP L p = keyP L q) : okP L bd q = true := by
  unfold okP at h ⊢
  unfold keyP at e
  simp only [decide_eq_true_eq, Prod.mk.injEq] at h e ⊢
  have : (lab L q.1 = lab L p.1 ∧ lab L q.2 = lab L p.2) ∨ (lab L q.1 = lab L p.2 ∧ lab L q.2 = lab L p.1) := by omega
  rcases this with ⟨e1, e2⟩ | ⟨e1, e2⟩
  · rw [e1, e2]; exact h
  · rw [e1, e2]; exact ⟨fun e => h.1 e.symm, by omega⟩
theorem cntK_le (ps : List Pr) (L : List Int) (k : Int × Int) : cntK ps L k ≤ ps.length := List.length_filter_le _ _
theorem cntK_add (ps : List Pr) (L : List Int) (p : Pr) (k : Int × Int) : cntK (ps ++ [p]) L k = cntK ps L k + if keyP L p = k then 1 else 0 := by
  unfold cntK; rw [List.filter_append, List.length_append]
  congr 1
  by_cases h : keyP L p = k
  · simp [h]
  · simp [h]
structure SM (ps : List Pr) (L : List Int) (bd : Int) (ents : List ((Int × Int) × Value × Nat)) : Prop where
  one : ∀ k v, mget ents k = some v → v = .int .i64 (cntK ps L k : Int) ∧ ∃ p ∈ ps, okP L bd p = true ∧ keyP L p = k
  all : ∀ p ∈ ps, okP L bd p = true → mget ents (keyP L p) ≠ none
  few : ents.length ≤ ps.length
theorem SM.nil (L : List Int) (bd : Int) : SM [] L bd [] where
  one := fun k v h => by simp [mget] at h
  all := fun p hp => by cases hp
  few := Nat.le_refl _
theorem SM.val {ps : List Pr} {L : List Int} {bd : Int} {ents : List ((Int × Int) × Value × Nat)} (h : SM ps L bd ents) {p : Pr} (hp : okP L bd p = true) : (mget ents (keyP L p)).getD (.int .i64 0) = .int .i64 (cntK ps L (keyP L p) : Int) := by
  cases hg : mget ents (keyP L p) with
  | some v => exact (h.one _ _ hg).1
  | none =>
    have : cntK ps L (keyP L p) = 0 := by
      unfold cntK
      rw [List.length_eq_zero_iff, List.filter_eq_nil_iff]
      intro q hq e
      simp only [decide_eq_true_eq] at e
      exact h.all q hq (okP_same hp e.symm) (by rw [e]; exact hg)
    rw [this]; rfl
theorem SM.add {ps : List Pr} {L : List Int} {bd : Int} {ents : List ((Int × Int) × Value × Nat)} (h : SM ps L bd ents) {p : Pr} (hp : okP L bd p = true) (k : Nat) :
    SM (ps ++ [p]) L bd (mput ents (keyP L p) (.int .i64 ((cntK ps L (keyP L p) : Int) + 1)) k) where
  one := fun q v hg => by
    rw [mget_put] at hg
    rw [cntK_add]
    by_cases e : q = keyP L p
    · subst e
      rw [if_pos rfl] at hg
      cases hg
      exact ⟨by rw [if_pos rfl]; rfl, p, by simp, hp, rfl⟩
    · rw [if_neg e] at hg
      obtain ⟨h1, r, hr, h2⟩ := h.one q v hg
      exact ⟨by rw [if_neg (fun e' => e e'.symm), Nat.add_zero]; exact h1, r, by simp [hr], h2⟩
  all := fun q hq ho => by
    rw [mget_put]
    split
    · simp
    · rename_i hne
      rcases List.mem_append.1 hq with hq | hq
      · exact h.all q hq ho
      · obtain rfl := List.mem_singleton.1 hq; exact absurd rfl hne
  few := by have := mput_len (keyP L p) (.int .i64 ((cntK ps L (keyP L p) : Int) + 1)) k ents; have := h.few; simp; omega
theorem SM.skip {ps : List Pr} {L : List Int} {bd : Int} {ents : List ((Int × Int) × Value × Nat)} (h : SM ps L bd ents) {p : Pr} (hp : ¬ okP L bd p = true) : SM (ps ++ [p]) L bd ents where
  one := fun q v hg => by
    obtain ⟨h1, r, hr, h2, h3⟩ := h.one q v hg
    rw [cntK_add, if_neg (fun e => hp (okP_same h2 (h3.trans e.symm))), Nat.add_zero]
    exact ⟨h1, r, by simp [hr], h2, h3⟩
  all := fun q hq ho => by
    rcases List.mem_append.1 hq with hq | hq
    · exact h.all q hq ho
    · obtain rfl := List.mem_singleton.1 hq; exact absurd ho hp
  few := by have := h.few; simp; omega
theorem mem_smL {ps : List Pr} {L : List Int} {bd : Int} {s : Sm} : s ∈ smL ps L bd ↔ ∃ p ∈ ps, okP L bd p = true ∧ keyP L p = (s.1, s.2.1) ∧ s.2.2 = (cntK ps L (s.1, s.2.1) : Int) := by
  unfold smL
  rw [List.mem_map]
  constructor
  · rintro ⟨p, hp, rfl⟩
    obtain ⟨h1, h2⟩ := List.mem_filter.1 hp
    exact ⟨p, h1, h2, rfl, rfl⟩
  · rintro ⟨p, hp, ho, e, e2⟩
    refine ⟨p, List.mem_filter.2 ⟨hp, ho⟩, ?_⟩
    rw [e, ← e2]
theorem SM.ent {ps : List Pr} {L : List Int} {bd : Int} {ents : List ((Int × Int) × Value × Nat)} {ck : Nat} (h : SM ps L bd ents) (hm : MOk ents ck) {e : (Int × Int) × Value × Nat} (he : e ∈ ents) : ∃ a b c s, e = ((a, b), .int .i64 c, s) ∧ (a, b, c) ∈ smL ps L bd := by
  obtain ⟨⟨a, b⟩, v, s⟩ := e
  obtain ⟨e, p, hp, h1, h2⟩ := h.one (a, b) v (mget_mem hm.keys he)
  subst e
  exact ⟨a, b, _, s, rfl, mem_smL.2 ⟨p, hp, h1, h2, rfl⟩⟩
theorem SM.end_ {ps : List Pr} {L : List Int} {bd : Int} {ents : List ((Int × Int) × Value × Nat)} {sl : List Sm} (h : SM ps L bd ents) (hs : ∀ s ∈ sl, s ∈ smL ps L bd) (hk : ∀ k, k ∈ (sl.map fun s => (s.1, s.2.1)) ↔ k ∈ ents.map (·.1)) (s : Sm) : s ∈ sl ↔ s ∈ smL ps L bd := by
  refine ⟨hs s, fun hm => ?_⟩
  obtain ⟨p, hp, ho, e, e2⟩ := mem_smL.1 hm
  have h1 : keyP L p ∈ ents.map (·.1) := by
    refine Classical.byContradiction fun hn => h.all p hp ho (mget_none.2 hn)
  obtain ⟨t, ht, et⟩ := List.mem_map.1 ((hk _).2 h1)
  obtain ⟨_, _, _, _, e3⟩ := mem_smL.1 (hs t ht)
  rw [e] at et
  have h2 : t = s := by
    obtain ⟨t1, t2, t3⟩ := t
    obtain ⟨s1, s2, s3⟩ := s
    simp only [Prod.mk.injEq] at et
    obtain ⟨rfl, rfl⟩ := et
    simp only at e2 e3
    rw [e2, e3]
  rw [← h2]; exact ht
theorem smL_seam {n : Nat} {l : List Arc} {L : List Int} {bd : Int} {s : Sm} (h : s ∈ smL (prs n l) L bd) : Seam n l bd L s.1 s.2.1 := by
  obtain ⟨p, hp, ho, e, _⟩ := mem_smL.1 h
  unfold okP at ho; unfold keyP at e
  simp only [decide_eq_true_eq, Prod.mk.injEq] at ho e
  have : (lab L p.1 = s.1 ∧ lab L p.2 = s.2.1) ∨ (lab L p.1 = s.2.1 ∧ lab L p.2 = s.1) := by omega
  refine ⟨p, hp, by omega, this, ?_⟩
  rcases this with ⟨e1, e2⟩ | ⟨e1, e2⟩
  · rw [e1, e2] at ho; exact ho.2
  · rw [e1, e2] at ho; have := ho.2; omega
theorem smL_none {n : Nat} {l : List Arc} {L : List Int} {bd : Int} : smL (prs n l) L bd = [] ↔ NoSeam n l bd L := by
  constructor
  · intro e p hp hne
    refine Classical.byContradiction fun hn => ?_
    have : ((keyP L p).1, (keyP L p).2, (cntK (prs n l) L (keyP L p) : Int)) ∈ smL (prs n l) L bd := mem_smL.2 ⟨p, hp, by unfold okP; simp only [decide_eq_true_eq]; exact ⟨hne, by omega⟩, rfl, rfl⟩
    rw [e] at this; cases this
  · intro h
    rw [List.eq_nil_iff_forall_not_mem]
    intro s hs
    obtain ⟨p, hp, ho, _⟩ := mem_smL.1 hs
    unfold okP at ho
    simp only [decide_eq_true_eq] at ho
    have := h p hp ho.1
    omega
theorem lab_nat {L : List Int} {u : Int} {a : Nat} (h : u.toNat < L.length) (e : L[u.toNat] = (a : Int)) : lab L u = (a : Int) := by rw [lab_at h, e]

set_option maxRecDepth 100000 in
set_option maxHeartbeats 4000000 in
theorem seams_spec {n : Nat} (A B : Option Addr) (l : List Arc) (cap : Nat) (L : List Int) (cb : Nat) (bd : Int) (w : World) (hr : Ro (Fr w []) w A ((prs n l).flatMap prCs)) (hL : Ro (Fr w []) w B (ints L)) (hR : rightB (n : Int) L = true) (hn1 : 1 ≤ n) (hn2 : n ≤ 1024) (hb : 1 ≤ bd ∧ bd ≤ 1024) :
    Meets Try.prog 25 [.slice A (prs n l).length cap, .slice B L.length cb, .int .i64 bd] w [] (fun u own' => ∃ (sl : List Sm) (c' : Nat) (A' : Option Addr) (m' : Seg), u = .slice A' sl.length c' ∧ own' = [m'] ∧ Own 59 3 (.slice A' sl.length c') sl.length (sl.flatMap smCs) m' ∧ (∀ s, s ∈ sl ↔ s ∈ smL (prs n l) L bd) ∧ (∀ s ∈ sl, SmOk s) ∧ sl.length ≤ 1048576) := by
 have hpl := prs_len (n := n) hn2 l
 have hLn : L.length = n := (right_parts hR).2
 have hrg := right_range hR hn1
 refine f_enter Try.func25 rfl Try.ntmps25 rfl Owns.nil ?_
 refine f_seq fun K1 kh1 => ?_
 refine f_region ?_
 refine f_stepP rfl rfl rfl (o_assign rfl) ?_
 refine f_done ?_
 refine f_tn (kh1 _ _ ?_)
 clear kh1
 refine f_seq fun K2 kh2 => ?_
 refine f_region ?_
 refine f_stepP rfl rfl rfl (o_move rfl) ?_
 refine f_step rfl rfl rfl (o_call Try.call19 rfl (fun w_ hp_ => sizes_spec B L cb w_ (hL.up0 hp_) (by omega) (by omega) (fun x hx => by have := hrg x hx; omega)) ?_)
 rintro _ _ ⟨bs, rfl, rfl⟩
 obtain ⟨M, hM⟩ : ∃ M : Nat, (maxL L + 1).toNat = M := ⟨_, rfl⟩
 rw [sizesL, hM]
 rw [hM] at hrg
 have hMn : M ≤ n := (hrg L[0] (List.getElem_mem (by omega))).2.2
 dsimp only [List.cons_append, List.nil_append]
 refine f_stepP rfl rfl rfl (o_assign rfl) ?_
 refine f_done ?_
 refine f_tn (kh2 _ _ ?_)
 clear kh2
 refine f_seq fun K3 kh3 => ?_
 refine f_region ?_
 refine f_step rfl rfl rfl (o_makeMap fun b18 => ?_)
 refine f_stepP rfl rfl rfl (o_assign rfl) ?_
 refine f_done ?_
 refine f_tn (kh3 _ _ ?_)
 clear kh3
 refine f_seq fun K4 kh4 => ?_
 refine f_seq fun K5 kh5 => ?_
 refine f_region ?_
 refine f_stepP rfl rfl rfl (o_move rfl) ?_
 refine f_stepP rfl rfl rfl (o_len sl33 rfl) ?_
 refine f_stepP rfl rfl rfl (o_move rfl) ?_
 refine f_done ?_
 refine f_tn (kh5 _ _ ?_)
 clear kh5
 refine f_block ?_
 refine f_loop (α := Nat × List ((Int × Int) × Value × Nat) × Nat) [1, 2, 7, 8, 19, 20] (fun ⟨i, ents, c1⟩ => [(21, .int .i64 (i : Int))]) (fun ⟨i, ents, c1⟩ => [[(b18, mobj enc2 ents c1)], [(bs, blk (ints (szs M L)) 3)]]) (fun ⟨i, ents, c1⟩ => i ≤ (prs n l).length ∧ MOk ents c1 ∧ SM ((prs n l).take i) L bd ents) (fun ⟨i, ents, c1⟩ => (prs n l).length - i) (0, [], 0) ?_ ?_ ?_ ?_
 · exact (by repeat (first | exact trivial | refine ⟨rfl, ?_⟩))
 · repeat (first | exact Sub.nil | refine Sub.pick ?_ | refine Sub.castO rfl ?_ | refine Sub.skip ?_)
 · exact ⟨by omega, MOk.nil, SM.nil L bd⟩
 ·
  rintro ⟨i, ents, c1⟩ ⟨hil, hmap, hsm⟩
  refine f_seq fun K6 kh6 => ?_
  refine f_region ?_
  refine f_stepP rfl rfl rfl (o_lss rfl rfl) ?_
  refine f_done ?_
  refine f_tn (kh6 _ _ ?_)
  clear kh6
  refine f_seq fun K7 kh7 => ?_
  refine f_cond rfl (fun c22 => ?_) (fun c22 => ?_)
  ·
   have hi : i < (prs n l).length := by omega
   obtain ⟨bp, op, rfl, hSp, hcp⟩ := hr (flat_ne prCs prCs_len (by omega) hi)
   obtain ⟨bb, ob, rfl, hSb, hcb⟩ := hL (fun e => by have := ints_length L; rw [e] at this; simp at this; omega)
   have hpr := prs_rng (List.getElem_mem hi)
   have hx1 : (prs n l)[i].1.toNat < L.length := by omega
   have hx2 : (prs n l)[i].2.toNat < L.length := by omega
   have hr1 := hrg _ (List.getElem_mem hx1)
   have hr2 := hrg _ (List.getElem_mem hx2)
   obtain ⟨a, ha⟩ : ∃ a : Nat, L[(prs n l)[i].1.toNat] = (a : Int) := ⟨_, (Int.toNat_of_nonneg hr1.1).symm⟩
   obtain ⟨b, hb'⟩ : ∃ b : Nat, L[(prs n l)[i].2.toNat] = (b : Int) := ⟨_, (Int.toNat_of_nonneg hr2.1).symm⟩
   rw [ha] at hr1
   rw [hb'] at hr2
   have la := lab_nat hx1 ha
   have lb := lab_nat hx2 hb'
   have haM : a < M := by omega
   have hbM : b < M := by omega
   have hca := cnt_le L a
   have hcb' := cnt_le L b
   have ca : cntI L (a : Int) = cnt L a := rfl
   have cb' : cntI L (b : Int) = cnt L b := rfl
   have htk : (prs n l).take (i + 1) = (prs n l).take i ++ [(prs n l)[i]] := List.take_succ_eq_append_getElem hi
   have hti : ((prs n l).take i).length = i := by rw [List.length_take]; omega
   have hkey : keyP L (prs n l)[i] = (min (a : Int) b, max (a : Int) b) := by unfold keyP; rw [la, lb]
   refine f_skip ?_
   refine f_tn (kh7 _ _ ?_)
   clear kh7
   refine f_seq fun K8 kh8 => ?_
   refine f_block ?_
   refine f_seq fun K9 kh9 => ?_
   refine f_region ?_
   refine f_stepP rfl rfl rfl (o_idx sl33 rfl rfl (op + i * 2) ⟨by omega, by omega, by first | omega | (simp; done) | (simp; omega)⟩) ?_
   refine f_stepP rfl rfl rfl (o_loadA (vs := prCs (prs n l)[i]) Try.isAgg37 Try.sizeOf37 rfl rfl (roElem prCs_len hSp hcp hi)) ?_
   refine f_step rfl rfl rfl (o_alloc Try.zeroValue37 rfl fun b10 => ?_)
   refine f_step0 rfl rfl (o_storeA Try.sizeOf37 rfl rfl rfl rfl (by first | exact Nat.le_of_ble_eq_true rfl | (simp; done) | (simp; omega)) (prCs (prs n l)[i]) rfl ?_)
   refine f_done ?_
   refine f_tn (kh9 _ _ ?_)
   clear kh9
   refine f_seq fun K10 kh10 => ?_
   refine f_regionH [[(b10, blk [.int .i64 (prs n l)[i].1, .int .i64 (prs n l)[i].2] 37)]] rfl ?_
   refine f_take 0 rfl (by decide +kernel) rfl rfl rfl (by repeat (first | exact Sub.nil | refine Sub.pick ?_ | refine Sub.castO rfl ?_ | refine Sub.skip ?_)) (o_move rfl) ?_
   refine f_take 1 rfl (by decide +kernel) rfl rfl rfl (by repeat (first | exact Sub.nil | refine Sub.pick ?_ | refine Sub.castO rfl ?_ | refine Sub.skip ?_)) (o_field fa37_0 rfl) ?_
   refine f_take 2 rfl (by decide +kernel) rfl rfl rfl (by repeat (first | exact Sub.nil | refine Sub.pick ?_ | refine Sub.castO rfl ?_ | refine Sub.skip ?_)) (o_load Try.isAgg3 rfl (rdA rfl)) ?_
   refine f_take 3 rfl (by decide +kernel) rfl rfl rfl (by repeat (first | exact Sub.nil | refine Sub.pick ?_ | refine Sub.castO rfl ?_ | refine Sub.skip ?_)) (o_idx sl25 rfl rfl (ob + (prs n l)[i].1.toNat) ⟨by omega, by omega, by first | omega | (simp; done) | (simp; omega)⟩) ?_
   refine f_take 4 rfl (by decide +kernel) rfl rfl rfl (by repeat (first | exact Sub.nil | refine Sub.pick ?_ | refine Sub.castO rfl ?_ | refine Sub.skip ?_)) (o_load Try.isAgg3 rfl (show Rd _ _ _ _ _ (.int .i64 (a : Int)) by rw [← ha]; exact roOne (enc := (.int .i64 ·)) hSb hcb hx1)) ?_
   refine f_take 5 rfl (by decide +kernel) rfl rfl rfl (by repeat (first | exact Sub.nil | refine Sub.pick ?_ | refine Sub.castO rfl ?_ | refine Sub.skip ?_)) (o_move rfl) ?_
   refine f_take 6 rfl (by decide +kernel) rfl rfl rfl (by repeat (first | exact Sub.nil | refine Sub.pick ?_ | refine Sub.castO rfl ?_ | refine Sub.skip ?_)) (o_field fa37_1 rfl) ?_
   refine f_take 7 rfl (by decide +kernel) rfl rfl rfl (by repeat (first | exact Sub.nil | refine Sub.pick ?_ | refine Sub.castO rfl ?_ | refine Sub.skip ?_)) (o_load Try.isAgg3 rfl (rdA rfl)) ?_
   refine f_take 8 rfl (by decide +kernel) rfl rfl rfl (by repeat (first | exact Sub.nil | refine Sub.pick ?_ | refine Sub.castO rfl ?_ | refine Sub.skip ?_)) (o_idx sl25 rfl rfl (ob + (prs n l)[i].2.toNat) ⟨by omega, by omega, by first | omega | (simp; done) | (simp; omega)⟩) ?_
   refine f_take 9 rfl (by decide +kernel) rfl rfl rfl (by repeat (first | exact Sub.nil | refine Sub.pick ?_ | refine Sub.castO rfl ?_ | refine Sub.skip ?_)) (o_load Try.isAgg3 rfl (show Rd _ _ _ _ _ (.int .i64 (b : Int)) by rw [← hb']; exact roOne (enc := (.int .i64 ·)) hSb hcb hx2)) ?_
   refine f_take 10 rfl (by decide +kernel) rfl rfl rfl (by repeat (first | exact Sub.nil | refine Sub.pick ?_ | refine Sub.castO rfl ?_ | refine Sub.skip ?_)) (o_assign rfl) ?_
   refine f_take 11 rfl (by decide +kernel) rfl rfl rfl (by repeat (first | exact Sub.nil | refine Sub.pick ?_ | refine Sub.castO rfl ?_ | refine Sub.skip ?_)) (o_assign rfl) ?_
   refine f_over (by decide +kernel) ?_
   refine f_tn (kh10 _ _ ?_)
   clear kh10
   refine f_seq fun K11 kh11 => ?_
   refine f_regionS rfl (by decide +kernel) ?_
   refine f_stillP rfl rfl rfl (o_move rfl) ?_
   refine f_stillP rfl rfl rfl (o_move rfl) ?_
   refine f_stillP rfl rfl rfl (o_neq rfl rfl) ?_
   refine f_stillP rfl rfl rfl (o_move rfl) ?_
   refine f_splitS 38 rfl (fun g38 => ?_) (fun g38 => ?_)
   ·
    refine f_stillPY rfl rfl rfl rfl rfl (o_move rfl) ?_
    refine f_stillPY rfl rfl rfl rfl rfl (o_move rfl) ?_
    refine f_stillPY rfl rfl rfl rfl rfl (o_idx sl25 rfl rfl (a) ⟨by omega, by omega, by first | omega | (simp; done) | (simp; omega)⟩) ?_
    refine f_stillPY rfl rfl rfl rfl rfl (o_load Try.isAgg3 rfl (rdA (v := .int .i64 (cnt L a : Int)) (by rw [ints_get (by rw [szs_len]; exact haM), szs_get haM]))) ?_
    refine f_stillPY rfl rfl rfl rfl rfl (o_move rfl) ?_
    refine f_stillPY rfl rfl rfl rfl rfl (o_move rfl) ?_
    refine f_stillPY rfl rfl rfl rfl rfl (o_idx sl25 rfl rfl (b) ⟨by omega, by omega, by first | omega | (simp; done) | (simp; omega)⟩) ?_
    refine f_stillPY rfl rfl rfl rfl rfl (o_load Try.isAgg3 rfl (rdA (v := .int .i64 (cnt L b : Int)) (by rw [ints_get (by rw [szs_len]; exact hbM), szs_get hbM]))) ?_
    refine f_stillPY rfl rfl rfl rfl rfl (o_add rfl rfl _ (wrap_i64 (by omega))) ?_
    refine f_stillPY rfl rfl rfl rfl rfl (o_move rfl) ?_
    refine f_stillPY rfl rfl rfl rfl rfl (o_leq rfl rfl) ?_
    refine f_stillP rfl rfl rfl (o_pickT rfl rfl) ?_
    refine f_stillD ?_
    refine f_tn (kh11 _ _ ?_)
    clear kh11
    refine f_cond rfl (fun c50 => ?_) (fun c50 => ?_)
    ·
     have hop : okP L bd (prs n l)[i] = true := by unfold okP; rw [la, lb, ca, cb']; simp only [decide_eq_true_eq]; omega
     have hc := hsm.val hop
     have hsm2 := hsm.add hop c1
     have hcl := cntK_le ((prs n l).take i) L (min (a : Int) b, max (a : Int) b)
     rw [hti] at hcl
     rw [← htk, hkey] at hsm2
     rw [hkey] at hc
     refine f_regionH [] rfl ?_
     refine f_take 0 rfl (by decide +kernel) rfl rfl rfl (by repeat (first | exact Sub.nil | refine Sub.pick ?_ | refine Sub.castO rfl ?_ | refine Sub.skip ?_)) (o_move rfl) ?_
     refine f_take 1 rfl (by decide +kernel) rfl rfl rfl (by repeat (first | exact Sub.nil | refine Sub.pick ?_ | refine Sub.castO rfl ?_ | refine Sub.skip ?_)) (o_move rfl) ?_
     refine f_take 2 rfl (by decide +kernel) rfl rfl rfl (by repeat (first | exact Sub.nil | refine Sub.pick ?_ | refine Sub.castO rfl ?_ | refine Sub.skip ?_)) (o_move rfl) ?_
     refine f_take 3 rfl (by decide +kernel) rfl rfl rfl (by repeat (first | exact Sub.nil | refine Sub.pick ?_ | refine Sub.castO rfl ?_ | refine Sub.skip ?_)) (o_min rfl rfl) ?_
     refine f_take 4 rfl (by decide +kernel) rfl rfl rfl (by repeat (first | exact Sub.nil | refine Sub.pick ?_ | refine Sub.castO rfl ?_ | refine Sub.skip ?_)) (o_move rfl) ?_
     refine f_take 5 rfl (by decide +kernel) rfl rfl rfl (by repeat (first | exact Sub.nil | refine Sub.pick ?_ | refine Sub.castO rfl ?_ | refine Sub.skip ?_)) (o_move rfl) ?_
     refine f_take 6 rfl (by decide +kernel) rfl rfl rfl (by repeat (first | exact Sub.nil | refine Sub.pick ?_ | refine Sub.castO rfl ?_ | refine Sub.skip ?_)) (o_max rfl rfl) ?_
     refine f_take 7 rfl (by decide +kernel) rfl rfl rfl (by repeat (first | exact Sub.nil | refine Sub.pick ?_ | refine Sub.castO rfl ?_ | refine Sub.skip ?_)) (o_buildA (cs := [.int .i64 (min (a : Int) b), .int .i64 (max (a : Int) b)]) ar75 rfl rfl) ?_
     refine f_two 8 10 rfl rfl (by decide +kernel) rfl rfl rfl rfl rfl rfl ?_ ?_
     ·
      refine (o_lookup kt74 Try.zeroValue3 rfl rfl rfl (key := (min (a : Int) b, max (a : Int) b)) (.int .i64 (cntK ((prs n l).take i) L (min (a : Int) b, max (a : Int) b) : Int)) (by first | exact hc | exact (ment_val _ _ _ _).trans hc)).does ⟨(by repeat (first | exact Sub.nil | refine Sub.pick ?_ | refine Sub.castO rfl ?_ | refine Sub.skip ?_)), ?_⟩
      refine f_take 9 rfl (by decide +kernel) rfl rfl rfl (by repeat (first | exact Sub.nil | refine Sub.pick ?_ | refine Sub.castO rfl ?_ | refine Sub.skip ?_)) (o_add rfl rfl _ (wrap_i64 (by omega))) ?_
      refine f_only 10 rfl (by decide +kernel) rfl rfl rfl (o_mapEntry kt74 Try.zeroValue3 rfl rfl rfl (key := (min (a : Int) b, max (a : Int) b)) _ rfl ⟨(by repeat (first | exact Sub.nil | refine Sub.pick ?_ | refine Sub.castO rfl ?_ | refine Sub.skip ?_)), ?_⟩)
      refine f_take 11 rfl (by decide +kernel) rfl rfl rfl (by repeat (first | exact Sub.nil | refine Sub.pick ?_ | refine Sub.castO rfl ?_ | refine Sub.skip ?_)) (o_extract rfl rfl) ?_
      refine f_only0 12 rfl (by decide +kernel) rfl rfl (o_entryStore (key := (min (a : Int) b, max (a : Int) b)) hmap rfl rfl rfl ⟨(by repeat (first | exact Sub.nil | refine Sub.pick ?_ | refine Sub.castO rfl ?_ | refine Sub.skip ?_)), ?_⟩)
      refine f_over (by decide +kernel) ?_
      refine f_bn ?_
      refine f_tn (kh8 _ _ ?_)
      clear kh8
      refine f_region ?_
      refine f_stepP rfl rfl rfl (o_add rfl rfl _ (wrap_i64 (by omega))) ?_
      refine f_stepP rfl rfl rfl (o_move rfl) ?_
      refine f_done ?_
      refine f_tn (f_again (i + 1, mput ents (min (a : Int) b, max (a : Int) b) (.int .i64 ((cntK ((prs n l).take i) L (min (a : Int) b, max (a : Int) b) : Int) + 1)) c1, mclock ents (min (a : Int) b, max (a : Int) b) c1) (by first | omega | (dsimp only; omega) | (simp; omega)) ⟨by omega, hmap.put _ _, hsm2⟩ ?_ ?_ ?_)
      · exact (by repeat (first | exact trivial | refine ⟨rfl, ?_⟩))
      · exact (by repeat (first | exact trivial | refine ⟨rfl, ?_⟩))
      · repeat (first | exact Sub.nil | refine Sub.pick ?_ | refine Sub.castO rfl ?_ | refine Sub.skip ?_)
     ·
      refine (o_mapEntry kt74 Try.zeroValue3 rfl rfl rfl (key := (min (a : Int) b, max (a : Int) b)) _ rfl ⟨(by repeat (first | exact Sub.nil | refine Sub.pick ?_ | refine Sub.castO rfl ?_ | refine Sub.skip ?_)), ?_⟩)
      refine f_take 11 rfl (by decide +kernel) rfl rfl rfl (by repeat (first | exact Sub.nil | refine Sub.pick ?_ | refine Sub.castO rfl ?_ | refine Sub.skip ?_)) (o_extract rfl rfl) ?_
      refine f_only 8 rfl (by decide +kernel) rfl rfl rfl ((o_lookup kt74 Try.zeroValue3 rfl rfl rfl (key := (min (a : Int) b, max (a : Int) b)) (.int .i64 (cntK ((prs n l).take i) L (min (a : Int) b, max (a : Int) b) : Int)) (by first | exact hc | exact (ment_val _ _ _ _).trans hc)).does ⟨(by repeat (first | exact Sub.nil | refine Sub.pick ?_ | refine Sub.castO rfl ?_ | refine Sub.skip ?_)), ?_⟩)
      refine f_take 9 rfl (by decide +kernel) rfl rfl rfl (by repeat (first | exact Sub.nil | refine Sub.pick ?_ | refine Sub.castO rfl ?_ | refine Sub.skip ?_)) (o_add rfl rfl _ (wrap_i64 (by omega))) ?_
      refine f_only0 12 rfl (by decide +kernel) rfl rfl (o_entryStore (key := (min (a : Int) b, max (a : Int) b)) hmap rfl rfl rfl ⟨(by repeat (first | exact Sub.nil | refine Sub.pick ?_ | refine Sub.castO rfl ?_ | refine Sub.skip ?_)), ?_⟩)
      refine f_over (by decide +kernel) ?_
      refine f_bn ?_
      refine f_tn (kh8 _ _ ?_)
      clear kh8
      refine f_region ?_
      refine f_stepP rfl rfl rfl (o_add rfl rfl _ (wrap_i64 (by omega))) ?_
      refine f_stepP rfl rfl rfl (o_move rfl) ?_
      refine f_done ?_
      refine f_tn (f_again (i + 1, mput ents (min (a : Int) b, max (a : Int) b) (.int .i64 ((cntK ((prs n l).take i) L (min (a : Int) b, max (a : Int) b) : Int) + 1)) c1, mclock ents (min (a : Int) b, max (a : Int) b) c1) (by first | omega | (dsimp only; omega) | (simp; omega)) ⟨by omega, hmap.put _ _, hsm2⟩ ?_ ?_ ?_)
      · exact (by repeat (first | exact trivial | refine ⟨rfl, ?_⟩))
      · exact (by repeat (first | exact trivial | refine ⟨rfl, ?_⟩))
      · repeat (first | exact Sub.nil | refine Sub.pick ?_ | refine Sub.castO rfl ?_ | refine Sub.skip ?_)
    ·
     have hsm2 := hsm.skip (p := (prs n l)[i]) (fun ho => by unfold okP at ho; rw [la, lb, ca, cb'] at ho; simp only [decide_eq_true_eq] at ho; omega)
     rw [← htk] at hsm2
     refine f_skip ?_
     refine f_bn ?_
     refine f_tn (kh8 _ _ ?_)
     clear kh8
     refine f_region ?_
     refine f_stepP rfl rfl rfl (o_add rfl rfl _ (wrap_i64 (by omega))) ?_
     refine f_stepP rfl rfl rfl (o_move rfl) ?_
     refine f_done ?_
     refine f_tn (f_again (i + 1, ents, c1) (by first | omega | (dsimp only; omega) | (simp; omega)) ⟨by omega, hmap, hsm2⟩ ?_ ?_ ?_)
     · exact (by repeat (first | exact trivial | refine ⟨rfl, ?_⟩))
     · exact (by repeat (first | exact trivial | refine ⟨rfl, ?_⟩))
     · repeat (first | exact Sub.nil | refine Sub.pick ?_ | refine Sub.castO rfl ?_ | refine Sub.skip ?_)
   ·
    have hsm2 := hsm.skip (p := (prs n l)[i]) (fun ho => by unfold okP at ho; rw [la, lb] at ho; simp only [decide_eq_true_eq] at ho; omega)
    rw [← htk] at hsm2
    refine f_stillN rfl rfl rfl rfl rfl rfl ?_
    refine f_stillN rfl rfl rfl rfl rfl rfl ?_
    refine f_stillN rfl rfl rfl rfl rfl rfl ?_
    refine f_stillN rfl rfl rfl rfl rfl rfl ?_
    refine f_stillN rfl rfl rfl rfl rfl rfl ?_
    refine f_stillN rfl rfl rfl rfl rfl rfl ?_
    refine f_stillN rfl rfl rfl rfl rfl rfl ?_
    refine f_stillN rfl rfl rfl rfl rfl rfl ?_
    refine f_stillN rfl rfl rfl rfl rfl rfl ?_
    refine f_stillN rfl rfl rfl rfl rfl rfl ?_
    refine f_stillN rfl rfl rfl rfl rfl rfl ?_
    refine f_stillP rfl rfl rfl (o_pickF rfl rfl) ?_
    refine f_stillD ?_
    refine f_tn (kh11 _ _ ?_)
    clear kh11
    refine f_condF rfl ?_
    refine f_skip ?_
    refine f_bn ?_
    refine f_tn (kh8 _ _ ?_)
    clear kh8
    refine f_region ?_
    refine f_stepP rfl rfl rfl (o_add rfl rfl _ (wrap_i64 (by omega))) ?_
    refine f_stepP rfl rfl rfl (o_move rfl) ?_
    refine f_done ?_
    refine f_tn (f_again (i + 1, ents, c1) (by first | omega | (dsimp only; omega) | (simp; omega)) ⟨by omega, hmap, hsm2⟩ ?_ ?_ ?_)
    · exact (by repeat (first | exact trivial | refine ⟨rfl, ?_⟩))
    · exact (by repeat (first | exact trivial | refine ⟨rfl, ?_⟩))
    · repeat (first | exact Sub.nil | refine Sub.pick ?_ | refine Sub.castO rfl ?_ | refine Sub.skip ?_)
  ·
   refine f_exit ?_
   refine f_te ?_
   clear kh7
   refine f_te ?_
   refine f_be ?_
   refine f_tn (kh4 _ _ ?_)
   clear kh4
   refine f_seq fun K12 kh12 => ?_
   obtain rfl : i = (prs n l).length := by omega
   rw [List.take_length] at hsm
   have hel := hsm.few
   refine f_region ?_
   refine f_stepP rfl rfl rfl (o_assign rfl) ?_
   refine f_done ?_
   refine f_tn (kh12 _ _ ?_)
   clear kh12
   refine f_seq fun K13 kh13 => ?_
   refine f_seq fun K14 kh14 => ?_
   refine f_region ?_
   refine f_stepP rfl rfl rfl (o_move rfl) ?_
   refine f_step rfl rfl rfl (o_range kt74 rfl fun b65 => ?_)
   refine f_done ?_
   refine f_tn (kh14 _ _ ?_)
   clear kh14
   refine f_block ?_
   refine f_loop (α := List Nat × List Sm × Value × Seg) [65] (fun ⟨seen, sl, v13, m13⟩ => [(13, v13)]) (fun ⟨seen, sl, v13, m13⟩ => [[(b65, itObj b18 c1 seen)], m13, [(b18, mobj enc2 ents c1)], [(bs, blk (ints (szs M L)) 3)]]) (fun ⟨seen, sl, v13, m13⟩ => Came ents seen (sl.map fun s => (s.1, s.2.1)) ∧ Own 59 3 v13 sl.length (sl.flatMap smCs) m13 ∧ ∀ s ∈ sl, s ∈ smL (prs n l) L bd) (fun ⟨seen, sl, v13, m13⟩ => ents.length - sl.length) ([], [], .slice none 0 0, []) ?_ ?_ ?_ ?_
   · exact (by repeat (first | exact trivial | refine ⟨rfl, ?_⟩))
   · repeat (first | exact Sub.nil | refine Sub.pick ?_ | refine Sub.castO rfl ?_ | refine Sub.skip ?_)
   · exact ⟨Came.start, Own.nil _ _, fun s hs => by cases hs⟩
   ·
    rintro ⟨seen, sl, v13, m13⟩ ⟨hca, ho13, hsl⟩
    have hcl := hca.len
    rw [List.length_map] at hcl
    obtain ⟨A13, cap13, rfl, hc13⟩ := ho13.val
    refine f_envC (e := [(13, _), (65, _)]) (by repeat (first | exact trivial | refine ⟨rfl, ?_⟩)) ?_
    refine f_seq fun K15 kh15 => ?_
    refine f_region ?_
    refine f_step rfl rfl rfl (o_next1 hmap rfl fun q66 r66 seen1 hnx => ?_)
    refine f_stepP rfl rfl rfl (o_extract rfl rfl) ?_
    refine f_done ?_
    refine f_tn (kh15 _ _ ?_)
    clear kh15
    refine f_seq fun K16 kh16 => ?_
    refine f_condB rfl (fun c67 => ?_) (fun c67 => ?_)
    ·
     obtain ⟨e, he, hne, rfl⟩ : ∃ e ∈ ents, e.2.2 ∉ seen ∧ seen1 = seen ++ [e.2.2] := by
       rcases hnx with ⟨_, h⟩ | ⟨h, _⟩
       · exact h
       · rw [h] at c67; cases c67
     have hca2 := hca.next hmap he hne
     obtain ⟨ea, eb, ec, es, rfl, hek⟩ := hsm.ent hmap he
     dsimp only at hca2 hne ⊢
     refine f_skip ?_
     refine f_tn (kh16 _ _ ?_)
     clear kh16
     refine f_block ?_
     refine f_seq fun K17 kh17 => ?_
     refine f_region ?_
     refine f_stepP rfl rfl rfl (o_entry hmap he rfl) ?_
     refine f_stepP rfl rfl rfl (o_extract rfl rfl) ?_
     refine f_stepP rfl rfl rfl (o_extract rfl rfl) ?_
     refine f_step rfl rfl rfl (o_alloc Try.zeroValue75 rfl fun b14 => ?_)
     refine f_step0 rfl rfl (o_storeA Try.sizeOf75 rfl rfl rfl rfl (by first | exact Nat.le_of_ble_eq_true rfl | (simp; done) | (simp; omega)) [.int .i64 ea, .int .i64 eb] rfl ?_)
     refine f_stepP rfl rfl rfl (o_assign rfl) ?_
     refine f_done ?_
     refine f_tn (kh17 _ _ ?_)
     clear kh17
     refine f_region ?_
     refine f_stepP rfl rfl rfl (o_move rfl) ?_
     refine f_stepP rfl rfl rfl (o_idxA ar75 rfl rfl _ ⟨by omega, by omega, rfl⟩) ?_
     refine f_stepP rfl rfl rfl (o_load Try.isAgg3 rfl (rdA rfl)) ?_
     refine f_stepP rfl rfl rfl (o_idxA ar75 rfl rfl _ ⟨by omega, by omega, rfl⟩) ?_
     refine f_stepP rfl rfl rfl (o_load Try.isAgg3 rfl (rdA rfl)) ?_
     refine f_stepP rfl rfl rfl (o_move rfl) ?_
     refine f_stepP rfl rfl rfl (o_build st59 rfl rfl) ?_
     refine f_step rfl rfl rfl (o_slice1 el56 (by omega) rfl rfl rfl fun b78 => ?_)
     refine f_step rfl rfl rfl (o_append el56 rfl rfl ho13 (ys := smCs (ea, eb, ec)) ⟨(rdA rfl), (rdA rfl), (rdA rfl), trivial⟩ rfl rfl (by omega) (by omega) fun v79 m79 o79 => ?_)
     refine f_stepP rfl rfl rfl (o_assign rfl) ?_
     refine f_done ?_
     refine f_bn ?_
     refine f_tn (f_again (seen ++ [es], sl ++ [(ea, eb, ec)], v79, m79) (by have := hca2.len; simp at this ⊢; omega) ⟨by rw [List.map_append]; exact hca2, by rw [List.length_append, List.flatMap_append]; simpa [smCs] using o79, fun s hs => by
       rcases List.mem_append.1 hs with hs | hs
       · exact hsl s hs
       · obtain rfl := List.mem_singleton.1 hs; exact hek⟩ ?_ ?_ ?_)
     · exact (by repeat (first | exact trivial | refine ⟨rfl, ?_⟩))
     · exact (by repeat (first | exact trivial | refine ⟨rfl, ?_⟩))
     · repeat (first | exact Sub.nil | refine Sub.pick ?_ | refine Sub.castO rfl ?_ | refine Sub.skip ?_)
    ·
     obtain ⟨rfl, hall⟩ : seen1 = seen ∧ ∀ e ∈ ents, e.2.2 ∈ seen := by
       rcases hnx with ⟨h, _⟩ | ⟨_, h⟩
       · rw [h] at c67; cases c67
       · exact h
     refine f_exit ?_
     refine f_te ?_
     clear kh16
     refine f_te ?_
     refine f_be ?_
     refine f_tn (kh13 _ _ ?_)
     clear kh13
     refine f_seq fun K18 kh18 => ?_
     refine f_region ?_
     refine f_stepP rfl rfl rfl (o_move rfl) ?_
     refine f_stepP rfl rfl rfl (o_assign rfl) ?_
     refine f_done ?_
     refine f_tn (kh18 _ _ ?_)
     clear kh18
     refine f_ret ?_
     have hA : ∀ s ∈ sl, SmOk s := fun s hs => by
       obtain ⟨q, hq, _, _, hq2⟩ := mem_smL.1 (hsl s hs)
       have hck := cntK_le (prs n l) L (s.1, s.2.1)
       obtain ⟨p, hp, hne, hlb, hsz⟩ := smL_seam (hsl s hs)
       have hp' := prs_rng hp
       have key : ∀ u : Int, 0 ≤ u → u < (n : Int) → 0 ≤ lab L u ∧ lab L u ≤ 1048576 := fun u h0 h1 => by
         rw [lab_at (by omega)]
         have := hrg _ (List.getElem_mem (show u.toNat < L.length by omega))
         omega
       have k1 := key p.1 hp'.1.1 hp'.1.2
       have k2 := key p.2 hp'.2.1 hp'.2.2
       unfold SmOk
       rcases hlb with ⟨e1, e2⟩ | ⟨e1, e2⟩
       · rw [e1] at k1; rw [e2] at k2; omega
       · rw [e1] at k1; rw [e2] at k2; omega
     have hB := hsm.end_ hsl (hca.all hall)
     exact f_fin1 [m13] Try.results25 rfl (by repeat (first | exact Sub.nil | refine Sub.pick ?_ | refine Sub.castO rfl ?_)) ⟨sl, cap13, A13, m13, rfl, rfl, ho13, hB, hA, by omega⟩

end Go.Proofs.Ytkhjckghpakliaa

/- split.Join: labels put together. -/
namespace Go.Proofs.Ytkhjckghpakliaa
open Go Go.RowKit Fly
set_option linter.unusedVariables false
set_option linter.unusedSimpArgs false


theorem lcount_okJ {N : Int} {l : List Arc} {L : List Int} (h : (lcount N l L).2 = 0) : (gcheck N l).2 = 0 ∧ rightB N L = true := by
  unfold lcount at h
  split at h
  · rename_i h1; exact absurd h h1
  · rename_i h1
    split at h
    · cases h
    · rename_i h2; exact ⟨by simpa using h1, by simpa using h2⟩
theorem spE_zero {N : Int} {l : List Arc} {L : List Int} {bd : Int} (h : spE N l L bd = 0) : ∃ n : Nat, N = (n : Int) ∧ 1 ≤ n ∧ n ≤ 1024 ∧ (gcheck (n : Int) l).2 = 0 ∧ rightB (n : Int) L = true ∧ 1 ≤ bd ∧ bd ≤ 1024 := by
  unfold spE at h
  by_cases h1 : (lcount N l L).2 ≠ 0
  · rw [if_pos h1] at h; exact absurd h h1
  · rw [if_neg h1] at h
    obtain ⟨hg, hr⟩ := lcount_okJ (by omega : (lcount N l L).2 = 0)
    have := gcheck_zero hg
    refine ⟨N.toNat, by omega, by omega, by omega, by rw [Int.toNat_of_nonneg (by omega)]; exact hg, by rw [Int.toNat_of_nonneg (by omega)]; exact hr, ?_⟩
    split at h
    · cases h
    · omega
def joinE (N : Int) (l : List Arc) (L : List Int) (bd : Int) : Int := if spE N l L bd ≠ 0 then spE N l L bd else if bd < maxL (sizesL L) then 90 else 0
/-- Joins, one behind the other, each the first one. -/
inductive JTo (n : Nat) (l : List Arc) (bd : Int) : List Int → List Int → Prop
  | refl (L : List Int) : JTo n l bd L L
  | step {L M : List Int} {s : Sm} (h : JTo n l bd L M) (hs : s ∈ smL (prs n l) M bd) (hb : ∀ t ∈ smL (prs n l) M bd, befI s t ≤ 0) : JTo n l bd L (tdy (mrg s.1 s.2.1 M))
theorem JTo.head {n : Nat} {l : List Arc} {bd : Int} {L R : List Int} (h : JTo n l bd L R) : R = L ∨ ∃ s, s ∈ smL (prs n l) L bd ∧ (∀ t ∈ smL (prs n l) L bd, befI s t ≤ 0) ∧ JTo n l bd (tdy (mrg s.1 s.2.1 L)) R := by
  induction h with
  | refl => exact .inl rfl
  | step h hs hb ih =>
    rcases ih with rfl | ⟨t, ht, htb, hj⟩
    · exact .inr ⟨_, hs, hb, .refl _⟩
    · exact .inr ⟨t, ht, htb, hj.step hs hb⟩
/-- Some labels, of which the first are joined. -/
def mgk (a b : Int) (L : List Int) (k : Nat) : List Int := L.mapIdx fun i x => if i < k ∧ x = b then a else x
theorem mgk_len (a b : Int) (L : List Int) (k : Nat) : (mgk a b L k).length = L.length := by simp [mgk]
theorem mgk_zero (a b : Int) (L : List Int) : mgk a b L 0 = L := by
  refine List.ext_getElem (mgk_len ..) fun i h1 h2 => ?_
  simp [mgk]
theorem mgk_all (a b : Int) (L : List Int) : mgk a b L L.length = mrg a b L := by
  refine List.ext_getElem (by rw [mgk_len, mrg_len]) fun i h1 h2 => ?_
  rw [mrg_len] at h2
  simp [mgk, mrg, h2]
theorem mgk_get {a b : Int} {L : List Int} {k : Nat} (h : k < L.length) : (mgk a b L k)[k]'(by rw [mgk_len]; exact h) = L[k] := by simp [mgk]
theorem mgk_yes {a b : Int} {L : List Int} {k : Nat} (h : k < L.length) (e : L[k] = b) : (mgk a b L k).set k a = mgk a b L (k + 1) := by
  refine List.ext_getElem (by simp [mgk]) fun i h1 h2 => ?_
  by_cases hi : k = i
  · subst hi; simp [mgk, e]
  · rw [List.getElem_set_ne hi]
    simp only [mgk, List.getElem_mapIdx]
    split <;> split <;> first | rfl | omega
theorem mgk_no {a b : Int} {L : List Int} {k : Nat} (h : k < L.length) (e : L[k] ≠ b) : mgk a b L k = mgk a b L (k + 1) := by
  refine List.ext_getElem (by simp [mgk]) fun i h1 h2 => ?_
  simp only [mgk, List.getElem_mapIdx]
  by_cases hi : k = i
  · subst hi; simp [e]
  · split <;> split <;> first | rfl | omega
theorem cnt_max {L : List Int} (h0 : 0 < L.length) (hp : ∀ x ∈ L, 0 ≤ x) {bd : Int} (hb : 0 ≤ bd) (h : maxL (sizesL L) ≤ bd) (y : Int) : (cntI L y : Int) ≤ bd := by
  by_cases hy : y ∈ L
  · have h1 := hp y hy
    have h2 := le_maxL hy
    obtain ⟨v, rfl⟩ : ∃ v : Nat, y = (v : Int) := ⟨y.toNat, by omega⟩
    have hv : v < (maxL L + 1).toNat := by omega
    have h3 : (cnt L v : Int) ∈ sizesL L := by
      unfold sizesL
      rw [← szs_get (L := L) hv]; exact List.getElem_mem _
    have := le_maxL h3
    rw [← cnt_is]; omega
  · rw [cntI_none hy]; exact hb
theorem max_cnt {L : List Int} (h0 : 0 < (sizesL L).length) {bd : Int} (h : ∀ y, (cntI L y : Int) ≤ bd) : maxL (sizesL L) ≤ bd := maxL_le h0 fun x hx => by
  unfold sizesL szs at hx
  obtain ⟨j, _, rfl⟩ := List.mem_map.1 hx
  exact h j
theorem lab_mem {n : Nat} {L : List Int} {u : Int} (hL : L.length = n) (h : 0 ≤ u ∧ u < (n : Int)) : lab L u ∈ L := by
  rw [lab_at (by omega)]; exact List.getElem_mem _
theorem seam_mem {n : Nat} {l : List Arc} {bd a b : Int} {L : List Int} (hL : L.length = n) (h : Seam n l bd L a b) : a ∈ L ∧ b ∈ L ∧ a ≠ b := by
  obtain ⟨p, hp, hne, hlb, _⟩ := h
  have hr := prs_rng hp
  have h1 := lab_mem hL hr.1
  have h2 := lab_mem hL hr.2
  rcases hlb with ⟨e1, e2⟩ | ⟨e1, e2⟩
  · exact ⟨e1 ▸ h1, e2 ▸ h2, hne⟩
  · exact ⟨e2 ▸ h2, e1 ▸ h1, hne⟩

set_option maxRecDepth 100000 in
set_option maxHeartbeats 4000000 in
theorem Join_spec (N : Int) (A B : Option Addr) (l : List Arc) (cap : Nat) (L : List Int) (cb : Nat) (bd : Int) (w : World) (hr : Ro (Fr w []) w A (l.flatMap arcCs)) (hl : l.length ≤ 9223372036854775807) (hN : I64 N) (hok : ∀ x ∈ l, ArcOk x) (hL : Ro (Fr w []) w B (ints L)) (hm : L.length ≤ 9223372036854775807) :
    Meets Try.prog 9 [.agg #[.int .i64 N, .slice A l.length cap], .slice B L.length cb, .int .i64 bd] w [] (fun u own' => ∃ (L' : List Int) (A' : Option Addr) (c : Nat) (m' : Seg), u = .tuple #[.slice A' L'.length c, .int .i64 (joinE N l L bd)] ∧ own' = [m'] ∧ Own 3 1 (.slice A' L'.length c) L'.length (ints L') m' ∧ (joinE N l L bd ≠ 0 → L' = []) ∧ (joinE N l L bd = 0 → JInv N.toNat l bd L L' ∧ smL (prs N.toNat l) L' bd = [] ∧ JTo N.toNat l bd L L')) := by
 refine f_enter Try.func9 rfl Try.ntmps9 rfl Owns.nil ?_
 refine f_seq fun K1 kh1 => ?_
 refine f_region ?_
 refine f_step rfl rfl rfl (o_box rfl rfl fun b3 => ?_)
 refine f_stepP rfl rfl rfl (o_assign rfl) ?_
 refine f_stepP rfl rfl rfl (o_assign rfl) ?_
 refine f_done ?_
 refine f_tn (kh1 _ _ ?_)
 clear kh1
 refine f_seq fun K2 kh2 => ?_
 refine f_seq fun K3 kh3 => ?_
 refine f_region ?_
 refine f_stepP rfl rfl rfl (o_loadA (vs := [_, _]) Try.isAgg24 Try.sizeOf24 rfl rfl ⟨(rdA rfl), (rdA rfl), trivial⟩) ?_
 refine f_stepP rfl rfl rfl (o_move rfl) ?_
 refine f_stepP rfl rfl rfl (o_move rfl) ?_
 refine f_step rfl rfl rfl (o_call Try.call17 rfl (fun w_ hp_ => splook_spec N A B l cap L cb bd w_ (hr.up0 hp_) hl hN hok (hL.up0 hp_) hm) ?_)
 rintro _ _ ⟨rfl, rfl⟩
 dsimp only [List.cons_append, List.nil_append]
 refine f_stepP rfl rfl rfl (o_assign rfl) ?_
 refine f_done ?_
 refine f_tn (kh3 _ _ ?_)
 clear kh3
 refine f_seq fun K4 kh4 => ?_
 refine f_region ?_
 refine f_stepP rfl rfl rfl (o_move rfl) ?_
 refine f_stepP rfl rfl rfl (o_neq rfl rfl) ?_
 refine f_done ?_
 refine f_tn (kh4 _ _ ?_)
 clear kh4
 refine f_cond rfl (fun c20 => ?_) (fun c20 => ?_)
 ·
  refine f_seq fun K5 kh5 => ?_
  refine f_region ?_
  refine f_stepP rfl rfl rfl (o_move rfl) ?_
  refine f_stepP rfl rfl rfl (o_assign rfl) ?_
  refine f_stepP rfl rfl rfl (o_assign rfl) ?_
  refine f_done ?_
  refine f_tn (kh5 _ _ ?_)
  clear kh5
  refine f_ret ?_
  refine f_tr ?_
  have c20' : spE N l L bd ≠ 0 := by simpa using c20
  have hje : joinE N l L bd = spE N l L bd := by unfold joinE; rw [if_pos c20']
  exact f_fin2 [[]] Try.results9 rfl rfl (show Fly.Sub _ [[]] from (by repeat (first | exact Sub.nil | refine Sub.pick ?_ | refine Sub.castO rfl ?_ | refine Sub.skip ?_))) ⟨[], none, 0, [], by rw [hje]; rfl, rfl, Own.nil _ _, fun _ => rfl, fun h => absurd (hje.symm.trans h) c20'⟩
 ·
  have hz : spE N l L bd = 0 := by simpa using c20
  obtain ⟨n, rfl, hn1, hn2, hg, hR, hbd⟩ := spE_zero hz
  have hLn : L.length = n := (right_parts hR).2
  have hrg := right_range hR hn1
  refine f_skip ?_
  refine f_tn (kh2 _ _ ?_)
  clear kh2
  refine f_seq fun K6 kh6 => ?_
  refine f_seq fun K7 kh7 => ?_
  refine f_region ?_
  refine f_stepP rfl rfl rfl (o_move rfl) ?_
  refine f_step rfl rfl rfl (o_call Try.call19 rfl (fun w_ hp_ => sizes_spec B L cb w_ (hL.up0 hp_) (by omega) (by omega) (fun x hx => by have := hrg x hx; omega)) ?_)
  rintro _ _ ⟨bs, rfl, rfl⟩
  obtain ⟨M, hM⟩ : ∃ M : Nat, (maxL L + 1).toNat = M := ⟨_, rfl⟩
  have hsl : (sizesL L).length = M := by unfold sizesL; rw [szs_len, hM]
  rw [hM]
  rw [hM] at hrg
  have hMn := hrg L[0] (List.getElem_mem (by omega))
  dsimp only [List.cons_append, List.nil_append]
  refine f_step rfl rfl rfl (o_call Try.call24 rfl (fun w_ hp_ => (by have h := Max_spec (some ⟨bs, 0, none⟩) (sizesL L) M w_ (roOwn (b := bs) hp_ (fun j v hj => hj)) (by omega) (by omega); rw [hsl] at h; exact h)) ?_)
  rintro _ _ ⟨rfl, rfl⟩
  dsimp only [List.cons_append, List.nil_append]
  refine f_stepP rfl rfl rfl (o_move rfl) ?_
  refine f_stepP rfl rfl rfl (o_gtr rfl rfl) ?_
  refine f_done ?_
  refine f_tn (kh7 _ _ ?_)
  clear kh7
  refine f_cond rfl (fun c26 => ?_) (fun c26 => ?_)
  ·
   refine f_seq fun K8 kh8 => ?_
   refine f_region ?_
   refine f_stepP rfl rfl rfl (o_assign rfl) ?_
   refine f_stepP rfl rfl rfl (o_assign rfl) ?_
   refine f_done ?_
   refine f_tn (kh8 _ _ ?_)
   clear kh8
   refine f_ret ?_
   refine f_tr ?_
   have hje : joinE (n : Int) l L bd = 90 := by unfold joinE; rw [if_neg (by rw [hz]; simp), if_pos (by omega)]
   exact f_fin2 [[]] Try.results9 rfl rfl (show Fly.Sub _ [[]] from (by repeat (first | exact Sub.nil | refine Sub.pick ?_ | refine Sub.castO rfl ?_ | refine Sub.skip ?_))) ⟨[], none, 0, [], by rw [hje]; rfl, rfl, Own.nil _ _, fun _ => rfl, fun h => by rw [hje] at h; cases h⟩
  ·
   have hsz := cnt_max (L := L) (by omega) (fun x hx => (hrg x hx).1) (by omega) (by omega : maxL (sizesL L) ≤ bd)
   refine f_skip ?_
   refine f_tn (kh6 _ _ ?_)
   clear kh6
   refine f_seq fun K9 kh9 => ?_
   refine f_region ?_
   refine f_stepP rfl rfl rfl (o_loadA (vs := [_, _]) Try.isAgg24 Try.sizeOf24 rfl rfl ⟨(rdA rfl), (rdA rfl), trivial⟩) ?_
   refine f_step rfl rfl rfl (o_call Try.call12 rfl (fun w_ hp_ => Pairs_spec (n : Int) A l cap w_ (hr.up0 hp_) hl hN hok) ?_)
   rintro _ own29 hq29
   rw [if_pos hg, Int.toNat_natCast] at hq29
   obtain ⟨Ap, mp, cp, rfl, rfl, hop⟩ := hq29
   dsimp only [List.cons_append, List.nil_append]
   refine f_stepP rfl rfl rfl (o_move rfl) ?_
   refine f_stepP rfl rfl rfl (o_extract rfl rfl) ?_
   refine f_stepP rfl rfl rfl (o_extract rfl rfl) ?_
   refine f_stepP rfl rfl rfl (o_assign rfl) ?_
   refine f_stepP rfl rfl rfl (o_assign rfl) ?_
   refine f_done ?_
   refine f_tn (kh9 _ _ ?_)
   clear kh9
   refine f_seq fun K10 kh10 => ?_
   refine f_seq fun K11 kh11 => ?_
   refine f_region ?_
   refine f_stepP rfl rfl rfl (o_move rfl) ?_
   refine f_stepP rfl rfl rfl (o_neq rfl rfl) ?_
   refine f_done ?_
   refine f_tn (kh11 _ _ ?_)
   clear kh11
   refine f_condN rfl (by simp) ?_
   refine f_skip ?_
   refine f_tn (kh10 _ _ ?_)
   clear kh10
   refine f_seq fun K12 kh12 => ?_
   refine f_region ?_
   refine f_stepP rfl rfl rfl (o_move rfl) ?_
   refine f_step rfl rfl rfl (o_call Try.call18 rfl (fun w_ hp_ => CloneG_spec B L.length (ints L) cb w_ (hL.up0 hp_) (fun e => by rw [e] at hL; obtain ⟨_, _, e', _⟩ := hL (fun e => by have := ints_length L; rw [e] at this; simp at this; omega); cases e') (by rw [ints_length]; omega) (ints_oneG _) (by omega)) ?_)
   rintro v36 _ ⟨m36, rfl, o36⟩
   obtain ⟨bo, co, sp, rfl, rfl⟩ := o36.block (by omega)
   dsimp only [List.cons_append, List.nil_append]
   refine f_stepP rfl rfl rfl (o_assign rfl) ?_
   refine f_done ?_
   refine f_tn (kh12 _ _ ?_)
   clear kh12
   refine f_block ?_
   refine f_loop (α := List Int) [2, 9, 11] (fun L' => []) (fun L' => [[(bo, blk (ints L' ++ sp) 3)], mp]) (fun L' => JInv n l bd L L' ∧ JTo n l bd L L') (fun L' => (maxL L' + 1).toNat) (L) ?_ ?_ ?_ ?_
   · exact (by repeat (first | exact trivial | refine ⟨rfl, ?_⟩))
   · repeat (first | exact Sub.nil | refine Sub.pick ?_ | refine Sub.castO rfl ?_ | refine Sub.skip ?_)
   · exact ⟨JInv.refl hR hsz, JTo.refl L⟩
   ·
    rintro L' ⟨hJ, hT⟩
    have hLn' : L'.length = n := (right_parts hJ.right).2
    have hLL : L'.length = L.length := by omega
    refine f_block ?_
    refine f_seq fun K13 kh13 => ?_
    refine f_region ?_
    refine f_stepP rfl rfl rfl (o_move rfl) ?_
    refine f_stepP rfl rfl rfl (o_move rfl) ?_
    refine f_stepP rfl rfl rfl (o_move rfl) ?_
    refine f_step rfl rfl rfl (o_call Try.call25 rfl (fun w_ hp_ => (by have h := seams_spec Ap (some ⟨bo, 0, none⟩) l (prs n l).length L' co bd w_ (seen_ro (hop.seen hp_)) (roOwn (b := bo) hp_ (fun j v hj => app_get hj)) hJ.right hn1 hn2 hbd; rw [hLL] at h; exact h)) ?_)
    rintro _ _ ⟨sl, c12, A12, m12, rfl, rfl, o12, hsm, hsk, hsl12⟩
    dsimp only [List.cons_append, List.nil_append]
    refine f_stepP rfl rfl rfl (o_assign rfl) ?_
    refine f_done ?_
    refine f_tn (kh13 _ _ ?_)
    clear kh13
    refine f_seq fun K14 kh14 => ?_
    refine f_seq fun K15 kh15 => ?_
    refine f_region ?_
    refine f_stepP rfl rfl rfl (o_move rfl) ?_
    refine f_stepP rfl rfl rfl (o_len sl56 rfl) ?_
    refine f_stepP rfl rfl rfl (o_eql rfl rfl) ?_
    refine f_done ?_
    refine f_tn (kh15 _ _ ?_)
    clear kh15
    refine f_cond rfl (fun c43 => ?_) (fun c43 => ?_)
    ·
     refine f_seq fun K16 kh16 => ?_
     refine f_region ?_
     refine f_stepP rfl rfl rfl (o_move rfl) ?_
     refine f_stepP rfl rfl rfl (o_assign rfl) ?_
     refine f_stepP rfl rfl rfl (o_assign rfl) ?_
     refine f_done ?_
     refine f_tn (kh16 _ _ ?_)
     clear kh16
     refine f_ret ?_
     refine f_tr ?_
     refine f_br ?_
     refine f_tr ?_
     refine f_br ?_
     have hje : joinE (n : Int) l L bd = 0 := by unfold joinE; rw [if_neg (by rw [hz]; simp), if_neg (by omega)]
     have hnl : smL (prs n l) L' bd = [] := by
       rw [List.eq_nil_iff_forall_not_mem]
       intro s hs
       have := List.length_pos_of_mem ((hsm s).2 hs)
       omega
     exact f_fin2 [[(bo, blk (ints L' ++ sp) 3)]] Try.results9 rfl rfl (by repeat (first | exact Sub.nil | refine Sub.pick ?_ | refine Sub.castO rfl ?_ | refine Sub.skip ?_)) ⟨L', some ⟨bo, 0, none⟩, co, _, by rw [hLL, hje], rfl, (by have := own_intsG o36 hLL; exact this), fun h => absurd hje h, fun _ => ⟨by rw [Int.toNat_natCast]; exact hJ, by rw [Int.toNat_natCast]; exact hnl, by rw [Int.toNat_natCast]; exact hT⟩⟩
    ·
     have hsl0 : 0 < sl.length := by omega
     refine f_skip ?_
     refine f_tn (kh14 _ _ ?_)
     clear kh14
     refine f_seq fun K17 kh17 => ?_
     refine f_region ?_
     refine f_stepP rfl rfl rfl (o_move rfl) ?_
     refine f_step rfl rfl rfl (o_call Try.call26 rfl (fun w_ hp_ => MinF_spec A12 c12 sl w_ (seen_ro (o12.seen hp_)) (by omega) (by omega) hsk) ?_)
     rintro _ _ ⟨s, rfl, hss, hsb, rfl⟩
     have hs0 := (hsm s).1 hss
     have hsm0 := seam_mem hLn' (smL_seam hs0)
     have hsb' : ∀ t ∈ smL (prs n l) L' bd, befI s t ≤ 0 := fun t ht => hsb t ((hsm t).2 ht)
     dsimp only [List.cons_append, List.nil_append]
     refine f_step rfl rfl rfl (o_alloc Try.zeroValue59 rfl fun b13 => ?_)
     refine f_step0 rfl rfl (o_storeA Try.sizeOf59 rfl rfl rfl rfl (by first | exact Nat.le_of_ble_eq_true rfl | (simp; done) | (simp; omega)) (smCs s) rfl ?_)
     refine f_done ?_
     refine f_tn (kh17 _ _ ?_)
     clear kh17
     refine f_seq fun K18 kh18 => ?_
     refine f_seq fun K19 kh19 => ?_
     refine f_region ?_
     refine f_stepP rfl rfl rfl (o_move rfl) ?_
     refine f_stepP rfl rfl rfl (o_len sl25 rfl) ?_
     refine f_stepP rfl rfl rfl (o_move rfl) ?_
     refine f_done ?_
     refine f_tn (kh19 _ _ ?_)
     clear kh19
     refine f_block ?_
     refine f_loop (α := Nat) [2, 9, 11, 13, 48] (fun k => [(49, .int .i64 (k : Int))]) (fun k => [[(bo, blk (ints (mgk s.1 s.2.1 L' k) ++ sp) 3)], [(b13, blk [.int .i64 s.1, .int .i64 s.2.1, .int .i64 s.2.2] 59)], mp]) (fun k => k ≤ L'.length) (fun k => L'.length - k) (0) ?_ ?_ ?_ ?_
     · exact (by repeat (first | exact trivial | refine ⟨rfl, ?_⟩))
     · rw [mgk_zero]
       repeat (first | exact Sub.nil | refine Sub.pick ?_ | refine Sub.castO rfl ?_ | refine Sub.skip ?_)
     · exact Nat.zero_le _
     ·
      rintro k hkl
      refine f_envC (e := [(49, _), (2, _), (9, _), (11, _), (13, _), (48, _)]) (by repeat (first | exact trivial | refine ⟨rfl, ?_⟩)) ?_
      refine f_seq fun K20 kh20 => ?_
      refine f_region ?_
      refine f_stepP rfl rfl rfl (o_lss rfl rfl) ?_
      refine f_done ?_
      refine f_tn (kh20 _ _ ?_)
      clear kh20
      refine f_seq fun K21 kh21 => ?_
      refine f_cond rfl (fun c50 => ?_) (fun c50 => ?_)
      ·
       have hk : k < L'.length := by omega
       refine f_skip ?_
       refine f_tn (kh21 _ _ ?_)
       clear kh21
       refine f_seq fun K22 kh22 => ?_
       refine f_block ?_
       refine f_seq fun K23 kh23 => ?_
       refine f_region ?_
       refine f_stepP rfl rfl rfl (o_move rfl) ?_
       refine f_stepP rfl rfl rfl (o_assign rfl) ?_
       refine f_done ?_
       refine f_tn (kh23 _ _ ?_)
       clear kh23
       refine f_seq fun K24 kh24 => ?_
       refine f_regionS rfl (by decide +kernel) ?_
       refine f_stillP rfl rfl rfl (o_move rfl) ?_
       refine f_stillP rfl rfl rfl (o_move rfl) ?_
       refine f_stillP rfl rfl rfl (o_idx sl25 rfl rfl (k) ⟨by omega, by omega, by first | omega | (simp; done) | (simp; omega)⟩) ?_
       refine f_stillP rfl rfl rfl (o_load Try.isAgg3 rfl (rdA (v := .int .i64 L'[k]) (app_get (by rw [ints_get (by rw [mgk_len]; exact hk), mgk_get hk])))) ?_
       refine f_stillP rfl rfl rfl (o_field fa59_1 rfl) ?_
       refine f_stillP rfl rfl rfl (o_load Try.isAgg3 rfl (rdA rfl)) ?_
       refine f_stillP rfl rfl rfl (o_eql rfl rfl) ?_
       refine f_stillD ?_
       refine f_tn (kh24 _ _ ?_)
       clear kh24
       refine f_cond rfl (fun c58 => ?_) (fun c58 => ?_)
       ·
        have hmy := mgk_yes (a := s.1) hk c58
        refine f_region ?_
        refine f_stepP rfl rfl rfl (o_move rfl) ?_
        refine f_stepP rfl rfl rfl (o_move rfl) ?_
        refine f_stepP rfl rfl rfl (o_field fa59_0 rfl) ?_
        refine f_stepP rfl rfl rfl (o_load Try.isAgg3 rfl (rdA rfl)) ?_
        refine f_stepP rfl rfl rfl (o_idx sl25 rfl rfl (k) ⟨by omega, by omega, by first | omega | (simp; done) | (simp; omega)⟩) ?_
        refine f_step0 rfl rfl (o_store Try.sizeOf3 rfl rfl rfl rfl (by rw [List.length_append, ints_length, mgk_len]; omega) (ints (mgk s.1 s.2.1 L' (k + 1)) ++ sp) (by rw [← hmy, List.set_append_left _ _ (by rw [ints_length, mgk_len]; omega)]; simp [ints, List.map_set]) ?_)
        refine f_done ?_
        refine f_bn ?_
        refine f_tn (kh22 _ _ ?_)
        clear kh22
        refine f_region ?_
        refine f_stepP rfl rfl rfl (o_add rfl rfl _ (wrap_i64 (by omega))) ?_
        refine f_stepP rfl rfl rfl (o_move rfl) ?_
        refine f_done ?_
        refine f_tn (f_again (k + 1) (by first | omega | (dsimp only; omega) | (simp; omega)) (by omega) ?_ ?_ ?_)
        · exact (by repeat (first | exact trivial | refine ⟨rfl, ?_⟩))
        · exact (by repeat (first | exact trivial | refine ⟨rfl, ?_⟩))
        · repeat (first | exact Sub.nil | refine Sub.pick ?_ | refine Sub.castO rfl ?_ | refine Sub.skip ?_)
       ·
        have hmn := mgk_no (a := s.1) hk c58
        refine f_cellsC bo (ints (mgk s.1 s.2.1 L' (k + 1)) ++ sp) (by rw [hmn]) ?_
        refine f_skip ?_
        refine f_bn ?_
        refine f_tn (kh22 _ _ ?_)
        clear kh22
        refine f_region ?_
        refine f_stepP rfl rfl rfl (o_add rfl rfl _ (wrap_i64 (by omega))) ?_
        refine f_stepP rfl rfl rfl (o_move rfl) ?_
        refine f_done ?_
        refine f_tn (f_again (k + 1) (by first | omega | (dsimp only; omega) | (simp; omega)) (by omega) ?_ ?_ ?_)
        · exact (by repeat (first | exact trivial | refine ⟨rfl, ?_⟩))
        · exact (by repeat (first | exact trivial | refine ⟨rfl, ?_⟩))
        · repeat (first | exact Sub.nil | refine Sub.pick ?_ | refine Sub.castO rfl ?_ | refine Sub.skip ?_)
      ·
       refine f_exit ?_
       refine f_te ?_
       clear kh21
       refine f_te ?_
       refine f_be ?_
       refine f_tn (kh18 _ _ ?_)
       clear kh18
       obtain rfl : k = L'.length := by omega
       rw [mgk_all]
       refine f_region ?_
       refine f_stepP rfl rfl rfl (o_move rfl) ?_
       refine f_step rfl rfl rfl (o_callM [[(bo, blk (ints (mrg s.1 s.2.1 L') ++ sp) 3)]] _ Try.call23 rfl (by repeat (first | exact Sub.refl | refine Sub.pick ?_)) (fun w_ hp_ => (by have h := tidy_spec bo co (mrg s.1 s.2.1 L') sp w_ (by rw [mrg_len]; omega) (by rw [mrg_len]; omega) (own_intsG o36 (by rw [mrg_len]; omega)) hp_.owns; rw [mrg_len, hLL] at h; exact h)) ?_)
       rintro _ _ ⟨rfl, rfl, o66⟩
       dsimp only [List.cons_append, List.nil_append]
       refine f_done ?_
       refine f_bn ?_
       refine f_tn (f_again (tdy (mrg s.1 s.2.1 L')) (join_less hJ.right hn1 hsm0.1 hsm0.2.1 hsm0.2.2) ⟨hJ.step (by omega) (smL_seam hs0), hT.step hs0 hsb'⟩ ?_ ?_ ?_)
       · exact (by repeat (first | exact trivial | refine ⟨rfl, ?_⟩))
       · exact (by repeat (first | exact trivial | refine ⟨rfl, ?_⟩))
       · repeat (first | exact Sub.nil | refine Sub.pick ?_ | refine Sub.castO rfl ?_ | refine Sub.skip ?_)

end Go.Proofs.Ytkhjckghpakliaa

/- slices.Compact, slices.Clip over numbers. -/
namespace Go.Proofs.Ytkhjckghpakliaa
open Go Go.RowKit Fly
set_option linter.unusedVariables false
set_option linter.unusedSimpArgs false


theorem ints_zero {d : List Int} {i : Nat} (hi : i ≤ d.length) (sp : List Value) : setMany (ints d ++ sp) i (List.replicate (d.length - i) [Value.int .i64 0]).flatten = ints (d.take i) ++ (ints (List.replicate (d.length - i) 0) ++ sp) := by
  have e : ints d ++ sp = ints (d.take i) ++ (ints (d.drop i) ++ sp) := by rw [← List.append_assoc, ← ints_append, List.take_append_drop]
  have e2 : (List.replicate (d.length - i) [Value.int .i64 0]).flatten = ints (List.replicate (d.length - i) 0) := by
    generalize d.length - i = q
    induction q with
    | zero => rfl
    | succ q ih => simp only [List.replicate_succ, List.flatten_cons, ih]; rfl
  rw [e, e2]
  exact setMany_append _ _ _ _ _ (by rw [ints_length, List.length_take, Nat.min_eq_left hi]) (by rw [ints_length, ints_length]; simp)
theorem intsG {l : List Int} {i : Nat} (h : i < l.length) {x : Int} (e : l[i] = x) : (ints l)[i]? = some (.int .i64 x) := by rw [ints_get h, e]
theorem cpt_put {l d : List Int} {i j : Nat} (hj : j < l.length) (hij : i < j) (hd : d.length = l.length) (h0 : d.take i = cpt (l.take j)) (hdr : d.drop (j - 1) = l.drop (j - 1)) (hne : l[j] ≠ l[j - 1]'(by omega)) :
    (d.set i l[j]).take (i + 1) = cpt (l.take (j + 1)) ∧ (d.set i l[j]).drop j = l.drop j := by
  refine ⟨?_, ?_⟩
  · rw [cpt_next (by omega) hj, if_neg (fun e => hne e.symm), ← h0, List.take_succ_eq_append_getElem (show i < (d.set i l[j]).length by simp; omega), List.getElem_set_self, List.take_set_of_le (Nat.le_refl _)]
  · rw [List.drop_set_of_lt hij]
    have := congrArg (List.drop 1) hdr
    rw [List.drop_drop, List.drop_drop, show j - 1 + 1 = j by omega] at this
    exact this
theorem cpt_pass {l d : List Int} {i j : Nat} (hj : j < l.length) (hj0 : 0 < j) (h0 : d.take i = cpt (l.take j)) (hdr : d.drop (j - 1) = l.drop (j - 1)) (he : l[j] = l[j - 1]'(by omega)) : d.take i = cpt (l.take (j + 1)) ∧ d.drop j = l.drop j := by
  refine ⟨by rw [cpt_next hj0 hj, if_pos he.symm]; exact h0, ?_⟩
  have := congrArg (List.drop 1) hdr
  rw [List.drop_drop, List.drop_drop, show j - 1 + 1 = j by omega] at this
  exact this
theorem drop_get {l d : List Int} {i j : Nat} (hd : d.length = l.length) (h : d.drop i = l.drop i) (hij : i ≤ j) (hj : j < l.length) : d[j]'(by omega) = l[j] := by
  have := congrArg (fun x => x[j - i]?) h
  simp only [List.getElem?_drop, show i + (j - i) = j by omega] at this
  rw [List.getElem?_eq_getElem (by omega), List.getElem?_eq_getElem hj] at this
  exact Option.some.inj this

set_option maxRecDepth 100000 in
set_option maxHeartbeats 4000000 in
theorem Compact_spec (A : Option Addr) (cap : Nat) (l : List Int) (m : Seg) (w : World) (ho : Own 3 1 (.slice A l.length cap) l.length (ints l) m) (hl : l.length ≤ 1000000000) (hw : Owns w [m]) :
    Meets Try.prog 40 [.slice A l.length cap] w [m] (fun u own' => ∃ m', own' = [m'] ∧ Own 3 1 u (cpt l).length (ints (cpt l)) m') := by
 refine f_enter Try.func40 rfl Try.ntmps40 rfl hw ?_
 refine f_seq fun K1 kh1 => ?_
 refine f_region ?_
 refine f_stepP rfl rfl rfl (o_assign rfl) ?_
 refine f_done ?_
 refine f_tn (kh1 _ _ ?_)
 clear kh1
 refine f_seq fun K2 kh2 => ?_
 refine f_seq fun K3 kh3 => ?_
 refine f_region ?_
 refine f_stepP rfl rfl rfl (o_move rfl) ?_
 refine f_stepP rfl rfl rfl (o_len sl25 rfl) ?_
 refine f_stepP rfl rfl rfl (o_lss rfl rfl) ?_
 refine f_done ?_
 refine f_tn (kh3 _ _ ?_)
 clear kh3
 refine f_cond rfl (fun c8 => ?_) (fun c8 => ?_)
 ·
  have hcl : cpt l = l := by
    match l, c8 with
    | [], _ => rfl
    | [x], _ => rfl
    | x :: y :: r, h => simp at h; omega
  refine f_seq fun K4 kh4 => ?_
  refine f_region ?_
  refine f_stepP rfl rfl rfl (o_move rfl) ?_
  refine f_stepP rfl rfl rfl (o_assign rfl) ?_
  refine f_done ?_
  refine f_tn (kh4 _ _ ?_)
  clear kh4
  refine f_ret ?_
  refine f_tr ?_
  exact f_fin1 [m] Try.results40 rfl (Sub.pick Sub.nil) ⟨m, rfl, by rw [hcl]; exact ho⟩
 ·
  obtain ⟨b, sp, rfl, rfl, hup⟩ := ho.upd (by omega)
  obtain ⟨_, _, e_, hcap⟩ := ho.val
  cases e_
  have hspl : sp.length = cap - l.length := by
    obtain ⟨_, h | ⟨b', c', sp', e, hm, _, _, h3⟩⟩ := ho
    · omega
    · cases e
      have := List.append_cancel_left (Array.toList_inj.2 (show (ints l ++ sp).toArray = (ints l ++ sp').toArray by simpa using hm))
      rw [this]; omega
  refine f_skip ?_
  refine f_tn (kh2 _ _ ?_)
  clear kh2
  refine f_seq fun K5 kh5 => ?_
  refine f_seq fun K6 kh6 => ?_
  refine f_region ?_
  refine f_stepP rfl rfl rfl (o_assign rfl) ?_
  refine f_done ?_
  refine f_tn (kh6 _ _ ?_)
  clear kh6
  refine f_block ?_
  refine f_loopK (α := Nat) [0] (fun k => [(3, .int .i64 (k : Int))]) (fun k => 1 ≤ k ∧ k ≤ l.length ∧ cpt (l.take k) = l.take k) (fun k => l.length - k) (1) ?_ ?_ ?_
  · exact (by repeat (first | exact trivial | refine ⟨rfl, ?_⟩))
  · exact ⟨Nat.le_refl _, by omega, cpt_one (by omega)⟩
  ·
   rintro k ⟨hk1, hkl, hck⟩
   refine f_seq fun K7 kh7 => ?_
   refine f_seq fun K8 kh8 => ?_
   refine f_region ?_
   refine f_stepP rfl rfl rfl (o_move rfl) ?_
   refine f_stepP rfl rfl rfl (o_move rfl) ?_
   refine f_stepP rfl rfl rfl (o_len sl25 rfl) ?_
   refine f_stepP rfl rfl rfl (o_lss rfl rfl) ?_
   refine f_done ?_
   refine f_tn (kh8 _ _ ?_)
   clear kh8
   refine f_cond rfl (fun c13 => ?_) (fun c13 => ?_)
   ·
    refine f_skip ?_
    refine f_tn (kh7 _ _ ?_)
    clear kh7
    refine f_seq fun K9 kh9 => ?_
    refine f_block ?_
    refine f_seq fun K10 kh10 => ?_
    refine f_regionS rfl (by decide +kernel) ?_
    refine f_stillP rfl rfl rfl (o_move rfl) ?_
    refine f_stillP rfl rfl rfl (o_move rfl) ?_
    have hk : k < l.length := by omega
    refine f_stillP rfl rfl rfl (o_idx sl25 rfl rfl (k) ⟨by omega, by omega, by first | omega | (simp; done) | (simp; omega)⟩) ?_
    refine f_stillP rfl rfl rfl (o_load Try.isAgg3 rfl (rdA (app_get (ints_get hk)))) ?_
    refine f_stillP rfl rfl rfl (o_move rfl) ?_
    refine f_stillP rfl rfl rfl (o_move rfl) ?_
    refine f_stillP rfl rfl rfl (o_sub rfl rfl _ (wrap_i64 (by omega))) ?_
    refine f_stillP rfl rfl rfl (o_idx sl25 rfl rfl (k - 1) ⟨by omega, by omega, by first | omega | (simp; done) | (simp; omega)⟩) ?_
    refine f_stillP rfl rfl rfl (o_load Try.isAgg3 rfl (rdA (app_get (ints_get (by omega))))) ?_
    refine f_stillP rfl rfl rfl (o_eql rfl rfl) ?_
    refine f_stillD ?_
    refine f_tn (kh10 _ _ ?_)
    clear kh10
    refine f_cond rfl (fun c25 => ?_) (fun c25 => ?_)
    ·
     refine f_seq fun K11 kh11 => ?_
     refine f_region ?_
     refine f_stepP rfl rfl rfl (o_move rfl) ?_
     refine f_stepP rfl rfl rfl (o_move rfl) ?_
     refine f_stepP rfl rfl rfl (o_slice sl25 rfl rfl rfl rfl (fun h => by cases h) k _ _ (.inr ⟨_, _, rfl, by omega⟩) (.inl ⟨rfl, rfl⟩) (.inl ⟨rfl, rfl⟩) ⟨by omega, by omega, by omega⟩ (.slice (some ⟨b, k, none⟩) (l.length - k) (cap - k)) (by rw [if_neg (by omega)]; simp [add_at])) ?_
     refine f_stepP rfl rfl rfl (o_assign rfl) ?_
     refine f_done ?_
     refine f_tn (kh11 _ _ ?_)
     clear kh11
     refine f_seq fun K12 kh12 => ?_
     refine f_seq fun K13 kh13 => ?_
     refine f_region ?_
     refine f_stepP rfl rfl rfl (o_assign rfl) ?_
     refine f_done ?_
     refine f_tn (kh13 _ _ ?_)
     clear kh13
     refine f_block ?_
     refine f_loop (α := Nat × Nat × List Int) [0, 4] (fun ⟨q, i, d⟩ => [(5, .int .i64 (q : Int)), (3, .int .i64 (i : Int))]) (fun ⟨q, i, d⟩ => [[(b, blk (ints d ++ sp) 3)]]) (fun ⟨q, i, d⟩ => 1 ≤ q ∧ k + q ≤ l.length ∧ i < k + q ∧ d.length = l.length ∧ d.take i = cpt (l.take (k + q)) ∧ d.drop (k + q - 1) = l.drop (k + q - 1)) (fun ⟨q, i, d⟩ => l.length - (k + q)) (1, k, l) ?_ ?_ ?_ ?_
     · exact (by repeat (first | exact trivial | refine ⟨rfl, ?_⟩))
     · repeat (first | exact Sub.nil | refine Sub.pick ?_ | refine Sub.castO rfl ?_ | refine Sub.skip ?_)
     · exact ⟨Nat.le_refl _, by omega, by omega, rfl, by rw [cpt_next (by omega) hk, if_pos c25.symm, hck], rfl⟩
     ·
      rintro ⟨q, i, d⟩ ⟨hq1, hql, hik, hdl, hdt, hdd⟩
      refine f_envC (e := [(5, _), (3, _), (0, _), (4, _)]) (by repeat (first | exact trivial | refine ⟨rfl, ?_⟩)) ?_
      refine f_seq fun K14 kh14 => ?_
      refine f_seq fun K15 kh15 => ?_
      refine f_region ?_
      refine f_stepP rfl rfl rfl (o_move rfl) ?_
      refine f_stepP rfl rfl rfl (o_move rfl) ?_
      refine f_stepP rfl rfl rfl (o_len sl25 rfl) ?_
      refine f_stepP rfl rfl rfl (o_lss rfl rfl) ?_
      refine f_done ?_
      refine f_tn (kh15 _ _ ?_)
      clear kh15
      refine f_cond rfl (fun c32 => ?_) (fun c32 => ?_)
      ·
       refine f_skip ?_
       refine f_tn (kh14 _ _ ?_)
       clear kh14
       refine f_seq fun K16 kh16 => ?_
       refine f_block ?_
       refine f_seq fun K17 kh17 => ?_
       have hj' : k + q < l.length := by omega
       have hd1 := drop_get hdl hdd (j := k + q) (by omega) hj'
       have hd2 := drop_get hdl hdd (j := k + q - 1) (Nat.le_refl _) (by omega)
       refine f_regionS rfl (by decide +kernel) ?_
       refine f_stillP rfl rfl rfl (o_move rfl) ?_
       refine f_stillP rfl rfl rfl (o_move rfl) ?_
       refine f_stillP rfl rfl rfl (o_idx sl25 rfl rfl (k + q) ⟨by omega, by omega, by first | omega | (simp; done) | (simp; omega)⟩) ?_
       refine f_stillP rfl rfl rfl (o_load Try.isAgg3 rfl (rdA (app_get (intsG (by omega) hd1)))) ?_
       refine f_stillP rfl rfl rfl (o_move rfl) ?_
       refine f_stillP rfl rfl rfl (o_move rfl) ?_
       refine f_stillP rfl rfl rfl (o_sub rfl rfl _ (wrap_i64 (by omega))) ?_
       refine f_stillP rfl rfl rfl (o_idx sl25 rfl rfl (k + q - 1) ⟨by omega, by omega, by first | omega | (simp; done) | (simp; omega)⟩) ?_
       refine f_stillP rfl rfl rfl (o_load Try.isAgg3 rfl (rdA (app_get (intsG (by omega) hd2)))) ?_
       refine f_stillP rfl rfl rfl (o_neq rfl rfl) ?_
       refine f_stillD ?_
       refine f_tn (kh17 _ _ ?_)
       clear kh17
       refine f_cond rfl (fun c44 => ?_) (fun c44 => ?_)
       ·
        refine f_seq fun K18 kh18 => ?_
        refine f_region ?_
        refine f_stepP rfl rfl rfl (o_move rfl) ?_
        refine f_stepP rfl rfl rfl (o_move rfl) ?_
        refine f_stepP rfl rfl rfl (o_move rfl) ?_
        refine f_stepP rfl rfl rfl (o_move rfl) ?_
        refine f_stepP rfl rfl rfl (o_idx sl25 rfl rfl (k + q) ⟨by omega, by omega, by first | omega | (simp; done) | (simp; omega)⟩) ?_
        refine f_stepP rfl rfl rfl (o_load Try.isAgg3 rfl (rdA (app_get (intsG (by omega) hd1)))) ?_
        refine f_stepP rfl rfl rfl (o_idx sl25 rfl rfl (i) ⟨by omega, by omega, by first | omega | (simp; done) | (simp; omega)⟩) ?_
        refine f_step0 rfl rfl (o_store Try.sizeOf3 rfl rfl rfl rfl (by rw [List.length_append, ints_length]; omega) (ints (d.set i l[k + q]) ++ sp) (by rw [List.set_append_left _ _ (by rw [ints_length]; omega)]; simp [ints, List.map_set]) ?_)
        refine f_done ?_
        refine f_tn (kh18 _ _ ?_)
        clear kh18
        refine f_region ?_
        refine f_stepP rfl rfl rfl (o_move rfl) ?_
        refine f_stepP rfl rfl rfl (o_add rfl rfl _ (wrap_i64 (by omega))) ?_
        refine f_stepP rfl rfl rfl (o_assign rfl) ?_
        refine f_done ?_
        refine f_bn ?_
        refine f_tn (kh16 _ _ ?_)
        clear kh16
        refine f_region ?_
        refine f_stepP rfl rfl rfl (o_move rfl) ?_
        refine f_stepP rfl rfl rfl (o_add rfl rfl _ (wrap_i64 (by omega))) ?_
        refine f_stepP rfl rfl rfl (o_assign rfl) ?_
        refine f_done ?_
        refine f_tn (f_again (q + 1, i + 1, d.set i l[k + q]) (by first | omega | (dsimp only; omega) | (simp; omega)) ⟨by omega, by omega, by omega, by simpa using hdl, (cpt_put hj' hik hdl hdt hdd (by omega)).1, (cpt_put hj' hik hdl hdt hdd (by omega)).2⟩ ?_ ?_ ?_)
        · exact (by repeat (first | exact trivial | refine ⟨rfl, ?_⟩))
        · exact (by repeat (first | exact trivial | refine ⟨rfl, ?_⟩))
        · repeat (first | exact Sub.nil | refine Sub.pick ?_ | refine Sub.castO rfl ?_ | refine Sub.skip ?_)
       ·
        refine f_skip ?_
        refine f_bn ?_
        refine f_tn (kh16 _ _ ?_)
        clear kh16
        refine f_region ?_
        refine f_stepP rfl rfl rfl (o_move rfl) ?_
        refine f_stepP rfl rfl rfl (o_add rfl rfl _ (wrap_i64 (by omega))) ?_
        refine f_stepP rfl rfl rfl (o_assign rfl) ?_
        refine f_done ?_
        refine f_tn (f_again (q + 1, i, d) (by first | omega | (dsimp only; omega) | (simp; omega)) ⟨by omega, by omega, by omega, hdl, (cpt_pass hj' (by omega) hdt hdd (by omega)).1, (cpt_pass hj' (by omega) hdt hdd (by omega)).2⟩ ?_ ?_ ?_)
        · exact (by repeat (first | exact trivial | refine ⟨rfl, ?_⟩))
        · exact (by repeat (first | exact trivial | refine ⟨rfl, ?_⟩))
        · repeat (first | exact Sub.nil | refine Sub.pick ?_ | refine Sub.castO rfl ?_ | refine Sub.skip ?_)
      ·
       refine f_exit ?_
       refine f_te ?_
       clear kh14
       refine f_te ?_
       refine f_be ?_
       refine f_tn (kh12 _ _ ?_)
       clear kh12
       refine f_seq fun K19 kh19 => ?_
       obtain rfl : q = l.length - k := by omega
       rw [show k + (l.length - k) = l.length by omega, List.take_length] at hdt
       have hiL : (cpt l).length = i := by rw [← hdt]; simp; omega
       refine f_region ?_
       refine f_stepP rfl rfl rfl (o_move rfl) ?_
       refine f_stepP rfl rfl rfl (o_move rfl) ?_
       refine f_stepP rfl rfl rfl (o_slice sl25 rfl rfl rfl rfl (fun h => by cases h) i _ _ (.inr ⟨_, _, rfl, by omega⟩) (.inl ⟨rfl, rfl⟩) (.inl ⟨rfl, rfl⟩) ⟨by omega, by omega, by omega⟩ (.slice (some ⟨b, i, none⟩) (l.length - i) (cap - i)) (by rw [if_neg (by omega)]; simp [add_at])) ?_
       refine f_step0 rfl rfl (o_clear el25 rfl rfl (by rw [List.length_append, ints_length]; omega) (ints (d.take i) ++ (ints (List.replicate (d.length - i) 0) ++ sp)) (by rw [← hdl]; exact ints_zero (by omega) sp) ?_)
       refine f_done ?_
       refine f_tn (kh19 _ _ ?_)
       clear kh19
       refine f_seq fun K20 kh20 => ?_
       refine f_region ?_
       refine f_stepP rfl rfl rfl (o_move rfl) ?_
       refine f_stepP rfl rfl rfl (o_move rfl) ?_
       refine f_stepP rfl rfl rfl (o_slice sl25 rfl rfl rfl rfl (fun h => by cases h) 0 i cap (.inl ⟨rfl, rfl⟩) (.inr ⟨_, _, rfl, by omega⟩) (.inl ⟨rfl, rfl⟩) ⟨by omega, by omega, by omega⟩ (.slice (some ⟨b, 0, none⟩) i cap) (by rw [if_neg (by omega)]; simp [add_at])) ?_
       refine f_stepP rfl rfl rfl (o_assign rfl) ?_
       refine f_done ?_
       refine f_tn (kh20 _ _ ?_)
       clear kh20
       refine f_ret ?_
       refine f_br ?_
       refine f_tr ?_
       refine f_tr ?_
       refine f_br ?_
       refine f_tr ?_
       exact f_fin1 [[(b, blk (ints (d.take i) ++ (ints (List.replicate (d.length - i) 0) ++ sp)) 3)]] Try.results40 rfl (by repeat (first | exact Sub.nil | refine Sub.pick ?_)) ⟨_, rfl, by rw [hiL, ← hdt]; exact ⟨by rw [ints_length]; simp; omega, .inr ⟨b, cap, _, rfl, rfl, by omega, by omega, by rw [List.length_append, ints_length, List.length_replicate, hspl]; omega⟩⟩⟩
    ·
     refine f_skip ?_
     refine f_bn ?_
     refine f_tn (kh9 _ _ ?_)
     clear kh9
     refine f_region ?_
     refine f_stepP rfl rfl rfl (o_move rfl) ?_
     refine f_stepP rfl rfl rfl (o_add rfl rfl _ (wrap_i64 (by omega))) ?_
     refine f_stepP rfl rfl rfl (o_assign rfl) ?_
     refine f_done ?_
     refine f_tn (f_again (k + 1) (by first | omega | (dsimp only; omega) | (simp; omega)) ⟨by omega, by omega, by rw [cpt_next (by omega) hk, if_neg (fun e => c25 e.symm), hck, ← List.take_succ_eq_append_getElem hk]⟩ ?_ ?_ ?_)
     · exact (by repeat (first | exact trivial | refine ⟨rfl, ?_⟩))
     · exact (by repeat (first | exact trivial | refine ⟨rfl, ?_⟩))
     · repeat (first | exact Sub.nil | refine Sub.pick ?_ | refine Sub.castO rfl ?_ | refine Sub.skip ?_)
   ·
    refine f_exit ?_
    refine f_te ?_
    clear kh7
    refine f_te ?_
    refine f_be ?_
    refine f_tn (kh5 _ _ ?_)
    clear kh5
    refine f_seq fun K21 kh21 => ?_
    refine f_region ?_
    refine f_stepP rfl rfl rfl (o_move rfl) ?_
    refine f_stepP rfl rfl rfl (o_assign rfl) ?_
    refine f_done ?_
    refine f_tn (kh21 _ _ ?_)
    clear kh21
    refine f_ret ?_
    have hcl : cpt l = l := by rw [List.take_of_length_le (by omega)] at hck; exact hck
    exact f_fin1 [[(b, blk (ints l ++ sp) 3)]] Try.results40 rfl (by repeat (first | exact Sub.nil | refine Sub.pick ?_)) ⟨_, rfl, by rw [hcl]; exact ho⟩

end Go.Proofs.Ytkhjckghpakliaa

/- What the shelf's contracts ask of this program: tables of numbers, and each fact by the kernel. -/
namespace Go.Proofs
open Go.Shelf
def Try.laysSort_ren : Go.Shelf.Ren := ⟨fun | 189 => 39 | 125 => 43 | 257 => 44 | 128 => 53 | 129 => 54 | 294 => 55 | 295 => 56 | 296 => 57 | 297 => 58 | 298 => 59 | 299 => 60 | 216 => 61 | 300 => 62 | 301 => 63 | 328 => 69 | 329 => 65 | 330 => 66 | 331 => 70 | 332 => 71 | 215 => 72 | 343 => 74 | n => n, fun | 28 => 25 | 3 => 3 | 46 => 76 | 0 => 0 | 51 => 42 | 53 => 93 | 4 => 4 | 183 => 86 | 182 => 85 | 131 => 73 | 5 => 5 | 9 => 9 | 218 => 100 | 222 => 104 | 228 => 108 | 229 => 109 | n => n, fun | n => n⟩
theorem Try.laysSort : Go.Proofs.Lays.n189 Try.prog Try.laysSort_ren := {
  mixed := by kernel_rfl
  f125 := Try.func43.trans (congrArg some (by kernel_rfl))
  f128 := Try.func53.trans (congrArg some (by kernel_rfl))
  f129 := Try.func54.trans (congrArg some (by kernel_rfl))
  f189 := Try.func39.trans (congrArg some (by kernel_rfl))
  f215 := Try.func72.trans (congrArg some (by kernel_rfl))
  f216 := Try.func61.trans (congrArg some (by kernel_rfl))
  f257 := Try.func44.trans (congrArg some (by kernel_rfl))
  f294 := Try.func55.trans (congrArg some (by kernel_rfl))
  f295 := Try.func56.trans (congrArg some (by kernel_rfl))
  f296 := Try.func57.trans (congrArg some (by kernel_rfl))
  f297 := Try.func58.trans (congrArg some (by kernel_rfl))
  f298 := Try.func59.trans (congrArg some (by kernel_rfl))
  f299 := Try.func60.trans (congrArg some (by kernel_rfl))
  f300 := Try.func62.trans (congrArg some (by kernel_rfl))
  f301 := Try.func63.trans (congrArg some (by kernel_rfl))
  f328 := Try.func69.trans (congrArg some (by kernel_rfl))
  f329 := Try.func65.trans (congrArg some (by kernel_rfl))
  f330 := Try.func66.trans (congrArg some (by kernel_rfl))
  f331 := Try.func70.trans (congrArg some (by kernel_rfl))
  f332 := Try.func71.trans (congrArg some (by kernel_rfl))
  f343 := Try.func74.trans (congrArg some (by kernel_rfl))
  t0 := Try.underlying0
  a0 := Try.isAgg0
  z0 := Try.sizeOf0
  v0 := Try.zeroValue0
  t3 := Try.underlying3
  a3 := Try.isAgg3
  z3 := Try.sizeOf3
  v3 := Try.zeroValue3
  t4 := Try.underlying4
  a4 := Try.isAgg4
  z4 := Try.sizeOf4
  v4 := Try.zeroValue4
  t5 := Try.underlying5
  a5 := Try.isAgg5
  z5 := Try.sizeOf5
  v5 := Try.zeroValue5
  t9 := Try.underlying9
  a9 := Try.isAgg9
  z9 := Try.sizeOf9
  v9 := Try.zeroValue9
  t28 := Try.underlying25
  a28 := Try.isAgg25
  z28 := Try.sizeOf25
  v28 := Try.zeroValue25
  t46 := Try.underlying76
  a46 := Try.isAgg76
  z46 := Try.sizeOf76
  v46 := Try.zeroValue76
  t51 := Try.underlying42
  a51 := Try.isAgg42
  z51 := Try.sizeOf42
  v51 := Try.zeroValue42
  t53 := Try.underlying93
  a53 := Try.isAgg93
  z53 := Try.sizeOf93
  v53 := Try.zeroValue93
  t131 := Try.underlying73
  a131 := Try.isAgg73
  z131 := Try.sizeOf73
  v131 := Try.zeroValue73
  t182 := Try.underlying85
  a182 := Try.isAgg85
  z182 := Try.sizeOf85
  v182 := Try.zeroValue85
  t183 := Try.underlying86
  a183 := Try.isAgg86
  z183 := Try.sizeOf86
  v183 := Try.zeroValue86
  t218 := Try.underlying100
  a218 := Try.isAgg100
  z218 := Try.sizeOf100
  v218 := Try.zeroValue100
  t222 := Try.underlying104
  a222 := Try.isAgg104
  z222 := Try.sizeOf104
  v222 := Try.zeroValue104
  t228 := Try.underlying108
  a228 := Try.isAgg108
  z228 := Try.sizeOf108
  v228 := Try.zeroValue108
  t229 := Try.underlying109
  a229 := Try.isAgg109
  z229 := Try.sizeOf109
  v229 := Try.zeroValue109 }
end Go.Proofs

/- slices.Sort over numbers at this program. -/
namespace Go.Proofs.Ytkhjckghpakliaa
open Go Go.RowKit Fly
set_option linter.unusedVariables false
set_option linter.unusedSimpArgs false


theorem SortInts_spec (A : Option Addr) (cap : Nat) (l : List Int) (m : Seg) (w : World) (ho : Own 3 1 (.slice A l.length cap) l.length (ints l) m) (hl : l.length < 4611686018427387904) (hw : Owns w [m]) :
    Meets Try.prog 39 [.slice A l.length cap] w [m] (fun u own' => u = .tuple #[] ∧ ∃ m', own' = [m'] ∧ Own 3 1 (.slice A l.length cap) l.length (ints (sortI l)) m') :=
  meets_sort Try.laysSort A cap l m w ho hl hw

end Go.Proofs.Ytkhjckghpakliaa
