/- The net's functions, each with what it answers by the pure model. -/
import Derived.Test.YtbkneamjpiiepaaFlyT
import Derived.Test.YtbkneamjpiiepaaPNet
namespace Go.Proofs.Ytbkneamjpiiepaa
open Go Go.RowKit Fly
set_option linter.unusedVariables false
set_option linter.unusedSimpArgs false


def timCs (t : Int × Int × Int) : List Value := [.int .i64 t.1, .int .i64 t.2.1, .int .i64 t.2.2]
theorem timCs_len (t : Int × Int × Int) : (timCs t).length = 3 := rfl
structure NetAt (A : NetM) (ents : List ((Int × Int) × Value × Nat)) (clk : Nat) (tv : Value) (mt G : Seg) : Prop where
  held : Held 9 A.bag ents G
  zero : ∀ k, mget ents k = none → A.bag k = []
  full : ∀ k v, mget ents k = some v → A.bag k ≠ []
  keyok : ∀ k, A.bag k ≠ [] → ¬ A.Bad k
  mok : MOk ents clk
  len : ∀ k, (A.bag k).length ≤ 4096
  nodes : A.down.length ≤ 65
  tim : Own 41 3 tv A.timers.length (A.timers.flatMap timCs) mt
  timl : A.timers.length ≤ 16384
  now : 0 ≤ A.now ∧ A.now ≤ 1073741824
  tno : ∀ t ∈ A.timers, 0 ≤ t.1 ∧ t.1 < (A.down.length : Int)
abbrev bools (l : List Bool) : List Value := l.map .bool
theorem bools_get {l : List Bool} {i : Nat} (h : i < l.length) : (bools l)[i]? = some (.bool l[i]) := by simp [bools, h]
abbrev netSegs (A : NetM) (bn bd bm : Nat) (ents : List ((Int × Int) × Value × Nat)) (clk : Nat) (tv : Value) (mt G : Seg) : List Seg :=
  [[(bn, blk [.slice (some ⟨bd, 0, none⟩) A.down.length A.down.length, .map (some bm), tv, .int .i64 A.now] 59)], [(bd, blk (bools A.down) 4)], [(bm, mobj enc2 ents clk)], mt, G]
/-- A net in memory. -/
def NetRep (A : NetM) (bn : Nat) (m : Seg) : Prop := ∃ bd bm ents clk tv mt G, m.Perm (netSegs A bn bd bm ents clk tv mt G).flatten ∧ NetAt A ents clk tv mt G
theorem NetRep.mk {A : NetM} {bn bd bm : Nat} {ents : List ((Int × Int) × Value × Nat)} {clk : Nat} {tv : Value} {mt G : Seg} (h : NetAt A ents clk tv mt G) : NetRep A bn (netSegs A bn bd bm ents clk tv mt G).flatten :=
  ⟨bd, bm, ents, clk, tv, mt, G, List.Perm.refl _, h⟩
theorem eqLink (x y : Int × Int) (w : World) : (Op.equalIn 10000 61 (.agg #[.int .i64 x.1, .int .i64 x.2]) (.agg #[.int .i64 y.1, .int .i64 y.2])).run Try.prog w = .ok (decide (x = y)) w := kt57.equal x y w
theorem down_at {A : NetM} {v : Int} (h : v.toNat < A.down.length) : A.isDown v = A.down[v.toNat] := by simp [NetM.isDown, h]
theorem bag_val {A : NetM} {ents : List ((Int × Int) × Value × Nat)} {clk : Nat} {tv : Value} {mt G : Seg} (h : NetAt A ents clk tv mt G) (k : Int × Int) : ∃ Ad cap, (mget ents k).getD (.slice none 0 0) = .slice Ad (A.bag k).length cap := by
  cases hg : mget ents k with
  | none => rw [h.zero k hg]; exact ⟨_, _, rfl⟩
  | some v =>
    obtain ⟨m, G', ho, _⟩ := h.held.opened h.mok.keys hg
    obtain ⟨Ad, cap, rfl, _⟩ := ho.val
    exact ⟨_, _, rfl⟩

theorem NetAt.put {A : NetM} {ents : List ((Int × Int) × Value × Nat)} {clk : Nat} {tv : Value} {mt G G'' : Seg} (h : NetAt A ents clk tv mt G) (l : Int × Int) (s : List ByteArray) (v : Value) (hs : s ≠ []) (hl : s.length ≤ 4096) (hb : ¬ A.Bad l)
    (hh : Held 9 (A.put l s).bag (mput ents l v clk) G'') : NetAt (A.put l s) (mput ents l v clk) (mclock ents l clk) tv mt G'' where
  held := hh
  zero := fun k hk => by
    rw [mget_put] at hk
    split at hk
    · cases hk
    · rename_i hne; rw [A.bag_other l s hne]; exact h.zero k hk
  full := fun k v' hk => by
    rw [mget_put] at hk
    split at hk
    · rename_i he; subst he; rw [A.bag_put]; exact hs
    · rename_i hne; rw [A.bag_other l s hne]; exact h.full k v' hk
  keyok := fun k hk => by
    by_cases he : k = l
    · subst he; exact hb
    · rw [A.bag_other l s he] at hk; exact h.keyok k hk
  mok := h.mok.put l v
  len := fun k => by
    by_cases he : k = l
    · subst he; rw [A.bag_put]; exact hl
    · rw [A.bag_other l s he]; exact h.len k
  nodes := h.nodes
  tim := h.tim
  timl := h.timl
  now := h.now
  tno := h.tno
theorem NetAt.del {A : NetM} {ents : List ((Int × Int) × Value × Nat)} {clk : Nat} {tv : Value} {mt G G'' : Seg} (h : NetAt A ents clk tv mt G) (l : Int × Int) (v : Value)
    (hh : Held 9 (A.put l []).bag (mdel ents l) G'') : NetAt (A.put l []) (mdel (mput ents l v clk) l) (mclock ents l clk) tv mt G'' where
  held := by rw [mdel_put]; exact hh
  zero := fun k hk => by
    by_cases he : k = l
    · subst he; rw [A.bag_put]
    · rw [mdel_put, mget_del h.mok.keys, if_neg he] at hk; rw [A.bag_other l [] he]; exact h.zero k hk
  full := fun k v' hk => by
    rw [mdel_put, mget_del h.mok.keys] at hk
    split at hk
    · cases hk
    · rename_i hne; rw [A.bag_other l [] hne]; exact h.full k v' hk
  keyok := fun k hk => by
    by_cases he : k = l
    · subst he; rw [A.bag_put] at hk; exact absurd rfl hk
    · rw [A.bag_other l [] he] at hk; exact h.keyok k hk
  mok := (h.mok.put l v).del l
  len := fun k => by
    by_cases he : k = l
    · subst he; rw [A.bag_put]; simp
    · rw [A.bag_other l [] he]; exact h.len k
  nodes := h.nodes
  tim := h.tim
  timl := h.timl
  now := h.now
  tno := h.tno

set_option maxRecDepth 100000 in
set_option maxHeartbeats 4000000 in
theorem none_spec (A : NetM) (bn : Nat) (m : Seg) (v : Int) (w : World) (hN : NetRep A bn m) (ho : Owns w [m]) :
    Meets Try.prog 29 [.pointer (some ⟨bn, 0, none⟩), .int .i64 v] w [m] (fun u own' => u = .bool (decide (A.Non v)) ∧ own' = [m]) := by
  refine f_enter Try.func29 rfl Try.ntmps29 rfl ho ?_
  obtain ⟨bd, bm, ents, clk, tv, mt, G, hm, hA⟩ := hN
  refine f_subC (Sub.of_perm hm) ?_
  refine f_seq fun K1 kh1 => ?_
  refine f_region ?_
  refine f_stepP rfl rfl rfl (o_assign rfl) ?_
  refine f_done ?_
  refine f_tn (kh1 _ _ ?_)
  clear kh1
  refine f_seq fun K2 kh2 => ?_
  refine f_region ?_
  refine f_stepP rfl rfl rfl (o_move rfl) ?_
  refine f_stepP rfl rfl rfl (o_lss rfl rfl) ?_
  refine f_stepP rfl rfl rfl (o_move rfl) ?_
  refine f_splitL 7 rfl (fun g7 => ?_) (fun g7 => ?_)
  · skip
    refine f_stepN rfl rfl rfl rfl rfl rfl ?_
    refine f_stepN rfl rfl rfl rfl rfl rfl ?_
    refine f_stepN rfl rfl rfl rfl rfl rfl ?_
    refine f_stepN rfl rfl rfl rfl rfl rfl ?_
    refine f_stepN rfl rfl rfl rfl rfl rfl ?_
    refine f_stepN rfl rfl rfl rfl rfl rfl ?_
    refine f_stepN rfl rfl rfl rfl rfl rfl ?_
    refine f_stepP rfl rfl rfl (o_pickT rfl rfl) ?_
    refine f_stepP rfl rfl rfl (o_assign rfl) ?_
    refine f_done ?_
    refine f_tn (kh2 _ _ ?_)
    clear kh2
    refine f_ret ?_
    exact f_fin1 [m] Try.results29 rfl ⟨[], by simpa using hm.symm⟩ ⟨by rw [decide_eq_true (.inl g7)], rfl⟩
  · skip
    refine f_stepPY rfl rfl rfl rfl rfl (o_move rfl) ?_
    refine f_stepPY rfl rfl rfl rfl rfl (o_move rfl) ?_
    refine f_stepPY rfl rfl rfl rfl rfl (o_nil rfl) ?_
    refine f_stepPY rfl rfl rfl rfl rfl (o_field fa59_0 rfl) ?_
    refine f_stepPY rfl rfl rfl rfl rfl (o_load Try.isAgg56 rfl (rdA rfl)) ?_
    refine f_stepPY rfl rfl rfl rfl rfl (o_len sl56 rfl) ?_
    refine f_stepPY rfl rfl rfl rfl rfl (o_geq rfl rfl) ?_
    refine f_stepP rfl rfl rfl (o_pickF rfl rfl) ?_
    refine f_stepP rfl rfl rfl (o_assign rfl) ?_
    refine f_done ?_
    refine f_tn (kh2 _ _ ?_)
    clear kh2
    refine f_ret ?_
    exact f_fin1 [m] Try.results29 rfl ⟨[], by simpa using hm.symm⟩ ⟨by congr 1; exact decide_eq_decide.2 ⟨fun h => .inr h, fun h => h.resolve_left g7⟩, rfl⟩

set_option maxRecDepth 100000 in
set_option maxHeartbeats 4000000 in
theorem looked_spec (A : NetM) (bn : Nat) (m : Seg) (l : Int × Int) (w : World) (hN : NetRep A bn m) (ho : Owns w [m]) :
    Meets Try.prog 26 [.pointer (some ⟨bn, 0, none⟩), .agg #[.int .i64 l.1, .int .i64 l.2]] w [m] (fun u own' => u = .int .i64 (A.looked l) ∧ own' = [m]) := by
  refine f_enter Try.func26 rfl Try.ntmps26 rfl ho ?_
  refine f_seq fun K1 kh1 => ?_
  refine f_region ?_
  refine f_step rfl rfl rfl (o_box rfl rfl fun b3 => ?_)
  refine f_stepP rfl rfl rfl (o_assign rfl) ?_
  refine f_done ?_
  refine f_tn (kh1 _ _ ?_)
  clear kh1
  refine f_seq fun K2 kh2 => ?_
  refine f_seq fun K3 kh3 => ?_
  refine f_region ?_
  refine f_stepP rfl rfl rfl (o_move rfl) ?_
  refine f_stepP rfl rfl rfl (o_idxA ar61 rfl rfl _ ⟨by omega, by omega, rfl⟩) ?_
  refine f_stepP rfl rfl rfl (o_load Try.isAgg3 rfl (rdA rfl)) ?_
  refine f_step rfl rfl rfl (o_callM [m] _ Try.call29 rfl (Sub.pick (Sub.refl)) (fun w_ hp_ => none_spec A bn m l.1 w_ hN hp_.owns) ?_)
  rintro _ _ ⟨rfl, rfl⟩
  dsimp only [List.cons_append, List.nil_append]
  refine f_stepP rfl rfl rfl (o_move rfl) ?_
  refine f_splitL 9 rfl (fun g9 => ?_) (fun g9 => ?_)
  · skip
    refine f_stepN rfl rfl rfl rfl rfl rfl ?_
    refine f_stepN rfl rfl rfl rfl rfl rfl ?_
    refine f_stepN rfl rfl rfl rfl rfl rfl ?_
    refine f_stepN rfl rfl rfl rfl rfl rfl ?_
    refine f_stepP rfl rfl rfl (o_pickT rfl rfl) ?_
    refine f_stepP rfl rfl rfl (o_move rfl) ?_
    refine f_stepN rfl rfl rfl rfl rfl rfl ?_
    refine f_stepN rfl rfl rfl rfl rfl rfl ?_
    refine f_stepN rfl rfl rfl rfl rfl rfl ?_
    refine f_stepN rfl rfl rfl rfl rfl rfl ?_
    refine f_stepN rfl rfl rfl rfl rfl rfl ?_
    refine f_stepN rfl rfl rfl rfl rfl rfl ?_
    refine f_stepN rfl rfl rfl rfl rfl rfl ?_
    refine f_stepP rfl rfl rfl (o_pickT rfl rfl) ?_
    refine f_done ?_
    refine f_tn (kh3 _ _ ?_)
    clear kh3
    refine f_condT rfl ?_
    refine f_seq fun K4 kh4 => ?_
    refine f_region ?_
    refine f_stepP rfl rfl rfl (o_assign rfl) ?_
    refine f_done ?_
    refine f_tn (kh4 _ _ ?_)
    clear kh4
    refine f_ret ?_
    refine f_tr ?_
    exact f_fin1 [m] Try.results26 rfl (by repeat (first | exact Sub.nil | refine Sub.pick ?_)) ⟨by congr 1; exact (A.looked_is (.inl g9)).symm, rfl⟩
  · skip
    refine f_stepPY rfl rfl rfl rfl rfl (o_move rfl) ?_
    refine f_stepPY rfl rfl rfl rfl rfl (o_idxA ar61 rfl rfl _ ⟨by omega, by omega, rfl⟩) ?_
    refine f_stepPY rfl rfl rfl rfl rfl (o_load Try.isAgg3 rfl (rdA rfl)) ?_
    refine f_stepY rfl rfl rfl rfl rfl (o_callM [m] _ Try.call29 rfl (Sub.pick (Sub.refl)) (fun w_ hp_ => none_spec A bn m l.2 w_ hN hp_.owns) ?_)
    rintro _ _ ⟨rfl, rfl⟩
    dsimp only [List.cons_append, List.nil_append]
    refine f_stepP rfl rfl rfl (o_pickF rfl rfl) ?_
    refine f_stepP rfl rfl rfl (o_move rfl) ?_
    refine f_splitL 15 rfl (fun g15 => ?_) (fun g15 => ?_)
    · skip
      refine f_stepN rfl rfl rfl rfl rfl rfl ?_
      refine f_stepN rfl rfl rfl rfl rfl rfl ?_
      refine f_stepN rfl rfl rfl rfl rfl rfl ?_
      refine f_stepN rfl rfl rfl rfl rfl rfl ?_
      refine f_stepN rfl rfl rfl rfl rfl rfl ?_
      refine f_stepN rfl rfl rfl rfl rfl rfl ?_
      refine f_stepN rfl rfl rfl rfl rfl rfl ?_
      refine f_stepP rfl rfl rfl (o_pickT rfl rfl) ?_
      refine f_done ?_
      refine f_tn (kh3 _ _ ?_)
      clear kh3
      refine f_condT rfl ?_
      refine f_seq fun K5 kh5 => ?_
      refine f_region ?_
      refine f_stepP rfl rfl rfl (o_assign rfl) ?_
      refine f_done ?_
      refine f_tn (kh5 _ _ ?_)
      clear kh5
      refine f_ret ?_
      refine f_tr ?_
      exact f_fin1 [m] Try.results26 rfl (by repeat (first | exact Sub.nil | refine Sub.pick ?_)) ⟨by congr 1; exact (A.looked_is (.inr (.inl g15))).symm, rfl⟩
    · skip
      refine f_stepPY rfl rfl rfl rfl rfl (o_loadA (vs := [_, _]) Try.isAgg61 Try.sizeOf61 rfl rfl ⟨(rdA rfl), (rdA rfl), trivial⟩) ?_
      refine f_stepPY rfl rfl rfl rfl rfl (o_idxA ar61 rfl rfl _ ⟨by omega, by omega, rfl⟩) ?_
      refine f_stepPY rfl rfl rfl rfl rfl (o_load Try.isAgg3 rfl (rdA rfl)) ?_
      refine f_stepPY rfl rfl rfl rfl rfl (o_idxA ar61 rfl rfl _ ⟨by omega, by omega, rfl⟩) ?_
      refine f_stepPY rfl rfl rfl rfl rfl (o_load Try.isAgg3 rfl (rdA rfl)) ?_
      refine f_stepPY rfl rfl rfl rfl rfl (o_buildA ar61 rfl rfl) ?_
      refine f_stepPY rfl rfl rfl rfl rfl (o_eqlA (by kernel_rfl) (eqLink l (l.2, l.1)) rfl rfl) ?_
      refine f_stepP rfl rfl rfl (o_pickF rfl rfl) ?_
      refine f_done ?_
      refine f_tn (kh3 _ _ ?_)
      clear kh3
      refine f_cond rfl (fun c23 => ?_) (fun c23 => ?_)
      · skip
        refine f_seq fun K6 kh6 => ?_
        refine f_region ?_
        refine f_stepP rfl rfl rfl (o_assign rfl) ?_
        refine f_done ?_
        refine f_tn (kh6 _ _ ?_)
        clear kh6
        refine f_ret ?_
        refine f_tr ?_
        exact f_fin1 [m] Try.results26 rfl (by repeat (first | exact Sub.nil | refine Sub.pick ?_)) ⟨by congr 1; exact (A.looked_is (.inr (.inr (congrArg Prod.fst c23)))).symm, rfl⟩
      · skip
        refine f_skip ?_
        refine f_tn (kh2 _ _ ?_)
        clear kh2
        refine f_seq fun K7 kh7 => ?_
        refine f_region ?_
        refine f_stepP rfl rfl rfl (o_assign rfl) ?_
        refine f_done ?_
        refine f_tn (kh7 _ _ ?_)
        clear kh7
        refine f_ret ?_
        exact f_fin1 [m] Try.results26 rfl (by repeat (first | exact Sub.nil | refine Sub.pick ?_)) ⟨by congr 1; exact (NetM.looked_zero.2 (by rintro (h | h | h); exact g9 h; exact g15 h; exact c23 (Prod.ext h h.symm))).symm, rfl⟩

set_option maxRecDepth 100000 in
set_option maxHeartbeats 4000000 in
theorem Send_spec (A : NetM) (bn : Nat) (m : Seg) (l : Int × Int) (s : ByteArray) (w : World) (hN : NetRep A bn m) (ho : Owns w [m]) :
    Meets Try.prog 10 [.pointer (some ⟨bn, 0, none⟩), .int .i64 l.1, .int .i64 l.2, .string s] w [m] (fun u own' => u = .int .i64 (A.send l s).1 ∧ ∃ m', own' = [m'] ∧ NetRep (A.send l s).2 bn m') := by
  refine f_enter Try.func10 rfl Try.ntmps10 rfl ho ?_
  refine f_seq fun K1 kh1 => ?_
  refine f_region ?_
  refine f_stepP rfl rfl rfl (o_assign rfl) ?_
  refine f_done ?_
  refine f_tn (kh1 _ _ ?_)
  clear kh1
  refine f_seq fun K2 kh2 => ?_
  refine f_region ?_
  refine f_stepP rfl rfl rfl (o_move rfl) ?_
  refine f_stepP rfl rfl rfl (o_move rfl) ?_
  refine f_stepP rfl rfl rfl (o_buildA ar61 rfl rfl) ?_
  refine f_step rfl rfl rfl (o_alloc Try.zeroValue61 rfl fun b9 => ?_)
  refine f_step0 rfl rfl (o_storeA Try.sizeOf61 rfl rfl rfl rfl (by first | exact Nat.le_of_ble_eq_true rfl | (simp; done) | (simp; omega)) [.int .i64 l.1, .int .i64 l.2] rfl ?_)
  refine f_done ?_
  refine f_tn (kh2 _ _ ?_)
  clear kh2
  refine f_seq fun K3 kh3 => ?_
  refine f_seq fun K4 kh4 => ?_
  refine f_region ?_
  refine f_stepP rfl rfl rfl (o_move rfl) ?_
  refine f_stepP rfl rfl rfl (o_loadA (vs := [_, _]) Try.isAgg61 Try.sizeOf61 rfl rfl ⟨(rdA rfl), (rdA rfl), trivial⟩) ?_
  refine f_step rfl rfl rfl (o_callM [m] _ Try.call26 rfl (Sub.pick (Sub.refl)) (fun w_ hp_ => looked_spec A bn m l w_ hN hp_.owns) ?_)
  rintro _ _ ⟨rfl, rfl⟩
  dsimp only [List.cons_append, List.nil_append]
  refine f_stepP rfl rfl rfl (o_assign rfl) ?_
  refine f_done ?_
  refine f_tn (kh4 _ _ ?_)
  clear kh4
  refine f_seq fun K5 kh5 => ?_
  refine f_region ?_
  refine f_stepP rfl rfl rfl (o_move rfl) ?_
  refine f_stepP rfl rfl rfl (o_neq rfl rfl) ?_
  refine f_done ?_
  refine f_tn (kh5 _ _ ?_)
  clear kh5
  refine f_cond rfl (fun c18 => ?_) (fun c18 => ?_)
  · skip
    refine f_seq fun K6 kh6 => ?_
    refine f_region ?_
    refine f_stepP rfl rfl rfl (o_move rfl) ?_
    refine f_stepP rfl rfl rfl (o_assign rfl) ?_
    refine f_done ?_
    refine f_tn (kh6 _ _ ?_)
    clear kh6
    refine f_ret ?_
    refine f_tr ?_
    have hb := NetM.looked_bad (by simpa using c18)
    have e : A.send l s = (190, A) := if_pos hb.1
    exact f_fin1 [m] Try.results10 rfl (by repeat (first | exact Sub.nil | refine Sub.pick ?_)) ⟨by rw [e, hb.2], m, rfl, by rw [e]; exact hN⟩
  · skip
    have hb : ¬ A.Bad l := NetM.looked_zero.1 (by simpa using c18)
    have hk : l.1.toNat < A.down.length := by unfold NetM.Bad NetM.Non at hb; omega
    obtain ⟨bd, bm, ents, clk, tv, mt, G, hm, hA⟩ := hN
    refine f_subC (Sub.opened hm) ?_
    dsimp only [netSegs, List.cons_append, List.nil_append]
    obtain ⟨Ad, cap, hval⟩ := bag_val hA l
    have hlen := hA.len l
    have hmap := hA.mok
    refine f_skip ?_
    refine f_tn (kh3 _ _ ?_)
    clear kh3
    refine f_seq fun K7 kh7 => ?_
    refine f_block ?_
    refine f_seq fun K8 kh8 => ?_
    refine f_region ?_
    refine f_stepP rfl rfl rfl (o_move rfl) ?_
    refine f_stepP rfl rfl rfl (o_lenS Try.runUnderlying9 rfl) ?_
    refine f_stepP rfl rfl rfl (o_gtr rfl rfl) ?_
    refine f_stepP rfl rfl rfl (o_assign rfl) ?_
    refine f_done ?_
    refine f_tn (kh8 _ _ ?_)
    clear kh8
    refine f_cond rfl (fun c20 => ?_) (fun c20 => ?_)
    · skip
      refine f_seq fun K9 kh9 => ?_
      refine f_region ?_
      refine f_stepP rfl rfl rfl (o_assign rfl) ?_
      refine f_done ?_
      refine f_tn (kh9 _ _ ?_)
      clear kh9
      refine f_ret ?_
      refine f_br ?_
      refine f_tr ?_
      have e : A.send l s = (2, A) := by rw [NetM.send, if_neg hb, if_pos (by omega)]
      exact f_fin1 [(netSegs A bn bd bm ents clk tv mt G).flatten] Try.results10 rfl (Sub.flat (by repeat (first | exact Sub.nil | refine Sub.pick ?_))) ⟨by rw [e], _, rfl, by rw [e]; exact NetRep.mk hA⟩
    · skip
      refine f_seq fun K10 kh10 => ?_
      refine f_region ?_
      refine f_stepP rfl rfl rfl (o_move rfl) ?_
      refine f_stepP rfl rfl rfl (o_nil rfl) ?_
      refine f_stepP rfl rfl rfl (o_field fa59_0 rfl) ?_
      refine f_stepP rfl rfl rfl (o_load Try.isAgg56 rfl (rdA rfl)) ?_
      refine f_stepP rfl rfl rfl (o_move rfl) ?_
      have hb2 := hb
      unfold NetM.Bad NetM.Non at hb2
      refine f_stepP rfl rfl rfl (o_idx sl56 rfl rfl (l.1.toNat) ⟨by omega, by omega, by first | omega | (simp; done) | (simp; omega)⟩) ?_
      refine f_stepP rfl rfl rfl (o_load Try.isAgg4 rfl (rdA (bools_get hk))) ?_
      refine f_stepP rfl rfl rfl (o_assign rfl) ?_
      refine f_done ?_
      refine f_tn (kh10 _ _ ?_)
      clear kh10
      refine f_condB rfl (fun c24 => ?_) (fun c24 => ?_)
      · skip
        refine f_seq fun K11 kh11 => ?_
        refine f_region ?_
        refine f_stepP rfl rfl rfl (o_assign rfl) ?_
        refine f_done ?_
        refine f_tn (kh11 _ _ ?_)
        clear kh11
        refine f_ret ?_
        refine f_br ?_
        refine f_tr ?_
        have e : A.send l s = (191, A) := by rw [NetM.send, if_neg hb, if_neg (by omega), if_pos ((down_at hk).trans c24)]
        exact f_fin1 [(netSegs A bn bd bm ents clk tv mt G).flatten] Try.results10 rfl (Sub.flat (by repeat (first | exact Sub.nil | refine Sub.pick ?_))) ⟨by rw [e], _, rfl, by rw [e]; exact NetRep.mk hA⟩
      · skip
        refine f_seq fun K12 kh12 => ?_
        refine f_regionT 8 rfl (by decide +kernel) ?_
        refine f_stillP rfl rfl rfl (o_move rfl) ?_
        refine f_stillP rfl rfl rfl (o_nil rfl) ?_
        refine f_stillP rfl rfl rfl (o_field fa59_1 rfl) ?_
        refine f_stillP rfl rfl rfl (o_load Try.isAgg57 rfl (rdA rfl)) ?_
        refine f_stillP rfl rfl rfl (o_loadA (vs := [_, _]) Try.isAgg61 Try.sizeOf61 rfl rfl ⟨(rdA rfl), (rdA rfl), trivial⟩) ?_
        refine f_stillP rfl rfl rfl (o_lookup kt57 Try.zeroValue32 rfl rfl rfl _ hval) ?_
        refine f_stillP rfl rfl rfl (o_len sl32 rfl) ?_
        refine f_stillP rfl rfl rfl (o_geq rfl rfl) ?_
        refine f_stillD (f_tail ?_)
        refine f_stepP rfl rfl rfl (o_assign rfl) ?_
        refine f_done ?_
        refine f_tn (kh12 _ _ ?_)
        clear kh12
        refine f_cond rfl (fun c32 => ?_) (fun c32 => ?_)
        · skip
          refine f_seq fun K13 kh13 => ?_
          refine f_region ?_
          refine f_stepP rfl rfl rfl (o_assign rfl) ?_
          refine f_done ?_
          refine f_tn (kh13 _ _ ?_)
          clear kh13
          refine f_ret ?_
          refine f_br ?_
          refine f_tr ?_
          have e : A.send l s = (2, A) := by rw [NetM.send, if_neg hb, if_neg (by omega), if_neg (by rw [down_at hk, c24]; decide), if_pos (by omega)]
          exact f_fin1 [(netSegs A bn bd bm ents clk tv mt G).flatten] Try.results10 rfl (Sub.flat (by repeat (first | exact Sub.nil | refine Sub.pick ?_))) ⟨by rw [e], _, rfl, by rw [e]; exact NetRep.mk hA⟩
        · skip
          refine f_skip ?_
          refine f_bn ?_
          refine f_tn (kh7 _ _ ?_)
          clear kh7
          refine f_seq fun K14 kh14 => ?_
          obtain ⟨m1, G1, ho1, hG1, hput⟩ := hA.held.bag hA.mok.keys hA.zero l
          refine f_subC (Sub.splitAt hG1) ?_
          refine f_regionH [[(bn, blk [.slice (some ⟨bd, 0, none⟩) A.down.length A.down.length, .map (some bm), tv, .int .i64 A.now] 59)], [(b9, blk [.int .i64 l.1, .int .i64 l.2] 61)]] rfl ?_
          refine f_take 0 rfl (by decide +kernel) rfl rfl rfl (by repeat (first | exact Sub.nil | refine Sub.pick ?_ | refine Sub.castO rfl ?_ | refine Sub.skip ?_)) (o_move rfl) ?_
          refine f_take 1 rfl (by decide +kernel) rfl rfl rfl (by repeat (first | exact Sub.nil | refine Sub.pick ?_ | refine Sub.castO rfl ?_ | refine Sub.skip ?_)) (o_nil rfl) ?_
          refine f_take 2 rfl (by decide +kernel) rfl rfl rfl (by repeat (first | exact Sub.nil | refine Sub.pick ?_ | refine Sub.castO rfl ?_ | refine Sub.skip ?_)) (o_field fa59_1 rfl) ?_
          refine f_take 3 rfl (by decide +kernel) rfl rfl rfl (by repeat (first | exact Sub.nil | refine Sub.pick ?_ | refine Sub.castO rfl ?_ | refine Sub.skip ?_)) (o_load Try.isAgg57 rfl (rdA rfl)) ?_
          refine f_take 4 rfl (by decide +kernel) rfl rfl rfl (by repeat (first | exact Sub.nil | refine Sub.pick ?_ | refine Sub.castO rfl ?_ | refine Sub.skip ?_)) (o_loadA (vs := [_, _]) Try.isAgg61 Try.sizeOf61 rfl rfl ⟨(rdA rfl), (rdA rfl), trivial⟩) ?_
          refine f_take 5 rfl (by decide +kernel) rfl rfl rfl (by repeat (first | exact Sub.nil | refine Sub.pick ?_ | refine Sub.castO rfl ?_ | refine Sub.skip ?_)) (o_move rfl) ?_
          refine f_only 6 rfl (by decide +kernel) rfl rfl rfl (o_slice1 el32 (by omega) rfl rfl rfl fun b48 => ⟨(by repeat (first | exact Sub.nil | refine Sub.pick ?_ | refine Sub.castO rfl ?_ | refine Sub.skip ?_)), ?_⟩)
          refine f_only 7 rfl (by decide +kernel) rfl rfl rfl (o_mapEntry kt57 Try.zeroValue32 rfl rfl rfl _ rfl ⟨(by repeat (first | exact Sub.nil | refine Sub.pick ?_ | refine Sub.castO rfl ?_ | refine Sub.skip ?_)), ?_⟩)
          refine f_take 8 rfl (by decide +kernel) rfl rfl rfl (by repeat (first | exact Sub.nil | refine Sub.pick ?_ | refine Sub.castO rfl ?_ | refine Sub.skip ?_)) (o_extract rfl rfl) ?_
          refine f_take 10 rfl (by decide +kernel) rfl rfl rfl (by repeat (first | exact Sub.nil | refine Sub.pick ?_ | refine Sub.castO rfl ?_ | refine Sub.skip ?_)) (o_extract rfl rfl) ?_
          refine f_only 9 rfl (by decide +kernel) rfl rfl rfl (o_append el32 rfl rfl ho1 (ys := [.string s]) ⟨(rdA rfl), trivial⟩ rfl rfl (by omega) (by omega) fun v50 m50 o50 => ⟨(by repeat (first | exact Sub.nil | refine Sub.pick ?_ | refine Sub.castO rfl ?_ | refine Sub.skip ?_)), ?_⟩)
          refine f_only0 11 rfl (by decide +kernel) rfl rfl (o_entryStore hmap rfl rfl rfl ⟨(by repeat (first | exact Sub.nil | refine Sub.pick ?_ | refine Sub.castO rfl ?_ | refine Sub.skip ?_)), ?_⟩)
          refine f_over (by decide +kernel) ?_
          refine f_tn (kh14 _ _ ?_)
          clear kh14
          refine f_seq fun K15 kh15 => ?_
          refine f_region ?_
          refine f_stepP rfl rfl rfl (o_assign rfl) ?_
          refine f_done ?_
          refine f_tn (kh15 _ _ ?_)
          clear kh15
          refine f_ret ?_
          have e : A.send l s = (0, A.put l (A.bag l ++ [s])) := by rw [NetM.send, if_neg hb, if_neg (by omega), if_neg (by rw [down_at hk, c24]; decide), if_neg (by omega)]
          obtain ⟨G2, hh, hj⟩ := hput (A.put l (A.bag l ++ [s])).bag (fun q hq => A.bag_other l _ hq) v50 m50 clk (by rw [A.bag_put, strs_append, List.length_append]; exact o50)
          exact f_fin1 [(netSegs (A.put l (A.bag l ++ [s])) bn bd bm (mput ents l v50 clk) (mclock ents l clk) tv mt G2).flatten] Try.results10 rfl (Sub.trans (Sub.joinAt hj) (Sub.flat (by repeat (first | exact Sub.nil | refine Sub.pick ?_)))) ⟨by rw [e], _, rfl, by rw [e]; exact NetRep.mk (hA.put l _ v50 (by simp) (by rw [List.length_append]; simp; omega) hb hh)⟩

set_option maxRecDepth 100000 in
set_option maxHeartbeats 4000000 in
theorem found_spec (A : NetM) (bn : Nat) (m : Seg) (l : Int × Int) (k : Int) (w : World) (hN : NetRep A bn m) (ho : Owns w [m]) :
    Meets Try.prog 27 [.pointer (some ⟨bn, 0, none⟩), .agg #[.int .i64 l.1, .int .i64 l.2], .int .i64 k] w [m] (fun u own' => u = .int .i64 (A.found l k) ∧ own' = [m]) := by
  refine f_enter Try.func27 rfl Try.ntmps27 rfl ho ?_
  refine f_seq fun K1 kh1 => ?_
  refine f_region ?_
  refine f_step rfl rfl rfl (o_box rfl rfl fun b4 => ?_)
  refine f_stepP rfl rfl rfl (o_assign rfl) ?_
  refine f_done ?_
  refine f_tn (kh1 _ _ ?_)
  clear kh1
  refine f_seq fun K2 kh2 => ?_
  refine f_seq fun K3 kh3 => ?_
  refine f_region ?_
  refine f_stepP rfl rfl rfl (o_move rfl) ?_
  refine f_stepP rfl rfl rfl (o_loadA (vs := [_, _]) Try.isAgg61 Try.sizeOf61 rfl rfl ⟨(rdA rfl), (rdA rfl), trivial⟩) ?_
  refine f_step rfl rfl rfl (o_callM [m] _ Try.call26 rfl (Sub.pick (Sub.refl)) (fun w_ hp_ => looked_spec A bn m l w_ hN hp_.owns) ?_)
  rintro _ _ ⟨rfl, rfl⟩
  dsimp only [List.cons_append, List.nil_append]
  refine f_stepP rfl rfl rfl (o_assign rfl) ?_
  refine f_done ?_
  refine f_tn (kh3 _ _ ?_)
  clear kh3
  refine f_seq fun K4 kh4 => ?_
  refine f_region ?_
  refine f_stepP rfl rfl rfl (o_move rfl) ?_
  refine f_stepP rfl rfl rfl (o_neq rfl rfl) ?_
  refine f_done ?_
  refine f_tn (kh4 _ _ ?_)
  clear kh4
  refine f_cond rfl (fun c12 => ?_) (fun c12 => ?_)
  · skip
    refine f_seq fun K5 kh5 => ?_
    refine f_region ?_
    refine f_stepP rfl rfl rfl (o_move rfl) ?_
    refine f_stepP rfl rfl rfl (o_assign rfl) ?_
    refine f_done ?_
    refine f_tn (kh5 _ _ ?_)
    clear kh5
    refine f_ret ?_
    refine f_tr ?_
    have hb := NetM.looked_bad (by simpa using c12)
    exact f_fin1 [m] Try.results27 rfl (by repeat (first | exact Sub.nil | refine Sub.pick ?_)) ⟨by rw [hb.2, NetM.found_bad hb.1], rfl⟩
  · skip
    have hb : ¬ A.Bad l := NetM.looked_zero.1 (by simpa using c12)
    obtain ⟨bd, bm, ents, clk, tv, mt, G, hm, hA⟩ := hN
    refine f_subC (Sub.opened hm) ?_
    dsimp only [netSegs, List.cons_append, List.nil_append]
    obtain ⟨Ad, cap, hval⟩ := bag_val hA l
    refine f_skip ?_
    refine f_tn (kh2 _ _ ?_)
    clear kh2
    refine f_seq fun K6 kh6 => ?_
    refine f_seq fun K7 kh7 => ?_
    refine f_regionS rfl (by decide +kernel) ?_
    refine f_stillP rfl rfl rfl (o_move rfl) ?_
    refine f_stillP rfl rfl rfl (o_lss rfl rfl) ?_
    refine f_stillP rfl rfl rfl (o_move rfl) ?_
    refine f_splitS 16 rfl (fun g16 => ?_) (fun g16 => ?_)
    · skip
      refine f_stillN rfl rfl rfl rfl rfl rfl ?_
      refine f_stillN rfl rfl rfl rfl rfl rfl ?_
      refine f_stillN rfl rfl rfl rfl rfl rfl ?_
      refine f_stillN rfl rfl rfl rfl rfl rfl ?_
      refine f_stillN rfl rfl rfl rfl rfl rfl ?_
      refine f_stillN rfl rfl rfl rfl rfl rfl ?_
      refine f_stillN rfl rfl rfl rfl rfl rfl ?_
      refine f_stillN rfl rfl rfl rfl rfl rfl ?_
      refine f_stillN rfl rfl rfl rfl rfl rfl ?_
      refine f_stillP rfl rfl rfl (o_pickT rfl rfl) ?_
      refine f_stillD ?_
      refine f_tn (kh7 _ _ ?_)
      clear kh7
      refine f_condT rfl ?_
      refine f_seq fun K8 kh8 => ?_
      refine f_region ?_
      refine f_stepP rfl rfl rfl (o_assign rfl) ?_
      refine f_done ?_
      refine f_tn (kh8 _ _ ?_)
      clear kh8
      refine f_ret ?_
      refine f_tr ?_
      exact f_fin1 [m] Try.results27 rfl (Sub.trans (Sub.shut (out := netSegs A bn bd bm ents clk tv mt G) hm) (by repeat (first | exact Sub.nil | refine Sub.pick ?_))) ⟨by congr 1; unfold NetM.found; rw [if_neg hb, if_pos (.inl g16)], rfl⟩
    · skip
      refine f_stillPY rfl rfl rfl rfl rfl (o_move rfl) ?_
      refine f_stillPY rfl rfl rfl rfl rfl (o_move rfl) ?_
      refine f_stillPY rfl rfl rfl rfl rfl (o_nil rfl) ?_
      refine f_stillPY rfl rfl rfl rfl rfl (o_field fa59_1 rfl) ?_
      refine f_stillPY rfl rfl rfl rfl rfl (o_load Try.isAgg57 rfl (rdA rfl)) ?_
      refine f_stillPY rfl rfl rfl rfl rfl (o_loadA (vs := [_, _]) Try.isAgg61 Try.sizeOf61 rfl rfl ⟨(rdA rfl), (rdA rfl), trivial⟩) ?_
      refine f_stillPY rfl rfl rfl rfl rfl (o_lookup kt57 Try.zeroValue32 rfl rfl rfl _ hval) ?_
      refine f_stillPY rfl rfl rfl rfl rfl (o_len sl32 rfl) ?_
      refine f_stillPY rfl rfl rfl rfl rfl (o_geq rfl rfl) ?_
      refine f_stillP rfl rfl rfl (o_pickF rfl rfl) ?_
      refine f_stillD ?_
      refine f_tn (kh7 _ _ ?_)
      clear kh7
      refine f_cond rfl (fun c26 => ?_) (fun c26 => ?_)
      · skip
        refine f_seq fun K9 kh9 => ?_
        refine f_region ?_
        refine f_stepP rfl rfl rfl (o_assign rfl) ?_
        refine f_done ?_
        refine f_tn (kh9 _ _ ?_)
        clear kh9
        refine f_ret ?_
        refine f_tr ?_
        exact f_fin1 [m] Try.results27 rfl (Sub.trans (Sub.shut (out := netSegs A bn bd bm ents clk tv mt G) hm) (by repeat (first | exact Sub.nil | refine Sub.pick ?_))) ⟨by congr 1; unfold NetM.found; rw [if_neg hb, if_pos (.inr (by omega))], rfl⟩
      · skip
        refine f_skip ?_
        refine f_tn (kh6 _ _ ?_)
        clear kh6
        refine f_seq fun K10 kh10 => ?_
        refine f_region ?_
        refine f_stepP rfl rfl rfl (o_assign rfl) ?_
        refine f_done ?_
        refine f_tn (kh10 _ _ ?_)
        clear kh10
        refine f_ret ?_
        exact f_fin1 [m] Try.results27 rfl (Sub.trans (Sub.shut (out := netSegs A bn bd bm ents clk tv mt G) hm) (by repeat (first | exact Sub.nil | refine Sub.pick ?_))) ⟨by congr 1; unfold NetM.found; rw [if_neg hb, if_neg (by omega)], rfl⟩

set_option maxRecDepth 100000 in
set_option maxHeartbeats 4000000 in
theorem Delete_spec (v : Value) (l : List ByteArray) (m : Seg) (k : Nat) (w : World) (hv : Own 9 1 v l.length (strs l) m) (hk : k < l.length) (hl : l.length ≤ 4096) (ho : Owns w [m]) :
    Meets Try.prog 52 [v, .int .i64 (k : Int), .int .i64 ((k : Int) + 1)] w [m] (fun u own' => ∃ m', own' = [m'] ∧ Own 9 1 u (l.eraseIdx k).length (strs (l.eraseIdx k)) m') := by
  rcases hv.2 with ⟨_, h0, _⟩ | ⟨b, cap, sp, rfl, rfl, h1, h2, h3⟩
  · omega
  have hl2 : (l.take k).length = k := by simp; omega
  refine f_enter Try.func52 rfl Try.ntmps52 rfl ho ?_
  refine f_seq fun K1 kh1 => ?_
  refine f_region ?_
  refine f_stepP rfl rfl rfl (o_assign rfl) ?_
  refine f_done ?_
  refine f_tn (kh1 _ _ ?_)
  clear kh1
  refine f_seq fun K2 kh2 => ?_
  refine f_region ?_
  refine f_stepP rfl rfl rfl (o_move rfl) ?_
  refine f_stepP rfl rfl rfl (o_move rfl) ?_
  refine f_stepP rfl rfl rfl (o_move rfl) ?_
  refine f_stepP rfl rfl rfl (o_move rfl) ?_
  refine f_stepP rfl rfl rfl (o_len sl32 rfl) ?_
  refine f_stepP rfl rfl rfl (o_slice sl32 rfl rfl rfl rfl (fun _ => rfl) k (k + 1) l.length (.inr ⟨_, _, rfl, by omega⟩) (.inr ⟨_, _, rfl, by omega⟩) (.inr ⟨_, _, rfl, by omega⟩) ⟨by omega, by omega, by omega⟩ _ rfl) ?_
  refine f_done ?_
  refine f_tn (kh2 _ _ ?_)
  clear kh2
  refine f_seq fun K3 kh3 => ?_
  refine f_seq fun K4 kh4 => ?_
  refine f_region ?_
  refine f_stepP rfl rfl rfl (o_move rfl) ?_
  refine f_stepP rfl rfl rfl (o_move rfl) ?_
  refine f_stepP rfl rfl rfl (o_eql rfl rfl) ?_
  refine f_done ?_
  refine f_tn (kh4 _ _ ?_)
  clear kh4
  refine f_condN rfl (by omega) ?_
  refine f_skip ?_
  refine f_tn (kh3 _ _ ?_)
  clear kh3
  refine f_seq fun K5 kh5 => ?_
  refine f_region ?_
  refine f_stepP rfl rfl rfl (o_move rfl) ?_
  refine f_stepP rfl rfl rfl (o_len sl32 rfl) ?_
  refine f_stepP rfl rfl rfl (o_assign rfl) ?_
  refine f_done ?_
  refine f_tn (kh5 _ _ ?_)
  clear kh5
  refine f_seq fun K6 kh6 => ?_
  refine f_cellsC b (strs (l.take k) ++ (strs (l.drop k) ++ sp)) (by rw [← List.append_assoc, ← strs_append, List.take_append_drop]) ?_
  refine f_regionH [] rfl ?_
  refine f_take 0 rfl (by decide +kernel) rfl rfl rfl (by repeat (first | exact Sub.nil | refine Sub.pick ?_ | refine Sub.castO rfl ?_ | refine Sub.skip ?_)) (o_move rfl) ?_
  refine f_take 1 rfl (by decide +kernel) rfl rfl rfl (by repeat (first | exact Sub.nil | refine Sub.pick ?_ | refine Sub.castO rfl ?_ | refine Sub.skip ?_)) (o_move rfl) ?_
  refine f_take 2 rfl (by decide +kernel) rfl rfl rfl (by repeat (first | exact Sub.nil | refine Sub.pick ?_ | refine Sub.castO rfl ?_ | refine Sub.skip ?_)) (o_slice sl32 rfl rfl rfl rfl (fun h => by cases h) 0 k cap (.inl ⟨rfl, rfl⟩) (.inr ⟨_, _, rfl, by omega⟩) (.inl ⟨rfl, rfl⟩) ⟨by omega, by omega, by omega⟩ (.slice (some ⟨b, 0, none⟩) k cap) (by simp [add_at])) ?_
  refine f_take 3 rfl (by decide +kernel) rfl rfl rfl (by repeat (first | exact Sub.nil | refine Sub.pick ?_ | refine Sub.castO rfl ?_ | refine Sub.skip ?_)) (o_move rfl) ?_
  refine f_take 4 rfl (by decide +kernel) rfl rfl rfl (by repeat (first | exact Sub.nil | refine Sub.pick ?_ | refine Sub.castO rfl ?_ | refine Sub.skip ?_)) (o_move rfl) ?_
  refine f_take 5 rfl (by decide +kernel) rfl rfl rfl (by repeat (first | exact Sub.nil | refine Sub.pick ?_ | refine Sub.castO rfl ?_ | refine Sub.skip ?_)) (o_slice sl32 rfl rfl rfl rfl (fun h => by cases h) (k + 1) _ _ (.inr ⟨_, _, rfl, by omega⟩) (.inl ⟨rfl, rfl⟩) (.inl ⟨rfl, rfl⟩) ⟨by omega, by omega, by omega⟩ (.slice (some ⟨b, if cap = k + 1 then 0 else k + 1, none⟩) (l.length - (k + 1)) (cap - (k + 1))) (by split <;> simp [add_at])) ?_
  refine f_only 6 rfl (by decide +kernel) rfl rfl rfl (o_appendR el32 rfl rfl (cs := strs (l.take k)) (ys := strs (l.drop (k + 1))) (sp := strs (l.drop k) ++ sp) (by rw [strs_length]; omega) (by rw [List.length_append, strs_length, List.length_drop, h3]; omega) (by split; (rw [show l.drop (k + 1) = [] from List.drop_eq_nil_of_le (by omega)]; trivial); exact rds_of _ _ fun j u hj => rdA (del_read hk hj)) (by rw [strs_length, List.length_drop]; omega) (strs_one _) (by omega) ⟨(by repeat (first | exact Sub.nil | refine Sub.pick ?_ | refine Sub.castO rfl ?_ | refine Sub.skip ?_)), ?_⟩)
  refine f_only 7 rfl (by decide +kernel) rfl rfl rfl ((o_assign rfl).does ⟨(by repeat (first | exact Sub.nil | refine Sub.pick ?_ | refine Sub.castO rfl ?_ | refine Sub.skip ?_)), ?_⟩)
  refine f_over (by decide +kernel) ?_
  refine f_tn (kh6 _ _ ?_)
  clear kh6
  refine f_seq fun K7 kh7 => ?_
  refine f_region ?_
  refine f_stepP rfl rfl rfl (o_move rfl) ?_
  refine f_stepP rfl rfl rfl (o_move rfl) ?_
  refine f_stepP rfl rfl rfl (o_len sl32 rfl) ?_
  refine f_stepP rfl rfl rfl (o_move rfl) ?_
  refine f_stepP rfl rfl rfl (o_slice sl32 rfl rfl rfl rfl (fun h => by cases h) (k + (l.length - (k + 1))) l.length _ (.inr ⟨_, _, rfl, by omega⟩) (.inr ⟨_, _, rfl, by omega⟩) (.inl ⟨rfl, rfl⟩) ⟨by omega, by omega, by omega⟩ (.slice (some ⟨b, k + (l.length - (k + 1)), none⟩) 1 (cap - (k + (l.length - (k + 1))))) (by simp [add_at]; try omega)) ?_
  refine f_step0 rfl rfl (o_clear el32 rfl rfl (by simp [strs]; omega) (strs (l.eraseIdx k) ++ .string ⟨#[]⟩ :: sp) (del_clear l sp k hk _) ?_)
  refine f_done ?_
  refine f_tn (kh7 _ _ ?_)
  clear kh7
  refine f_seq fun K8 kh8 => ?_
  refine f_region ?_
  refine f_stepP rfl rfl rfl (o_move rfl) ?_
  refine f_stepP rfl rfl rfl (o_assign rfl) ?_
  refine f_done ?_
  refine f_tn (kh8 _ _ ?_)
  clear kh8
  refine f_ret ?_
  exact f_fin1 [[(b, blk (strs (l.eraseIdx k) ++ .string ⟨#[]⟩ :: sp) 9)]] Try.results52 rfl Sub.refl ⟨_, rfl, by have he := List.length_eraseIdx_of_lt hk; refine ⟨by simp [strs], .inr ⟨b, cap, .string ⟨#[]⟩ :: sp, by rw [he]; congr 1; omega, rfl, by omega, by omega, by simp; omega⟩⟩⟩

set_option maxRecDepth 100000 in
set_option maxHeartbeats 4000000 in
theorem drop_spec (A : NetM) (bn : Nat) (m : Seg) (l : Int × Int) (k : Nat) (w : World) (hN : NetRep A bn m) (hk : k < (A.bag l).length) (ho : Owns w [m]) :
    Meets Try.prog 28 [.pointer (some ⟨bn, 0, none⟩), .agg #[.int .i64 l.1, .int .i64 l.2], .int .i64 (k : Int)] w [m] (fun u own' => ∃ m', own' = [m'] ∧ NetRep (A.put l ((A.bag l).eraseIdx k)) bn m') := by
  refine f_enter Try.func28 rfl Try.ntmps28 rfl ho ?_
  obtain ⟨bd, bm, ents, clk, tv, mt, G, hm, hA⟩ := hN
  refine f_subC (Sub.of_perm hm) ?_
  unfold netSegs
  have hlen := hA.len l
  have hmap := hA.mok
  obtain ⟨vb, hg⟩ : ∃ vb, mget ents l = some vb := by
    cases h : mget ents l with
    | some v => exact ⟨v, rfl⟩
    | none => rw [hA.zero l h] at hk; simp at hk
  obtain ⟨m1, G1, ho1, hG1, hput, hdel⟩ := hA.held.opened hA.mok.keys hg
  refine f_subC (Sub.splitAt hG1) ?_
  obtain ⟨Ab, cb, rfl, hcb⟩ := ho1.val
  refine f_seq fun K1 kh1 => ?_
  refine f_region ?_
  refine f_step rfl rfl rfl (o_box rfl rfl fun b4 => ?_)
  refine f_done ?_
  refine f_tn (kh1 _ _ ?_)
  clear kh1
  refine f_seq fun K2 kh2 => ?_
  refine f_regionH [[(bn, blk [.slice (some ⟨bd, 0, none⟩) A.down.length A.down.length, .map (some bm), tv, .int .i64 A.now] 59)], [(b4, blk [.int .i64 l.1, .int .i64 l.2] 61)]] rfl ?_
  refine f_take 0 rfl (by decide +kernel) rfl rfl rfl (by repeat (first | exact Sub.nil | refine Sub.pick ?_ | refine Sub.castO rfl ?_ | refine Sub.skip ?_)) (o_move rfl) ?_
  refine f_take 1 rfl (by decide +kernel) rfl rfl rfl (by repeat (first | exact Sub.nil | refine Sub.pick ?_ | refine Sub.castO rfl ?_ | refine Sub.skip ?_)) (o_nil rfl) ?_
  refine f_take 2 rfl (by decide +kernel) rfl rfl rfl (by repeat (first | exact Sub.nil | refine Sub.pick ?_ | refine Sub.castO rfl ?_ | refine Sub.skip ?_)) (o_field fa59_1 rfl) ?_
  refine f_take 3 rfl (by decide +kernel) rfl rfl rfl (by repeat (first | exact Sub.nil | refine Sub.pick ?_ | refine Sub.castO rfl ?_ | refine Sub.skip ?_)) (o_load Try.isAgg57 rfl (rdA rfl)) ?_
  refine f_take 4 rfl (by decide +kernel) rfl rfl rfl (by repeat (first | exact Sub.nil | refine Sub.pick ?_ | refine Sub.castO rfl ?_ | refine Sub.skip ?_)) (o_loadA (vs := [_, _]) Try.isAgg61 Try.sizeOf61 rfl rfl ⟨(rdA rfl), (rdA rfl), trivial⟩) ?_
  refine f_take 5 rfl (by decide +kernel) rfl rfl rfl (by repeat (first | exact Sub.nil | refine Sub.pick ?_ | refine Sub.castO rfl ?_ | refine Sub.skip ?_)) (o_move rfl) ?_
  refine f_take 6 rfl (by decide +kernel) rfl rfl rfl (by repeat (first | exact Sub.nil | refine Sub.pick ?_ | refine Sub.castO rfl ?_ | refine Sub.skip ?_)) (o_nil rfl) ?_
  refine f_take 7 rfl (by decide +kernel) rfl rfl rfl (by repeat (first | exact Sub.nil | refine Sub.pick ?_ | refine Sub.castO rfl ?_ | refine Sub.skip ?_)) (o_field fa59_1 rfl) ?_
  refine f_take 8 rfl (by decide +kernel) rfl rfl rfl (by repeat (first | exact Sub.nil | refine Sub.pick ?_ | refine Sub.castO rfl ?_ | refine Sub.skip ?_)) (o_load Try.isAgg57 rfl (rdA rfl)) ?_
  refine f_take 9 rfl (by decide +kernel) rfl rfl rfl (by repeat (first | exact Sub.nil | refine Sub.pick ?_ | refine Sub.castO rfl ?_ | refine Sub.skip ?_)) (o_loadA (vs := [_, _]) Try.isAgg61 Try.sizeOf61 rfl rfl ⟨(rdA rfl), (rdA rfl), trivial⟩) ?_
  refine f_take 11 rfl (by decide +kernel) rfl rfl rfl (by repeat (first | exact Sub.nil | refine Sub.pick ?_ | refine Sub.castO rfl ?_ | refine Sub.skip ?_)) (o_move rfl) ?_
  refine f_take 12 rfl (by decide +kernel) rfl rfl rfl (by repeat (first | exact Sub.nil | refine Sub.pick ?_ | refine Sub.castO rfl ?_ | refine Sub.skip ?_)) (o_move rfl) ?_
  refine f_take 13 rfl (by decide +kernel) rfl rfl rfl (by repeat (first | exact Sub.nil | refine Sub.pick ?_ | refine Sub.castO rfl ?_ | refine Sub.skip ?_)) (o_add rfl rfl _ (wrap_i64 (by omega))) ?_
  refine f_only 10 rfl (by decide +kernel) rfl rfl rfl ((o_lookup kt57 Try.zeroValue32 rfl rfl rfl (.slice Ab (A.bag l).length cb) (by simp [hg])).does ⟨(by repeat (first | exact Sub.nil | refine Sub.pick ?_ | refine Sub.castO rfl ?_ | refine Sub.skip ?_)), ?_⟩)
  refine f_only 14 rfl (by decide +kernel) rfl rfl rfl (o_callM [m1] _ Try.call52 rfl (Sub.pick (Sub.refl)) (fun w_ hp_ => Delete_spec _ (A.bag l) m1 k w_ ho1 hk hlen hp_.owns) ?_)
  rintro vd _ ⟨m2, rfl, ho2⟩
  obtain ⟨Ad, cd, rfl, hcd⟩ := ho2.val
  dsimp only [List.cons_append, List.nil_append]
  refine ⟨(by repeat (first | exact Sub.nil | refine Sub.pick ?_ | refine Sub.castO rfl ?_ | refine Sub.skip ?_)), ?_⟩
  refine f_only0 15 rfl (by decide +kernel) rfl rfl (o_mapUpdate kt57 rfl rfl rfl rfl ⟨(by repeat (first | exact Sub.nil | refine Sub.pick ?_ | refine Sub.castO rfl ?_ | refine Sub.skip ?_)), ?_⟩)
  refine f_over (by decide +kernel) ?_
  refine f_tn (kh2 _ _ ?_)
  clear kh2
  refine f_seq fun K3 kh3 => ?_
  refine f_regionS rfl (by decide +kernel) ?_
  refine f_stillP rfl rfl rfl (o_move rfl) ?_
  refine f_stillP rfl rfl rfl (o_nil rfl) ?_
  refine f_stillP rfl rfl rfl (o_field fa59_1 rfl) ?_
  refine f_stillP rfl rfl rfl (o_load Try.isAgg57 rfl (rdA rfl)) ?_
  refine f_stillP rfl rfl rfl (o_loadA (vs := [_, _]) Try.isAgg61 Try.sizeOf61 rfl rfl ⟨(rdA rfl), (rdA rfl), trivial⟩) ?_
  refine f_stillP rfl rfl rfl (o_lookup kt57 Try.zeroValue32 rfl rfl rfl (.slice Ad ((A.bag l).eraseIdx k).length cd) (by simp [mget_put])) ?_
  refine f_stillP rfl rfl rfl (o_len sl32 rfl) ?_
  refine f_stillP rfl rfl rfl (o_eql rfl rfl) ?_
  refine f_stillD ?_
  refine f_tn (kh3 _ _ ?_)
  clear kh3
  refine f_cond rfl (fun c28 => ?_) (fun c28 => ?_)
  · skip
    refine f_regionT 5 rfl (by decide +kernel) ?_
    refine f_stillP rfl rfl rfl (o_move rfl) ?_
    refine f_stillP rfl rfl rfl (o_nil rfl) ?_
    refine f_stillP rfl rfl rfl (o_field fa59_1 rfl) ?_
    refine f_stillP rfl rfl rfl (o_load Try.isAgg57 rfl (rdA rfl)) ?_
    refine f_stillP rfl rfl rfl (o_loadA (vs := [_, _]) Try.isAgg61 Try.sizeOf61 rfl rfl ⟨(rdA rfl), (rdA rfl), trivial⟩) ?_
    refine f_stillD (f_tail ?_)
    refine f_step0 rfl rfl (o_delete kt57 rfl rfl rfl ?_)
    refine f_done ?_
    have hnil : (A.bag l).eraseIdx k = [] := List.eq_nil_of_length_eq_zero (by omega)
    obtain ⟨G2, hh, hj⟩ := hdel (A.put l []).bag (fun q hq => A.bag_other l _ hq)
    exact f_fin0n [(netSegs (A.put l []) bn bd bm (mdel (mput ents l (.slice Ad ((A.bag l).eraseIdx k).length cd) clk) l) (mclock ents l clk) tv mt G2).flatten] Try.results28 (Sub.trans (Sub.permAt hj) (Sub.flat (by repeat (first | exact Sub.nil | refine Sub.pick ?_)))) ⟨_, rfl, by rw [hnil]; exact NetRep.mk (hA.del l _ hh)⟩
  · skip
    refine f_skip ?_
    obtain ⟨G2, hh, hj⟩ := hput (A.put l ((A.bag l).eraseIdx k)).bag (fun q hq => A.bag_other l _ hq) (.slice Ad ((A.bag l).eraseIdx k).length cd) m2 clk (by rw [A.bag_put]; exact ho2)
    exact f_fin0n [(netSegs (A.put l ((A.bag l).eraseIdx k)) bn bd bm (mput ents l (.slice Ad ((A.bag l).eraseIdx k).length cd) clk) (mclock ents l clk) tv mt G2).flatten] Try.results28 (Sub.trans (Sub.joinAt hj) (Sub.flat (by repeat (first | exact Sub.nil | refine Sub.pick ?_)))) ⟨_, rfl, NetRep.mk (hA.put l _ _ (by intro e; rw [e] at c28; simp at c28) (by have := List.length_eraseIdx_of_lt hk; omega) (hA.keyok l (by intro e; rw [e] at hk; simp at hk)) hh)⟩

set_option maxRecDepth 100000 in
set_option maxHeartbeats 4000000 in
theorem Take_spec (A : NetM) (bn : Nat) (m : Seg) (l : Int × Int) (k : Int) (w : World) (hN : NetRep A bn m) (ho : Owns w [m]) :
    Meets Try.prog 12 [.pointer (some ⟨bn, 0, none⟩), .int .i64 l.1, .int .i64 l.2, .int .i64 k] w [m] (fun u own' => u = .tuple #[.string (A.take l k).1.1, .int .i64 (A.take l k).1.2] ∧ ∃ m', own' = [m'] ∧ NetRep (A.take l k).2 bn m') := by
  refine f_enter Try.func12 rfl Try.ntmps12 rfl ho ?_
  refine f_seq fun K1 kh1 => ?_
  refine f_region ?_
  refine f_stepP rfl rfl rfl (o_assign rfl) ?_
  refine f_stepP rfl rfl rfl (o_assign rfl) ?_
  refine f_done ?_
  refine f_tn (kh1 _ _ ?_)
  clear kh1
  refine f_seq fun K2 kh2 => ?_
  refine f_region ?_
  refine f_stepP rfl rfl rfl (o_move rfl) ?_
  refine f_stepP rfl rfl rfl (o_move rfl) ?_
  refine f_stepP rfl rfl rfl (o_buildA ar61 rfl rfl) ?_
  refine f_step rfl rfl rfl (o_alloc Try.zeroValue61 rfl fun b10 => ?_)
  refine f_step0 rfl rfl (o_storeA Try.sizeOf61 rfl rfl rfl rfl (by first | exact Nat.le_of_ble_eq_true rfl | (simp; done) | (simp; omega)) [.int .i64 l.1, .int .i64 l.2] rfl ?_)
  refine f_done ?_
  refine f_tn (kh2 _ _ ?_)
  clear kh2
  refine f_seq fun K3 kh3 => ?_
  refine f_seq fun K4 kh4 => ?_
  refine f_region ?_
  refine f_stepP rfl rfl rfl (o_move rfl) ?_
  refine f_stepP rfl rfl rfl (o_loadA (vs := [_, _]) Try.isAgg61 Try.sizeOf61 rfl rfl ⟨(rdA rfl), (rdA rfl), trivial⟩) ?_
  refine f_stepP rfl rfl rfl (o_move rfl) ?_
  refine f_step rfl rfl rfl (o_callM [m] _ Try.call27 rfl (Sub.pick (Sub.refl)) (fun w_ hp_ => found_spec A bn m l k w_ hN hp_.owns) ?_)
  rintro _ _ ⟨rfl, rfl⟩
  dsimp only [List.cons_append, List.nil_append]
  refine f_stepP rfl rfl rfl (o_assign rfl) ?_
  refine f_done ?_
  refine f_tn (kh4 _ _ ?_)
  clear kh4
  refine f_seq fun K5 kh5 => ?_
  refine f_region ?_
  refine f_stepP rfl rfl rfl (o_move rfl) ?_
  refine f_stepP rfl rfl rfl (o_neq rfl rfl) ?_
  refine f_done ?_
  refine f_tn (kh5 _ _ ?_)
  clear kh5
  refine f_cond rfl (fun c21 => ?_) (fun c21 => ?_)
  · skip
    refine f_seq fun K6 kh6 => ?_
    refine f_region ?_
    refine f_stepP rfl rfl rfl (o_move rfl) ?_
    refine f_stepP rfl rfl rfl (o_assign rfl) ?_
    refine f_stepP rfl rfl rfl (o_assign rfl) ?_
    refine f_done ?_
    refine f_tn (kh6 _ _ ?_)
    clear kh6
    refine f_ret ?_
    refine f_tr ?_
    have e : A.take l k = ((⟨#[]⟩, A.found l k), A) := if_pos c21
    exact f_fin2 [m] Try.results12 rfl rfl (by repeat (first | exact Sub.nil | refine Sub.pick ?_)) ⟨by rw [e], m, rfl, by rw [e]; exact hN⟩
  · skip
    have hf : A.found l k = 0 := by simpa using c21
    obtain ⟨hb, hk0, hk1⟩ := NetM.found_zero hf
    have hk : l.2.toNat < A.down.length := by unfold NetM.Bad NetM.Non at hb; omega
    have hN0 := hN
    obtain ⟨bd, bm, ents, clk, tv, mt, G, hm, hA⟩ := hN
    refine f_subC (Sub.opened hm) ?_
    dsimp only [netSegs, List.cons_append, List.nil_append]
    have hlen := hA.len l
    obtain ⟨m1, G1, ho1, hG1, hput⟩ := hA.held.bag hA.mok.keys hA.zero l
    refine f_subC (Sub.splitAt hG1) ?_
    obtain ⟨b1, cap1, sp1, hval, rfl⟩ := ho1.block (by omega)
    have hkl : k.toNat < (A.bag l).length := by omega
    refine f_skip ?_
    refine f_tn (kh3 _ _ ?_)
    clear kh3
    refine f_seq fun K7 kh7 => ?_
    refine f_seq fun K8 kh8 => ?_
    refine f_region ?_
    refine f_stepP rfl rfl rfl (o_move rfl) ?_
    refine f_stepP rfl rfl rfl (o_nil rfl) ?_
    refine f_stepP rfl rfl rfl (o_field fa59_0 rfl) ?_
    refine f_stepP rfl rfl rfl (o_load Try.isAgg56 rfl (rdA rfl)) ?_
    refine f_stepP rfl rfl rfl (o_move rfl) ?_
    have hb2 := hb
    unfold NetM.Bad NetM.Non at hb2
    refine f_stepP rfl rfl rfl (o_idx sl56 rfl rfl (l.2.toNat) ⟨by omega, by omega, by first | omega | (simp; done) | (simp; omega)⟩) ?_
    refine f_stepP rfl rfl rfl (o_load Try.isAgg4 rfl (rdA (bools_get hk))) ?_
    refine f_done ?_
    refine f_tn (kh8 _ _ ?_)
    clear kh8
    refine f_condB rfl (fun c29 => ?_) (fun c29 => ?_)
    · skip
      refine f_seq fun K9 kh9 => ?_
      refine f_region ?_
      refine f_stepP rfl rfl rfl (o_assign rfl) ?_
      refine f_stepP rfl rfl rfl (o_assign rfl) ?_
      refine f_done ?_
      refine f_tn (kh9 _ _ ?_)
      clear kh9
      refine f_ret ?_
      refine f_tr ?_
      have e : A.take l k = ((⟨#[]⟩, 191), A) := by rw [NetM.take, if_neg (by rw [hf]; decide), if_pos ((down_at hk).trans c29)]
      exact f_fin2 [(netSegs A bn bd bm ents clk tv mt G).flatten] Try.results12 rfl rfl (Sub.trans (Sub.joinAt (m := [(b1, blk (strs (A.bag l) ++ sp1) 9)]) (G' := G1) hG1.symm) (Sub.flat (by repeat (first | exact Sub.nil | refine Sub.pick ?_)))) ⟨by rw [e], _, rfl, by rw [e]; exact NetRep.mk hA⟩
    · skip
      refine f_skip ?_
      refine f_tn (kh7 _ _ ?_)
      clear kh7
      refine f_seq fun K10 kh10 => ?_
      refine f_regionT 9 rfl (by decide +kernel) ?_
      refine f_stillP rfl rfl rfl (o_move rfl) ?_
      refine f_stillP rfl rfl rfl (o_nil rfl) ?_
      refine f_stillP rfl rfl rfl (o_field fa59_1 rfl) ?_
      refine f_stillP rfl rfl rfl (o_load Try.isAgg57 rfl (rdA rfl)) ?_
      refine f_stillP rfl rfl rfl (o_loadA (vs := [_, _]) Try.isAgg61 Try.sizeOf61 rfl rfl ⟨(rdA rfl), (rdA rfl), trivial⟩) ?_
      refine f_stillP rfl rfl rfl (o_lookup kt57 Try.zeroValue32 rfl rfl rfl _ hval) ?_
      refine f_stillP rfl rfl rfl (o_move rfl) ?_
      refine f_stillP rfl rfl rfl (o_idx sl32 rfl rfl (k.toNat) ⟨by omega, by omega, by first | omega | (simp; done) | (simp; omega)⟩) ?_
      refine f_stillP rfl rfl rfl (o_load Try.isAgg9 rfl (rdA (app_get (strs_get hkl)))) ?_
      refine f_stillD (f_tail ?_)
      refine f_stepP rfl rfl rfl (o_assign rfl) ?_
      refine f_done ?_
      refine f_tn (kh10 _ _ ?_)
      clear kh10
      refine f_seq fun K11 kh11 => ?_
      refine f_subC (out := [m, [(b10, blk [.int .i64 l.1, .int .i64 l.2] 61)]]) (Sub.trans (Sub.joinAt (m := [(b1, blk (strs (A.bag l) ++ sp1) 9)]) (G' := G1) hG1.symm) (Sub.trans (by repeat (first | exact Sub.refl | refine Sub.pick ?_)) (Sub.shut (out := netSegs A bn bd bm ents clk tv mt G) (tl := [[(b10, blk [.int .i64 l.1, .int .i64 l.2] 61)]]) hm))) ?_
      refine f_reC 3 rfl (v := .int .i64 (k.toNat : Int)) (by congr 1; omega) ?_
      refine f_region ?_
      refine f_stepP rfl rfl rfl (o_move rfl) ?_
      refine f_stepP rfl rfl rfl (o_loadA (vs := [_, _]) Try.isAgg61 Try.sizeOf61 rfl rfl ⟨(rdA rfl), (rdA rfl), trivial⟩) ?_
      refine f_stepP rfl rfl rfl (o_move rfl) ?_
      refine f_step rfl rfl rfl (o_callM [m] _ Try.call28 rfl (Sub.pick (Sub.refl)) (fun w_ hp_ => drop_spec A bn m l k.toNat w_ hN0 (by omega) hp_.owns) ?_)
      rintro _ _ ⟨m2, rfl, hN2⟩
      dsimp only [List.cons_append, List.nil_append]
      refine f_done ?_
      refine f_tn (kh11 _ _ ?_)
      clear kh11
      refine f_seq fun K12 kh12 => ?_
      refine f_region ?_
      refine f_stepP rfl rfl rfl (o_move rfl) ?_
      refine f_stepP rfl rfl rfl (o_assign rfl) ?_
      refine f_stepP rfl rfl rfl (o_assign rfl) ?_
      refine f_done ?_
      refine f_tn (kh12 _ _ ?_)
      clear kh12
      refine f_ret ?_
      have e : A.take l k = (((A.bag l)[k.toNat], 0), A.put l ((A.bag l).eraseIdx k.toNat)) := by rw [NetM.take, if_neg (by rw [hf]; decide), if_neg (by rw [down_at hk, c29]; decide), List.getD_eq_getElem?_getD, List.getElem?_eq_getElem hkl, Option.getD_some]
      exact f_fin2 [m2] Try.results12 rfl rfl (by repeat (first | exact Sub.nil | refine Sub.pick ?_)) ⟨by rw [e], _, rfl, by rw [e]; exact hN2⟩

set_option maxRecDepth 100000 in
set_option maxHeartbeats 4000000 in
theorem Lose_spec (A : NetM) (bn : Nat) (m : Seg) (l : Int × Int) (k : Int) (w : World) (hN : NetRep A bn m) (ho : Owns w [m]) :
    Meets Try.prog 18 [.pointer (some ⟨bn, 0, none⟩), .int .i64 l.1, .int .i64 l.2, .int .i64 k] w [m] (fun u own' => u = .int .i64 (A.lose l k).1 ∧ ∃ m', own' = [m'] ∧ NetRep (A.lose l k).2 bn m') := by
  refine f_enter Try.func18 rfl Try.ntmps18 rfl ho ?_
  refine f_seq fun K1 kh1 => ?_
  refine f_region ?_
  refine f_stepP rfl rfl rfl (o_assign rfl) ?_
  refine f_done ?_
  refine f_tn (kh1 _ _ ?_)
  clear kh1
  refine f_seq fun K2 kh2 => ?_
  refine f_region ?_
  refine f_stepP rfl rfl rfl (o_move rfl) ?_
  refine f_stepP rfl rfl rfl (o_move rfl) ?_
  refine f_stepP rfl rfl rfl (o_buildA ar61 rfl rfl) ?_
  refine f_step rfl rfl rfl (o_alloc Try.zeroValue61 rfl fun b9 => ?_)
  refine f_step0 rfl rfl (o_storeA Try.sizeOf61 rfl rfl rfl rfl (by first | exact Nat.le_of_ble_eq_true rfl | (simp; done) | (simp; omega)) [.int .i64 l.1, .int .i64 l.2] rfl ?_)
  refine f_done ?_
  refine f_tn (kh2 _ _ ?_)
  clear kh2
  refine f_seq fun K3 kh3 => ?_
  refine f_seq fun K4 kh4 => ?_
  refine f_region ?_
  refine f_stepP rfl rfl rfl (o_move rfl) ?_
  refine f_stepP rfl rfl rfl (o_loadA (vs := [_, _]) Try.isAgg61 Try.sizeOf61 rfl rfl ⟨(rdA rfl), (rdA rfl), trivial⟩) ?_
  refine f_stepP rfl rfl rfl (o_move rfl) ?_
  refine f_step rfl rfl rfl (o_callM [m] _ Try.call27 rfl (Sub.pick (Sub.refl)) (fun w_ hp_ => found_spec A bn m l k w_ hN hp_.owns) ?_)
  rintro _ _ ⟨rfl, rfl⟩
  dsimp only [List.cons_append, List.nil_append]
  refine f_stepP rfl rfl rfl (o_assign rfl) ?_
  refine f_done ?_
  refine f_tn (kh4 _ _ ?_)
  clear kh4
  refine f_seq fun K5 kh5 => ?_
  refine f_region ?_
  refine f_stepP rfl rfl rfl (o_move rfl) ?_
  refine f_stepP rfl rfl rfl (o_neq rfl rfl) ?_
  refine f_done ?_
  refine f_tn (kh5 _ _ ?_)
  clear kh5
  refine f_cond rfl (fun c19 => ?_) (fun c19 => ?_)
  · skip
    refine f_seq fun K6 kh6 => ?_
    refine f_region ?_
    refine f_stepP rfl rfl rfl (o_move rfl) ?_
    refine f_stepP rfl rfl rfl (o_assign rfl) ?_
    refine f_done ?_
    refine f_tn (kh6 _ _ ?_)
    clear kh6
    refine f_ret ?_
    refine f_tr ?_
    have e : A.lose l k = (A.found l k, A) := if_pos c19
    exact f_fin1 [m] Try.results18 rfl (by repeat (first | exact Sub.nil | refine Sub.pick ?_)) ⟨by rw [e], m, rfl, by rw [e]; exact hN⟩
  · skip
    have hf : A.found l k = 0 := by simpa using c19
    obtain ⟨hb, hk0, hk1⟩ := NetM.found_zero hf
    refine f_reC 3 rfl (v := .int .i64 (k.toNat : Int)) (by congr 1; omega) ?_
    refine f_skip ?_
    refine f_tn (kh3 _ _ ?_)
    clear kh3
    refine f_seq fun K7 kh7 => ?_
    refine f_region ?_
    refine f_stepP rfl rfl rfl (o_move rfl) ?_
    refine f_stepP rfl rfl rfl (o_loadA (vs := [_, _]) Try.isAgg61 Try.sizeOf61 rfl rfl ⟨(rdA rfl), (rdA rfl), trivial⟩) ?_
    refine f_stepP rfl rfl rfl (o_move rfl) ?_
    refine f_step rfl rfl rfl (o_callM [m] _ Try.call28 rfl (Sub.pick (Sub.refl)) (fun w_ hp_ => drop_spec A bn m l k.toNat w_ hN (by omega) hp_.owns) ?_)
    rintro _ _ ⟨m2, rfl, hN2⟩
    dsimp only [List.cons_append, List.nil_append]
    refine f_done ?_
    refine f_tn (kh7 _ _ ?_)
    clear kh7
    refine f_seq fun K8 kh8 => ?_
    refine f_region ?_
    refine f_stepP rfl rfl rfl (o_assign rfl) ?_
    refine f_done ?_
    refine f_tn (kh8 _ _ ?_)
    clear kh8
    refine f_ret ?_
    have e : A.lose l k = (0, A.put l ((A.bag l).eraseIdx k.toNat)) := by rw [NetM.lose, if_neg (by rw [hf]; decide)]
    exact f_fin1 [m2] Try.results18 rfl (by repeat (first | exact Sub.nil | refine Sub.pick ?_)) ⟨by rw [e], _, rfl, by rw [e]; exact hN2⟩

set_option maxRecDepth 100000 in
set_option maxHeartbeats 4000000 in
theorem Copy_spec (A : NetM) (bn : Nat) (m : Seg) (l : Int × Int) (k : Int) (w : World) (hN : NetRep A bn m) (ho : Owns w [m]) :
    Meets Try.prog 11 [.pointer (some ⟨bn, 0, none⟩), .int .i64 l.1, .int .i64 l.2, .int .i64 k] w [m] (fun u own' => u = .int .i64 (A.copy l k).1 ∧ ∃ m', own' = [m'] ∧ NetRep (A.copy l k).2 bn m') := by
  refine f_enter Try.func11 rfl Try.ntmps11 rfl ho ?_
  refine f_seq fun K1 kh1 => ?_
  refine f_region ?_
  refine f_stepP rfl rfl rfl (o_assign rfl) ?_
  refine f_done ?_
  refine f_tn (kh1 _ _ ?_)
  clear kh1
  refine f_seq fun K2 kh2 => ?_
  refine f_region ?_
  refine f_stepP rfl rfl rfl (o_move rfl) ?_
  refine f_stepP rfl rfl rfl (o_move rfl) ?_
  refine f_stepP rfl rfl rfl (o_buildA ar61 rfl rfl) ?_
  refine f_step rfl rfl rfl (o_alloc Try.zeroValue61 rfl fun b9 => ?_)
  refine f_step0 rfl rfl (o_storeA Try.sizeOf61 rfl rfl rfl rfl (by first | exact Nat.le_of_ble_eq_true rfl | (simp; done) | (simp; omega)) [.int .i64 l.1, .int .i64 l.2] rfl ?_)
  refine f_done ?_
  refine f_tn (kh2 _ _ ?_)
  clear kh2
  refine f_seq fun K3 kh3 => ?_
  refine f_seq fun K4 kh4 => ?_
  refine f_region ?_
  refine f_stepP rfl rfl rfl (o_move rfl) ?_
  refine f_stepP rfl rfl rfl (o_loadA (vs := [_, _]) Try.isAgg61 Try.sizeOf61 rfl rfl ⟨(rdA rfl), (rdA rfl), trivial⟩) ?_
  refine f_stepP rfl rfl rfl (o_move rfl) ?_
  refine f_step rfl rfl rfl (o_callM [m] _ Try.call27 rfl (Sub.pick (Sub.refl)) (fun w_ hp_ => found_spec A bn m l k w_ hN hp_.owns) ?_)
  rintro _ _ ⟨rfl, rfl⟩
  dsimp only [List.cons_append, List.nil_append]
  refine f_stepP rfl rfl rfl (o_assign rfl) ?_
  refine f_done ?_
  refine f_tn (kh4 _ _ ?_)
  clear kh4
  refine f_seq fun K5 kh5 => ?_
  refine f_region ?_
  refine f_stepP rfl rfl rfl (o_move rfl) ?_
  refine f_stepP rfl rfl rfl (o_neq rfl rfl) ?_
  refine f_done ?_
  refine f_tn (kh5 _ _ ?_)
  clear kh5
  refine f_cond rfl (fun c19 => ?_) (fun c19 => ?_)
  · skip
    refine f_seq fun K6 kh6 => ?_
    refine f_region ?_
    refine f_stepP rfl rfl rfl (o_move rfl) ?_
    refine f_stepP rfl rfl rfl (o_assign rfl) ?_
    refine f_done ?_
    refine f_tn (kh6 _ _ ?_)
    clear kh6
    refine f_ret ?_
    refine f_tr ?_
    have e : A.copy l k = (A.found l k, A) := if_pos c19
    exact f_fin1 [m] Try.results11 rfl (by repeat (first | exact Sub.nil | refine Sub.pick ?_)) ⟨by rw [e], m, rfl, by rw [e]; exact hN⟩
  · skip
    have hf : A.found l k = 0 := by simpa using c19
    obtain ⟨hb, hk0, hk1⟩ := NetM.found_zero hf
    obtain ⟨bd, bm, ents, clk, tv, mt, G, hm, hA⟩ := hN
    refine f_subC (Sub.opened hm) ?_
    dsimp only [netSegs, List.cons_append, List.nil_append]
    have hlen := hA.len l
    have hmap := hA.mok
    obtain ⟨m1, G1, ho1, hG1, hput⟩ := hA.held.bag hA.mok.keys hA.zero l
    refine f_subC (Sub.splitAt hG1) ?_
    obtain ⟨b1, cap1, sp1, hval, rfl⟩ := ho1.block (by omega)
    have hkl : k.toNat < (A.bag l).length := by omega
    rw [hval] at ho1
    refine f_skip ?_
    refine f_tn (kh3 _ _ ?_)
    clear kh3
    refine f_seq fun K7 kh7 => ?_
    refine f_seq fun K8 kh8 => ?_
    refine f_regionS rfl (by decide +kernel) ?_
    refine f_stillP rfl rfl rfl (o_move rfl) ?_
    refine f_stillP rfl rfl rfl (o_nil rfl) ?_
    refine f_stillP rfl rfl rfl (o_field fa59_1 rfl) ?_
    refine f_stillP rfl rfl rfl (o_load Try.isAgg57 rfl (rdA rfl)) ?_
    refine f_stillP rfl rfl rfl (o_loadA (vs := [_, _]) Try.isAgg61 Try.sizeOf61 rfl rfl ⟨(rdA rfl), (rdA rfl), trivial⟩) ?_
    refine f_stillP rfl rfl rfl (o_lookup kt57 Try.zeroValue32 rfl rfl rfl _ hval) ?_
    refine f_stillP rfl rfl rfl (o_len sl32 rfl) ?_
    refine f_stillP rfl rfl rfl (o_geq rfl rfl) ?_
    refine f_stillD ?_
    refine f_tn (kh8 _ _ ?_)
    clear kh8
    refine f_cond rfl (fun c28 => ?_) (fun c28 => ?_)
    · skip
      refine f_seq fun K9 kh9 => ?_
      refine f_region ?_
      refine f_stepP rfl rfl rfl (o_assign rfl) ?_
      refine f_done ?_
      refine f_tn (kh9 _ _ ?_)
      clear kh9
      refine f_ret ?_
      refine f_tr ?_
      have e : A.copy l k = (2, A) := by rw [NetM.copy, if_neg (by rw [hf]; decide), if_pos (by omega)]
      exact f_fin1 [(netSegs A bn bd bm ents clk tv mt G).flatten] Try.results11 rfl (Sub.trans (Sub.joinAt (m := [(b1, blk (strs (A.bag l) ++ sp1) 9)]) (G' := G1) hG1.symm) (Sub.flat (by repeat (first | exact Sub.nil | refine Sub.pick ?_)))) ⟨by rw [e], _, rfl, by rw [e]; exact NetRep.mk hA⟩
    · skip
      refine f_skip ?_
      refine f_tn (kh7 _ _ ?_)
      clear kh7
      refine f_seq fun K10 kh10 => ?_
      refine f_regionH [[(bn, blk [.slice (some ⟨bd, 0, none⟩) A.down.length A.down.length, .map (some bm), tv, .int .i64 A.now] 59)], [(b9, blk [.int .i64 l.1, .int .i64 l.2] 61)]] rfl ?_
      refine f_take 0 rfl (by decide +kernel) rfl rfl rfl (by repeat (first | exact Sub.nil | refine Sub.pick ?_ | refine Sub.castO rfl ?_ | refine Sub.skip ?_)) (o_move rfl) ?_
      refine f_take 1 rfl (by decide +kernel) rfl rfl rfl (by repeat (first | exact Sub.nil | refine Sub.pick ?_ | refine Sub.castO rfl ?_ | refine Sub.skip ?_)) (o_nil rfl) ?_
      refine f_take 2 rfl (by decide +kernel) rfl rfl rfl (by repeat (first | exact Sub.nil | refine Sub.pick ?_ | refine Sub.castO rfl ?_ | refine Sub.skip ?_)) (o_field fa59_1 rfl) ?_
      refine f_take 3 rfl (by decide +kernel) rfl rfl rfl (by repeat (first | exact Sub.nil | refine Sub.pick ?_ | refine Sub.castO rfl ?_ | refine Sub.skip ?_)) (o_load Try.isAgg57 rfl (rdA rfl)) ?_
      refine f_take 4 rfl (by decide +kernel) rfl rfl rfl (by repeat (first | exact Sub.nil | refine Sub.pick ?_ | refine Sub.castO rfl ?_ | refine Sub.skip ?_)) (o_loadA (vs := [_, _]) Try.isAgg61 Try.sizeOf61 rfl rfl ⟨(rdA rfl), (rdA rfl), trivial⟩) ?_
      refine f_take 5 rfl (by decide +kernel) rfl rfl rfl (by repeat (first | exact Sub.nil | refine Sub.pick ?_ | refine Sub.castO rfl ?_ | refine Sub.skip ?_)) (o_move rfl) ?_
      refine f_take 6 rfl (by decide +kernel) rfl rfl rfl (by repeat (first | exact Sub.nil | refine Sub.pick ?_ | refine Sub.castO rfl ?_ | refine Sub.skip ?_)) (o_nil rfl) ?_
      refine f_take 7 rfl (by decide +kernel) rfl rfl rfl (by repeat (first | exact Sub.nil | refine Sub.pick ?_ | refine Sub.castO rfl ?_ | refine Sub.skip ?_)) (o_field fa59_1 rfl) ?_
      refine f_take 8 rfl (by decide +kernel) rfl rfl rfl (by repeat (first | exact Sub.nil | refine Sub.pick ?_ | refine Sub.castO rfl ?_ | refine Sub.skip ?_)) (o_load Try.isAgg57 rfl (rdA rfl)) ?_
      refine f_take 9 rfl (by decide +kernel) rfl rfl rfl (by repeat (first | exact Sub.nil | refine Sub.pick ?_ | refine Sub.castO rfl ?_ | refine Sub.skip ?_)) (o_loadA (vs := [_, _]) Try.isAgg61 Try.sizeOf61 rfl rfl ⟨(rdA rfl), (rdA rfl), trivial⟩) ?_
      refine f_take 11 rfl (by decide +kernel) rfl rfl rfl (by repeat (first | exact Sub.nil | refine Sub.pick ?_ | refine Sub.castO rfl ?_ | refine Sub.skip ?_)) (o_move rfl) ?_
      refine f_only 10 rfl (by decide +kernel) rfl rfl rfl ((o_lookup kt57 Try.zeroValue32 rfl rfl rfl _ hval).does ⟨(by repeat (first | exact Sub.nil | refine Sub.pick ?_ | refine Sub.castO rfl ?_ | refine Sub.skip ?_)), ?_⟩)
      refine f_take 12 rfl (by decide +kernel) rfl rfl rfl (by repeat (first | exact Sub.nil | refine Sub.pick ?_ | refine Sub.castO rfl ?_ | refine Sub.skip ?_)) (o_idx sl32 rfl rfl (k.toNat) ⟨by omega, by omega, by first | omega | (simp; done) | (simp; omega)⟩) ?_
      refine f_only 13 rfl (by decide +kernel) rfl rfl rfl ((o_load Try.isAgg9 rfl (rdA (app_get (strs_get hkl)))).does ⟨(by repeat (first | exact Sub.nil | refine Sub.pick ?_ | refine Sub.castO rfl ?_ | refine Sub.skip ?_)), ?_⟩)
      refine f_only 14 rfl (by decide +kernel) rfl rfl rfl (o_slice1 el32 (by omega) rfl rfl rfl fun b44 => ⟨(by repeat (first | exact Sub.nil | refine Sub.pick ?_ | refine Sub.castO rfl ?_ | refine Sub.skip ?_)), ?_⟩)
      refine f_only 15 rfl (by decide +kernel) rfl rfl rfl (o_mapEntry kt57 Try.zeroValue32 rfl rfl rfl _ hval ⟨(by repeat (first | exact Sub.nil | refine Sub.pick ?_ | refine Sub.castO rfl ?_ | refine Sub.skip ?_)), ?_⟩)
      refine f_take 16 rfl (by decide +kernel) rfl rfl rfl (by repeat (first | exact Sub.nil | refine Sub.pick ?_ | refine Sub.castO rfl ?_ | refine Sub.skip ?_)) (o_extract rfl rfl) ?_
      refine f_take 18 rfl (by decide +kernel) rfl rfl rfl (by repeat (first | exact Sub.nil | refine Sub.pick ?_ | refine Sub.castO rfl ?_ | refine Sub.skip ?_)) (o_extract rfl rfl) ?_
      refine f_only 17 rfl (by decide +kernel) rfl rfl rfl (o_append el32 rfl rfl ho1 (ys := [.string (A.bag l)[k.toNat]]) ⟨(rdA rfl), trivial⟩ rfl rfl (by omega) (by omega) fun v46 m46 o46 => ⟨(by repeat (first | exact Sub.nil | refine Sub.pick ?_ | refine Sub.castO rfl ?_ | refine Sub.skip ?_)), ?_⟩)
      refine f_only0 19 rfl (by decide +kernel) rfl rfl (o_entryStore hmap rfl rfl rfl ⟨(by repeat (first | exact Sub.nil | refine Sub.pick ?_ | refine Sub.castO rfl ?_ | refine Sub.skip ?_)), ?_⟩)
      refine f_over (by decide +kernel) ?_
      refine f_tn (kh10 _ _ ?_)
      clear kh10
      refine f_seq fun K11 kh11 => ?_
      refine f_region ?_
      refine f_stepP rfl rfl rfl (o_assign rfl) ?_
      refine f_done ?_
      refine f_tn (kh11 _ _ ?_)
      clear kh11
      refine f_ret ?_
      have e : A.copy l k = (0, A.put l (A.bag l ++ [(A.bag l)[k.toNat]])) := by rw [NetM.copy, if_neg (by rw [hf]; decide), if_neg (by omega), List.getD_eq_getElem?_getD, List.getElem?_eq_getElem hkl, Option.getD_some]
      obtain ⟨G2, hh, hj⟩ := hput (A.put l (A.bag l ++ [(A.bag l)[k.toNat]])).bag (fun q hq => A.bag_other l _ hq) v46 m46 clk (by rw [A.bag_put, strs_append, List.length_append]; exact o46)
      exact f_fin1 [(netSegs (A.put l (A.bag l ++ [(A.bag l)[k.toNat]])) bn bd bm (mput ents l v46 clk) (mclock ents l clk) tv mt G2).flatten] Try.results11 rfl (Sub.trans (Sub.joinAt hj) (Sub.flat (by repeat (first | exact Sub.nil | refine Sub.pick ?_)))) ⟨by rw [e], _, rfl, by rw [e]; exact NetRep.mk (hA.put l _ v46 (by simp) (by rw [List.length_append]; simp; omega) hb hh)⟩

set_option maxRecDepth 100000 in
set_option maxHeartbeats 4000000 in
theorem New_spec (N : Int) (w : World) : Meets Try.prog 8 [.int .i64 N] w []
      (fun u own' => if 1 ≤ N ∧ N ≤ 65 then ∃ bn m, u = .tuple #[.pointer (some ⟨bn, 0, none⟩), .int .i64 0] ∧ own' = [m] ∧ NetRep (NetM.new N.toNat) bn m else u = .tuple #[.pointer none, .int .i64 1] ∧ own' = []) := by
  refine f_enter Try.func8 rfl Try.ntmps8 rfl Owns.nil ?_
  refine f_seq fun K1 kh1 => ?_
  refine f_region ?_
  refine f_stepP rfl rfl rfl (o_assign rfl) ?_
  refine f_stepP rfl rfl rfl (o_assign rfl) ?_
  refine f_done ?_
  refine f_tn (kh1 _ _ ?_)
  clear kh1
  refine f_seq fun K2 kh2 => ?_
  refine f_seq fun K3 kh3 => ?_
  refine f_region ?_
  refine f_stepP rfl rfl rfl (o_move rfl) ?_
  refine f_stepP rfl rfl rfl (o_lss rfl rfl) ?_
  refine f_stepP rfl rfl rfl (o_move rfl) ?_
  refine f_splitL 6 rfl (fun g6 => ?_) (fun g6 => ?_)
  · skip
    refine f_stepN rfl rfl rfl rfl rfl rfl ?_
    refine f_stepN rfl rfl rfl rfl rfl rfl ?_
    refine f_stepP rfl rfl rfl (o_pickT rfl rfl) ?_
    refine f_done ?_
    refine f_tn (kh3 _ _ ?_)
    clear kh3
    refine f_condT rfl ?_
    refine f_seq fun K4 kh4 => ?_
    refine f_region ?_
    refine f_stepP rfl rfl rfl (o_assign rfl) ?_
    refine f_stepP rfl rfl rfl (o_assign rfl) ?_
    refine f_done ?_
    refine f_tn (kh4 _ _ ?_)
    clear kh4
    refine f_ret ?_
    refine f_tr ?_
    exact f_fin2 [] Try.results8 rfl rfl Sub.nil (by rw [if_neg (by omega)]; exact ⟨rfl, rfl⟩)
  · skip
    refine f_stepPY rfl rfl rfl rfl rfl (o_move rfl) ?_
    refine f_stepPY rfl rfl rfl rfl rfl (o_gtr rfl rfl) ?_
    refine f_stepP rfl rfl rfl (o_pickF rfl rfl) ?_
    refine f_done ?_
    refine f_tn (kh3 _ _ ?_)
    clear kh3
    refine f_cond rfl (fun c9 => ?_) (fun c9 => ?_)
    · skip
      refine f_seq fun K5 kh5 => ?_
      refine f_region ?_
      refine f_stepP rfl rfl rfl (o_assign rfl) ?_
      refine f_stepP rfl rfl rfl (o_assign rfl) ?_
      refine f_done ?_
      refine f_tn (kh5 _ _ ?_)
      clear kh5
      refine f_ret ?_
      refine f_tr ?_
      exact f_fin2 [] Try.results8 rfl rfl Sub.nil (by rw [if_neg (by omega)]; exact ⟨rfl, rfl⟩)
    · skip
      refine f_skip ?_
      refine f_tn (kh2 _ _ ?_)
      clear kh2
      refine f_seq fun K6 kh6 => ?_
      refine f_region ?_
      refine f_stepP rfl rfl rfl (o_move rfl) ?_
      refine f_step rfl rfl rfl (o_make el56 rfl rfl N.toNat (by omega) (by omega) (by omega) (bools (List.replicate N.toNat false)) (by simp [bools, List.flatten_replicate_singleton]) fun b11 => ?_)
      refine f_step rfl rfl rfl (o_makeMap fun b12 => ?_)
      refine f_stepP rfl rfl rfl (o_build (cs := [.slice (some ⟨b11, 0, none⟩) N.toNat N.toNat, .map (some b12), .slice none 0 0, .int .i64 0]) st59 rfl rfl) ?_
      refine f_step rfl rfl rfl (o_box rfl rfl fun b14 => ?_)
      refine f_stepP rfl rfl rfl (o_assign rfl) ?_
      refine f_stepP rfl rfl rfl (o_assign rfl) ?_
      refine f_done ?_
      refine f_tn (kh6 _ _ ?_)
      clear kh6
      refine f_ret ?_
      exact f_fin2 [(netSegs (NetM.new N.toNat) b14 b11 b12 [] 0 (.slice none 0 0) [] []).flatten] Try.results8 rfl rfl (Sub.flat (Sub.cast (by simp [NetM.new]) (Sub.castO rfl (Sub.castO rfl Sub.two)))) (by rw [if_pos ⟨by omega, by omega⟩]; exact ⟨_, _, rfl, rfl, NetRep.mk ⟨.nil, fun _ _ => rfl, fun _ _ h => (by cases h), fun _ h => absurd rfl h, MOk.nil, fun _ => (by simp [NetM.new]), (by simp [NetM.new]; omega), Own.nil _ _, (by simp [NetM.new]), (by simp [NetM.new]), (by simp [NetM.new])⟩⟩)

set_option maxRecDepth 100000 in
set_option maxHeartbeats 4000000 in
theorem CloneS_spec (A : Option Addr) (len : Nat) (cs : List Value) (cap : Nat) (w : World) (hs : Seen (Fr w []) w A cs) (hl : cs.length = len * 1) (hone : cs.all (·.oneCell') = true) (hmax : len ≤ 1000000000) :
    Meets Try.prog 36 [.slice A len cap] w [] (fun u own' => ∃ m, own' = [m] ∧ Own 9 1 u len cs m) := by
  refine f_enter Try.func36 rfl Try.ntmps36 rfl Owns.nil ?_
  refine f_seq fun K1 kh1 => ?_
  refine f_region ?_
  refine f_stepP rfl rfl rfl (o_assign rfl) ?_
  refine f_done ?_
  refine f_tn (kh1 _ _ ?_)
  clear kh1
  refine f_seq fun K2 kh2 => ?_
  refine f_seq fun K3 kh3 => ?_
  refine f_region ?_
  refine f_stepP rfl rfl rfl (o_move rfl) ?_
  refine f_stepP rfl rfl rfl (o_eqlSl Try.underlying32 rfl rfl) ?_
  refine f_done ?_
  refine f_tn (kh3 _ _ ?_)
  clear kh3
  refine f_condB rfl (fun c4 => ?_) (fun c4 => ?_)
  · skip
    obtain ⟨rfl, rfl⟩ : A = none ∧ cs = [] := by
      rcases hs with h | ⟨b, off, rfl, _⟩
      · exact h
      · simp at c4
    obtain rfl : len = 0 := by simp at hl; omega
    refine f_seq fun K4 kh4 => ?_
    refine f_region ?_
    refine f_stepP rfl rfl rfl (o_assign rfl) ?_
    refine f_done ?_
    refine f_tn (kh4 _ _ ?_)
    clear kh4
    refine f_ret ?_
    refine f_tr ?_
    exact f_fin1 [[]] Try.results36 rfl Sub.empty ⟨[], rfl, Own.nil _ _⟩
  · skip
    obtain ⟨b, off, rfl, hc⟩ : ∃ b off, A = some ⟨b, off, none⟩ ∧ (cs ≠ [] → Fr w [] b ∧ CellsAre w b off cs) := by
      rcases hs with ⟨rfl, _⟩ | h
      · simp at c4
      · exact h
    refine f_skip ?_
    refine f_tn (kh2 _ _ ?_)
    clear kh2
    refine f_seq fun K5 kh5 => ?_
    refine f_region ?_
    refine f_step rfl rfl rfl (o_slice0 el32 fun b5 => ?_)
    refine f_stepP rfl rfl rfl (o_move rfl) ?_
    refine f_step rfl rfl rfl (o_append el32 rfl rfl (Own.mk (b := b5) (cs := []) (len := 0) rfl (by omega)) (ys := cs) (Seen.rds hc) hl hone (by omega) (by omega) fun v7 m7 o7 => ?_)
    refine f_stepP rfl rfl rfl (o_assign rfl) ?_
    refine f_done ?_
    refine f_tn (kh5 _ _ ?_)
    clear kh5
    refine f_ret ?_
    exact f_fin1 [m7] Try.results36 rfl (by repeat (first | exact Sub.nil | refine Sub.pick ?_)) ⟨m7, rfl, by simpa using o7⟩

set_option maxRecDepth 100000 in
set_option maxHeartbeats 4000000 in
theorem Bag_spec (A : NetM) (bn : Nat) (m : Seg) (l : Int × Int) (w : World) (hN : NetRep A bn m) (ho : Owns w [m]) :
    Meets Try.prog 20 [.pointer (some ⟨bn, 0, none⟩), .int .i64 l.1, .int .i64 l.2] w [m]
      (fun u own' => ∃ s ms m', u = .tuple #[s, .int .i64 (A.looked l)] ∧ own' = [m', ms] ∧ NetRep A bn m' ∧ Own 9 1 s (if A.looked l = 0 then A.bag l else []).length (strs (if A.looked l = 0 then A.bag l else [])) ms) := by
  refine f_enter Try.func20 rfl Try.ntmps20 rfl ho ?_
  refine f_seq fun K1 kh1 => ?_
  refine f_region ?_
  refine f_stepP rfl rfl rfl (o_assign rfl) ?_
  refine f_stepP rfl rfl rfl (o_assign rfl) ?_
  refine f_done ?_
  refine f_tn (kh1 _ _ ?_)
  clear kh1
  refine f_seq fun K2 kh2 => ?_
  refine f_region ?_
  refine f_stepP rfl rfl rfl (o_move rfl) ?_
  refine f_stepP rfl rfl rfl (o_move rfl) ?_
  refine f_stepP rfl rfl rfl (o_buildA ar61 rfl rfl) ?_
  refine f_step rfl rfl rfl (o_alloc Try.zeroValue61 rfl fun b8 => ?_)
  refine f_step0 rfl rfl (o_storeA Try.sizeOf61 rfl rfl rfl rfl (by first | exact Nat.le_of_ble_eq_true rfl | (simp; done) | (simp; omega)) [.int .i64 l.1, .int .i64 l.2] rfl ?_)
  refine f_done ?_
  refine f_tn (kh2 _ _ ?_)
  clear kh2
  refine f_seq fun K3 kh3 => ?_
  refine f_seq fun K4 kh4 => ?_
  refine f_region ?_
  refine f_stepP rfl rfl rfl (o_move rfl) ?_
  refine f_stepP rfl rfl rfl (o_loadA (vs := [_, _]) Try.isAgg61 Try.sizeOf61 rfl rfl ⟨(rdA rfl), (rdA rfl), trivial⟩) ?_
  refine f_step rfl rfl rfl (o_callM [m] _ Try.call26 rfl (Sub.pick (Sub.refl)) (fun w_ hp_ => looked_spec A bn m l w_ hN hp_.owns) ?_)
  rintro _ _ ⟨rfl, rfl⟩
  dsimp only [List.cons_append, List.nil_append]
  refine f_stepP rfl rfl rfl (o_assign rfl) ?_
  refine f_done ?_
  refine f_tn (kh4 _ _ ?_)
  clear kh4
  refine f_seq fun K5 kh5 => ?_
  refine f_region ?_
  refine f_stepP rfl rfl rfl (o_move rfl) ?_
  refine f_stepP rfl rfl rfl (o_neq rfl rfl) ?_
  refine f_done ?_
  refine f_tn (kh5 _ _ ?_)
  clear kh5
  refine f_cond rfl (fun c17 => ?_) (fun c17 => ?_)
  · skip
    refine f_seq fun K6 kh6 => ?_
    refine f_region ?_
    refine f_stepP rfl rfl rfl (o_move rfl) ?_
    refine f_stepP rfl rfl rfl (o_assign rfl) ?_
    refine f_stepP rfl rfl rfl (o_assign rfl) ?_
    refine f_done ?_
    refine f_tn (kh6 _ _ ?_)
    clear kh6
    refine f_ret ?_
    refine f_tr ?_
    have hb := NetM.looked_bad (by simpa using c17)
    exact f_fin2 [m, []] Try.results20 rfl rfl (Sub.trans (b := [m]) (by repeat (first | exact Sub.nil | refine Sub.pick ?_)) Sub.addNil2) ⟨_, _, _, rfl, rfl, hN, by rw [if_neg (by simpa using c17)]; exact Own.nil _ _⟩
  · skip
    have hl0 : A.looked l = 0 := by simpa using c17
    have hb : ¬ A.Bad l := NetM.looked_zero.1 hl0
    obtain ⟨bd, bm, ents, clk, tv, mt, G, hm, hA⟩ := hN
    refine f_subC (Sub.opened hm) ?_
    dsimp only [netSegs, List.cons_append, List.nil_append]
    obtain ⟨m1, G1, ho1, hG1, _⟩ := hA.held.bag hA.mok.keys hA.zero l
    refine f_subC (Sub.splitAt hG1) ?_
    have hlen := hA.len l
    obtain ⟨Ad, cap, hval⟩ := bag_val hA l
    rw [hval] at ho1
    refine f_skip ?_
    refine f_tn (kh3 _ _ ?_)
    clear kh3
    refine f_seq fun K7 kh7 => ?_
    refine f_regionH [[(bn, blk [.slice (some ⟨bd, 0, none⟩) A.down.length A.down.length, .map (some bm), tv, .int .i64 A.now] 59)], [(b8, blk [.int .i64 l.1, .int .i64 l.2] 61)]] rfl ?_
    refine f_take 0 rfl (by decide +kernel) rfl rfl rfl (by repeat (first | exact Sub.nil | refine Sub.pick ?_ | refine Sub.castO rfl ?_ | refine Sub.skip ?_)) (o_move rfl) ?_
    refine f_take 1 rfl (by decide +kernel) rfl rfl rfl (by repeat (first | exact Sub.nil | refine Sub.pick ?_ | refine Sub.castO rfl ?_ | refine Sub.skip ?_)) (o_nil rfl) ?_
    refine f_take 2 rfl (by decide +kernel) rfl rfl rfl (by repeat (first | exact Sub.nil | refine Sub.pick ?_ | refine Sub.castO rfl ?_ | refine Sub.skip ?_)) (o_field fa59_1 rfl) ?_
    refine f_take 3 rfl (by decide +kernel) rfl rfl rfl (by repeat (first | exact Sub.nil | refine Sub.pick ?_ | refine Sub.castO rfl ?_ | refine Sub.skip ?_)) (o_load Try.isAgg57 rfl (rdA rfl)) ?_
    refine f_take 4 rfl (by decide +kernel) rfl rfl rfl (by repeat (first | exact Sub.nil | refine Sub.pick ?_ | refine Sub.castO rfl ?_ | refine Sub.skip ?_)) (o_loadA (vs := [_, _]) Try.isAgg61 Try.sizeOf61 rfl rfl ⟨(rdA rfl), (rdA rfl), trivial⟩) ?_
    refine f_only 5 rfl (by decide +kernel) rfl rfl rfl ((o_lookup kt57 Try.zeroValue32 rfl rfl rfl _ hval).does ⟨(by repeat (first | exact Sub.nil | refine Sub.pick ?_ | refine Sub.castO rfl ?_ | refine Sub.skip ?_)), ?_⟩)
    refine f_only 6 rfl (by decide +kernel) rfl rfl rfl (o_call Try.call36 rfl (fun w_ hp_ => CloneS_spec _ _ (strs (A.bag l)) _ w_ (ho1.seen hp_) (by rw [strs_length]; omega) (strs_one _) (by omega)) ?_)
    rintro vs _ ⟨ms, rfl, hos⟩
    dsimp only [List.cons_append, List.nil_append]
    refine ⟨(by repeat (first | exact Sub.nil | refine Sub.pick ?_ | refine Sub.castO rfl ?_ | refine Sub.skip ?_)), ?_⟩
    refine f_only 7 rfl (by decide +kernel) rfl rfl rfl ((o_assign rfl).does ⟨(by repeat (first | exact Sub.nil | refine Sub.pick ?_ | refine Sub.castO rfl ?_ | refine Sub.skip ?_)), ?_⟩)
    refine f_only 8 rfl (by decide +kernel) rfl rfl rfl ((o_assign rfl).does ⟨(by repeat (first | exact Sub.nil | refine Sub.pick ?_ | refine Sub.castO rfl ?_ | refine Sub.skip ?_)), ?_⟩)
    refine f_over (by decide +kernel) ?_
    refine f_tn (kh7 _ _ ?_)
    clear kh7
    refine f_ret ?_
    exact f_fin2 [(netSegs A bn bd bm ents clk tv mt G).flatten, ms] Try.results20 rfl rfl (Sub.trans (Sub.joinAt hG1.symm) (Sub.flat2 (by repeat (first | exact Sub.nil | refine Sub.pick ?_)))) ⟨_, _, _, by rw [hl0], rfl, NetRep.mk hA, by rw [if_pos hl0]; exact hos⟩

end Go.Proofs.Ytbkneamjpiiepaa
