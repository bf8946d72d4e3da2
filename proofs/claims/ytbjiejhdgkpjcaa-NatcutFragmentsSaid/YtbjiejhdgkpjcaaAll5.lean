import Derived.Test.YtbjiejhdgkpjcaaFlyOps2
import Derived.RangeFuncRecord
import Derived.TacticsIn
import Derived.Test.YtbjiejhdgkpjcaaAll4
import Derived.Test.YtbjiejhdgkpjcaaAll2

/- Functions that range over a function, the rounds that they hand out, and functions that ask for such rounds: the small logic once more, under the kit's fences. -/

namespace Go.Proofs.Ytbjiejhdgkpjcaa.Fly
open Go Go.RowKit
set_option linter.unusedVariables false
set_option linter.unusedSimpArgs false
set_option linter.unusedSectionVars false

/-- No fence at all; in a round of the loop 'rd'. -/
abbrev FW (rd : Option Nat) : Fence := { fn := fun _ => True, depth := none, alive := false, round := rd }
/-- The marks that loops over functions leave among the deferred calls, and their blocks. -/
abbrev coll (mk : List Nat) : List Deferred := mk.map fun D => { target := .collected D, args := #[] }
abbrev mks (mk : List Nat) : Seg := mk.map fun D => (D, Obj.deferred (some []))

structure EnR (n : Nat) (mk : List Nat) (env : Env) (a : Act) : Prop where
  size : a.tmps.size = n
  defers : a.defers = coll mk
  get : ∀ t v, look env t = some v → a.tmps[t]? = some v

theorem eval_defers (a : Act) (ds : List Deferred) : ({ a with defers := ds } : Act).eval = a.eval := by funext x; cases x <;> rfl
section
variable {n : Nat} {mk : List Nat} {env : Env} {a : Act}
theorem EnR.base (h : EnR n mk env a) : En n env { a with defers := [] } := ⟨h.size, rfl, h.get⟩
theorem EnR.eval (h : EnR n mk env a) {x : Operand} {v : Value} (hx : ev env x = some v) : a.eval x = v := by
  have := h.base.eval hx; rwa [eval_defers] at this
theorem EnR.evals (h : EnR n mk env a) {l : List Operand} {vs : List Value} (hx : evs env l = some vs) : l.map a.eval = vs := by
  have := h.base.evals hx; rwa [eval_defers] at this
theorem EnR.put (h : EnR n mk env a) {d : Nat} (hd : Nat.blt d n = true) (v : Value) : EnR n mk ((d, v) :: env) (a.put (some d) v) := by
  have := h.base.put hd v
  exact ⟨this.size, by simp [Act.put, h.defers], this.get⟩
theorem EnR.none (h : EnR n mk env a) (v : Value) : EnR n mk env (a.put none v) := by simpa [Act.put] using h
theorem EnR.also (h : EnR n mk env a) {t : Nat} {v : Value} (hl : look env t = some v) : EnR n mk ((t, v) :: env) a := by
  have := h.base.also hl
  exact ⟨h.size, h.defers, this.get⟩
theorem EnR.keep (h : EnR n mk env a) (ts : List Nat) : EnR n mk (Fly.keep ts env) a := ⟨h.size, h.defers, (h.base.keep ts).get⟩
theorem EnR.agree {e' : Env} (h : EnR n mk env a) {ts : List Nat} (hk : Agree ts env e') : EnR n mk (Fly.keep ts e') a := ⟨h.size, h.defers, (h.base.agree hk).get⟩
theorem EnR.has {b : Env} (h : EnR n mk env a) (hb : EnR n mk b a) {l : Env} (hl : Has env l) : EnR n mk (l ++ b) a := ⟨h.size, h.defers, (h.base.has hb.base hl).get⟩
end

def notDefer : Op → Bool
  | .defer _ => false
  | _ => true
def plainNext : Result Next → Prop
  | .ok (.row _ _) _ => False
  | _ => True

section
variable (P : Program) (n : Nat) (S : Nat → Prop) (w0 : World) (rd : Option Nat) (mk : List Nat)
def WqR (R : Act → World → Prop) (env : Env) (segs : List Seg) : Prop := ∀ a w, EnR n mk env a → Hp S w0 segs.flatten w → R a w
def WcR (Q : Exit → Act → World → Prop) (env : Env) (segs : List Seg) (c : Code) : Prop := ∀ a w, EnR n mk env a → Hp S w0 segs.flatten w → c.wpIn (FW rd) 0 P Q a w
def WlR (ops : Array Oper) (Q : Exit → Act → World → Prop) (env : Env) (segs : List Seg) (l : List Oper) : Prop :=
  ∀ a w, EnR n mk env a → Hp S w0 segs.flatten w → wpListIn (FW rd) 0 P ops Q l a w
def DoesR (env : Env) (segs : List Seg) (o : Oper) (K : Value → List Seg → Prop) : Prop :=
  ∀ a w (next : Act → World → Prop) (Q : Exit → Act → World → Prop), EnR n mk env a → Hp S w0 segs.flatten w →
    (∀ v segs' w', K v segs' → Hp S w0 segs'.flatten w' → next (a.put o.dst v) w') → o.wpIn (FW rd) 0 P a w next Q
end

theorem wpIn_loop_ghost {F : Fence} {m : Nat} {P : Program} {Q : Exit → Act → World → Prop} {a : Act} {w : World} {c : Code} (I : Nat → Act → World → Prop) (n₀ : Nat) (h₀ : I n₀ a w)
    (round : ∀ n a w, I n a w → c.wpIn F m P (Exit.then (fun a' w' => ∃ n', n' < n ∧ I n' a' w') Q) a w) : (Code.loop c).wpIn F m P Q a w := by
  refine wpIn_loop (fun a w => ∃ n, I n a w) (fun a w => leastOf (fun n => I n a w)) ⟨n₀, h₀⟩ ?_
  intro a w hI
  refine wpIn_mono (round _ a w (leastOf_spec hI).1) ?_
  intro e a' w' hq
  cases e with
  | normal =>
    obtain ⟨n', hlt, hI'⟩ := hq
    exact show (∃ n, I n a' w') ∧ leastOf (fun n => I n a' w') < leastOf (fun n => I n a w) from ⟨⟨n', hI'⟩, Nat.lt_of_le_of_lt ((leastOf_spec ⟨n', hI'⟩).2 n' hI') hlt⟩
  | exit id => exact hq
  | goto l => exact hq
  | ret => exact hq
  | panic ch => exact hq
  | outgrown => exact hq

section
variable {P : Program} {n : Nat} {S : Nat → Prop} {w0 : World} {rd : Option Nat} {mk : List Nat} {env : Env} {segs : List Seg} {Q : Exit → Act → World → Prop} {ops : Array Oper} {rest : List Oper} {o : Oper}

theorem put_defers (a : Act) (ds : List Deferred) (d : Option Tmp) (v : Value) : ({ ({ a with defers := [] } : Act).put d v with defers := a.defers } : Act) = a.put d v := by cases d <;> rfl

theorem Does.toR {K : Value → List Seg → Prop} (hn : notDefer o.op = true) (h : Does P n S w0 env segs o K) : DoesR P n S w0 rd mk env segs o K := by
  intro a w next Q ha hp hk
  have h0 := h { a with defers := [] } w (fun a' w' => a'.defers = [] ∧ next { a' with defers := a.defers } w') (fun _ _ _ => False) ha.base hp
    (fun v segs' w' hK hp' => ⟨by cases o.dst <;> rfl, by rw [put_defers a []]; exact hk v segs' w' hK hp'⟩)
  unfold Oper.wp at h0
  unfold Oper.wpIn
  refine ⟨fun _ _ => trivial, ?_⟩
  rw [Oper.semAt_eq _ _ _ (fun c hc => by rw [hc] at hn; cases hn)]
  rw [eval_defers] at h0
  generalize (execOp a.eval o).run P w = r at h0 ⊢
  cases r with
  | halt hh w' =>
    cases hh <;> simp only [Oper.upon] at h0
  | ok x w' =>
    cases x with
    | value v =>
      have := h0.2
      rw [put_defers a []] at this
      exact this
    | skip =>
      have := h0.2
      rw [put_defers a []] at this
      exact this
    | defer d =>
      have := h0.1
      cases hd : o.dst <;> simp [Act.put, hd] at this
    | enter f args =>
      have h1 : Calls P f args w' _ := h0
      refine ⟨(fun h => by cases h), ?_⟩
      show CallsIn Fence.wide 0 P f args w' _
      refine callsIn_wide.2 (Calls.mono h1 ?_)
      intro e w'' he
      cases e with
      | returned v =>
        have := he.2
        rw [put_defers a []] at this
        exact this
      | panicked ch => exact he.elim
      | outgrown => obtain ⟨_, _, hf⟩ := he; exact hf.elim
    | row r args =>
      have h1 : Rows P r args w' _ := h0
      refine ⟨(fun h => by cases h), fun c cs _ => ?_⟩
      obtain ⟨v, w'', hv, hst⟩ := h1 c cs
      have hv2 := hv.2
      rw [put_defers a []] at hv2
      exact ⟨v, w'', hv2, (stepsIn_wide (P := P)).2 hst⟩
    | round l f tmps assign body => exact h0.elim
    | _ => exact h0.elim

theorem Pure.atR {v : Value} (h : Pure P n S w0 env segs o v) {a : Act} {w : World} (ha : EnR n mk env a) (hp : Hp S w0 segs.flatten w) : (execOp a.eval o).run P w = .ok (.value v) w := by
  have := h _ w ha.base hp; rwa [eval_defers] at this

theorem r_step {d : Nat} (hg : o.guard = none) (hd : o.dst = some d) (hn : Nat.blt d n = true)
    (h : DoesR P n S w0 rd mk env segs o fun v segs' => WlR P n S w0 rd mk ops Q ((d, v) :: env) segs' rest) : WlR P n S w0 rd mk ops Q env segs (o :: rest) := by
  intro a w ha hp
  refine wpListIn_plain hg fun K hK => h a w K Q ha hp fun v segs' w' hk hp' => hK _ _ (hk _ _ ?_ hp')
  rw [hd]; exact ha.put hn v
theorem r_step0 (hg : o.guard = none) (hd : o.dst = none)
    (h : DoesR P n S w0 rd mk env segs o fun _ segs' => WlR P n S w0 rd mk ops Q env segs' rest) : WlR P n S w0 rd mk ops Q env segs (o :: rest) := by
  intro a w ha hp
  refine wpListIn_plain hg fun K hK => h a w K Q ha hp fun v segs' w' hk hp' => hK _ _ (hk _ _ ?_ hp')
  rw [hd]; exact ha.none v
theorem r_stepP {d : Nat} {v : Value} (hg : o.guard = none) (hd : o.dst = some d) (hn : Nat.blt d n = true) (hnd : notDefer o.op = true) (hp : Pure P n S w0 env segs o v)
    (h : WlR P n S w0 rd mk ops Q ((d, v) :: env) segs rest) : WlR P n S w0 rd mk ops Q env segs (o :: rest) :=
  r_step hg hd hn (Does.toR hnd (hp.does h))
theorem r_stepPY {d j t : Nat} {b : Bool} {v : Value} (hg : o.guard = some (j, b)) (hj : (ops[j]?).bind (·.dst) = some t) (hl : look env t = some (.bool b)) (hd : o.dst = some d) (hn : Nat.blt d n = true) (hnd : notDefer o.op = true) (hp : Pure P n S w0 env segs o v)
    (h : WlR P n S w0 rd mk ops Q ((d, v) :: env) segs rest) : WlR P n S w0 rd mk ops Q env segs (o :: rest) := by
  intro a w ha hh
  refine wpListIn_step fun K hK => ?_
  rw [if_pos (by simp [Region.wanted, hg, yielded, hj, ha.get _ _ hl])]
  exact (Does.toR hnd (hp.does (K := fun u segs' => u = v ∧ segs' = segs) ⟨rfl, rfl⟩) : DoesR P n S w0 rd mk env segs o _) a w K Q ha hh fun u segs' w' ⟨hu, hs⟩ hp' => hK _ _ (h _ _ (by rw [hd, hu]; exact ha.put hn v) (hs ▸ hp'))
theorem r_stepN {d j t : Nat} {b c : Bool} (hg : o.guard = some (j, b)) (hj : (ops[j]?).bind (·.dst) = some t) (hl : look env t = some (.bool c)) (hc : (c == b) = false) (hd : o.dst = some d) (hn : Nat.blt d n = true)
    (h : WlR P n S w0 rd mk ops Q ((d, undef) :: env) segs rest) : WlR P n S w0 rd mk ops Q env segs (o :: rest) := by
  intro a w ha hp
  refine wpListIn_step fun K hK => ?_
  have hne : c ≠ b := by simpa using hc
  rw [if_neg (by simp [Region.wanted, hg, yielded, hj, ha.get _ _ hl, hne])]
  refine ⟨fun _ _ => trivial, hK _ _ (h _ _ ?_ hp)⟩
  rw [hd]; exact ha.put hn undef
theorem r_stepU {d j t : Nat} {b : Bool} (hg : o.guard = some (j, b)) (hj : (ops[j]?).bind (·.dst) = some t) (hl : look env t = some undef) (hd : o.dst = some d) (hn : Nat.blt d n = true)
    (h : WlR P n S w0 rd mk ops Q ((d, undef) :: env) segs rest) : WlR P n S w0 rd mk ops Q env segs (o :: rest) := by
  intro a w ha hp
  refine wpListIn_step fun K hK => ?_
  rw [if_neg (by simp [Region.wanted, hg, yielded, hj, ha.get _ _ hl, undef])]
  refine ⟨fun _ _ => trivial, hK _ _ (h _ _ ?_ hp)⟩
  rw [hd]; exact ha.put hn undef
theorem r_done (h : WqR n S w0 mk (Q .normal) env segs) : WlR P n S w0 rd mk ops Q env segs [] := fun a w ha hp => wpListIn_nil (h a w ha hp)
theorem r_region {id : Nat} {l : List Oper} (h : WlR P n S w0 rd mk l.toArray Q env segs l) : WcR P n S w0 rd mk Q env segs (.region id l.toArray false) :=
  fun a w ha hp => wpIn_region_lit (h a w ha hp)
/-- A piece of code outside of any round and ahead of any mark: by the plain logic. -/
theorem r_old {c : Code} (h : Wc P n S w0 Q env segs c) : WcR P n S w0 none [] Q env segs c :=
  fun a w ha hp => wpIn_wide.2 (h a w ⟨ha.size, ha.defers, ha.get⟩ hp)
theorem r_new {R : Act → World → Prop} (h : WqR n S w0 [] R env segs) : Wq n S w0 R env segs := fun a w ha hp => h a w ⟨ha.size, ha.defers, ha.get⟩ hp
theorem r_splitL (t : Nat) {φ : Prop} [Decidable φ] {l : List Oper} (hl : look env t = some (.bool (decide φ)))
    (hy : φ → WlR P n S w0 rd mk ops Q ((t, .bool true) :: env) segs l) (hn : ¬ φ → WlR P n S w0 rd mk ops Q ((t, .bool false) :: env) segs l) : WlR P n S w0 rd mk ops Q env segs l := by
  intro a w ha hp
  by_cases h : φ
  · refine hy h a w (ha.also ?_) hp
    rw [hl, decide_eq_true h]
  · refine hn h a w (ha.also ?_) hp
    rw [hl, decide_eq_false h]
theorem r_splitLB (t : Nat) {b : Bool} {l : List Oper} (hl : look env t = some (.bool b))
    (hy : b = true → WlR P n S w0 rd mk ops Q ((t, .bool true) :: env) segs l) (hn : b = false → WlR P n S w0 rd mk ops Q ((t, .bool false) :: env) segs l) : WlR P n S w0 rd mk ops Q env segs l := by
  intro a w ha hp
  cases b
  · exact hn rfl a w (ha.also hl) hp
  · exact hy rfl a w (ha.also hl) hp
theorem r_trueL (t : Nat) {φ : Prop} [Decidable φ] {l : List Oper} (hl : look env t = some (.bool (decide φ))) (h : φ) (k : WlR P n S w0 rd mk ops Q ((t, .bool true) :: env) segs l) : WlR P n S w0 rd mk ops Q env segs l :=
  fun a w ha hp => k a w (ha.also (by rw [hl, decide_eq_true h])) hp
theorem r_falseL (t : Nat) {φ : Prop} [Decidable φ] {l : List Oper} (hl : look env t = some (.bool (decide φ))) (h : ¬ φ) (k : WlR P n S w0 rd mk ops Q ((t, .bool false) :: env) segs l) : WlR P n S w0 rd mk ops Q env segs l :=
  fun a w ha hp => k a w (ha.also (by rw [hl, decide_eq_false h])) hp
theorem r_reL (t : Nat) {u v : Value} {l : List Oper} (hl : look env t = some u) (e : u = v) (h : WlR P n S w0 rd mk ops Q ((t, v) :: env) segs l) : WlR P n S w0 rd mk ops Q env segs l :=
  fun a w ha hp => h a w (ha.also (e ▸ hl)) hp
theorem r_reC (t : Nat) {u v : Value} {c : Code} (hl : look env t = some u) (e : u = v) (h : WcR P n S w0 rd mk Q ((t, v) :: env) segs c) : WcR P n S w0 rd mk Q env segs c :=
  fun a w ha hp => h a w (ha.also (e ▸ hl)) hp
theorem r_envC {e : Env} {c : Code} (he : Has env e) (h : WcR P n S w0 rd mk Q e segs c) : WcR P n S w0 rd mk Q env segs c :=
  fun a w ha hp => h a w (by
    have h0 : EnR n mk [] a := ⟨ha.size, ha.defers, fun t v hx => by simp [look] at hx⟩
    have := ha.has h0 he
    rwa [List.append_nil] at this) hp
theorem r_subL {out : List Seg} {l : List Oper} (hs : Sub segs out) (h : WlR P n S w0 rd mk ops Q env out l) : WlR P n S w0 rd mk ops Q env segs l := fun a w ha hp => h a w ha (hp.sub hs)
theorem r_subC {out : List Seg} {c : Code} (hs : Sub segs out) (h : WcR P n S w0 rd mk Q env out c) : WcR P n S w0 rd mk Q env segs c := fun a w ha hp => h a w ha (hp.sub hs)
theorem r_subQ {out : List Seg} {R : Act → World → Prop} (hs : Sub segs out) (h : WqR n S w0 mk R env out) : WqR n S w0 mk R env segs := fun a w ha hp => h a w ha (hp.sub hs)
theorem r_reQ (t : Nat) {u v : Value} {R : Act → World → Prop} (hl : look env t = some u) (e : u = v) (h : WqR n S w0 mk R ((t, v) :: env) segs) : WqR n S w0 mk R env segs :=
  fun a w ha hp => h a w (ha.also (e ▸ hl)) hp

theorem r_seq {x y : Code} (h : ∀ K : Act → World → Prop, (∀ env segs mk, WcR P n S w0 rd mk Q env segs y → WqR n S w0 mk K env segs) → WcR P n S w0 rd mk (Exit.then K Q) env segs x) :
    WcR P n S w0 rd mk Q env segs (.seq x y) :=
  fun a w ha hp => wpIn_seq (h (y.wpIn (FW rd) 0 P Q) (fun _ _ _ hy a' w' ha' hp' => hy a' w' ha' hp') a w ha hp)
theorem r_cond {c : Operand} {x y : Code} {φ : Prop} [Decidable φ] (hc : ev env c = some (.bool (decide φ))) (ht : φ → WcR P n S w0 rd mk Q env segs x) (hf : ¬ φ → WcR P n S w0 rd mk Q env segs y) :
    WcR P n S w0 rd mk Q env segs (.cond c x y) := by
  intro a w ha hp
  have he := ha.eval hc
  by_cases h : φ
  · exact wpIn_cond_true (by rw [he, decide_eq_true h]) (ht h a w ha hp)
  · exact wpIn_cond_false (by rw [he, decide_eq_false h]) (hf h a w ha hp)
theorem r_condY {c : Operand} {x y : Code} {φ : Prop} [Decidable φ] (hc : ev env c = some (.bool (decide φ))) (h : φ) (ht : WcR P n S w0 rd mk Q env segs x) : WcR P n S w0 rd mk Q env segs (.cond c x y) :=
  fun a w ha hp => wpIn_cond_true ((ha.eval hc).trans (by rw [decide_eq_true h])) (ht a w ha hp)
theorem r_condN {c : Operand} {x y : Code} {φ : Prop} [Decidable φ] (hc : ev env c = some (.bool (decide φ))) (h : ¬ φ) (hf : WcR P n S w0 rd mk Q env segs y) : WcR P n S w0 rd mk Q env segs (.cond c x y) :=
  fun a w ha hp => wpIn_cond_false ((ha.eval hc).trans (by rw [decide_eq_false h])) (hf a w ha hp)
theorem r_condT {c : Operand} {x y : Code} (hc : ev env c = some (.bool true)) (ht : WcR P n S w0 rd mk Q env segs x) : WcR P n S w0 rd mk Q env segs (.cond c x y) :=
  fun a w ha hp => wpIn_cond_true (ha.eval hc) (ht a w ha hp)
theorem r_condF {c : Operand} {x y : Code} (hc : ev env c = some (.bool false)) (hf : WcR P n S w0 rd mk Q env segs y) : WcR P n S w0 rd mk Q env segs (.cond c x y) :=
  fun a w ha hp => wpIn_cond_false (ha.eval hc) (hf a w ha hp)
theorem r_condB {c : Operand} {x y : Code} {b : Bool} (hc : ev env c = some (.bool b)) (ht : b = true → WcR P n S w0 rd mk Q env segs x) (hf : b = false → WcR P n S w0 rd mk Q env segs y) :
    WcR P n S w0 rd mk Q env segs (.cond c x y) := by
  intro a w ha hp
  have he := ha.eval hc
  cases b
  · exact wpIn_cond_false he (hf rfl a w ha hp)
  · exact wpIn_cond_true he (ht rfl a w ha hp)
theorem r_block {id : Nat} {c : Code} (h : WcR P n S w0 rd mk (Exit.inBlock id Q) env segs c) : WcR P n S w0 rd mk Q env segs (.block id c) := fun a w ha hp => wpIn_block (h a w ha hp)
theorem r_skip (h : WqR n S w0 mk (Q .normal) env segs) : WcR P n S w0 rd mk Q env segs .skip := fun a w ha hp => wpIn_skip (h a w ha hp)
theorem r_ret (h : WqR n S w0 mk (Q .ret) env segs) : WcR P n S w0 rd mk Q env segs .ret := fun a w ha hp => wpIn_ret (h a w ha hp)
theorem r_exit {id : Nat} (h : WqR n S w0 mk (Q (.exit id)) env segs) : WcR P n S w0 rd mk Q env segs (.exit id) := fun a w ha hp => wpIn_exit (h a w ha hp)

theorem r_tn {K : Act → World → Prop} (h : WqR n S w0 mk K env segs) : WqR n S w0 mk (Exit.then K Q .normal) env segs := h
theorem r_tr {K : Act → World → Prop} (h : WqR n S w0 mk (Q .ret) env segs) : WqR n S w0 mk (Exit.then K Q .ret) env segs := h
theorem r_te {K : Act → World → Prop} {id : Nat} (h : WqR n S w0 mk (Q (.exit id)) env segs) : WqR n S w0 mk (Exit.then K Q (.exit id)) env segs := h
theorem r_bn {id : Nat} (h : WqR n S w0 mk (Q .normal) env segs) : WqR n S w0 mk (Exit.inBlock id Q .normal) env segs := h
theorem r_br {id : Nat} (h : WqR n S w0 mk (Q .ret) env segs) : WqR n S w0 mk (Exit.inBlock id Q .ret) env segs := h
theorem r_be {id : Nat} (h : WqR n S w0 mk (Q .normal) env segs) : WqR n S w0 mk (Exit.inBlock id Q (.exit id)) env segs := by
  intro a w ha hp; simpa [Exit.inBlock] using h a w ha hp
theorem r_bo {id id' : Nat} (hne : Nat.beq id' id = false) (h : WqR n S w0 mk (Q (.exit id')) env segs) : WqR n S w0 mk (Exit.inBlock id Q (.exit id')) env segs := by
  intro a w ha hp
  have : id' ≠ id := fun e => by subst e; simp at hne
  simpa [Exit.inBlock, this] using h a w ha hp

def AgainR {α : Type} (n : Nat) (S : Nat → Prop) (w0 : World) (base : Env) (mkf : α → List Nat) (mod : α → Env) (sg : α → List Seg) (inv : α → Prop) (μ : α → Nat) (m : Nat) (a : Act) (w : World) : Prop :=
  ∃ x, μ x < m ∧ inv x ∧ EnR n (mkf x) (mod x ++ base) a ∧ Hp S w0 (sg x).flatten w

theorem r_loop {α : Type} (mkf : α → List Nat) (ts : List Nat) (mod : α → Env) (sg : α → List Seg) (inv : α → Prop) (μ : α → Nat) (x0 : α) {c : Code}
    (hm : mkf x0 = mk) (he : Has env (mod x0)) (hs : Sub segs (sg x0)) (hi : inv x0)
    (round : ∀ x, inv x → WcR P n S w0 rd (mkf x) (Exit.then (AgainR n S w0 (keep ts env) mkf mod sg inv μ (μ x)) Q) (mod x ++ keep ts env) (sg x) c) :
    WcR P n S w0 rd mk Q env segs (.loop c) := by
  intro a w ha hp
  refine wpIn_loop_ghost (fun m a w => ∃ x, μ x = m ∧ inv x ∧ EnR n (mkf x) (mod x ++ keep ts env) a ∧ Hp S w0 (sg x).flatten w) (μ x0)
    ⟨x0, rfl, hi, hm ▸ ha.has (ha.keep ts) he, hp.sub hs⟩ ?_
  rintro m a' w' ⟨x, rfl, hix, hax, hpx⟩
  refine wpIn_mono (round x hix a' w' hax hpx) ?_
  intro e a'' w'' hq
  cases e with
  | normal =>
    obtain ⟨x', h1, h2, h3, h4⟩ := hq
    exact ⟨μ x', h1, x', rfl, h2, h3, h4⟩
  | exit id => exact hq
  | goto l => exact hq
  | ret => exact hq
  | panic ch => exact hq
  | outgrown => exact hq
theorem r_again {α : Type} {mkf : α → List Nat} {ts : List Nat} {env0 : Env} {mod : α → Env} {sg : α → List Seg} {inv : α → Prop} {μ : α → Nat} {m : Nat} (x : α)
    (hm : μ x < m) (hk0 : mkf x = mk) (hi : inv x) (he : Has env (mod x)) (hk : Agree ts env env0) (hs : Sub segs (sg x)) :
    WqR n S w0 mk (AgainR n S w0 (keep ts env0) mkf mod sg inv μ m) env segs :=
  fun _ _ ha hp => ⟨x, hm, hi, hk0 ▸ ha.has (ha.agree hk) he, hp.sub hs⟩
end

theorem r_meet {P : Program} {n : Nat} {S : Nat → Prop} {w0 : World} {rd : Option Nat} {mk : List Nat} {env : Env} {segs : List Seg} {Q : Exit → Act → World → Prop} {α : Type} (ts : List Nat) (mod : α → Env) (sg : α → List Seg) (inv : α → Prop) {x y : Code}
    (h1 : ∀ K : Act → World → Prop, (∀ env' segs' z, inv z → Has env' (mod z) → Agree ts env' env → Sub segs' (sg z) → WqR n S w0 mk K env' segs') → WcR P n S w0 rd mk (Exit.then K Q) env segs x)
    (h2 : ∀ z, inv z → WcR P n S w0 rd mk Q (mod z ++ keep ts env) (sg z) y) : WcR P n S w0 rd mk Q env segs (.seq x y) :=
  fun a w ha hp => wpIn_seq (h1 (y.wpIn (FW rd) 0 P Q) (fun _ _ z hz he hk hs a' w' ha' hp' => h2 z hz a' w' (ha'.has (ha'.agree hk) he) (hp'.sub hs)) a w ha hp)
/-! ### entering and leaving -/
theorem r_enter {P : Program} {f : FuncId} {fn : Func} {n : Nat} {args : List Value} {w : World} {own : List Seg} {Φ : Value → List Seg → Prop} {c : Code}
    (hf : P.funcs[f]? = some fn) (hb : fn.body = some c) (hn : fn.ntmps = n) (hl : Nat.ble args.length n = true) (ho : Owns w own)
    (h : WcR P n (Fr w own) w none [] (bodyPostM (FW none) 0 P fn (SpecPost w own Φ)) (initEnv 0 args) own c) : Meets P f args w own Φ := by
  have hle : args.length ≤ n := Nat.le_of_ble_eq_true hl
  refine (callsIn_wide (n := 0)).1 (show CallsIn (FW none) 0 P f args.toArray w _ from callsIn_of_wp_marks hf hb trivial (h _ _ ⟨?_, rfl, fun t v ht => ?_⟩ (Hp.start ho)) rfl)
  · simp [hn]; omega
  · have ⟨_, h2⟩ := look_initEnv args 0 t v ht
    simp only [Nat.sub_zero] at h2
    have hlt : t < args.length := (List.getElem?_eq_some_iff.1 h2).1
    rw [Array.getElem?_append_left (by simpa using hlt)]
    simpa using h2

theorem Hp.putObj {S : Nat → Prop} {w0 w : World} {D : Nat} {o : Obj} {r : Seg} (o' : Obj) (h : Hp S w0 ((D, o) :: r) w) : Hp S w0 ((D, o') :: r) (w.putObj D o') := by
  have h' : Hp S w0 (([] : Seg) ++ (D, o) :: r) w := h
  have := Hp.put (w' := w.putObj D o') h' rfl rfl rfl (by simp) (Nat.le_refl _) (World.putObj_heap_same (h.key_lt (o := o) (by simp))) (fun k hk => World.putObj_heap_other hk)
  exact this
theorem Hp.tailR {S : Nat → Prop} {w0 w : World} {x : Nat × Obj} {r : Seg} (h : Hp S w0 (x :: r) w) : Hp S w0 r w := by
  have h' : Hp S w0 ([x] ++ r) w := h
  exact (h'.perm List.perm_append_comm).left

theorem leaves_marks {P : Program} {fn : Func} {tmps : Array Value} {R : Ending → World → Prop} {S : Nat → Prop} {w0 : World} {out : Seg} :
    ∀ (mk : List Nat) (w : World), Hp S w0 (mks mk ++ out) w → (∀ w', Hp S w0 out w' → ∃ v, (results fn tmps).run P w' = .ok v w' ∧ R (.returned v) w') → LeavesInM (FW none) 0 P fn tmps R (coll mk) .returning w
  | [], w, hp, h => by
    obtain ⟨v, h1, h2⟩ := h w hp
    exact ⟨v, h1, h2⟩
  | D :: mk, w, hp, h => by
    refine ⟨by simp, .inl ⟨D, w.putObj D (.deferred none), rfl, run_takeDeferred (hp.own D _ (by simp)), ?_⟩⟩
    exact leaves_marks mk _ (Hp.tailR (Hp.putObj (.deferred none) hp)) h

section
variable {P : Program} {fn : Func} {n : Nat} {w : World} {own : List Seg} {Φ : Value → List Seg → Prop} {env : Env} {segs : List Seg} {mk : List Nat}
theorem r_fin0 (own' : List Seg) (hr : fn.results = #[]) (hs : Sub segs (mks mk :: own')) (hΦ : Φ (.tuple #[]) own') : WqR n (Fr w own) w mk (bodyPostM (FW none) 0 P fn (SpecPost w own Φ) .ret) env segs := fun a w' ha hp => by
  show LeavesInM _ _ _ _ _ _ a.defers _ _
  rw [ha.defers]
  exact leaves_marks mk w' (out := own'.flatten) (by simpa using hp.sub hs) fun w'' hp' => ⟨_, results_none hr _ _ _, _, own', rfl, hp', hΦ⟩
theorem r_fin0n (own' : List Seg) (hr : fn.results = #[]) (hs : Sub segs (mks mk :: own')) (hΦ : Φ (.tuple #[]) own') : WqR n (Fr w own) w mk (bodyPostM (FW none) 0 P fn (SpecPost w own Φ) .normal) env segs :=
  r_fin0 own' hr hs hΦ
theorem r_fin1 (own' : List Seg) {r : Tmp} {v : Value} (hr : fn.results = #[.tmp r]) (hv : look env r = some v) (hs : Sub segs (mks mk :: own')) (hΦ : Φ v own') :
    WqR n (Fr w own) w mk (bodyPostM (FW none) 0 P fn (SpecPost w own Φ) .ret) env segs := fun a w' ha hp => by
  show LeavesInM _ _ _ _ _ _ a.defers _ _
  rw [ha.defers]
  exact leaves_marks mk w' (out := own'.flatten) (by simpa using hp.sub hs) fun w'' hp' => ⟨_, results_tmp hr _ _ _, _, own', rfl, hp', by rw [Array.getD_eq_getD_getElem?, ha.get _ _ hv]; exact hΦ⟩
theorem r_fin2 (own' : List Seg) {r s : Tmp} {v u : Value} (hr : fn.results = #[.tmp r, .tmp s]) (hv : look env r = some v) (hu : look env s = some u) (hs : Sub segs (mks mk :: own')) (hΦ : Φ (.tuple #[v, u]) own') :
    WqR n (Fr w own) w mk (bodyPostM (FW none) 0 P fn (SpecPost w own Φ) .ret) env segs := fun a w' ha hp => by
  show LeavesInM _ _ _ _ _ _ a.defers _ _
  rw [ha.defers]
  exact leaves_marks mk w' (out := own'.flatten) (by simpa using hp.sub hs) fun w'' hp' => ⟨_, results_tmp2 hr _ _ _, _, own', rfl, hp', by simp only [Array.getD_eq_getD_getElem?, ha.get _ _ hv, ha.get _ _ hu]; exact hΦ⟩
end

theorem Hp.fz {S : Nat → Prop} {w0 w : World} {own fr : List Seg} (hp : Hp S w0 (own ++ fr).flatten w) (k : Nat) (hk : S k) : Fr w own k ∧ w.heap[k]? = w0.heap[k]? := by
  refine ⟨⟨Nat.lt_of_lt_of_le (hp.lt k hk) hp.size, fun hm => ?_⟩, hp.same k hk⟩
  obtain ⟨⟨b', o⟩, hx, rfl⟩ := List.mem_map.1 hm
  rw [List.flatten_append] at hp
  exact hp.out b' o (List.mem_append_left _ hx) hk
/-- A cell of one of many blocks that are held as one segment. -/
theorem rdG {S : Nat → Prop} {w0 : World} {segs out : List Seg} {G : Seg} {b i : Nat} {cs : List Value} {T : TypeId} {v : Value} [pk : Pick segs G out] (hin : (b, blk cs T) ∈ G) (hi : cs[i]? = some v) : Rd S w0 segs b i v := fun w hp => by
  have hb := hp.own b _ (pk.perm.symm.subset (List.mem_append_left _ hin))
  simp [World.cell?, hb, hi]
theorem Sub.reg {segs out out' : List Seg} (h : Sub segs out) (e : out.flatten = out'.flatten) : Sub segs out' := by
  obtain ⟨rest, h⟩ := h; exact ⟨rest, by rw [← e]; exact h⟩
theorem Sub.op2 {a m : Seg} {segs out parts : List Seg} (hm : m = parts.flatten) (h : Sub (a :: (parts ++ segs)) out) : Sub (a :: m :: segs) out := by
  obtain ⟨rest, h⟩ := h
  exact ⟨rest, by subst hm; simpa using h⟩
theorem Sub.op3 {a b m : Seg} {segs out parts : List Seg} (hm : m = parts.flatten) (h : Sub (a :: b :: (parts ++ segs)) out) : Sub (a :: b :: m :: segs) out := by
  obtain ⟨rest, h⟩ := h
  exact ⟨rest, by subst hm; simpa using h⟩
theorem roMemG {S : Nat → Prop} {w0 w : World} {segs : List Seg} {b : Nat} {cs sp : List Value} {T : TypeId} (hm : (b, blk (cs ++ sp) T) ∈ segs.flatten) (hp : Hp S w0 segs.flatten w) : Ro (Fr w []) w (some ⟨b, 0, none⟩) cs := fun _ => by
  have hb := hp.own b _ hm
  refine ⟨b, 0, rfl, ⟨hp.key_lt hm, by simp⟩, fun j v hj => ?_⟩
  have : (cs ++ sp)[j]? = some v := app_get hj
  simp [World.cell?, hb, this]
/-! ### asking for a round -/
def YMeets (P : Program) (l : Nat) (args : List Value) (w : World) (own : List Seg) (Φ : Value → List Seg → Prop) : Prop :=
  ∃ f tmps assign body, (Instr.yield l args.toArray).run P w = .ok (.round l f tmps assign body) w ∧ RoundIn (FW none) 0 P l f tmps assign body w (SpecPost w own Φ)
section
variable {P : Program} {n : Nat} {S : Nat → Prop} {w0 : World} {rd : Option Nat} {mk : List Nat} {env : Env} {segs : List Seg} {K : Value → List Seg → Prop} {d : Option Tmp} {ty : TypeId} {pos : String} {af : Array Edge} {g : Option (Nat × Bool)}
theorem o_yield (own fr : List Seg) {l : Nat} {x : Operand} {args : List Operand} {tys : Array TypeId} {vs : List Value} {Φ : Value → List Seg → Prop}
    (hx : ev env x = some (.func (.yield l) #[] #[])) (ha : evs env args = some vs) (hsub : Sub segs (own ++ fr)) (hspec : ∀ w, Hp S w0 (own ++ fr).flatten w → YMeets P l vs w own Φ) (k : ∀ v own', Φ v own' → K v (own' ++ fr)) :
    DoesR P n S w0 rd mk env segs ⟨d, .call ⟨.value x, args.toArray, tys⟩, ty, pos, af, g⟩ K := by
  intro a w next Q hE hp hk
  obtain ⟨f, tmps, assign, body, hrun, hR⟩ := hspec w (hp.sub hsub)
  unfold Oper.wpIn
  refine ⟨fun _ _ => trivial, ?_⟩
  rw [Oper.semAt_eq _ _ _ (fun c hc => by cases hc)]
  have hex : (execOp a.eval ⟨d, .call ⟨.value x, args.toArray, tys⟩, ty, pos, af, g⟩).run P w = .ok (.round l f tmps assign body) w := by
    simp [execOp, resolve, Deferred.ofValue, invoke, hE.eval hx, hE.evals ha, hrun]
  rw [hex]
  refine ⟨(fun h => by cases h), ?_⟩
  show RoundIn (FW none) 0 P l f tmps assign body w _
  refine RoundIn.mono hR ?_
  rintro e w' ⟨v, own', rfl, hp', hΦ⟩
  exact hk v _ w' (k v own' hΦ) ((hp.sub hsub).called hp')
end

/-! ### the statement 'for .. range f' -/
/-- What a loop's record bears. -/
structure LoopD where
  fn : FuncId
  tmps : Array Value
  params : Array Tmp
  assign : Code
  body : Code
  D : Nat
def LoopD.rc (d : LoopD) (st : LoopState) (pe : Option Code) : Loop := { state := st, pending := pe, fn := d.fn, tmps := d.tmps, params := d.params, assign := d.assign, body := d.body, defers := d.D }
/-- The caller's memory with the loop's two blocks. -/
abbrev lseg (l : Nat) (d : LoopD) (st : LoopState) (pe : Option Code) (m : Seg) : Seg := (l, .loop (d.rc st pe)) :: (d.D, .deferred (some [])) :: m

/-- What a round hands over: J between two rounds, Jx behind a round that has left. -/
def YPost {β : Type} (l : Nat) (d : LoopD) (I Ix : List β → Seg → Prop) (cx : Code) (ys : List β) (u : Value) (own' : List Seg) : Prop :=
  ∃ m', own' = [m'] ∧ ((u = .bool true ∧ ∃ m, m' = lseg l d .ready none m ∧ I ys m) ∨ (u = .bool false ∧ ∃ m, m' = lseg l d .done (some cx) m ∧ Ix ys m))

/-- An iterator: for whatever is done in its rounds, J between two rounds (what has come), Jx behind a round that has left. -/
def IterAt {β : Type} (P : Program) (gf : FuncId) (lb : List Value) (own : List Seg) (enc : β → Value) (may : List β → β → Prop) (Fin Stp : List β → List Seg → Prop) (m0 : Seg) (w : World) : Prop :=
  ∀ (l : Nat) (J Jx : List β → Seg → Prop), J [] m0 → Owns w (m0 :: own) →
    (∀ ys y w' m, J ys m → may ys y → Owns w' [m] → (∀ k, Fr w (m0 :: own) k → Fr w' [m] k ∧ w'.heap[k]? = w.heap[k]?) →
      YMeets P l [enc y] w' [m] fun u own' => ∃ m', own' = [m'] ∧ ((u = .bool true ∧ J (ys ++ [y]) m') ∨ (u = .bool false ∧ Jx (ys ++ [y]) m'))) →
    Meets P gf (.func (.yield l) #[] #[] :: lb) w (m0 :: own) fun u own' => u = .tuple #[] ∧ ∃ m' o', own' = m' :: o' ∧ ((∃ ys, Fin ys o' ∧ J ys m') ∨ (∃ ys, Stp ys o' ∧ Jx ys m'))

section
variable {P : Program} {n : Nat} {S' : Nat → Prop} {w' : World} {env : Env} {segs : List Seg} {β : Type} {l : Nat} {d : LoopD} {I Ix : List β → Seg → Prop} {cx : Code} {ys : List β} {m m' : Seg}
theorem r_roundEnd (hs : Sub segs [[(l, .loop (d.rc .busy none))], [(d.D, .deferred (some []))], m']) (hI : I ys m') :
    WqR n (Fr w' [lseg l d .ready none m]) w' [] (roundPost P l (SpecPost w' [lseg l d .ready none m] (YPost l d I Ix cx ys)) .normal) env segs := fun a w ha hp => by
  have hp1 : Hp (Fr w' [lseg l d .ready none m]) w' ((l, Obj.loop (d.rc .busy none)) :: ((d.D, .deferred (some [])) :: m')) w := by simpa using hp.sub hs
  refine ⟨_, _, run_endRound none (hp1.own l _ (List.mem_cons_self ..)), .bool true, [lseg l d .ready none m'], rfl, ?_, ⟨_, rfl, .inl ⟨rfl, _, rfl, hI⟩⟩⟩
  have := Hp.putObj (.loop (d.rc .ready none)) hp1
  rw [List.flatten_cons, List.flatten_nil, List.append_nil]; exact this
theorem r_roundOut {e : Exit} (he : (e = .ret ∧ cx = .ret) ∨ ∃ id, e = .exit id ∧ cx = .exit id) (hs : Sub segs [[(l, .loop (d.rc .busy none))], [(d.D, .deferred (some []))], m']) (hI : Ix ys m') :
    WqR n (Fr w' [lseg l d .ready none m]) w' [] (roundPost P l (SpecPost w' [lseg l d .ready none m] (YPost l d I Ix cx ys)) e) env segs := fun a w ha hp => by
  have hp1 : Hp (Fr w' [lseg l d .ready none m]) w' ((l, Obj.loop (d.rc .busy none)) :: ((d.D, .deferred (some [])) :: m')) w := by simpa using hp.sub hs
  have hq := Hp.putObj (.loop (d.rc .done (some cx))) hp1
  rcases he with ⟨rfl, rfl⟩ | ⟨id, rfl, rfl⟩
  · exact ⟨_, _, run_endRound (some .ret) (hp1.own l _ (List.mem_cons_self ..)), .bool false, [lseg l d .done (some .ret) m'], rfl, (by rw [List.flatten_cons, List.flatten_nil, List.append_nil]; exact hq), ⟨_, rfl, .inr ⟨rfl, _, rfl, hI⟩⟩⟩
  · exact ⟨_, _, run_endRound (some (.exit id)) (hp1.own l _ (List.mem_cons_self ..)), .bool false, [lseg l d .done (some (.exit id)) m'], rfl, (by rw [List.flatten_cons, List.flatten_nil, List.append_nil]; exact hq), ⟨_, rfl, .inr ⟨rfl, _, rfl, hI⟩⟩⟩
end

section
variable {P : Program} {n : Nat} {S : Nat → Prop} {w0 : World} {mk : List Nat} {env : Env} {segs : List Seg} {Q : Exit → Act → World → Prop}
theorem r_range {β : Type} {g : Operand} {p : Tmp} {assign body : Code} {gf : FuncId} {lb : List Value} (hg : ev env g = some (.func (.func gf) #[] lb.toArray))
    (hc : ∀ args w, (callFunc gf args).run P w = .ok (.enter gf args) w) (hn : Nat.blt p n = true) (C own fr : List Seg) (hs : Sub segs (C ++ (own ++ fr)))
    (enc : β → Value) {may : List β → β → Prop} {Fin Stp : List β → List Seg → Prop}
    (hit : ∀ w1 m0, Hp S w0 (m0 :: (own ++ fr)).flatten w1 → IterAt P gf lb own enc may Fin Stp m0 w1)
    (I Ix : List β → Seg → Prop) (cx : Code) (h0 : I [] C.flatten)
    (hround : ∀ (w' : World) (l : Nat) (d : LoopD) (ys : List β) (y : β) (m : Seg), I ys m → may ys y → (∀ k, S k → Fr w' [lseg l d .ready none m] k ∧ w'.heap[k]? = w0.heap[k]?) →
      ∀ K : Act → World → Prop, (∀ env' rest, WcR P n (Fr w' [lseg l d .ready none m]) w' (some l) [] (roundPost P l (SpecPost w' [lseg l d .ready none m] (YPost l d I Ix cx (ys ++ [y])))) env' ([(l, .loop (d.rc .busy none))] :: rest) body →
          WqR n (Fr w' [lseg l d .ready none m]) w' [] K env' ([(l, .loop (d.rc .ready none))] :: rest)) →
        WcR P n (Fr w' [lseg l d .ready none m]) w' (some l) [] (Exit.then K fun _ _ _ => False) ((p, enc y) :: env) [[(l, .loop (d.rc .ready none))], [(d.D, .deferred (some []))], m] assign)
    (hdone : ∀ D ys m o', Fin ys o' → I ys m → WqR n S w0 (D :: mk) (Q .normal) env ([(D, .deferred (some []))] :: m :: (o' ++ fr)))
    (hstop : ∀ D ys m o', Stp ys o' → Ix ys m → WcR P n S w0 none (D :: mk) Q env ([(D, .deferred (some []))] :: m :: (o' ++ fr)) cx) :
    WcR P n S w0 none mk Q env segs (.rangeFunc g #[p] assign body) := by
  intro a w ha hp
  refine wpIn_rangeFunc ?_
  intro fn _
  obtain ⟨d, hd⟩ : ∃ d : LoopD, d = ⟨fn, a.tmps, #[p], assign, body, w.heap.size⟩ := ⟨_, rfl⟩
  obtain ⟨l, hl⟩ : ∃ l, l = w.heap.size + 1 := ⟨_, rfl⟩
  obtain ⟨W1, hW1⟩ : ∃ W1, W1 = (w.alloc (.deferred (some []))).alloc (.loop (d.rc .ready none)) := ⟨_, rfl⟩
  have hD : d.D = w.heap.size := by rw [hd]
  have hp1 : Hp S w0 (lseg l d .ready none C.flatten :: (own ++ fr)).flatten W1 := by
    have h1 := (Hp.alloc (hp.sub hs) (.deferred (some []))).alloc (.loop (d.rc .ready none))
    rw [World.size_alloc, ← hl, ← hW1, ← hD] at h1
    simpa using h1
  refine ⟨l, [{ target := .collected w.heap.size, args := #[] }], W1, { target := .fn (.func gf) lb.toArray, args := #[.func (.yield l) #[] #[]] }, W1, gf,
    (.func (.yield l) #[] #[] :: lb).toArray, W1, ?_, ?_, fun _ _ => trivial, ?_, (fun h => by cases h), ?_⟩
  · have := run_enterLoop_outer (P := P) (w := w) fn a.tmps #[p] assign body
    rw [hl, hW1, hd]; exact this
  · simp [resolve, Deferred.ofValue, ha.eval hg]
    simp [Act.eval]
  · simp [invoke, hc]
  have hown : Owns W1 (lseg l d .ready none C.flatten :: own) := Hp.owns (fr := fr) hp1
  have hSF : ∀ k, S k → Fr W1 (lseg l d .ready none C.flatten :: own) k ∧ W1.heap[k]? = w0.heap[k]? := fun k hk => by
    refine ⟨⟨Nat.lt_of_lt_of_le (hp1.lt k hk) hp1.size, fun hm => ?_⟩, hp1.same k hk⟩
    obtain ⟨⟨b', o⟩, hx, rfl⟩ := List.mem_map.1 hm
    refine hp1.out b' o ?_ hk
    have e : (lseg l d .ready none C.flatten :: (own ++ fr)) = (lseg l d .ready none C.flatten :: own) ++ fr := rfl
    rw [e, List.flatten_append]
    exact List.mem_append_left _ hx
  have hM := hit W1 _ hp1 l (fun ys m => ∃ m', m = lseg l d .ready none m' ∧ I ys m') (fun ys m => ∃ m', m = lseg l d .done (some cx) m' ∧ Ix ys m') ⟨_, rfl, h0⟩ hown ?_
  · show CallsIn Fence.wide 0 P gf _ W1 _
    refine callsIn_wide.2 (Calls.mono hM ?_)
    rintro e w3 ⟨v, own', rfl, hp3, rfl, m', o', rfl, hc3⟩
    have hp4 := Hp.called (own := lseg l d .ready none C.flatten :: own) (fr := fr) hp1 hp3
    have hE : EnR n (w.heap.size :: mk) env { a with defers := [{ target := .collected w.heap.size, args := #[] }] ++ a.defers } := ⟨ha.size, by simp [ha.defers], ha.get⟩
    rcases hc3 with ⟨ys, hF, m, rfl, hI⟩ | ⟨ys, hF, m, rfl, hI⟩
    · have hp5 : Hp S w0 ((l, Obj.loop (d.rc .ready none)) :: ((d.D, .deferred (some [])) :: (m ++ (o' ++ fr).flatten))) w3 := by simpa using hp4
      refine ⟨none, _, run_endLoop (hp5.own l _ (List.mem_cons_self ..)) (by simp [LoopD.rc]), ?_⟩
      have hp6 := Hp.tailR (Hp.putObj (.loop { d.rc .ready none with state := .exhausted }) hp5)
      rw [hD] at hp6
      exact hdone w.heap.size ys m o' hF hI _ _ hE (by simpa using hp6)
    · have hp5 : Hp S w0 ((l, Obj.loop (d.rc .done (some cx))) :: ((d.D, .deferred (some [])) :: (m ++ (o' ++ fr).flatten))) w3 := by simpa using hp4
      refine ⟨some cx, _, run_endLoop (hp5.own l _ (List.mem_cons_self ..)) (by simp [LoopD.rc]), ?_⟩
      have hp6 := Hp.tailR (Hp.putObj (.loop { d.rc .done (some cx) with state := .exhausted }) hp5)
      rw [hD] at hp6
      exact hstop w.heap.size ys m o' hF hI _ _ hE (by simpa using hp6)
  · rintro ys y w' _ ⟨m, rfl, hI⟩ hmay hown' hfr
    refine ⟨fn, a.tmps.setIfInBounds p (enc y), assign, body, ?_, ?_⟩
    · have hy := run_yield (P := P) (w := w') (l := l) (r := d.rc .ready none) (args := #[enc y]) (hown'.there l _ (by simp)) (by rw [hd]; rfl)
      rw [hd] at hy
      simpa [LoopD.rc] using hy
    · refine RoundIn.mono (R := SpecPost w' [lseg l d .ready none m] (YPost l d I Ix cx (ys ++ [y]))) (roundIn_of_wpIn trivial ?_) ?_
      · refine hround w' l d ys y m hI hmay (fun k hk => ⟨(hfr k (hSF k hk).1).1, (hfr k (hSF k hk).1).2.trans (hSF k hk).2⟩) _ ?_ _ w' ?_ (by simpa using Hp.start hown')
        · intro env' rest hb a1 w1 ha1 hp1'
          have hp2 : Hp (Fr w' [lseg l d .ready none m]) w' ((l, Obj.loop (d.rc .ready none)) :: rest.flatten) w1 := by simpa using hp1'
          refine ⟨_, run_beginRound (hp2.own l _ (List.mem_cons_self ..)) rfl, hb _ _ ha1 ?_⟩
          have := Hp.putObj (.loop (d.rc .busy none)) hp2
          rw [List.flatten_cons, List.singleton_append]; exact this
        · have := ha.put hn (enc y)
          exact ⟨by simpa [Act.put] using this.size, rfl, by simpa [Act.put] using this.get⟩
      · rintro e w'' ⟨v, own', rfl, hp', m', rfl, hΦ⟩
        exact ⟨v, _, rfl, hp', m', rfl, hΦ⟩
end
end Go.Proofs.Ytbjiejhdgkpjcaa.Fly

/- grow.around, and the function that it hands back: the vertices around a centre, nearest first. -/
namespace Go.Proofs.Ytbjiejhdgkpjcaa
open Go Go.RowKit Fly
set_option linter.unusedVariables false
set_option linter.unusedSimpArgs false


abbrev boolsG (l : List Bool) : List Value := l.map .bool
theorem boolsG_set (l : List Bool) (i : Nat) (b : Bool) : (boolsG l).set i (.bool b) = boolsG (l.set i b) := by simp [boolsG, List.map_set]
theorem boolsG_at {l : List Bool} {i : Nat} (h : i < l.length) : (boolsG l)[i]? = some (.bool (l.getD i false)) := by simp [List.getD_eq_getElem?_getD, h]
/-- What the iterator holds: three boxes, the marks, the rows. -/
abbrev arSegs (n c bin bo b3 b4 b5 : Nat) (b : List Bool) (vs : List Value) (G : Seg) : List Seg :=
  [[(b5, blk [.slice (some ⟨bin, 0, none⟩) n n] 42)], [(b4, blk [.int .i64 (c : Int)] 3)], [(b3, blk [.slice (some ⟨bo, 0, none⟩) n n] 77)], [(bin, blk (boolsG b) 4)], [(bo, blk vs 35)], G]
def arMay (F : BSt) (ys : List Int) (y : Int) : Prop := ∃ k, ∃ h : k < F.1.length, ys = F.1.take k ∧ y = F.1[k]
def arFin (F : BSt) (n c bin bo b3 b4 b5 : Nat) (vs : List Value) (G : Seg) (ys : List Int) (o : List Seg) : Prop := ys = F.1 ∧ o = arSegs n c bin bo b3 b4 b5 F.2 vs G
def arStp (F : BSt) (n c bin bo b3 b4 b5 : Nat) (vs : List Value) (G : Seg) (ys : List Int) (o : List Seg) : Prop := ∃ k, k < F.1.length ∧ ys = F.1.take (k + 1) ∧ ∃ b', b'.length = n ∧ o = arSegs n c bin bo b3 b4 b5 b' vs G
theorem drop_cons_of {α : Type} {l : List α} {k : Nat} (h : k < l.length) : l.drop k = l[k] :: l.drop (k + 1) := (List.getElem_cons_drop h).symm
theorem row_blk {E : TypeId} {ls : List (List Int)} {vs : List Value} {ms : List Seg} (hR : RowsI E ls vs ms) {i : Nat} (hi : i < ls.length) : ∃ A c, vs[i]? = some (.slice A ls[i].length c) ∧ (0 < ls[i].length → ∃ br sp, A = some ⟨br, 0, none⟩ ∧ (br, blk (ints ls[i] ++ sp) E) ∈ ms.flatten) := by
  have ho := hR.own i hi
  obtain ⟨A, c, e, _⟩ := ho.val
  rw [e] at ho
  refine ⟨A, c, by rw [List.getElem?_eq_getElem (by rw [hR.lv]; exact hi), e], fun hl => ?_⟩
  obtain ⟨br, sp, rfl, hm⟩ := ho.at_ hl
  exact ⟨br, sp, rfl, List.mem_flatten.2 ⟨_, List.getElem_mem (by rw [hR.lm]; exact hi), by rw [hm]; simp⟩⟩

set_option maxRecDepth 100000 in
set_option maxHeartbeats 4000000 in
theorem around_spec (n bo bin : Nat) (c : Int) (w : World) :
    Meets Try.prog 40 [.slice (some ⟨bo, 0, none⟩) n n, .int .i64 c, .slice (some ⟨bin, 0, none⟩) n n] w [] (fun u own' => ∃ b3 b4 b5, u = .func (.func 61) #[] #[.pointer (some ⟨b5, 0, none⟩), .pointer (some ⟨b4, 0, none⟩), .pointer (some ⟨b3, 0, none⟩)] ∧ own' = [[(b5, blk [.slice (some ⟨bin, 0, none⟩) n n] 42)], [(b4, blk [.int .i64 c] 3)], [(b3, blk [.slice (some ⟨bo, 0, none⟩) n n] 77)]]) := by
 refine f_enter Try.func40 rfl Try.ntmps40 rfl Owns.nil ?_
 refine f_seq fun K1 kh1 => ?_
 refine f_region ?_
 refine f_step rfl rfl rfl (o_box rfl rfl fun b3 => ?_)
 refine f_step rfl rfl rfl (o_box rfl rfl fun b4 => ?_)
 refine f_step rfl rfl rfl (o_box rfl rfl fun b5 => ?_)
 refine f_stepP rfl rfl rfl (o_assign rfl) ?_
 refine f_done ?_
 refine f_tn (kh1 _ _ ?_)
 clear kh1
 refine f_seq fun K2 kh2 => ?_
 refine f_region ?_
 refine f_stepP rfl rfl rfl (o_func rfl rfl) ?_
 refine f_stepP rfl rfl rfl (o_assign rfl) ?_
 refine f_done ?_
 refine f_tn (kh2 _ _ ?_)
 clear kh2
 refine f_ret ?_
 exact f_fin1 [[(b5, blk [.slice (some ⟨bin, 0, none⟩) n n] 42)], [(b4, blk [.int .i64 c] 3)], [(b3, blk [.slice (some ⟨bo, 0, none⟩) n n] 77)]] Try.results40 rfl (by repeat (first | exact Sub.nil | refine Sub.pick ?_ | refine Sub.castO rfl ?_ | refine Sub.skip ?_)) ⟨b3, b4, b5, rfl, rfl⟩

set_option maxRecDepth 100000 in
set_option maxHeartbeats 4000000 in
theorem around1_iter (n c bin bo b3 b4 b5 : Nat) (l : List Arc) (b0 : List Bool) (vs : List Value) (ms : List Seg) (m0 : Seg) (w : World) (hb0 : b0.length = n) (hc : c < n) (hn : n ≤ 1024) (hR : RowsI 3 (nrows n l) vs ms) (hrng : ∀ v, v < n → ∀ u ∈ nbrs (v : Int) l, 0 ≤ u ∧ u < (n : Int)) (hrl : ∀ v : Nat, (nbrs (v : Int) l).length ≤ 8192) :
    IterAt Try.prog 61 [.pointer (some ⟨b5, 0, none⟩), .pointer (some ⟨b4, 0, none⟩), .pointer (some ⟨b3, 0, none⟩)] (arSegs n c bin bo b3 b4 b5 b0 vs ms.flatten) (fun y : Int => .int .i64 y) (arMay (bfs n (fun v : Nat => nbrs (v : Int) l) c b0)) (arFin (bfs n (fun v : Nat => nbrs (v : Int) l) c b0) n c bin bo b3 b4 b5 vs ms.flatten) (arStp (bfs n (fun v : Nat => nbrs (v : Int) l) c b0) n c bin bo b3 b4 b5 vs ms.flatten) m0 w := by
 intro l_ J Jx hJ0 hown hY
 have hvl : vs.length = n := by have := hR.lv; rwa [nrows_len] at this
 have hI0 : BInv n (bstart c b0) := BInv.start hb0 hc
 refine r_enter Try.func61 rfl Try.ntmps61 rfl hown ?_
 refine r_seq fun K1 kh1 => ?_
 refine r_region ?_
 refine r_stepP rfl rfl rfl rfl (o_load Try.isAgg42 rfl (rdA rfl)) ?_
 refine r_stepP rfl rfl rfl rfl (o_load Try.isAgg3 rfl (rdA rfl)) ?_
 refine r_stepP rfl rfl rfl rfl (o_idx sl42 rfl rfl (c) ⟨by omega, by omega, by first | omega | (simp; done) | (simp; omega)⟩) ?_
 refine r_step0 rfl rfl (Does.toR rfl (o_store Try.sizeOf4 rfl rfl rfl rfl (by simp [boolsG]; omega) (boolsG (b0.set c true)) (boolsG_set ..) ?_))
 refine r_done ?_
 refine r_tn (kh1 _ _ _ ?_)
 clear kh1
 refine r_seq fun K2 kh2 => ?_
 refine r_region ?_
 refine r_stepP rfl rfl rfl rfl (o_load Try.isAgg3 rfl (rdA rfl)) ?_
 refine r_step rfl rfl rfl (Does.toR rfl (o_slice1 el35 (by omega) rfl rfl rfl fun b12 => ?_))
 refine r_stepP rfl rfl rfl rfl (o_assign rfl) ?_
 refine r_done ?_
 refine r_tn (kh2 _ _ _ ?_)
 clear kh2
 refine r_block ?_
 refine r_loop (α := Nat × Value × Seg × Seg) (fun ⟨k, qv, qm, mJ⟩ => []) [0, 1, 3] (fun ⟨k, qv, qm, mJ⟩ => [(5, qv)]) (fun ⟨k, qv, qm, mJ⟩ => [[(b5, blk [.slice (some ⟨bin, 0, none⟩) n n] 42)], [(b4, blk [.int .i64 (c : Int)] 3)], [(b3, blk [.slice (some ⟨bo, 0, none⟩) n n] 77)], [(bin, blk (boolsG (bgo (fun v : Nat => nbrs (v : Int) l) (bstart c b0) k).2) 4)], [(bo, blk vs 35)], ms.flatten, qm, mJ]) (fun ⟨k, qv, qm, mJ⟩ => k ≤ (bgo (fun v : Nat => nbrs (v : Int) l) (bstart c b0) k).1.length ∧ OwnQ 3 qv (ints ((bgo (fun v : Nat => nbrs (v : Int) l) (bstart c b0) k).1.drop k)) qm ∧ J ((bfs n (fun v : Nat => nbrs (v : Int) l) c b0).1.take k) mJ) (fun ⟨k, qv, qm, mJ⟩ => n - k) (0, .slice (some ⟨b12, 0, none⟩) 1 1, [(b12, blk [.int .i64 (c : Int)] 3)], m0) rfl ?_ ?_ ?_ ?_
 · exact (by repeat (first | exact trivial | refine ⟨rfl, ?_⟩))
 · repeat (first | exact Sub.nil | refine Sub.pick ?_ | refine Sub.castO rfl ?_ | refine Sub.skip ?_)
 · exact ⟨Nat.zero_le _, OwnQ.one _ _ _, by rw [List.take_zero]; exact hJ0⟩
 ·
  rintro ⟨k, qv, qm, mJ⟩ ⟨hkl, hQ, hJ⟩
  have hI := BInv.go hrng hI0 k
  have hIo := hI.out
  obtain ⟨st, hst⟩ : ∃ st, st = bgo (fun v : Nat => nbrs (v : Int) l) (bstart c b0) k := ⟨_, rfl⟩
  dsimp only
  rw [← hst] at hkl hQ hI hIo ⊢
  have hQ0 := hQ
  have hql := ints_length (st.1.drop k)
  rw [List.length_drop] at hql
  obtain ⟨bw, ow, cw, pre, sp, rfl, rfl, hq1, hq2, hq3, hq4⟩ := hQ
  refine r_seq fun K3 kh3 => ?_
  refine r_seq fun K4 kh4 => ?_
  refine r_region ?_
  refine r_stepP rfl rfl rfl rfl (o_move rfl) ?_
  refine r_stepP rfl rfl rfl rfl (o_len sl35 rfl) ?_
  refine r_stepP rfl rfl rfl rfl (o_gtr rfl rfl) ?_
  refine r_done ?_
  refine r_tn (kh4 _ _ _ ?_)
  clear kh4
  refine r_cond rfl (fun c15 => ?_) (fun c15 => ?_)
  ·
   have hkl2 : k < st.1.length := by omega
   have hpre := hq4 (by omega)
   obtain ⟨v, hv⟩ : ∃ v, v = st.1[k] := ⟨_, rfl⟩
   have hdc : st.1.drop k = v :: st.1.drop (k + 1) := by rw [hv]; exact drop_cons_of hkl2
   have hvr := hI.rng _ (List.getElem_mem hkl2)
   rw [← hv] at hvr
   obtain ⟨vn, rfl⟩ : ∃ vn : Nat, v = (vn : Int) := ⟨v.toNat, by omega⟩
   have hvn : vn < n := by omega
   obtain ⟨hgl0, hge⟩ := bgo_get (n := n) (rows := (fun v : Nat => nbrs (v : Int) l)) (s := bstart c b0) (k := k) (by omega) (by rw [← hst]; exact hkl2)
   have hgl : k < (bfs n (fun v : Nat => nbrs (v : Int) l) c b0).1.length := hgl0
   have hge' : (bfs n (fun v : Nat => nbrs (v : Int) l) c b0).1[k] = (vn : Int) := by rw [hv]; refine hge.trans ?_; simp only [hst]
   have hys : (bfs n (fun v : Nat => nbrs (v : Int) l) c b0).1.take k ++ [(vn : Int)] = (bfs n (fun v : Nat => nbrs (v : Int) l) c b0).1.take (k + 1) := by rw [List.take_succ_eq_append_getElem hgl, hge']
   refine r_skip ?_
   refine r_tn (kh3 _ _ _ ?_)
   clear kh3
   refine r_seq fun K5 kh5 => ?_
   refine r_block ?_
   refine r_seq fun K6 kh6 => ?_
   refine r_seq fun K7 kh7 => ?_
   refine r_region ?_
   refine r_stepP rfl rfl rfl rfl (o_move rfl) ?_
   refine r_stepP rfl rfl rfl rfl (o_move rfl) ?_
   refine r_stepP rfl rfl rfl rfl (o_idx sl35 rfl rfl (ow) ⟨by omega, by omega, by first | omega | (simp; done) | (simp; omega)⟩) ?_
   refine r_stepP rfl rfl rfl rfl (o_load Try.isAgg3 rfl (rdA (v := .int .i64 (vn : Int)) (by rw [← hpre, hdc]; simp [ints]))) ?_
   refine r_step rfl rfl rfl (o_yield [mJ] _ rfl rfl (by repeat (first | exact Sub.refl | refine Sub.pick ?_)) (fun w_ hp_ => hY _ (vn : Int) w_ mJ hJ ⟨k, hgl, rfl, hge'.symm⟩ hp_.owns (fun k hk => hp_.fz k hk)) ?_)
   rintro v22 _ ⟨m2, rfl, hy2⟩
   obtain ⟨bb, rfl, hy3⟩ : ∃ bb, v22 = .bool bb ∧ ((bb = true ∧ J ((bfs n (fun v : Nat => nbrs (v : Int) l) c b0).1.take k ++ [(vn : Int)]) m2) ∨ (bb = false ∧ Jx ((bfs n (fun v : Nat => nbrs (v : Int) l) c b0).1.take k ++ [(vn : Int)]) m2)) := by
     rcases hy2 with ⟨rfl, h⟩ | ⟨rfl, h⟩
     · exact ⟨_, rfl, .inl ⟨rfl, h⟩⟩
     · exact ⟨_, rfl, .inr ⟨rfl, h⟩⟩
   dsimp only [List.cons_append, List.nil_append]
   refine r_stepP rfl rfl rfl rfl (o_not rfl) ?_
   refine r_done ?_
   refine r_tn (kh7 _ _ _ ?_)
   clear kh7
   refine r_condB rfl (fun c23 => ?_) (fun c23 => ?_)
   ·
    refine r_ret ?_
    refine r_tr ?_
    refine r_br ?_
    refine r_tr ?_
    refine r_tr ?_
    refine r_br ?_
    have hJx2 : Jx _ m2 := (hy3.resolve_left (fun h => by rw [h.1] at c23; cases c23)).2
    exact r_fin0 [m2, [(b5, blk [.slice (some ⟨bin, 0, none⟩) n n] 42)], [(b4, blk [.int .i64 (c : Int)] 3)], [(b3, blk [.slice (some ⟨bo, 0, none⟩) n n] 77)], [(bin, blk (boolsG st.2) 4)], [(bo, blk vs 35)], ms.flatten] Try.results61 (by repeat (first | exact Sub.nil | refine Sub.pick ?_ | refine Sub.castO rfl ?_ | refine Sub.skip ?_)) ⟨rfl, m2, _, rfl, .inr ⟨_, ⟨k, hgl, hys, st.2, hI.len, rfl⟩, hJx2⟩⟩
   ·
    refine r_skip ?_
    refine r_tn (kh6 _ _ _ ?_)
    clear kh6
    refine r_seq fun K8 kh8 => ?_
    have hJ2 : J _ m2 := (hy3.resolve_right (fun h => by rw [h.1] at c23; cases c23)).2
    obtain ⟨Ar, cr, hrv, hrow⟩ := row_blk hR (i := vn) (by rw [nrows_len]; exact hvn)
    rw [nrows_get] at hrv hrow
    have hrll := hrl vn
    refine r_old ?_
    refine f_regionS rfl (by decide +kernel) ?_
    refine f_stillP rfl rfl rfl (o_load Try.isAgg77 rfl (rdA rfl)) ?_
    refine f_stillP rfl rfl rfl (o_move rfl) ?_
    refine f_stillP rfl rfl rfl (o_idx sl35 rfl rfl (ow) ⟨by omega, by omega, by first | omega | (simp; done) | (simp; omega)⟩) ?_
    refine f_stillP rfl rfl rfl (o_load Try.isAgg3 rfl (rdA (v := .int .i64 (vn : Int)) (by rw [← hpre, hdc]; simp [ints]))) ?_
    refine f_stillP rfl rfl rfl (o_idx sl77 rfl rfl (vn) ⟨by omega, by omega, by first | omega | (simp; done) | (simp; omega)⟩) ?_
    refine f_stillP rfl rfl rfl (o_load Try.isAgg35 rfl (rdA hrv)) ?_
    refine f_stillP rfl rfl rfl (o_len sl35 rfl) ?_
    refine f_stillP rfl rfl rfl (o_move rfl) ?_
    refine f_stillD ?_
    refine r_new ?_
    refine r_tn (kh8 _ _ _ ?_)
    clear kh8
    refine r_block ?_
    refine r_loop (α := Nat × BSt × Value × Seg) (fun ⟨j, s2, qv2, qm2⟩ => []) [0, 1, 3, 29, 30] (fun ⟨j, s2, qv2, qm2⟩ => [(31, .int .i64 (j : Int)), (5, qv2)]) (fun ⟨j, s2, qv2, qm2⟩ => [[(b5, blk [.slice (some ⟨bin, 0, none⟩) n n] 42)], [(b4, blk [.int .i64 (c : Int)] 3)], [(b3, blk [.slice (some ⟨bo, 0, none⟩) n n] 77)], [(bin, blk (boolsG s2.2) 4)], [(bo, blk vs 35)], ms.flatten, qm2, m2]) (fun ⟨j, s2, qv2, qm2⟩ => j ≤ (nbrs (vn : Int) l).length ∧ s2 = bpush ((nbrs (vn : Int) l).take j) st ∧ BInv n s2 ∧ st.1.length ≤ s2.1.length ∧ OwnQ 3 qv2 (ints (s2.1.drop k)) qm2) (fun ⟨j, s2, qv2, qm2⟩ => (nbrs (vn : Int) l).length - j) (0, st, .slice (some ⟨bw, ow, none⟩) (ints (st.1.drop k)).length cw, [(bw, blk (pre ++ (ints (st.1.drop k) ++ sp)) 3)]) rfl ?_ ?_ ?_ ?_
    · exact (by repeat (first | exact trivial | refine ⟨rfl, ?_⟩))
    · repeat (first | exact Sub.nil | refine Sub.pick ?_ | refine Sub.castO rfl ?_ | refine Sub.skip ?_)
    · exact ⟨Nat.zero_le _, rfl, hI, Nat.le_refl _, hQ0⟩
    ·
     rintro ⟨j, s2, qv2, qm2⟩ ⟨hjl, hs2, hI2, hl2, hQ2⟩
     have hIo2 := hI2.out
     refine r_envC (e := [(31, _), (5, _), (0, _), (1, _), (3, _), (29, _), (30, _)]) (by repeat (first | exact trivial | refine ⟨rfl, ?_⟩)) ?_
     refine r_seq fun K9 kh9 => ?_
     refine r_region ?_
     refine r_stepP rfl rfl rfl rfl (o_lss rfl rfl) ?_
     refine r_done ?_
     refine r_tn (kh9 _ _ _ ?_)
     clear kh9
     refine r_seq fun K10 kh10 => ?_
     refine r_cond rfl (fun c32 => ?_) (fun c32 => ?_)
     ·
      refine r_skip ?_
      refine r_tn (kh10 _ _ _ ?_)
      clear kh10
      refine r_seq fun K11 kh11 => ?_
      refine r_block ?_
      refine r_seq fun K12 kh12 => ?_
      refine r_region ?_
      have hj : j < (nbrs (vn : Int) l).length := by omega
      obtain ⟨br, spr, rfl, hbr⟩ := hrow (by omega)
      have hur := hrng vn hvn _ (List.getElem_mem hj)
      obtain ⟨un, hue⟩ : ∃ un : Nat, (nbrs (vn : Int) l)[j] = (un : Int) := ⟨((nbrs (vn : Int) l)[j]).toNat, by omega⟩
      refine r_stepP rfl rfl rfl rfl (o_idx sl35 rfl rfl (j) ⟨by omega, by omega, by first | omega | (simp; done) | (simp; omega)⟩) ?_
      refine r_stepP rfl rfl rfl rfl (o_load Try.isAgg3 rfl (rdG (v := .int .i64 ((un : Nat) : Int)) hbr (app_get (by rw [ints_get hj, hue])))) ?_
      refine r_stepP rfl rfl rfl rfl (o_assign rfl) ?_
      refine r_done ?_
      refine r_tn (kh12 _ _ _ ?_)
      clear kh12
      refine r_seq fun K13 kh13 => ?_
      refine r_region ?_
      refine r_stepP rfl rfl rfl rfl (o_load Try.isAgg42 rfl (rdA rfl)) ?_
      refine r_stepP rfl rfl rfl rfl (o_move rfl) ?_
      refine r_stepP rfl rfl rfl rfl (o_idx sl42 rfl rfl (un) ⟨by omega, by omega, by first | omega | (simp; done) | (simp; omega)⟩) ?_
      refine r_stepP rfl rfl rfl rfl (o_load Try.isAgg4 rfl (rdA (boolsG_at (by rw [hI2.len]; omega)))) ?_
      refine r_stepP rfl rfl rfl rfl (o_not rfl) ?_
      refine r_done ?_
      refine r_tn (kh13 _ _ _ ?_)
      clear kh13
      refine r_condB rfl (fun c39 => ?_) (fun c39 => ?_)
      ·
       have hbu : s2.2.getD un false = false := by simpa using c39
       have hpn : (s2.1 ++ [((un : Nat) : Int)], s2.2.set un true) = bpush ((nbrs (vn : Int) l).take (j + 1)) st := by rw [bpush_next hj, ← hs2, bpush1, hue, Int.toNat_natCast, if_neg (by rw [hbu]; simp)]
       refine r_seq fun K14 kh14 => ?_
       refine r_region ?_
       refine r_stepP rfl rfl rfl rfl (o_load Try.isAgg42 rfl (rdA rfl)) ?_
       refine r_stepP rfl rfl rfl rfl (o_move rfl) ?_
       refine r_stepP rfl rfl rfl rfl (o_idx sl42 rfl rfl (un) ⟨by omega, by omega, by first | omega | (simp; done) | (simp; omega)⟩) ?_
       refine r_step0 rfl rfl (Does.toR rfl (o_store Try.sizeOf4 rfl rfl rfl rfl (by have := hI2.len; simp [boolsG]; omega) (boolsG (s2.2.set un true)) (boolsG_set ..) ?_))
       refine r_done ?_
       refine r_tn (kh14 _ _ _ ?_)
       clear kh14
       refine r_region ?_
       refine r_stepP rfl rfl rfl rfl (o_move rfl) ?_
       refine r_stepP rfl rfl rfl rfl (o_move rfl) ?_
       refine r_step rfl rfl rfl (Does.toR rfl (o_slice1 el35 (by omega) rfl rfl rfl fun b45 => ?_))
       refine r_step rfl rfl rfl (Does.toR rfl (o_appendO el35 rfl rfl hQ2 (ys := [.int .i64 ((un : Nat) : Int)]) ⟨(rdA rfl), trivial⟩ rfl (by omega) rfl (by rw [ints_length, List.length_drop]; omega) (by rw [ints_length, List.length_drop]; omega) fun v46 m46 o46 => ?_))
       refine r_stepP rfl rfl rfl rfl (o_assign rfl) ?_
       refine r_done ?_
       refine r_bn ?_
       refine r_tn (kh11 _ _ _ ?_)
       clear kh11
       refine r_region ?_
       refine r_stepP rfl rfl rfl rfl (o_add rfl rfl _ (wrap_i64 (by omega))) ?_
       refine r_stepP rfl rfl rfl rfl (o_move rfl) ?_
       refine r_done ?_
       refine r_tn (r_again (j + 1, (s2.1 ++ [((un : Nat) : Int)], s2.2.set un true), v46, m46) (by first | omega | (dsimp only; omega) | (simp; omega)) rfl ⟨by omega, hpn, by rw [hpn, bpush_next hj, ← hs2]; exact hI2.push1 hur, by simp; omega, by rw [List.drop_append_of_le_length (by omega), ints_append]; exact o46⟩ ?_ ?_ ?_)
       · exact (by repeat (first | exact trivial | refine ⟨rfl, ?_⟩))
       · exact (by repeat (first | exact trivial | refine ⟨rfl, ?_⟩))
       · repeat (first | exact Sub.nil | refine Sub.pick ?_ | refine Sub.castO rfl ?_ | refine Sub.skip ?_)
      ·
       have hbu : s2.2.getD un false = true := by simpa using c39
       refine r_skip ?_
       refine r_bn ?_
       refine r_tn (kh11 _ _ _ ?_)
       clear kh11
       refine r_region ?_
       refine r_stepP rfl rfl rfl rfl (o_add rfl rfl _ (wrap_i64 (by omega))) ?_
       refine r_stepP rfl rfl rfl rfl (o_move rfl) ?_
       refine r_done ?_
       refine r_tn (r_again (j + 1, s2, qv2, qm2) (by first | omega | (dsimp only; omega) | (simp; omega)) rfl ⟨by omega, by rw [bpush_next hj, ← hs2, bpush1, if_pos (by rw [hue] at *; simpa using hbu)], hI2, hl2, hQ2⟩ ?_ ?_ ?_)
       · exact (by repeat (first | exact trivial | refine ⟨rfl, ?_⟩))
       · exact (by repeat (first | exact trivial | refine ⟨rfl, ?_⟩))
       · repeat (first | exact Sub.nil | refine Sub.pick ?_ | refine Sub.castO rfl ?_ | refine Sub.skip ?_)
     ·
      refine r_exit ?_
      refine r_te ?_
      clear kh10
      refine r_te ?_
      refine r_be ?_
      refine r_bn ?_
      refine r_tn (kh5 _ _ _ ?_)
      clear kh5
      have hst2 : s2 = bgo (fun v : Nat => nbrs (v : Int) l) (bstart c b0) (k + 1) := by
        rw [hs2, List.take_of_length_le (by omega)]
        show _ = bstep _ k (bgo (fun v : Nat => nbrs (v : Int) l) (bstart c b0) k)
        rw [← hst, bstep_at hkl2, ← hv, Int.toNat_natCast]
      have hq2l := ints_length (s2.1.drop k)
      rw [List.length_drop] at hq2l
      have hQ2' := hQ2
      obtain ⟨bw2, ow2, cw2, pre2, sp2, rfl, rfl, hq21, hq22, hq23, hq24⟩ := hQ2'
      obtain ⟨st2, rfl⟩ : ∃ st2, st2 = s2 := ⟨_, rfl⟩
      have hv2 : st2.1[k]'(by omega) = (vn : Int) := by
        obtain ⟨r, hr⟩ := bpush_ext ((nbrs (vn : Int) l).take j) st
        rw [← hs2] at hr
        simp only [hr]
        rw [List.getElem_append_left hkl2]; exact hv.symm
      refine r_region ?_
      refine r_stepP rfl rfl rfl rfl (o_move rfl) ?_
      refine r_stepP rfl rfl rfl rfl (o_slice sl35 rfl rfl rfl rfl (fun h => by cases h) 1 _ _ (.inr ⟨_, _, rfl, by omega⟩) (.inl ⟨rfl, rfl⟩) (.inl ⟨rfl, rfl⟩) ⟨by omega, by omega, by omega⟩ _ rfl) ?_
      refine r_stepP rfl rfl rfl rfl (o_assign rfl) ?_
      refine r_done ?_
      have hnx : bgo (fun v : Nat => nbrs (v : Int) l) (bstart c b0) (k + 1) = st2 := hst2.symm
      rw [← hnx]
      refine r_tn (r_again (k + 1, .slice (if cw2 = 1 then some ⟨bw2, ow2, none⟩ else (some ⟨bw2, ow2, none⟩ : Option Addr).map (·.add (1 * 1))) ((ints ((bgo (fun v : Nat => nbrs (v : Int) l) (bstart c b0) (k + 1)).1.drop k)).length - 1) (cw2 - 1), [(bw2, blk (pre2 ++ (ints ((bgo (fun v : Nat => nbrs (v : Int) l) (bstart c b0) (k + 1)).1.drop k) ++ sp2)) 3)], m2) (by first | omega | (dsimp only; omega) | (simp; omega)) rfl ⟨by rw [hnx]; omega, by rw [hnx]; refine OwnQ.tail (x := .int .i64 (vn : Int)) ?_; rw [show Value.int .i64 (vn : Int) :: ints (st2.1.drop (k + 1)) = ints (st2.1.drop k) from by rw [drop_cons_of (show k < st2.1.length by omega), hv2]; rfl]; exact hQ2, by rw [← hys]; exact hJ2⟩ ?_ ?_ ?_)
      · exact (by repeat (first | exact trivial | refine ⟨rfl, ?_⟩))
      · exact (by repeat (first | exact trivial | refine ⟨rfl, ?_⟩))
      · repeat (first | exact Sub.nil | refine Sub.pick ?_ | refine Sub.castO rfl ?_ | refine Sub.skip ?_)
  ·
   have hke : st.1.length ≤ k := by omega
   have hfin : bfs n (fun v : Nat => nbrs (v : Int) l) c b0 = st := by rw [hst]; exact bgo_fin (by omega) (by rw [← hst]; exact hke)
   have htk : (bfs n (fun v : Nat => nbrs (v : Int) l) c b0).1.take k = (bfs n (fun v : Nat => nbrs (v : Int) l) c b0).1 := List.take_of_length_le (by rw [hfin]; exact hke)
   rw [htk] at hJ
   refine r_exit ?_
   refine r_te ?_
   clear kh3
   refine r_te ?_
   refine r_be ?_
   exact r_fin0n [mJ, [(b5, blk [.slice (some ⟨bin, 0, none⟩) n n] 42)], [(b4, blk [.int .i64 (c : Int)] 3)], [(b3, blk [.slice (some ⟨bo, 0, none⟩) n n] 77)], [(bin, blk (boolsG st.2) 4)], [(bo, blk vs 35)], ms.flatten] Try.results61 (by repeat (first | exact Sub.nil | refine Sub.pick ?_ | refine Sub.castO rfl ?_ | refine Sub.skip ?_)) ⟨rfl, mJ, _, rfl, .inl ⟨_, ⟨rfl, by rw [hfin]⟩, hJ⟩⟩

end Go.Proofs.Ytbjiejhdgkpjcaa

/- Plain laws: union and find with halved paths; tidy labels; what is connected. No program in sight. -/

namespace Go.Proofs.Ytbjiejhdgkpjcaa
open Go Fly
set_option linter.unusedVariables false

def nats (l : List Nat) : List Value := l.map (fun x : Nat => .int .i64 (x : Int))
theorem nats_length (l : List Nat) : (nats l).length = l.length := by simp [nats]
theorem nats_get {l : List Nat} {i : Nat} (h : i < l.length) : (nats l)[i]? = some (.int .i64 (l[i] : Int)) := by simp [nats, h]
theorem nats_set (l : List Nat) (i x : Nat) : (nats l).set i (.int .i64 (x : Int)) = nats (l.set i x) := by simp [nats, List.map_set]
theorem nats_replicate (n : Nat) : (List.replicate n [Value.int .i64 0]).flatten = nats (List.replicate n 0) := by
  induction n with
  | zero => rfl
  | succ n ih => simp only [List.replicate_succ, List.flatten_cons, ih]; rfl

theorem nats_set_get {l : List Nat} {i x : Nat} (h : i < l.length) : (nats (l.set i x))[i]? = some (.int .i64 (x : Int)) := by simp [nats, h]

/-! ### roots -/
/-- Each entry leads down or stays. -/
def Down (up : List Nat) : Prop := ∀ i (h : i < up.length), up[i] ≤ i

/-- Where one comes to from v. -/
def rootOf (up : List Nat) (v : Nat) : Nat := if h : v < up.length then if up[v] < v then rootOf up up[v] else v else v
termination_by v

theorem rootOf_stay {up : List Nat} {v : Nat} (h : v < up.length) (hs : up[v] = v) : rootOf up v = v := by
  rw [rootOf, dif_pos h, if_neg (by omega)]
theorem rootOf_go {up : List Nat} (hd : Down up) {v : Nat} (h : v < up.length) (hs : up[v] ≠ v) : rootOf up v = rootOf up up[v] := by
  rw [rootOf, dif_pos h, if_pos (by have := hd v h; omega)]
theorem rootOf_le {up : List Nat} (v : Nat) : rootOf up v ≤ v := by
  induction v using Nat.strongRecOn with
  | _ v ih =>
    rw [rootOf]
    split
    · split
      · rename_i h hlt; exact Nat.le_trans (ih _ hlt) (Nat.le_of_lt hlt)
      · exact Nat.le_refl _
    · exact Nat.le_refl _
theorem rootOf_root {up : List Nat} (hd : Down up) {v : Nat} (h : v < up.length) : ∃ hr : rootOf up v < up.length, up[rootOf up v] = rootOf up v := by
  induction v using Nat.strongRecOn with
  | _ v ih =>
    by_cases hs : up[v] = v
    · rw [rootOf_stay h hs]; exact ⟨h, hs⟩
    · have hle := hd v h
      rw [rootOf_go hd h hs]
      exact ih _ (by omega) (by omega)
theorem rootOf_idem {up : List Nat} (hd : Down up) {v : Nat} (h : v < up.length) : rootOf up (rootOf up v) = rootOf up v := by
  obtain ⟨hr, he⟩ := rootOf_root hd h
  exact rootOf_stay hr he

/-- Halving a path. -/
theorem down_halve {up : List Nat} (hd : Down up) {v : Nat} (h : v < up.length) (h2 : up[v] < up.length) : Down (up.set v up[up[v]]) := by
  intro i hi
  rw [List.length_set] at hi
  rw [List.getElem_set]
  split
  · rename_i e; subst e; exact Nat.le_trans (hd _ h2) (hd _ h)
  · exact hd i hi

theorem rootOf_halve {up : List Nat} (hd : Down up) {v : Nat} (h : v < up.length) (h2 : up[v] < up.length) (u : Nat) : rootOf (up.set v up[up[v]]) u = rootOf up u := by
  have hd' := down_halve hd h h2
  induction u using Nat.strongRecOn with
  | _ u ih =>
    by_cases hu : u < up.length
    · have hu' : u < (up.set v up[up[v]]).length := by simpa using hu
      by_cases e : v = u
      · subst e
        by_cases hs : up[v] = v
        · rw [rootOf_stay h hs, rootOf_stay hu' (by simp [hs])]
        · have hlt : up[v] < v := by have := hd v h; omega
          have hle : up[up[v]] ≤ up[v] := hd _ h2
          rw [rootOf_go hd h hs]
          have hg : (up.set v up[up[v]])[v] = up[up[v]] := by simp
          rw [rootOf_go hd' hu' (by rw [hg]; omega), hg, ih _ (by omega)]
          by_cases hs2 : up[up[v]] = up[v]
          · rw [hs2]
          · rw [rootOf_go hd h2 hs2]
      · have hg : (up.set v up[up[v]])[u] = up[u] := by rw [List.getElem_set, if_neg e]
        by_cases hs : up[u] = u
        · rw [rootOf_stay hu hs, rootOf_stay hu' (by rw [hg, hs])]
        · rw [rootOf_go hd hu hs, rootOf_go hd' hu' (by rw [hg]; exact hs), hg, ih _ (by have := hd u hu; omega)]
    · rw [rootOf, rootOf, dif_neg (by simpa using hu), dif_neg hu]

/-- Two roots put together. -/
theorem down_join {up : List Nat} (hd : Down up) {x y : Nat} : Down (up.set (max x y) (min x y)) := by
  intro i hi
  rw [List.length_set] at hi
  rw [List.getElem_set]
  split
  · rename_i e; subst e; omega
  · exact hd i hi

theorem rootOf_join {up : List Nat} (hd : Down up) {x y : Nat} (hx : x < up.length) (hy : y < up.length) (rx : up[x] = x) (ry : up[y] = y) (u : Nat) (hu : u < up.length) :
    rootOf (up.set (max x y) (min x y)) u = if rootOf up u = max x y then min x y else rootOf up u := by
  have hd' := down_join hd (x := x) (y := y)
  have hm : min x y < up.length := by omega
  have hM : max x y < up.length := by omega
  have rm : up[min x y] = min x y := by
    rcases Nat.le_total x y with h | h
    · simp only [Nat.min_eq_left h]; exact rx
    · simp only [Nat.min_eq_right h]; exact ry
  have rM : up[max x y] = max x y := by
    rcases Nat.le_total x y with h | h
    · simp only [Nat.max_eq_right h]; exact ry
    · simp only [Nat.max_eq_left h]; exact rx
  generalize hp : min x y = p at *
  generalize hq : max x y = q at *
  have hpq : p ≤ q := by omega
  induction u using Nat.strongRecOn with
  | _ u ih =>
    have hu' : u < (up.set q p).length := by simpa using hu
    by_cases e : q = u
    · subst e
      rw [rootOf_stay hu rM, if_pos rfl]
      by_cases hs : p = q
      · subst hs; rw [rootOf_stay hu' (by simp)]
      · have hg : (up.set q p)[q] = p := by simp
        rw [rootOf_go hd' hu' (by rw [hg]; exact hs), hg, ih p (by omega) hm, rootOf_stay hm rm, if_neg hs]
    · have hg : (up.set q p)[u] = up[u] := by rw [List.getElem_set, if_neg e]
      by_cases hs : up[u] = u
      · rw [rootOf_stay hu hs, if_neg (fun h => e h.symm), rootOf_stay hu' (by rw [hg, hs])]
      · rw [rootOf_go hd hu hs, rootOf_go hd' hu' (by rw [hg]; exact hs), hg]
        have := hd u hu
        exact ih _ (by omega) (by omega)

/-! ### what is connected -/
/-- The ends of some arcs, as vertices. -/
def ends2 (l : List Arc) : List (Nat × Nat) := l.map (fun x => (x.src.toNat, x.dst.toNat))

inductive Conn (es : List (Nat × Nat)) : Nat → Nat → Prop
  | refl (v : Nat) : Conn es v v
  | step {u x y : Nat} (h : Conn es u x) (he : (x, y) ∈ es ∨ (y, x) ∈ es) : Conn es u y

theorem Conn.trans {es : List (Nat × Nat)} {u v x : Nat} (h : Conn es u v) (k : Conn es v x) : Conn es u x := by
  induction k with
  | refl => exact h
  | step _ he ih => exact .step ih he
theorem Conn.edge {es : List (Nat × Nat)} {u v : Nat} (h : (u, v) ∈ es ∨ (v, u) ∈ es) : Conn es u v := .step (.refl u) h
theorem Conn.symm {es : List (Nat × Nat)} {u v : Nat} (h : Conn es u v) : Conn es v u := by
  induction h with
  | refl => exact .refl _
  | step _ he ih => exact (Conn.edge he.symm).trans ih
theorem Conn.mono {es es' : List (Nat × Nat)} (hs : ∀ e ∈ es, e ∈ es') {u v : Nat} (h : Conn es u v) : Conn es' u v := by
  induction h with
  | refl => exact .refl _
  | step _ he ih => exact .step ih (he.imp (hs _) (hs _))

/-- The roots tell what is connected by some edges. -/
def Tells (up : List Nat) (es : List (Nat × Nat)) : Prop := ∀ u v, u < up.length → v < up.length → (rootOf up u = rootOf up v ↔ Conn es u v)

theorem conn_eq_of_up {es : List (Nat × Nat)} {f : Nat → Nat} (h : ∀ e ∈ es, f e.1 = f e.2) {u v : Nat} (hc : Conn es u v) : f u = f v := by
  induction hc with
  | refl => rfl
  | step _ he ih =>
    rcases he with he | he
    · exact ih.trans (h _ he)
    · exact ih.trans (h _ he).symm

theorem tells_start (n : Nat) : Tells (List.range n) [] := by
  intro u v hu hv
  have hr : ∀ u, u < n → rootOf (List.range n) u = u := fun u hu => rootOf_stay (by simpa using hu) (by simp)
  rw [List.length_range] at hu hv
  rw [hr u hu, hr v hv]
  constructor
  · rintro rfl; exact .refl _
  · intro h
    cases h with
    | refl => rfl
    | step _ he => simp at he

theorem tells_join {up : List Nat} {es : List (Nat × Nat)} {a b : Nat} (hd : Down up) (ht : Tells up es) (hes : ∀ e ∈ es, e.1 < up.length ∧ e.2 < up.length) (ha : a < up.length) (hb : b < up.length) :
    Tells (up.set (max (rootOf up a) (rootOf up b)) (min (rootOf up a) (rootOf up b))) (es ++ [(a, b)]) := by
  obtain ⟨hra, ea⟩ := rootOf_root hd ha
  obtain ⟨hrb, eb⟩ := rootOf_root hd hb
  intro u v hu hv
  rw [List.length_set] at hu hv
  rw [rootOf_join hd hra hrb ea eb u hu, rootOf_join hd hra hrb ea eb v hv]
  have hinc : ∀ {u v : Nat}, Conn es u v → Conn (es ++ [(a, b)]) u v := fun h => h.mono (fun e he => by simp [he])
  have hab : Conn (es ++ [(a, b)]) a b := .edge (.inl (by simp))
  constructor
  · intro h
    have hau : rootOf up u = rootOf up a → Conn (es ++ [(a, b)]) u a := fun e => hinc ((ht u a hu ha).1 e)
    have hbu : rootOf up u = rootOf up b → Conn (es ++ [(a, b)]) u b := fun e => hinc ((ht u b hu hb).1 e)
    have hav : rootOf up v = rootOf up a → Conn (es ++ [(a, b)]) v a := fun e => hinc ((ht v a hv ha).1 e)
    have hbv : rootOf up v = rootOf up b → Conn (es ++ [(a, b)]) v b := fun e => hinc ((ht v b hv hb).1 e)
    -- each of the two is of a's class or b's, or both are as before
    have key : ∀ w, w < up.length → (rootOf up w = rootOf up a ∨ rootOf up w = rootOf up b) → Conn (es ++ [(a, b)]) w a := fun w hw hor => by
      rcases hor with e | e
      · exact hinc ((ht w a hw ha).1 e)
      · exact (hinc ((ht w b hw hb).1 e)).trans hab.symm
    by_cases h1 : rootOf up u = max (rootOf up a) (rootOf up b) <;> by_cases h2 : rootOf up v = max (rootOf up a) (rootOf up b)
    · exact hinc ((ht u v hu hv).1 (h1.trans h2.symm))
    · rw [if_pos h1, if_neg h2] at h
      exact (key u hu (by omega)).trans (key v hv (by omega)).symm
    · rw [if_neg h1, if_pos h2] at h
      exact (key u hu (by omega)).trans (key v hv (by omega)).symm
    · rw [if_neg h1, if_neg h2] at h
      exact hinc ((ht u v hu hv).1 h)
  · intro h
    refine conn_eq_of_up (es := es ++ [(a, b)]) (f := fun w => if rootOf up w = max (rootOf up a) (rootOf up b) then min (rootOf up a) (rootOf up b) else rootOf up w) ?_ h
    intro e he
    rw [List.mem_append, List.mem_singleton] at he
    rcases he with he | rfl
    · obtain ⟨h1, h2⟩ := hes e he
      have := (ht e.1 e.2 h1 h2).2 (.edge (.inl he))
      simp only [this]
    · dsimp only
      split <;> split <;> omega

/-! ### tidy labels -/
/-- How many labels the first k vertices have. -/
def nxt (p : List Nat) : Nat → Nat
  | 0 => 0
  | k + 1 => if p[k]? = some (nxt p k) then nxt p k + 1 else nxt p k

def Tidy (p : List Nat) : Prop := ∀ k (h : k < p.length), p[k] ≤ nxt p k

theorem nxt_take (p q : List Nat) : ∀ k, (∀ j, j < k → p[j]? = q[j]?) → nxt p k = nxt q k
  | 0, _ => rfl
  | k + 1, h => by rw [nxt, nxt, nxt_take p q k (fun j hj => h j (by omega)), h k (by omega)]

theorem nxt_le (p : List Nat) : ∀ k, nxt p k ≤ k
  | 0 => Nat.le_refl _
  | k + 1 => by have := nxt_le p k; rw [nxt]; split <;> omega

theorem nxt_mono (p : List Nat) {j k : Nat} (h : j ≤ k) : nxt p j ≤ nxt p k := by
  induction k with
  | zero => rw [Nat.le_zero.1 h]; exact Nat.le_refl _
  | succ k ih =>
    rcases Nat.lt_or_ge j (k + 1) with h' | h'
    · have := ih (by omega); rw [nxt]; split <;> omega
    · rw [show j = k + 1 from by omega]; exact Nat.le_refl _

/-- A label below the next one has been seen. -/
theorem seen {p : List Nat} : ∀ k, k ≤ p.length → ∀ x, x < nxt p k → ∃ j, ∃ h : j < p.length, j < k ∧ p[j] = x
  | 0, _, x, hx => by simp [nxt] at hx
  | k + 1, hk, x, hx => by
    rw [nxt] at hx
    split at hx
    · rename_i he
      by_cases hxk : x < nxt p k
      · obtain ⟨j, h, hj, e⟩ := seen k (by omega) x hxk
        exact ⟨j, h, by omega, e⟩
      · have hkl : k < p.length := by omega
        rw [List.getElem?_eq_getElem hkl] at he
        exact ⟨k, hkl, by omega, by have := Option.some.inj he; omega⟩
    · obtain ⟨j, h, hj, e⟩ := seen k (by omega) x hx
      exact ⟨j, h, by omega, e⟩

theorem below_next {p : List Nat} (ht : Tidy p) {j k : Nat} (h : j < p.length) (hjk : j < k) : p[j] < nxt p k := by
  have h1 : p[j] < nxt p (j + 1) := by
    have := ht j h
    rw [nxt, List.getElem?_eq_getElem h]
    split
    · rename_i e; have := Option.some.inj e; omega
    · rename_i e; have : p[j] ≠ nxt p j := fun e' => e (by rw [e']); omega
  exact Nat.lt_of_lt_of_le h1 (nxt_mono p hjk)

/-- Tidy labels are told by which vertices have the same. -/
theorem tidy_unique {p q : List Nat} (hp : Tidy p) (hq : Tidy q) (hl : p.length = q.length) (h : ∀ i j (hi : i < p.length) (hj : j < p.length), p[i] = p[j] ↔ q[i]'(hl ▸ hi) = q[j]'(hl ▸ hj)) : p = q := by
  have key : ∀ k j : Nat, j < k → p[j]? = q[j]? := by
    intro k
    induction k with
    | zero => intro j hj; omega
    | succ k ih =>
      intro j hj
      rcases Nat.lt_or_ge j k with h' | h'
      · exact ih j h'
      · obtain rfl : j = k := by omega
        by_cases hjl : j < p.length
        · have hjq : j < q.length := hl ▸ hjl
          have hn := nxt_take p q j ih
          rw [List.getElem?_eq_getElem hjl, List.getElem?_eq_getElem hjq]
          congr 1
          have a := hp j hjl
          have b := hq j hjq
          by_cases e1 : p[j] < nxt p j
          · obtain ⟨i, hi, hij, e⟩ := seen j (by omega) _ e1
            have e2 := (h i j hi hjl).1 e
            have e3 := ih i hij
            rw [List.getElem?_eq_getElem hi, List.getElem?_eq_getElem (hl ▸ hi)] at e3
            have := Option.some.inj e3
            omega
          · by_cases e2 : q[j] < nxt q j
            · obtain ⟨i, hi, hij, e⟩ := seen j (by omega) _ e2
              have hi' : i < p.length := hl ▸ hi
              have e4 := (h i j hi' hjl).2 e
              have := below_next hp hi' hij
              omega
            · omega
        · rw [List.getElem?_eq_none (by omega), List.getElem?_eq_none (by omega)]
  exact List.ext_getElem? fun i => key (i + 1) i (by omega)

/-- The labels of a graph's parts. -/
structure IsParts (n : Nat) (es : List (Nat × Nat)) (p : List Nat) : Prop where
  len : p.length = n
  tidy : Tidy p
  conn : ∀ u v (hu : u < p.length) (hv : v < p.length), p[u] = p[v] ↔ Conn es u v

theorem IsParts.unique {n : Nat} {es es' : List (Nat × Nat)} {p q : List Nat} (hp : IsParts n es p) (hq : IsParts n es' q) (h : ∀ u v, u < n → v < n → (Conn es u v ↔ Conn es' u v)) : p = q :=
  tidy_unique hp.tidy hq.tidy (hp.len.trans hq.len.symm) fun i j hi hj =>
    (hp.conn i j hi hj).trans ((h i j (hp.len ▸ hi) (hp.len ▸ hj)).trans (hq.conn i j (by rw [hq.len, ← hp.len]; exact hi) (by rw [hq.len, ← hp.len]; exact hj)).symm)

/-! ### numbering the roots -/
/-- What has been written when the first k vertices have their labels. -/
structure Labelled (up : List Nat) (k : Nat) (out : List Nat) (next : Nat) : Prop where
  len : out.length = up.length
  next : nxt out k = next
  tidy : ∀ j (h : j < out.length), j < k → out[j] ≤ nxt out j
  same : ∀ i j (hi : i < out.length) (hj : j < out.length), i < k → j < k → (out[i] = out[j] ↔ rootOf up i = rootOf up j)

theorem labelled_start (up : List Nat) : Labelled up 0 (List.replicate up.length 0) 0 :=
  ⟨by simp, rfl, fun j _ h => by omega, fun i j _ _ h => by omega⟩

theorem nxt_set {out : List Nat} {k x : Nat} : ∀ j, j ≤ k → nxt (out.set k x) j = nxt out j := fun j hj =>
  nxt_take _ _ j fun i hi => by rw [List.getElem?_set_ne (by omega)]

/-- A root gets the next label. -/
theorem labelled_new {up out : List Nat} {k next : Nat} (hd : Down up) (h : Labelled up k out next) (hk : k < up.length) (hr : rootOf up k = k) : Labelled up (k + 1) (out.set k next) (next + 1) := by
  have hl := h.len
  have hb : ∀ j (hj : j < out.length), j < k → out[j] < next := fun j hj hjk => by
    have h1 := h.tidy j hj hjk
    have h2 : nxt out (j + 1) ≤ nxt out k := nxt_mono out hjk
    rw [nxt, List.getElem?_eq_getElem hj] at h2
    have h3 := h.next
    split at h2
    · rename_i e; have := Option.some.inj e; omega
    · rename_i e; have : out[j] ≠ nxt out j := fun e' => e (by rw [e']); omega
  refine ⟨by simp [hl], ?_, fun j hj hjk => ?_, fun i j hi hj hik hjk => ?_⟩
  · rw [nxt, nxt_set k (Nat.le_refl _), h.next, if_pos (by rw [List.getElem?_set_self (by omega)])]
  · rw [List.length_set] at hj
    rw [nxt_set j (by omega), List.getElem_set]
    split
    · rename_i e; subst e; rw [h.next]; exact Nat.le_refl _
    · exact h.tidy j hj (by omega)
  · rw [List.length_set] at hi hj
    rw [List.getElem_set, List.getElem_set]
    have hne : ∀ j (hj : j < out.length), j < k → rootOf up j ≠ k := fun j _ hjk e => by have := rootOf_le (up := up) j; omega
    by_cases e1 : k = i <;> by_cases e2 : k = j
    · subst e1; subst e2; simp
    · subst e1; rw [if_pos rfl, if_neg e2, hr]
      have := hb j hj (by omega)
      have := hne j hj (by omega)
      constructor
      · intro; omega
      · intro e; exact absurd e.symm this
    · subst e2; rw [if_pos rfl, if_neg e1, hr]
      have := hb i hi (by omega)
      have := hne i hi (by omega)
      constructor
      · intro; omega
      · intro e; exact absurd e this
    · rw [if_neg e1, if_neg e2]; exact h.same i j hi hj (by omega) (by omega)

/-- A vertex gets its root's label. -/
theorem labelled_old {up out : List Nat} {k next : Nat} (hd : Down up) (h : Labelled up k out next) (hk : k < up.length) (hr : rootOf up k ≠ k) (hro : rootOf up k < out.length) : Labelled up (k + 1) (out.set k out[rootOf up k]) next := by
  have hl := h.len
  have hrk : rootOf up k < k := by have := rootOf_le (up := up) k; omega
  have hlt : out[rootOf up k] < next := by
    have h1 := h.tidy _ hro hrk
    have h2 : nxt out (rootOf up k + 1) ≤ nxt out k := nxt_mono out hrk
    rw [nxt, List.getElem?_eq_getElem hro] at h2
    have h3 := h.next
    split at h2
    · rename_i e; have := Option.some.inj e; omega
    · rename_i e; have : out[rootOf up k] ≠ nxt out (rootOf up k) := fun e' => e (by rw [e']); omega
  have hid := rootOf_idem hd hk
  refine ⟨by simp [hl], ?_, fun j hj hjk => ?_, fun i j hi hj hik hjk => ?_⟩
  · rw [nxt, nxt_set k (Nat.le_refl _), h.next, if_neg]
    rw [List.getElem?_set_self (by omega)]
    intro e; have := Option.some.inj e; omega
  · rw [List.length_set] at hj
    rw [nxt_set j (by omega), List.getElem_set]
    split
    · rename_i e; subst e; rw [h.next]; omega
    · exact h.tidy j hj (by omega)
  · rw [List.length_set] at hi hj
    rw [List.getElem_set, List.getElem_set]
    by_cases e1 : k = i <;> by_cases e2 : k = j
    · subst e1; subst e2; simp
    · subst e1; rw [if_pos rfl, if_neg e2, h.same _ j hro hj hrk (by omega), hid]
    · subst e2; rw [if_pos rfl, if_neg e1, h.same i _ hi hro (by omega) hrk, hid]
    · rw [if_neg e1, if_neg e2]; exact h.same i j hi hj (by omega) (by omega)

theorem labelled_end {up out : List Nat} {es : List (Nat × Nat)} {next : Nat} (h : Labelled up up.length out next) (ht : Tells up es) : IsParts up.length es out :=
  ⟨h.len, fun k hk => h.tidy k hk (by rw [← h.len]; exact hk), fun u v hu hv =>
    (h.same u v hu hv (by rw [← h.len]; exact hu) (by rw [← h.len]; exact hv)).trans (ht u v (by rw [← h.len]; exact hu) (by rw [← h.len]; exact hv))⟩

theorem rootOf_two {up : List Nat} (hd : Down up) {v : Nat} (h : v < up.length) (h2 : up[v] < up.length) : rootOf up up[up[v]] = rootOf up v := by
  by_cases hs : up[v] = v
  · simp only [hs]
  · rw [rootOf_go hd h hs]
    by_cases hs2 : up[up[v]] = up[v]
    · rw [hs2]
    · rw [rootOf_go hd h2 hs2]

theorem down_range (n : Nat) : Down (List.range n) := fun i h => by simp
theorem up_range {up : List Nat} {n : Nat} (hl : up.length = n) (h : ∀ j (hj : j < up.length), up[j] = j) : up = List.range n :=
  List.ext_getElem (by simp [hl]) fun i h1 h2 => by simp [h i h1]
theorem gcheck_zero {N : Int} {l : List Arc} (h : (gcheck N l).2 = 0) : 1 ≤ N ∧ N ≤ 1024 ∧ l.length ≤ 8192 ∧ ∀ k (hk : k < l.length), 0 ≤ l[k].src ∧ l[k].src < N ∧ 0 ≤ l[k].dst ∧ l[k].dst < N := by
  unfold gcheck at h
  split at h
  · simp at h
  · split at h
    · simp at h
    · rename_i h1 h2
      refine ⟨by omega, by omega, by omega, fun k hk => ?_⟩
      split at h
      · simp at h
      · rename_i hn
        rw [List.findIdx?_eq_none_iff] at hn
        have := hn _ (List.getElem_mem hk)
        unfold arcBad at this
        simp at this
        omega
theorem ends2_take {l : List Arc} {k : Nat} (hk : k < l.length) : ends2 (l.take (k + 1)) = ends2 (l.take k) ++ [(l[k].src.toNat, l[k].dst.toNat)] := by
  unfold ends2; rw [List.take_succ_eq_append_getElem hk, List.map_append]; rfl
theorem ends2_lt {l : List Arc} {n : Nat} {up : List Nat} (hul : up.length = n) (hg : ∀ k (hk : k < l.length), 0 ≤ l[k].src ∧ l[k].src < (n : Int) ∧ 0 ≤ l[k].dst ∧ l[k].dst < (n : Int)) (k : Nat) :
    ∀ e ∈ ends2 (l.take k), e.1 < up.length ∧ e.2 < up.length := by
  intro e he
  obtain ⟨x, hx, rfl⟩ := List.mem_map.1 he
  obtain ⟨j, hj, rfl⟩ := List.mem_iff_getElem.1 (List.mem_of_mem_take hx)
  have := hg j hj
  dsimp only
  omega
theorem tells_roots {up up' : List Nat} {es : List (Nat × Nat)} (h : Tells up es) (hl : up'.length = up.length) (hr : ∀ x, rootOf up' x = rootOf up x) : Tells up' es := fun u v hu hv => by
  rw [hr, hr]; exact h u v (hl ▸ hu) (hl ▸ hv)
theorem labelled_roots {up up' : List Nat} {k nx : Nat} {out : List Nat} (h : Labelled up k out nx) (hl : up'.length = up.length) (hr : ∀ x, rootOf up' x = rootOf up x) : Labelled up' k out nx :=
  ⟨h.len.trans hl.symm, h.next, h.tidy, fun i j hi hj a b => by rw [hr, hr]; exact h.same i j hi hj a b⟩
theorem tells_next {up up2 : List Nat} {es : List (Nat × Nat)} {a b : Nat} (hd : Down up) (hd2 : Down up2) (ht : Tells up es) (hl : up2.length = up.length) (hr : ∀ x, rootOf up2 x = rootOf up x)
    (hes : ∀ e ∈ es, e.1 < up.length ∧ e.2 < up.length) (ha : a < up.length) (hb : b < up.length) :
    Tells (up2.set (max (rootOf up a) (rootOf up b)) (min (rootOf up a) (rootOf up b))) (es ++ [(a, b)]) := by
  have := tells_join hd2 (tells_roots ht hl hr) (fun e he => by rw [hl]; exact hes e he) (a := a) (b := b) (hl ▸ ha) (hl ▸ hb)
  rw [hr, hr] at this
  exact this

theorem parts_end {up out : List Nat} {es : List (Nat × Nat)} {n k nx : Nat} (hul : up.length = n) (h : Labelled up k out nx) (ht : Tells up es) (hk : k = n) : IsParts n es out := by
  subst hk
  subst hul
  exact labelled_end h ht

/-! ### sums over the vertices -/
theorem idxs_mem {α : Type} {p : α → Bool} {l : List α} {x : Int} (h : x ∈ idxs p l) : ∃ (i : Nat) (hi : i < l.length), x = (i : Int) ∧ p l[i] = true := by
  unfold idxs at h
  obtain ⟨y, hy, rfl⟩ := List.mem_map.1 h
  rw [List.mem_filter] at hy
  obtain ⟨a, i⟩ := y
  have := List.mem_zipIdx hy.1
  have hi : i < l.length := by simpa using this.2.1
  refine ⟨i, hi, rfl, ?_⟩
  have e : a = l[i] := by simpa using this.2.2
  rw [← e]; exact hy.2
theorem idxs_length {α : Type} (p : α → Bool) (l : List α) : (idxs p l).length = l.countP p := by
  unfold idxs
  rw [List.length_map, ← List.countP_eq_length_filter]
  have := List.countP_map (p := p) (f := Prod.fst) (l := l.zipIdx)
  rw [List.zipIdx_map_fst] at this
  rw [this]; rfl

/-- How many arcs are of the first k vertices. -/
theorem count_upto {α : Type} (f : α → Int) (l : List α) (k : Nat) : l.countP (fun x => decide (0 ≤ f x ∧ f x < (k : Int))) + l.countP (fun x => decide (f x = (k : Int))) = l.countP (fun x => decide (0 ≤ f x ∧ f x < ((k + 1 : Nat) : Int))) := by
  induction l with
  | nil => rfl
  | cons x l ih =>
    simp only [List.countP_cons, decide_eq_true_eq]
    split <;> split <;> split <;> omega
theorem count_all {α : Type} (f : α → Int) (l : List α) (n : Nat) (h : ∀ k (hk : k < l.length), 0 ≤ f l[k] ∧ f l[k] < (n : Int)) : l.countP (fun x => decide (0 ≤ f x ∧ f x < (n : Int))) = l.length := by
  rw [List.countP_eq_length]
  intro x hx
  obtain ⟨k, hk, rfl⟩ := List.mem_iff_getElem.1 hx
  simpa using h k hk
theorem count_none {α : Type} (f : α → Int) (l : List α) : l.countP (fun x => decide (0 ≤ f x ∧ f x < ((0 : Nat) : Int))) = 0 := by
  rw [List.countP_eq_zero]
  intro x _
  simp

end Go.Proofs.Ytbjiejhdgkpjcaa
