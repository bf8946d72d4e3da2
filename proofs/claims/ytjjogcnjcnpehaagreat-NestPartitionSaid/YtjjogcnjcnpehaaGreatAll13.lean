import Derived.Test.YtjjogcnjcnpehaaGreatFlyT
import Derived.Test.YtjjogcnjcnpehaaGreatAll4
import Derived.OrdersIn
import Derived.Test.YtjjogcnjcnpehaaGreatAll10
import Derived.Test.YtjjogcnjcnpehaaGreatAll6
import Derived.Test.YtjjogcnjcnpehaaGreatAll11
import Derived.Test.YtjjogcnjcnpehaaGreatAll12
import Derived.Test.YtjjogcnjcnpehaaGreatAll8
import Derived.KernelRfl

/- slices.Chunk over numbers, and the function that it hands back. -/
namespace Go.Proofs.YtjjogcnjcnpehaaGreat
open Go Go.RowKit Fly
set_option linter.unusedVariables false
set_option linter.unusedSimpArgs false
abbrev ckSegs (bs bn bo len cap bd : Nat) : List Seg := [[(bs, blk [.slice (some ⟨bo, 0, none⟩) len cap] 25)], [(bn, blk [.int .i64 (bd : Int)] 3)]]
abbrev ckEnc (bo len bd : Nat) (y : Nat) : Value := .slice (some ⟨bo, y, none⟩) (min bd (len - y)) (min bd (len - y))
def ckMay (len bd : Nat) (ys : List Nat) (y : Nat) : Prop := y = ys.length * bd ∧ ys.length * bd < len
def ckFin (bs bn bo len cap bd : Nat) (ys : List Nat) (o : List Seg) : Prop := len ≤ ys.length * bd ∧ o = ckSegs bs bn bo len cap bd
def ckStp (bs bn bo len cap bd : Nat) (ys : List Nat) (o : List Seg) : Prop := o = ckSegs bs bn bo len cap bd
set_option maxRecDepth 100000 in
set_option maxHeartbeats 4000000 in
theorem Chunk_spec (bo len cap bd : Nat) (w : World) (h : 0 < bd) :
    Meets Tryz.prog 62 [.slice (some ⟨bo, 0, none⟩) len cap, .int .i64 (bd : Int)] w [] (fun u own' => ∃ bs bn, u = .func (.func 89) #[] #[.pointer (some ⟨bs, 0, none⟩), .pointer (some ⟨bn, 0, none⟩)] ∧ own' = ckSegs bs bn bo len cap bd) := by
 refine bJ Tryz.func62 rfl Tryz.ntmps62 rfl Owns.nil ?_;refine aK fun K1 kh1 => ?_;refine aB ?_;refine aR rfl rfl rfl (cZ rfl rfl fun b2 => ?_);refine aR rfl rfl rfl (cZ rfl rfl fun b3 => ?_);refine aA rfl rfl rfl (aF rfl) ?_;refine aJ ?_;refine aL (kh1 _ _ ?_);clear kh1;refine aK fun K2 kh2 => ?_;refine aK fun K3 kh3 => ?_;refine aB ?_;refine aA rfl rfl rfl (aM Tryz.isAgg3 rfl (rdA rfl)) ?_;refine aA rfl rfl rfl (cD rfl rfl) ?_;refine aJ ?_;refine aL (kh3 _ _ ?_);clear kh3;refine e7 rfl (by omega) ?_;refine aW ?_;refine aL (kh2 _ _ ?_);clear kh2;refine aK fun K4 kh4 => ?_;refine aB ?_;refine aA rfl rfl rfl (o_func rfl rfl) ?_;refine aA rfl rfl rfl (aF rfl) ?_;refine aJ ?_;refine aL (kh4 _ _ ?_);clear kh4;refine a7 ?_;exact bP (ckSegs b2 b3 bo len cap bd) Tryz.results62 rfl (by repeat first|exact aI|refine aD ?_|refine aC rfl ?_|refine aH ?_) ⟨b2, b3, rfl, rfl⟩
set_option maxRecDepth 100000 in
set_option maxHeartbeats 4000000 in
theorem Chunk1_iter (bs bn bo len cap bd : Nat) (m0 : Seg) (w : World) (h : 0 < bd ∧ bd ≤ 1000000) (hl : len ≤ 1000000) (hc : len ≤ cap ∧ cap ≤ 9223372036854775807) :
    IterAt Tryz.prog 89 [.pointer (some ⟨bs, 0, none⟩), .pointer (some ⟨bn, 0, none⟩)] (ckSegs bs bn bo len cap bd) (ckEnc bo len bd) (ckMay len bd) (ckFin bs bn bo len cap bd) (ckStp bs bn bo len cap bd) m0 w := by
 intro l_ J Jx hJ0 hown hY;refine r_enter Tryz.func89 rfl Tryz.ntmps89 rfl hown ?_;refine cL fun K1 kh1 => ?_;refine bE ?_;refine aP rfl rfl rfl rfl (aF rfl) ?_;refine bV ?_;refine cT (kh1 _ _ _ ?_);clear kh1;refine eK ?_;refine r_loop (α := Nat × List Nat × Seg) (fun ⟨p, ys, mJ⟩ => []) [0, 1, 2] (fun ⟨p, ys, mJ⟩ => [(4, .int .i64 (p : Int))]) (fun ⟨p, ys, mJ⟩ => [mJ, [(bs, blk [.slice (some ⟨bo, 0, none⟩) len cap] 25)], [(bn, blk [.int .i64 (bd : Int)] 3)]]) (fun ⟨p, ys, mJ⟩ => p = ys.length * bd ∧ p < len + bd ∧ J ys mJ) (fun ⟨p, ys, mJ⟩ => len + bd - p) (0, [], m0) rfl ?_ ?_ ?_ ?_
 · exact (by repeat constructor)
 · repeat first|exact aI|refine aD ?_|refine aC rfl ?_|refine aH ?_
 · exact ⟨by simp, by omega, hJ0⟩
 ·
  rintro ⟨p, ys, mJ⟩ ⟨hp, hpl, hJ⟩;dsimp only;refine cL fun K2 kh2 => ?_;refine cL fun K3 kh3 => ?_;refine bE ?_;refine aP rfl rfl rfl rfl (aG rfl) ?_;refine aP rfl rfl rfl rfl (aM Tryz.isAgg25 rfl (rdA rfl)) ?_;refine aP rfl rfl rfl rfl (bS bK rfl) ?_;refine aP rfl rfl rfl rfl (cD rfl rfl) ?_;refine bV ?_;refine cT (kh3 _ _ _ ?_);clear kh3;refine iC rfl (fun c9 => ?_) (fun c9 => ?_)
  ·
   have hpn : p < len := by omega
   refine fU ?_;refine cT (kh2 _ _ _ ?_);clear kh2;refine cL fun K4 kh4 => ?_;refine eK ?_;refine cL fun K5 kh5 => ?_;refine r_old ?_;refine gY 6 rfl (by decide +kernel) ?_;refine aN rfl rfl rfl (aM Tryz.isAgg3 rfl (rdA rfl)) ?_;refine aN rfl rfl rfl (aM Tryz.isAgg25 rfl (rdA rfl)) ?_;refine aN rfl rfl rfl (aG rfl) ?_;refine aN rfl rfl rfl (e5 bK rfl rfl rfl rfl (fun h => by cases h) p _ _ (.inr ⟨_, _, rfl, by omega⟩) (.inl ⟨rfl, rfl⟩) (.inl ⟨rfl, rfl⟩) ⟨by omega, by omega, by omega⟩ (.slice (some ⟨bo, p, none⟩) (len - p) (cap - p)) (by rw [if_neg (by omega)]; simp [cY])) ?_;refine aN rfl rfl rfl (bS bK rfl) ?_;refine aN rfl rfl rfl (o_min rfl rfl) ?_;refine eH (kN ?_);refine aA rfl rfl rfl (aF rfl) ?_;refine aJ ?_;refine r_new ?_;refine cT (kh5 _ _ _ ?_);clear kh5;refine cL fun K6 kh6 => ?_;refine bE ?_;refine aP rfl rfl rfl rfl (aG rfl) ?_;refine aP rfl rfl rfl rfl (aM Tryz.isAgg25 rfl (rdA rfl)) ?_;refine aP rfl rfl rfl rfl (aG rfl) ?_;refine aP rfl rfl rfl rfl (aG rfl) ?_;refine aP rfl rfl rfl rfl (aG rfl) ?_;refine aP rfl rfl rfl rfl (bG rfl rfl _ (aT (by omega))) ?_;refine aP rfl rfl rfl rfl (aG rfl) ?_;refine aP rfl rfl rfl rfl (aG rfl) ?_;refine aP rfl rfl rfl rfl (bG rfl rfl _ (aT (by omega))) ?_;refine aP rfl rfl rfl rfl (e5 bK rfl rfl rfl rfl (fun _ => rfl) p (p + min bd (len - p)) (p + min bd (len - p)) (.inr ⟨_, _, rfl, by omega⟩) (.inr ⟨_, _, rfl, by omega⟩) (.inr ⟨_, _, rfl, by omega⟩) ⟨by omega, by omega, by omega⟩ (ckEnc bo len bd p) (by rw [if_neg (by omega)]; simp [cY, ckEnc])) ?_;refine eI rfl rfl rfl (o_yield [mJ] _ rfl rfl (by repeat (first | exact Sub.refl | refine aD ?_)) (fun w_ hp_ => hY ys p w_ mJ hJ ⟨hp, by omega⟩ hp_.owns (fun k hk => hp_.fz k hk)) ?_);rintro v22 _ ⟨m2, rfl, hy2⟩
   obtain ⟨bb, rfl, hy3⟩ : ∃ bb, v22 = .bool bb ∧ ((bb = true ∧ J (ys ++ [p]) m2) ∨ (bb = false ∧ Jx (ys ++ [p]) m2)) := by
     rcases hy2 with ⟨rfl, h⟩ | ⟨rfl, h⟩
     · exact ⟨_, rfl, .inl ⟨rfl, h⟩⟩
     · exact ⟨_, rfl, .inr ⟨rfl, h⟩⟩
   dsimp only [List.cons_append, List.nil_append];refine aP rfl rfl rfl rfl (kG rfl) ?_;refine bV ?_;refine cT (kh6 _ _ _ ?_);clear kh6;refine r_condB rfl (fun c30 => ?_) (fun c30 => ?_)
   ·
    refine jX ?_;refine r_br ?_;refine r_tr ?_;refine r_tr ?_;refine r_br ?_;have hJx2 : Jx (ys ++ [p]) m2 := (hy3.resolve_left (fun h => by rw [h.1] at c30; cases c30)).2
    exact r_fin0 [m2, [(bs, blk [.slice (some ⟨bo, 0, none⟩) len cap] 25)], [(bn, blk [.int .i64 (bd : Int)] 3)]] Tryz.results89 (by repeat first|exact aI|refine aD ?_|refine aC rfl ?_|refine aH ?_) ⟨rfl, m2, _, rfl, .inr ⟨_, rfl, hJx2⟩⟩
   ·
    have hJ2 : J (ys ++ [p]) m2 := (hy3.resolve_right (fun h => by rw [h.1] at c30; cases c30)).2
    refine fU ?_;refine r_bn ?_;refine cT (kh4 _ _ _ ?_);clear kh4;refine bE ?_;refine aP rfl rfl rfl rfl (aG rfl) ?_;refine aP rfl rfl rfl rfl (aM Tryz.isAgg3 rfl (rdA rfl)) ?_;refine aP rfl rfl rfl rfl (bG rfl rfl _ (aT (by omega))) ?_;refine aP rfl rfl rfl rfl (aF rfl) ?_;refine bV ?_;refine cT (i4 (p + bd, ys ++ [p], m2) (by first | omega | (dsimp only; omega) | (simp; omega)) rfl ⟨by rw [List.length_append, List.length_singleton, Nat.succ_mul]; omega, by omega, hJ2⟩ ?_ ?_ ?_)
    · exact (by repeat constructor)
    · exact (by repeat constructor)
    · repeat first|exact aI|refine aD ?_|refine aC rfl ?_|refine aH ?_
  · refine iY ?_;refine r_te ?_;clear kh2;refine r_te ?_;refine r_be ?_;exact r_fin0n [mJ, [(bs, blk [.slice (some ⟨bo, 0, none⟩) len cap] 25)], [(bn, blk [.int .i64 (bd : Int)] 3)]] Tryz.results89 (by repeat first|exact aI|refine aD ?_|refine aC rfl ?_|refine aH ?_) ⟨rfl, mJ, _, rfl, .inl ⟨_, ⟨by omega, rfl⟩, hJ⟩⟩
end Go.Proofs.YtjjogcnjcnpehaaGreat

/- A region that draws its order, within a round or behind marks. -/
namespace Go.Proofs.YtjjogcnjcnpehaaGreat.Fly
open Go Go.RowKit
set_option linter.unusedVariables false
set_option linter.unusedSimpArgs false
set_option linter.unusedSectionVars false
def LQ (ds : List Deferred) (Q : Exit → Act → World → Prop) : Exit → Act → World → Prop
  | .normal, a, w => Q .normal { a with defers := a.defers ++ ds } w
  | _, _, _ => False
theorem lq_out {ds : List Deferred} {Q : Exit → Act → World → Prop} : ¬ LetsOut (j9 (LQ ds Q)) := by
  rintro ⟨a, w, h⟩; exact h.elim
theorem put_app (a : Act) (ds : List Deferred) (d : Option Tmp) (v : Value) : ({ a with defers := a.defers ++ ds } : Act).put d v = { a.put d v with defers := (a.put d v).defers ++ ds } := by cases d <;> rfl
section
variable {P : Program} {rd : Option Nat} {ds : List Deferred} {Q : Exit → Act → World → Prop}
theorem op_lift {o : Oper} (hn : j2 o.op = true) {a : Act} {w : World} {K0 K : Act → World → Prop} (hK : ∀ a' w', K0 a' w' → K { a' with defers := a'.defers ++ ds } w')
    (h : o.wp P a w K0 (j9 (LQ ds Q))) : o.wpIn (FW rd) 0 P { a with defers := a.defers ++ ds } w K Q := by
  unfold Oper.wp at h
  unfold Oper.wpIn
  refine ⟨fun _ _ => trivial, ?_⟩;rw [Oper.semAt_eq _ _ _ (fun c hc => by rw [hc] at hn; cases hn), kI]
  generalize (execOp a.eval o).run P w = r at h ⊢
  cases r with
  | halt hh w' => cases hh <;> simp only [Oper.upon] at h <;> exact h.elim
  | ok x w' =>
    cases x with
    | value v => show K _ w'; rw [put_app]; exact hK _ _ h
    | skip => show K _ w'; rw [put_app]; exact hK _ _ h
    | defer d =>
      have h1 : K0 (({ a with defers := d :: a.defers } : Act).put o.dst undef) w' := h
      have h2 := hK _ _ h1
      show K (({ a with defers := d :: (a.defers ++ ds) } : Act).put o.dst undef) w'
      have e : (({ a with defers := d :: (a.defers ++ ds) } : Act).put o.dst undef) = { ({ a with defers := d :: a.defers } : Act).put o.dst undef with defers := (({ a with defers := d :: a.defers } : Act).put o.dst undef).defers ++ ds } := by
        cases o.dst <;> rfl
      rw [e]; exact h2
    | enter f args =>
      have h1 : Calls P f args w' _ := h
      refine ⟨(fun h => by cases h), ?_⟩
      show CallsIn Fence.wide 0 P f args w' _
      refine callsIn_wide.2 (Calls.mono h1 ?_);intro e w'' he
      cases e with
      | returned v => show K _ w''; rw [put_app]; exact hK _ _ he
      | panicked ch => exact he.elim
      | outgrown => exact (lq_out he).elim
    | row r args =>
      have h1 : Rows P r args w' _ := h
      refine ⟨(fun h => by cases h), fun c cs _ => ?_⟩;obtain ⟨v, w'', hv, hst⟩ := h1 c cs
      refine ⟨v, w'', ?_, (stepsIn_wide (P := P)).2 hst⟩
      show K _ w''; rw [put_app]; exact hK _ _ hv
    | round l f tmps assign body => exact h.elim
    | _ => exact h.elim
theorem any_lift {ops : Array Oper} {S : World → Prop} (hn : ops.toList.all (fun o => j2 o.op) = true) : ∀ (fuel : Nat) (listed : Array Bool) (a : Act) (w : World),
    wpAnyH P .any ops (j9 (LQ ds Q)) S fuel listed a w → wpAnyIn (FW rd) 0 P .any ops Q fuel listed { a with defers := a.defers ++ ds } w
  | 0, listed, a, w, h => h
  | fuel + 1, listed, a, w, h => by
    refine ⟨fun e => h.1 e, fun i hi => ?_⟩;have h2 := h.2 i hi
    unfold wpOp at h2
    unfold wpOpIn
    cases ho : ops[i]? with
    | none => rw [ho] at h2; exact any_lift hn fuel _ _ _ h2.2
    | some o =>
      rw [ho] at h2
      have hno : j2 o.op = true := by
        have := List.all_eq_true.1 hn o (by rw [← Array.mem_def]; exact Array.mem_of_getElem? ho)
        exact this
      dsimp only at h2 ⊢
      split
      · rename_i hw
        rw [if_pos hw] at h2
        rcases h2 with h2 | h2
        · exact op_lift hno (fun a' w' h' => any_lift hn fuel _ _ _ h'.2) h2
        · exact (lq_out h2.2).elim
      · rename_i hw
        rw [if_neg hw] at h2;refine ⟨fun _ _ => trivial, ?_⟩;rw [put_app]; exact any_lift hn fuel _ _ _ h2.2
end
section
variable {P : Program} {n : Nat} {S : Nat → Prop} {w0 : World} {rd : Option Nat} {mk : List Nat} {env : Env} {segs : List Seg} {Q : Exit → Act → World → Prop} {ops : Array Oper} {rest : List Oper} {o : Oper}
theorem r_regionH {id : Nat} {l : List Oper} (base : List Seg) (hm : P.follows .mixedOrders = true) (hn : l.all (fun o => j2 o.op) = true)
    (h : Wh P n S w0 l.toArray (LQ (coll mk) Q) base l.length (Array.replicate l.length false) env segs) : WcR P n S w0 rd mk Q env segs (.region id l.toArray true) := fun a w ha hp => by
  refine wpIn_region_any hm ?_;have h1 := h { a with defers := [] } { w with drawn := w.drawn + 1 } ha.base (hp.drew (w.drawn + 1) (Nat.le_succ _))
  have h2 := any_lift (rd := rd) (by simpa using hn) _ _ _ _ h1
  have e : ({ ({ a with defers := [] } : Act) with defers := ({ a with defers := [] } : Act).defers ++ coll mk } : Act) = a := by
    show ({ a with defers := [] ++ coll mk } : Act) = a
    rw [List.nil_append, ← ha.defers]
  rw [e] at h2
  simpa using h2
theorem r_back (h : WqR n S w0 mk (Q .normal) env segs) : Wq n S w0 (LQ (coll mk) Q .normal) env segs := fun a w ha hp => by
  refine h { a with defers := a.defers ++ coll mk } w ⟨ha.size, ?_, ha.get⟩ hp
  show a.defers ++ coll mk = coll mk
  rw [ha.defers, List.nil_append]
end
end Go.Proofs.YtjjogcnjcnpehaaGreat.Fly

/- split.CutUp: labels cut up. -/
namespace Go.Proofs.YtjjogcnjcnpehaaGreat
open Go Go.RowKit Fly
set_option linter.unusedVariables false
set_option linter.unusedSimpArgs false
theorem reps_boolC (n : Nat) (b : Bool) : (List.replicate n [Value.bool b]).flatten = dW (List.replicate n b) := by
  induction n with
  | zero => rfl
  | succ n ih => rw [List.replicate_succ, List.flatten_cons, ih]; rfl
theorem div_at {q t c b : Nat} (hq : q = c * b) (ht : t < b) : (q + t) / b = c := by
  subst hq;rw [Nat.add_comm, Nat.add_mul_div_right _ _ (by omega), Nat.div_eq_of_lt ht, Nat.zero_add]
theorem putTo_add (vs ord : List Int) (b : Nat) (nx : Int) (out : List Int) (y t : Nat) : hZ vs ord b nx out (y + (t + 1)) = (hZ vs ord b nx out (y + t)).set (putAt vs ord (y + t)) (nx + (((y + t) / b : Nat) : Int)) := rfl
theorem ceil_at {m c b : Nat} (hb : 0 < b) (h1 : m ≤ c * b) (h2 : c * b < m + b) : (m + b - 1) / b = c := by
  refine Nat.div_eq_of_lt_le (by omega) ?_;rw [Nat.succ_mul]; omega
set_option maxRecDepth 100000 in
set_option maxHeartbeats 4000000 in
theorem CutUp_spec (N : Int) (A B : Option Addr) (l : List Arc) (cap : Nat) (L : List Int) (cb : Nat) (bi : Int) (w : World) (hr : Ro (Fr w []) w A (l.flatMap cE)) (hl : l.length ≤ 9223372036854775807) (hN : I64 N) (hok : ∀ x ∈ l, dQ x) (hL : Ro (Fr w []) w B (a6 L)) (hm : L.length ≤ 9223372036854775807) :
    Meets Tryz.prog 37 [.agg #[.int .i64 N, .slice A l.length cap], .slice B L.length cb, .int .i64 bi] w [] (fun u own' => ∃ (R : List Int) (A' : Option Addr) (c : Nat) (m' : Seg), u = .tuple #[.slice A' R.length c, .int .i64 (spE N l L bi)] ∧ own' = [m'] ∧ Own 3 1 (.slice A' R.length c) R.length (a6 R) m' ∧ (spE N l L bi ≠ 0 → R = []) ∧ (spE N l L bi = 0 → R = l4 l L bi.toNat)) := by
 refine r_enter Tryz.func37 rfl Tryz.ntmps37 rfl Owns.nil ?_;refine cL fun K1 kh1 => ?_;refine bE ?_;refine eI rfl rfl rfl (Does.toR rfl (cZ rfl rfl fun b3 => ?_));refine aP rfl rfl rfl rfl (aF rfl) ?_;refine aP rfl rfl rfl rfl (aF rfl) ?_;refine bV ?_;refine cT (kh1 _ _ _ ?_);clear kh1;refine cL fun K2 kh2 => ?_;refine cL fun K3 kh3 => ?_;refine bE ?_;refine aP rfl rfl rfl rfl (a8 (vs := [_, _]) Tryz.isAgg24 Tryz.sizeOf24 rfl rfl ⟨(rdA rfl), (rdA rfl), trivial⟩) ?_;refine aP rfl rfl rfl rfl (aG rfl) ?_;refine aP rfl rfl rfl rfl (aG rfl) ?_;refine eI rfl rfl rfl (Does.toR rfl (bD Tryz.call39 rfl (fun w_ hp_ => splook_spec N A B l cap L cb bi w_ (hr.up0 hp_) hl hN hok (hL.up0 hp_) hm) ?_));rintro _ _ ⟨rfl, rfl⟩;dsimp only [List.cons_append, List.nil_append];refine aP rfl rfl rfl rfl (aF rfl) ?_;refine bV ?_;refine cT (kh3 _ _ _ ?_);clear kh3;refine cL fun K4 kh4 => ?_;refine bE ?_;refine aP rfl rfl rfl rfl (aG rfl) ?_;refine aP rfl rfl rfl rfl (c6 rfl rfl) ?_;refine bV ?_;refine cT (kh4 _ _ _ ?_);clear kh4;refine iC rfl (fun c28 => ?_) (fun c28 => ?_)
 ·
  refine cL fun K5 kh5 => ?_;refine bE ?_;refine aP rfl rfl rfl rfl (aG rfl) ?_;refine aP rfl rfl rfl rfl (aF rfl) ?_;refine aP rfl rfl rfl rfl (aF rfl) ?_;refine bV ?_;refine cT (kh5 _ _ _ ?_);clear kh5;refine jX ?_;refine r_tr ?_;have c28' : spE N l L bi ≠ 0 := by simpa using c28
  exact iX [[]] Tryz.results37 rfl rfl (show Fly.Sub _ [[]] from (by repeat first|exact aI|refine aD ?_|refine aC rfl ?_|refine aH ?_)) ⟨[], none, 0, [], rfl, rfl, Own.nil _ _, fun _ => rfl, fun h => absurd h c28'⟩
 ·
  have hz : spE N l L bi = 0 := by simpa using c28
  obtain ⟨n, rfl, hn1, hn2, hg, hR, hbd⟩ := spE_zero hz
  obtain rfl : L.length = n := (cN hR).2
  have hrg := dY hR hn1
  obtain ⟨b, rfl⟩ : ∃ b : Nat, bi = (b : Int) := ⟨bi.toNat, by omega⟩
  obtain ⟨_, _, hl8, _⟩ := bX hg
  refine fU ?_;refine cT (kh2 _ _ _ ?_);clear kh2;refine cL fun K6 kh6 => ?_;refine bE ?_;refine aP rfl rfl rfl rfl (aG rfl) ?_;refine eI rfl rfl rfl (Does.toR rfl (bD Tryz.call19 rfl (fun w_ hp_ => kJ B L.length (a6 L) cb w_ (hL.up0 hp_) (fun e => by rw [e] at hL; obtain ⟨_, _, e', _⟩ := hL (fun e => by have := aX L; rw [e] at this; simp at this; omega); cases e') (by rw [aX]; omega) (ints_oneG _) (by omega)) ?_));rintro v31 _ ⟨m31, rfl, o31⟩;obtain ⟨bo, co, sp, rfl, rfl⟩ := o31.block (by omega)
  dsimp only [List.cons_append, List.nil_append];refine eI rfl rfl rfl (Does.toR rfl (cU Tryz.zeroValue25 rfl fun b9 => ?_));refine iM rfl rfl (Does.toR rfl (cB Tryz.sizeOf25 rfl rfl rfl rfl (by first | exact Nat.le_of_ble_eq_true rfl | (simp; done) | (simp; omega)) _ rfl ?_));refine bV ?_;refine cT (kh6 _ _ _ ?_);clear kh6;refine cL fun K7 kh7 => ?_;refine bE ?_;refine aP rfl rfl rfl rfl (aQ eE rfl) ?_;refine aP rfl rfl rfl rfl (aM Tryz.isAgg3 rfl (rdA rfl)) ?_;refine eI rfl rfl rfl (Does.toR rfl (cU Tryz.zeroValue3 rfl fun b10 => ?_));refine iM rfl rfl (Does.toR rfl (cB Tryz.sizeOf3 rfl rfl rfl rfl (by first | exact Nat.le_of_ble_eq_true rfl | (simp; done) | (simp; omega)) _ rfl ?_));refine bV ?_;refine cT (kh7 _ _ _ ?_);clear kh7;refine cL fun K8 kh8 => ?_;refine cL fun K9 kh9 => ?_;refine bE ?_;refine aP rfl rfl rfl rfl (aG rfl) ?_;refine eI rfl rfl rfl (Does.toR rfl (bD Tryz.call41 rfl (fun w_ hp_ => lK B L cb w_ (hL.up0 hp_) (by omega) (by omega) (fun x hx => by have := hrg x hx; omega)) ?_));rintro _ _ ⟨bs, rfl, rfl⟩;obtain ⟨M, hM⟩ : ∃ M : Nat, (d4 L + 1).toNat = M := ⟨_, rfl⟩
  rw [cQ, hM];rw [hM] at hrg;have hMn := (hrg L[0] (List.getElem_mem (by omega))).2.2
  dsimp only [List.cons_append, List.nil_append];refine aP rfl rfl rfl rfl (bS bK rfl) ?_;refine aP rfl rfl rfl rfl (aG rfl) ?_;refine bV ?_;refine cT (kh9 _ _ _ ?_);clear kh9;refine eK ?_;refine r_loop (α := Nat × List Nat) (fun ⟨j, mk⟩ => mk) [1, 2, 3, 9, 10, 35, 36, 85] (fun ⟨j, mk⟩ => [(37, .int .i64 (j : Int))]) (fun ⟨j, mk⟩ => [mks mk, [(bo, blk (a6 (cW l L b j).1 ++ sp) 3)], [(b10, blk [.int .i64 ((cW l L b j).2)] 3)], [(b9, blk [.slice (some ⟨bo, 0, none⟩) L.length co] 25)], [(bs, blk (a6 (szs M L)) 3)], [(b3, blk [.int .i64 (L.length : Int), .slice A l.length cap] 24)]]) (fun ⟨j, mk⟩ => j ≤ M) (fun ⟨j, mk⟩ => M - j) (0, []) rfl ?_ ?_ ?_ ?_
  · exact (by repeat constructor)
  · repeat first|exact aI|refine aD ?_|refine aC rfl ?_|refine aH ?_
  · exact Nat.zero_le _
  ·
   rintro ⟨j, mk⟩ hjM;dsimp only at hjM ⊢;refine cL fun K10 kh10 => ?_;refine bE ?_;refine aP rfl rfl rfl rfl (cD rfl rfl) ?_;refine bV ?_;refine cT (kh10 _ _ _ ?_);clear kh10;refine cL fun K11 kh11 => ?_;refine iC rfl (fun c38 => ?_) (fun c38 => ?_)
   ·
    have hj : j < M := by omega
    have hcl' := cnt_le L j
    have hnx := cutTo_next (l := l) (b := b) hn2 hl8 (by omega) j
    refine fU ?_;refine cT (kh11 _ _ _ ?_);clear kh11;refine cL fun K12 kh12 => ?_;refine eK ?_;refine cL fun K13 kh13 => ?_;refine bE ?_;refine aP rfl rfl rfl rfl (aG rfl) ?_;refine aP rfl rfl rfl rfl (bA bK rfl rfl (j) ⟨by omega, by omega, by first | omega | (simp; done) | (simp; omega)⟩) ?_;refine aP rfl rfl rfl rfl (aM Tryz.isAgg3 rfl (rdA (v := .int .i64 (cnt L j : Int)) (by rw [dL (by rw [eT]; exact hj), iK hj]))) ?_;refine aP rfl rfl rfl rfl (aF rfl) ?_;refine aP rfl rfl rfl rfl (aF rfl) ?_;refine bV ?_;refine cT (kh13 _ _ _ ?_);clear kh13;refine cL fun K14 kh14 => ?_;refine cL fun K15 kh15 => ?_;refine bE ?_;refine aP rfl rfl rfl rfl (aG rfl) ?_;refine aP rfl rfl rfl rfl (aG rfl) ?_;refine aP rfl rfl rfl rfl (o_leq rfl rfl) ?_;refine bV ?_;refine cT (kh15 _ _ _ ?_);clear kh15;refine iC rfl (fun c44 => ?_) (fun c44 => ?_)
    ·
     refine iY ?_;refine r_te ?_;clear kh14;refine r_be ?_;refine cT (kh12 _ _ _ ?_);clear kh12;refine bE ?_;refine aP rfl rfl rfl rfl (bG rfl rfl _ (aT (by omega))) ?_;refine aP rfl rfl rfl rfl (aG rfl) ?_;refine bV ?_;have hsame : cW l L b (j + 1) = cW l L b j := if_pos (by omega)
     rw [← hsame];refine cT (i4 (j + 1, mk) (by first | omega | (dsimp only; omega) | (simp; omega)) rfl (by show j + 1 ≤ M; omega) ?_ ?_ ?_)
     · exact (by repeat constructor)
     · exact (by repeat constructor)
     · repeat first|exact aI|refine aD ?_|refine aC rfl ?_|refine aH ?_
    ·
     have hck := cut_ok (l := l) hn2 hl8 (show 0 < cnt L j by omega)
     have hop : 0 < (cH l L j).length := List.length_pos_of_mem (hck.all 0 (by have := hck.has; omega))
     have hfew := hck.few
     have hole := hck.olen
     refine fU ?_;refine cT (kh14 _ _ _ ?_);clear kh14;refine cL fun K16 kh16 => ?_;refine bE ?_;refine aP rfl rfl rfl rfl (aQ eE rfl) ?_;refine aP rfl rfl rfl rfl (aM Tryz.isAgg3 rfl (rdA rfl)) ?_;refine eI rfl rfl rfl (Does.toR rfl (d3 el43 rfl rfl L.length rfl (by omega) (by omega) (dW (kpTo L j 0)) (by rw [kpTo_zero]; exact reps_boolC L.length false) fun b47 => ?_));refine aP rfl rfl rfl rfl (aF rfl) ?_;refine bV ?_;refine cT (kh16 _ _ _ ?_);clear kh16;refine cL fun K17 kh17 => ?_;refine cL fun K18 kh18 => ?_;refine bE ?_;refine aP rfl rfl rfl rfl (aG rfl) ?_;refine aP rfl rfl rfl rfl (bS kW rfl) ?_;refine aP rfl rfl rfl rfl (aG rfl) ?_;refine bV ?_;refine cT (kh18 _ _ _ ?_);clear kh18;refine eK ?_;refine r_loop (α := Nat) (fun k => mk) [1, 2, 3, 9, 10, 11, 13, 20, 35, 36, 37, 49, 85] (fun k => [(50, .int .i64 (k : Int))]) (fun k => [mks mk, [(b47, blk (dW (kpTo L j k)) 4)], [(bo, blk (a6 (cW l L b j).1 ++ sp) 3)], [(b10, blk [.int .i64 ((cW l L b j).2)] 3)], [(b9, blk [.slice (some ⟨bo, 0, none⟩) L.length co] 25)], [(bs, blk (a6 (szs M L)) 3)], [(b3, blk [.int .i64 (L.length : Int), .slice A l.length cap] 24)]]) (fun k => k ≤ L.length) (fun k => L.length - k) (0) rfl ?_ ?_ ?_ ?_
     · exact (by repeat constructor)
     · repeat first|exact aI|refine aD ?_|refine aC rfl ?_|refine aH ?_
     · exact Nat.zero_le _
     ·
      rintro k hkl;refine r_envC (e := [(50, _), (1, _), (2, _), (3, _), (9, _), (10, _), (11, _), (13, _), (35, _), (36, _), (37, _), (49, _)]) (by repeat constructor) ?_;refine cL fun K19 kh19 => ?_;refine bE ?_;refine aP rfl rfl rfl rfl (cD rfl rfl) ?_;refine bV ?_;refine cT (kh19 _ _ _ ?_);clear kh19;refine cL fun K20 kh20 => ?_;refine iC rfl (fun c51 => ?_) (fun c51 => ?_)
      ·
       have hk : k < L.length := by omega
       obtain ⟨bb, ob, rfl, hSb, hcb⟩ := hL (fun e => by have := aX L; rw [e] at this; simp at this; omega)
       refine fU ?_;refine cT (kh20 _ _ _ ?_);clear kh20;refine cL fun K21 kh21 => ?_;refine eK ?_;refine cL fun K22 kh22 => ?_;refine bE ?_;refine aP rfl rfl rfl rfl (aG rfl) ?_;refine aP rfl rfl rfl rfl (aF rfl) ?_;refine bV ?_;refine cT (kh22 _ _ _ ?_);clear kh22;refine bE ?_;refine aP rfl rfl rfl rfl (aG rfl) ?_;refine aP rfl rfl rfl rfl (aG rfl) ?_;refine aP rfl rfl rfl rfl (aG rfl) ?_;refine aP rfl rfl rfl rfl (aG rfl) ?_;refine aP rfl rfl rfl rfl (bA bK rfl rfl (ob + k) ⟨by omega, by omega, by first | omega | (simp; done) | (simp; omega)⟩) ?_;refine aP rfl rfl rfl rfl (aM Tryz.isAgg3 rfl (dX (enc := (.int .i64 ·)) hSb hcb hk)) ?_;refine aP rfl rfl rfl rfl (aG rfl) ?_;refine aP rfl rfl rfl rfl (fM rfl rfl) ?_;refine aP rfl rfl rfl rfl (bA kW rfl rfl (k) ⟨by omega, by omega, by first | omega | (simp; done) | (simp; omega)⟩) ?_;refine iM rfl rfl (Does.toR rfl (cB Tryz.sizeOf4 rfl rfl rfl rfl (by simp [kpTo_len]; omega) (dW (kpTo L j (k + 1))) (by rw [l8, kpTo_next hk]) ?_));refine bV ?_;refine r_bn ?_;refine cT (kh21 _ _ _ ?_);clear kh21;refine bE ?_;refine aP rfl rfl rfl rfl (bG rfl rfl _ (aT (by omega))) ?_;refine aP rfl rfl rfl rfl (aG rfl) ?_;refine bV ?_;refine cT (i4 (k + 1) (by first | omega | (dsimp only; omega) | (simp; omega)) rfl (by omega) ?_ ?_ ?_)
       · exact (by repeat constructor)
       · exact (by repeat constructor)
       · repeat first|exact aI|refine aD ?_|refine aC rfl ?_|refine aH ?_
      ·
       refine iY ?_;refine r_te ?_;clear kh20;refine r_te ?_;refine r_be ?_;refine cT (kh17 _ _ _ ?_);clear kh17;refine cL fun K23 kh23 => ?_;obtain rfl : k = L.length := by omega
       rw [kpTo_all];refine bE ?_;refine aP rfl rfl rfl rfl (a8 (vs := [_, _]) Tryz.isAgg24 Tryz.sizeOf24 rfl rfl ⟨(rdA rfl), (rdA rfl), trivial⟩) ?_;refine aP rfl rfl rfl rfl (aG rfl) ?_;refine eI rfl rfl rfl (Does.toR rfl (bD Tryz.call60 rfl (fun w_ hp_ => (by have h := Induced_spec (L.length : Int) A l cap (some ⟨b47, 0, none⟩) (fJ L j) L.length w_ (hr.up0 hp_) (iV (b := b47) hp_ (cs := (fJ L j).map .bool) (fun j v hj => hj)) hl hN hok; rw [i0] at h; exact h)) ?_));rintro v66 own66 hI
       unfold jT at hI
       rw [if_neg (by rw [hg]; simp), if_neg (by rw [i0]; simp), if_neg hck.has] at hI;obtain ⟨sa, sv, sl, ma, mv, ml, rfl, rfl, hoa, hov, hol⟩ := hI
       obtain ⟨Aa, ca, rfl, hca⟩ := hoa.val
       obtain ⟨bv, cv, spv, rfl, rfl⟩ := hov.block (Nat.pos_of_ne_zero hck.has)
       obtain ⟨Al, cl, rfl, hcl⟩ := hol.val
       have hsl := sub_len (fJ L j) l
       dsimp only [List.cons_append, List.nil_append];refine aP rfl rfl rfl rfl (aG rfl) ?_;refine aP rfl rfl rfl rfl (aV rfl rfl) ?_;refine aP rfl rfl rfl rfl (aV rfl rfl) ?_;refine aP rfl rfl rfl rfl (aV rfl rfl) ?_;refine aP rfl rfl rfl rfl (aV rfl rfl) ?_;refine eI rfl rfl rfl (Does.toR rfl (cU Tryz.zeroValue24 rfl fun b15 => ?_));refine eI rfl rfl rfl (Does.toR rfl (cU Tryz.zeroValue25 rfl fun b16 => ?_));refine iM rfl rfl (Does.toR rfl (cA Tryz.sizeOf24 rfl rfl rfl rfl (by first | exact Nat.le_of_ble_eq_true rfl | (simp; done) | (simp; omega)) [.int .i64 ((dC L j).length : Int), .slice Aa (d8 (fJ L j) l).length ca] rfl ?_));refine iM rfl rfl (Does.toR rfl (cB Tryz.sizeOf25 rfl rfl rfl rfl (by first | exact Nat.le_of_ble_eq_true rfl | (simp; done) | (simp; omega)) _ rfl ?_));refine aP rfl rfl rfl rfl (aF rfl) ?_;refine aP rfl rfl rfl rfl (aF rfl) ?_;refine bV ?_;refine cT (kh23 _ _ _ ?_);clear kh23;refine cL fun K24 kh24 => ?_;refine cL fun K25 kh25 => ?_;refine bE ?_;refine aP rfl rfl rfl rfl (aG rfl) ?_;refine aP rfl rfl rfl rfl (c6 rfl rfl) ?_;refine bV ?_;refine cT (kh25 _ _ _ ?_);clear kh25;refine r_condN rfl (by simp) ?_;refine fU ?_;refine cT (kh24 _ _ _ ?_);clear kh24;refine cL fun K26 kh26 => ?_;refine bE ?_;refine aP rfl rfl rfl rfl (a8 (vs := [_, _]) Tryz.isAgg24 Tryz.sizeOf24 rfl rfl ⟨(rdA rfl), (rdA rfl), trivial⟩) ?_;refine eI rfl rfl rfl (Does.toR rfl (bD Tryz.call61 rfl (fun w_ hp_ => (by have h := Order_spec ((dC L j).length : Int) Aa (d8 (fJ L j) l) ca w_ (eU (hoa.seen hp_)) (by omega) ⟨by omega, by omega⟩ (sub_ok (by rw [i0]; omega) hok); rw [hck.ord] at h; exact h)) ?_));rintro _ _ ⟨s76, mo, rfl, rfl, hoo⟩;dsimp only at hoo ⊢;obtain ⟨bo2, co2, sp2, rfl, rfl⟩ := hoo.block hop
       obtain ⟨_, _, e2_, hco2⟩ := hoo.val
       cases e2_
       dsimp only [List.cons_append, List.nil_append];refine aP rfl rfl rfl rfl (aG rfl) ?_;refine aP rfl rfl rfl rfl (aV rfl rfl) ?_;refine aP rfl rfl rfl rfl (aV rfl rfl) ?_;refine aP rfl rfl rfl rfl (aF rfl) ?_;refine aP rfl rfl rfl rfl (aF rfl) ?_;refine bV ?_;refine cT (kh26 _ _ _ ?_);clear kh26;refine cL fun K27 kh27 => ?_;refine cL fun K28 kh28 => ?_;refine bE ?_;refine aP rfl rfl rfl rfl (aG rfl) ?_;refine aP rfl rfl rfl rfl (c6 rfl rfl) ?_;refine bV ?_;refine cT (kh28 _ _ _ ?_);clear kh28;refine r_condN rfl (by simp) ?_;refine fU ?_;refine cT (kh27 _ _ _ ?_);clear kh27;refine cL fun K29 kh29 => ?_;refine bE ?_;refine aP rfl rfl rfl rfl (aG rfl) ?_;refine aP rfl rfl rfl rfl (aG rfl) ?_;refine eI rfl rfl rfl (Does.toR rfl (bD Tryz.call62 rfl (fun w_ hp_ => Chunk_spec bo2 (cH l L j).length co2 b w_ (by omega)) ?_));rintro _ _ ⟨q1, q2, rfl, rfl⟩;dsimp only [List.cons_append, List.nil_append];refine bV ?_;refine cT (kh29 _ _ _ ?_);clear kh29;refine eK ?_;refine r_range (p := 85) (lb := [.pointer (some ⟨q1, 0, none⟩), .pointer (some ⟨q2, 0, none⟩)]) rfl Tryz.call89 rfl [[(bo, blk (a6 (cW l L b j).1 ++ sp) 3)], [(b10, blk [.int .i64 ((cW l L b j).2)] 3)], [(b9, blk [.slice (some ⟨bo, 0, none⟩) L.length co] 25)], [(b16, blk [.slice (some ⟨bv, 0, none⟩) (dC L j).length cv] 25)], [(bv, blk (a6 (dC L j) ++ spv) 3)], [(bo2, blk (a6 (cH l L j) ++ sp2) 3)]] [[(q1, blk [.slice (some ⟨bo2, 0, none⟩) (cH l L j).length co2] 25)], [(q2, blk [.int .i64 (b : Int)] 3)]] [mks mk, [(bs, blk (a6 (szs M L)) 3)], [(b3, blk [.int .i64 (L.length : Int), .slice A l.length cap] 24)]] (by repeat (first | exact Sub.refl | exact aI | refine aD ?_ | refine aC rfl ?_ | refine aH ?_)) (ckEnc bo2 (cH l L j).length b) (may := ckMay (cH l L j).length b) (Fin := ckFin q1 q2 bo2 (cH l L j).length co2 b) (Stp := ckStp q1 q2 bo2 (cH l L j).length co2 b) (fun w1_ m0_ hp_ => Chunk1_iter q1 q2 bo2 (cH l L j).length co2 b m0_ w1_ ⟨by omega, by omega⟩ (by omega) ⟨by omega, by omega⟩) (fun ys m => ys.length * b < (cH l L j).length + b ∧ ∃ q c : Nat, q = min (ys.length * b) (cH l L j).length ∧ c = ys.length ∧ m = [(bo, blk (a6 (hZ (dC L j) (cH l L j) b (cW l L b j).2 (cW l L b j).1 (q)) ++ sp) 3), (b10, blk [.int .i64 ((cW l L b j).2 + (c : Int))] 3), (b9, blk [.slice (some ⟨bo, 0, none⟩) L.length co] 25), (b16, blk [.slice (some ⟨bv, 0, none⟩) (dC L j).length cv] 25), (bv, blk (a6 (dC L j) ++ spv) 3), (bo2, blk (a6 (cH l L j) ++ sp2) 3)]) (fun _ _ => False) (.ret) (⟨by simp; omega, 0, 0, by simp, rfl, by simp [hZ]⟩) ?_ ?_ ?_
       ·
        intro w1_ l_ d_ ys y m_ hI hmay hfr K_ kh_;obtain ⟨hlt, q, c, hq, rfl, rfl⟩ := hI
        obtain ⟨hy, hyl⟩ := hmay
        have hyb : ys.length ≤ ys.length * b := Nat.le_mul_of_pos_right _ (by omega)
        obtain rfl : y = q := by omega
        refine r_subC (Sub.op3 (parts := [[(bo, blk (a6 (hZ (dC L j) (cH l L j) b (cW l L b j).2 (cW l L b j).1 (y)) ++ sp) 3)], [(b10, blk [.int .i64 ((cW l L b j).2 + (ys.length : Int))] 3)], [(b9, blk [.slice (some ⟨bo, 0, none⟩) L.length co] 25)], [(b16, blk [.slice (some ⟨bv, 0, none⟩) (dC L j).length cv] 25)], [(bv, blk (a6 (dC L j) ++ spv) 3)], [(bo2, blk (a6 (cH l L j) ++ sp2) 3)]]) (by simp) Sub.refl) ?_;dsimp only [List.cons_append, List.nil_append];refine bE ?_;refine aP rfl rfl rfl rfl (aF rfl) ?_;refine bV ?_;refine cT (kh_ _ _ ?_);clear kh_;refine eK ?_;refine cL fun K30 kh30 => ?_;refine cL fun K31 kh31 => ?_;refine bE ?_;refine aP rfl rfl rfl rfl (aG rfl) ?_;refine aP rfl rfl rfl rfl (bS bK rfl) ?_;refine aP rfl rfl rfl rfl (aG rfl) ?_;refine bV ?_;refine cT (kh31 _ _ _ ?_);clear kh31;refine eK ?_;refine r_loop (α := Nat) (fun t => []) [1, 2, 3, 9, 10, 16, 20, 35, 36, 37, 85, 86, 87] (fun t => [(88, .int .i64 (t : Int))]) (fun t => [[(l_, .loop (d_.rc .busy none))], [(d_.D, .deferred (some []))], [(bo, blk (a6 (hZ (dC L j) (cH l L j) b (cW l L b j).2 (cW l L b j).1 (y + t)) ++ sp) 3)], [(b10, blk [.int .i64 ((cW l L b j).2 + (ys.length : Int))] 3)], [(b9, blk [.slice (some ⟨bo, 0, none⟩) L.length co] 25)], [(b16, blk [.slice (some ⟨bv, 0, none⟩) (dC L j).length cv] 25)], [(bv, blk (a6 (dC L j) ++ spv) 3)], [(bo2, blk (a6 (cH l L j) ++ sp2) 3)]]) (fun t => t ≤ min b ((cH l L j).length - y)) (fun t => min b ((cH l L j).length - y) - t) (0) rfl ?_ ?_ ?_ ?_
        · exact (by repeat constructor)
        · repeat first|exact aI|refine aD ?_|refine aC rfl ?_|refine aH ?_
        · exact Nat.zero_le _
        ·
         rintro t htl;refine r_envC (e := [(88, _), (1, _), (2, _), (3, _), (9, _), (10, _), (16, _), (20, _), (35, _), (36, _), (37, _), (85, _), (86, _), (87, _)]) (by repeat constructor) ?_;refine cL fun K32 kh32 => ?_;refine bE ?_;refine aP rfl rfl rfl rfl (cD rfl rfl) ?_;refine bV ?_;refine cT (kh32 _ _ _ ?_);clear kh32;refine cL fun K33 kh33 => ?_;refine iC rfl (fun c89 => ?_) (fun c89 => ?_)
         ·
          have ht : t < min b ((cH l L j).length - y) := by omega
          obtain ⟨q', hq', hq2, u, hu, ⟨hul, _⟩, hput, _⟩ := hck.at (i := y + t) (by omega)
          have hdiv := div_at (q := y) (t := t) (b := b) hy (by omega)
          have hpn : (hZ (dC L j) (cH l L j) b (cW l L b j).2 (cW l L b j).1 (y + t)).set u ((cW l L b j).2 + (ys.length : Int)) = (hZ (dC L j) (cH l L j) b (cW l L b j).2 (cW l L b j).1 (y + (t + 1))) := by rw [putTo_add, hput, hdiv]
          refine fU ?_;refine cT (kh33 _ _ _ ?_);clear kh33;refine cL fun K34 kh34 => ?_;refine eK ?_;refine cL fun K35 kh35 => ?_;refine bE ?_;refine aP rfl rfl rfl rfl (bA bK rfl rfl (y + t) ⟨by omega, by omega, by first | omega | (simp; done) | (simp; omega)⟩) ?_;refine aP rfl rfl rfl rfl (aM Tryz.isAgg3 rfl (rdA (v := .int .i64 (q' : Int)) (dN (by rw [dL (by omega), hq'])))) ?_;refine aP rfl rfl rfl rfl (aF rfl) ?_;refine bV ?_;refine cT (kh35 _ _ _ ?_);clear kh35;refine r_regionH [[(l_, .loop (d_.rc .busy none))], [(d_.D, .deferred (some []))], [(b10, blk [.int .i64 ((cW l L b j).2 + (ys.length : Int))] 3)], [(b9, blk [.slice (some ⟨bo, 0, none⟩) L.length co] 25)], [(b16, blk [.slice (some ⟨bv, 0, none⟩) (dC L j).length cv] 25)], [(bv, blk (a6 (dC L j) ++ spv) 3)], [(bo2, blk (a6 (cH l L j) ++ sp2) 3)]] rfl (by decide +kernel) ?_;refine aU 0 rfl (by decide +kernel) rfl rfl rfl (by repeat first|exact aI|refine aD ?_|refine aC rfl ?_|refine aH ?_) (aM Tryz.isAgg25 rfl (rdA rfl)) ?_;refine aU 1 rfl (by decide +kernel) rfl rfl rfl (by repeat first|exact aI|refine aD ?_|refine aC rfl ?_|refine aH ?_) (aM Tryz.isAgg25 rfl (rdA rfl)) ?_;refine aU 2 rfl (by decide +kernel) rfl rfl rfl (by repeat first|exact aI|refine aD ?_|refine aC rfl ?_|refine aH ?_) (aG rfl) ?_;refine aU 3 rfl (by decide +kernel) rfl rfl rfl (by repeat first|exact aI|refine aD ?_|refine aC rfl ?_|refine aH ?_) (bA bK rfl rfl (q') ⟨by omega, by omega, by first | omega | (simp; done) | (simp; omega)⟩) ?_;refine aU 4 rfl (by decide +kernel) rfl rfl rfl (by repeat first|exact aI|refine aD ?_|refine aC rfl ?_|refine aH ?_) (aM Tryz.isAgg3 rfl (rdA (v := .int .i64 (u : Int)) (dN (by rw [dL hq2, hu])))) ?_;refine aU 5 rfl (by decide +kernel) rfl rfl rfl (by repeat first|exact aI|refine aD ?_|refine aC rfl ?_|refine aH ?_) (aM Tryz.isAgg3 rfl (rdA rfl)) ?_;refine aU 6 rfl (by decide +kernel) rfl rfl rfl (by repeat first|exact aI|refine aD ?_|refine aC rfl ?_|refine aH ?_) (bA bK rfl rfl (u) ⟨by omega, by omega, by first | omega | (simp; done) | (simp; omega)⟩) ?_;refine eM 7 rfl (by decide +kernel) rfl rfl (cB Tryz.sizeOf3 rfl rfl rfl rfl (by rw [List.length_append, aX, putTo_len, g4]; omega) (a6 (hZ (dC L j) (cH l L j) b (cW l L b j).2 (cW l L b j).1 (y + (t + 1))) ++ sp) (by rw [← hpn, List.set_append_left _ _ (by rw [aX, putTo_len, g4]; omega)]; simp [a6, List.map_set]) ⟨(by repeat first|exact aI|refine aD ?_|refine aC rfl ?_|refine aH ?_), ?_⟩);refine dF (by decide +kernel) ?_;refine r_back ?_;refine r_bn ?_
          refine cT (kh34 _ _ _ ?_);clear kh34;refine bE ?_;refine aP rfl rfl rfl rfl (bG rfl rfl _ (aT (by omega))) ?_;refine aP rfl rfl rfl rfl (aG rfl) ?_;refine bV ?_;refine cT (i4 (t + 1) (by first | omega | (dsimp only; omega) | (simp; omega)) rfl (by omega) ?_ ?_ ?_)
          · exact (by repeat constructor)
          · exact (by repeat constructor)
          · repeat first|exact aI|refine aD ?_|refine aC rfl ?_|refine aH ?_
         ·
          refine iY ?_;refine r_te ?_;clear kh33;refine r_te ?_;refine r_be ?_;refine cT (kh30 _ _ _ ?_);clear kh30;refine bE ?_;refine aP rfl rfl rfl rfl (aM Tryz.isAgg3 rfl (rdA rfl)) ?_;refine aP rfl rfl rfl rfl (bG rfl rfl _ (aT (by omega))) ?_;refine iM rfl rfl (Does.toR rfl (cB Tryz.sizeOf3 rfl rfl rfl rfl (by first | exact Nat.le_of_ble_eq_true rfl | (simp; done) | (simp; omega)) _ rfl ?_));refine bV ?_;refine r_bn ?_;exact lN (m' := [(bo, blk (a6 (hZ (dC L j) (cH l L j) b (cW l L b j).2 (cW l L b j).1 (y + t)) ++ sp) 3), (b10, blk [.int .i64 ((cW l L b j).2 + (ys.length : Int) + 1)] 3), (b9, blk [.slice (some ⟨bo, 0, none⟩) L.length co] 25), (b16, blk [.slice (some ⟨bv, 0, none⟩) (dC L j).length cv] 25), (bv, blk (a6 (dC L j) ++ spv) 3), (bo2, blk (a6 (cH l L j) ++ sp2) 3)]) (Sub.reg (out := [[(l_, .loop (d_.rc .busy none))], [(d_.D, .deferred (some []))], [(bo, blk (a6 (hZ (dC L j) (cH l L j) b (cW l L b j).2 (cW l L b j).1 (y + t)) ++ sp) 3)], [(b10, blk [.int .i64 ((cW l L b j).2 + (ys.length : Int) + 1)] 3)], [(b9, blk [.slice (some ⟨bo, 0, none⟩) L.length co] 25)], [(b16, blk [.slice (some ⟨bv, 0, none⟩) (dC L j).length cv] 25)], [(bv, blk (a6 (dC L j) ++ spv) 3)], [(bo2, blk (a6 (cH l L j) ++ sp2) 3)]]) (by repeat first|exact aI|refine aD ?_|refine aC rfl ?_|refine aH ?_) (by simp)) ⟨by rw [List.length_append, List.length_singleton, Nat.succ_mul]; omega, y + t, ys.length + 1, by rw [List.length_append, List.length_singleton, Nat.succ_mul]; omega, by simp, by rw [show (cW l L b j).2 + ((ys.length + 1 : Nat) : Int) = (cW l L b j).2 + (ys.length : Int) + 1 by omega]⟩
       ·
        intro D_ ys m_ o_ hF hI;obtain ⟨hlt, q, c, hq, rfl, hm_⟩ := hI
        obtain ⟨hF1, rfl⟩ := hF
        obtain rfl : q = (cH l L j).length := by omega
        have hnew : cW l L b (j + 1) = ((hZ (dC L j) (cH l L j) b (cW l L b j).2 (cW l L b j).1 ((cH l L j).length)), (cW l L b j).2 + ((((cH l L j).length + b - 1) / b : Nat) : Int)) := if_neg (by omega)
        rw [ceil_at (by omega) hF1 hlt] at hnew;have hm2 : m_ = [(bo, blk (a6 (cW l L b (j + 1)).1 ++ sp) 3), (b10, blk [.int .i64 ((cW l L b (j + 1)).2)] 3), (b9, blk [.slice (some ⟨bo, 0, none⟩) L.length co] 25), (b16, blk [.slice (some ⟨bv, 0, none⟩) (dC L j).length cv] 25), (bv, blk (a6 (dC L j) ++ spv) 3), (bo2, blk (a6 (cH l L j) ++ sp2) 3)] := by rw [hm_, hnew]
        subst hm2;refine r_subQ (Sub.reg (out := [[(D_, .deferred (some []))], mks mk, [(bo, blk (a6 (cW l L b (j + 1)).1 ++ sp) 3)], [(b10, blk [.int .i64 ((cW l L b (j + 1)).2)] 3)], [(b9, blk [.slice (some ⟨bo, 0, none⟩) L.length co] 25)], [(bs, blk (a6 (szs M L)) 3)], [(b3, blk [.int .i64 (L.length : Int), .slice A l.length cap] 24)]]) (out' := [mks (D_ :: mk), [(bo, blk (a6 (cW l L b (j + 1)).1 ++ sp) 3)], [(b10, blk [.int .i64 ((cW l L b (j + 1)).2)] 3)], [(b9, blk [.slice (some ⟨bo, 0, none⟩) L.length co] 25)], [(bs, blk (a6 (szs M L)) 3)], [(b3, blk [.int .i64 (L.length : Int), .slice A l.length cap] 24)]]) (Sub.op2 (parts := [[(bo, blk (a6 (cW l L b (j + 1)).1 ++ sp) 3)], [(b10, blk [.int .i64 ((cW l L b (j + 1)).2)] 3)], [(b9, blk [.slice (some ⟨bo, 0, none⟩) L.length co] 25)], [(b16, blk [.slice (some ⟨bv, 0, none⟩) (dC L j).length cv] 25)], [(bv, blk (a6 (dC L j) ++ spv) 3)], [(bo2, blk (a6 (cH l L j) ++ sp2) 3)]]) (by simp) (by dsimp only [List.cons_append, List.nil_append]; repeat first|exact aI|refine aD ?_|refine aC rfl ?_|refine aH ?_)) (by simp [mks])) ?_;refine r_bn ?_;refine r_bn ?_;refine cT (kh12 _ _ _ ?_);clear kh12;refine bE ?_;refine aP rfl rfl rfl rfl (bG rfl rfl _ (aT (by omega))) ?_;refine aP rfl rfl rfl rfl (aG rfl) ?_;refine bV ?_;refine cT (i4 (j + 1, D_ :: mk) (by first | omega | (dsimp only; omega) | (simp; omega)) rfl (by show j + 1 ≤ M; omega) ?_ ?_ ?_)
        · exact (by repeat constructor)
        · exact (by repeat constructor)
        · repeat first|exact aI|refine aD ?_|refine aC rfl ?_|refine aH ?_
       · intro D_ ys m_ o_ hF hI;exact hI.elim
   ·
    obtain rfl : M = j := by omega
    refine iY ?_;refine r_te ?_;clear kh11;refine r_te ?_;refine r_be ?_;refine cT (kh8 _ _ _ ?_);clear kh8;refine cL fun K36 kh36 => ?_;refine bE ?_;refine aP rfl rfl rfl rfl (aM Tryz.isAgg25 rfl (rdA rfl)) ?_;refine eI rfl rfl rfl (Does.toR rfl (fH [[(bo, blk (a6 (cW l L b M).1 ++ sp) 3)]] _ Tryz.call46 rfl (by repeat (first | exact Sub.refl | refine aD ?_)) (fun w_ hp_ => (by have h := tidy_spec bo co (cW l L b M).1 sp w_ (by rw [g4]; omega) (by rw [g4]; omega) (k4 o31 (g4 l L b M)) hp_.owns; rw [g4] at h; exact h)) ?_));rintro _ _ ⟨rfl, rfl, o104⟩;dsimp only [List.cons_append, List.nil_append];refine bV ?_;refine cT (kh36 _ _ _ ?_);clear kh36;refine cL fun K37 kh37 => ?_;refine bE ?_;refine aP rfl rfl rfl rfl (aM Tryz.isAgg25 rfl (rdA rfl)) ?_;refine aP rfl rfl rfl rfl (aF rfl) ?_;refine aP rfl rfl rfl rfl (aF rfl) ?_;refine bV ?_;refine cT (kh37 _ _ _ ?_);clear kh37;refine jX ?_;have hcl : (l4 l L b).length = L.length := by unfold l4; rw [eR, g4]
    exact iX [[(bo, blk (a6 (l4 l L b) ++ sp) 3)]] Tryz.results37 rfl rfl (by rw [l4, hM]; repeat first|exact aI|refine aD ?_|refine aC rfl ?_|refine aH ?_) ⟨l4 l L b, some ⟨bo, 0, none⟩, co, _, by rw [hcl, hz], rfl, (by have := k4 (L2 := l4 l L b) o31 hcl; exact this), fun h => absurd hz h, fun _ => rfl⟩
end Go.Proofs.YtjjogcnjcnpehaaGreat

/- package nest: first, within, bounded, Check, at, looked, many, Many, cellOf, members, Members. -/
namespace Go.Proofs.YtjjogcnjcnpehaaGreat
open Go Go.RowKit Fly
set_option linter.unusedVariables false
set_option linter.unusedSimpArgs false
/-- A row of cells that is read. -/
abbrev Row := Option Addr × List Int × Nat
abbrev eO (r : Row) : Value := .slice r.1 r.2.1.length r.2.2
def bI (R : List Row) : List (List Int) := R.map (·.2.1)
structure NestRo (S : Nat → Prop) (w : World) (Ab : Option Addr) (bs : List Int) (Ac : Option Addr) (R : List Row) : Prop where
  b : Ro S w Ab (a6 bs)
  bl : bs.length ≤ 9223372036854775807
  c : Ro S w Ac (R.map eO)
  cl : R.length ≤ 9223372036854775807
  rows : ∀ r ∈ R, Ro S w r.1 (a6 r.2.1) ∧ r.2.1.length ≤ 9223372036854775807
theorem NestRo.up0 {S : Nat → Prop} {w0 w : World} {m : Seg} {Ab Ac : Option Addr} {bs : List Int} {R : List Row} (h : NestRo S w0 Ab bs Ac R) (hp : Hp S w0 m w) : NestRo (Fr w []) w Ab bs Ac R :=
  ⟨h.b.up0 hp, h.bl, h.c.up0 hp, h.cl, fun r hr => ⟨(h.rows r hr).1.up0 hp, (h.rows r hr).2⟩⟩
theorem gF (R : List Row) : (bI R).length = R.length := by simp [bI]
theorem gM {R : List Row} {k : Nat} (h : k < R.length) : (bI R).getD k [] = R[k].2.1 := by simp [bI, List.getD_eq_getElem?_getD, h]
theorem bs_at {bs : List Int} {k : Nat} (h : k < bs.length) : bs.getD k 0 = bs[k] := by simp [List.getD_eq_getElem?_getD, h]
/-- Which cells of the level below have come, with the cell above of each. -/
structure Wi (b a : List Int) (v : Nat) (ents : List (Int × Value × Nat)) : Prop where
  yes : ∀ u (h : u < b.length) (h' : u < a.length), u < v → dI ents b[u] = some (.int .i64 a[u])
  no : ∀ c, c ∉ b.take v → dI ents c = none
theorem Wi.nil (b a : List Int) : Wi b a 0 [] := ⟨fun u _ _ h => by omega, fun c _ => rfl⟩
theorem Wi.val {b a : List Int} {v : Nat} {ents : List (Int × Value × Nat)} (h : Wi b a v ents) (hl : a.length = b.length) (c : Int) :
    ∃ p : Int, (dI ents c).getD (.int .i64 0) = .int .i64 p ∧ (dI ents c).isSome = decide (c ∈ b.take v) ∧ (c ∈ b.take v → ∃ u, ∃ hu : u < b.length, u < v ∧ b[u] = c ∧ a[u]'(by omega) = p) := by
  by_cases hm : c ∈ b.take v
  · obtain ⟨u, hu, e⟩ := List.mem_iff_getElem.1 hm
    rw [List.getElem_take] at e;rw [List.length_take] at hu;have := h.yes u (by omega) (by omega) (by omega)
    rw [e] at this;exact ⟨a[u]'(by omega), by rw [this]; rfl, by rw [this, decide_eq_true hm]; rfl, fun _ => ⟨u, by omega, by omega, e, rfl⟩⟩
  · exact ⟨0, by rw [h.no c hm]; rfl, by rw [h.no c hm, decide_eq_false hm]; rfl, fun h => absurd h hm⟩
theorem Wi.next {b a : List Int} {v : Nat} {ents : List (Int × Value × Nat)} (h : Wi b a v ents) (hl : a.length = b.length) (hv : v < b.length) (hs : b[v] ∈ b.take v → ∃ u, ∃ hu : u < b.length, u < v ∧ b[u] = b[v] ∧ a[u]'(by omega) = a[v]'(by omega)) (k : Nat) : Wi b a (v + 1) (eW ents b[v] (.int .i64 (a[v]'(by omega))) k) where
  yes := fun u hu hu' huv => by
    rw [gS]
    by_cases e : b[u] = b[v]
    · rw [if_pos e]
      by_cases e2 : u = v
      · subst e2; rfl
      · have huv' : u < v := by omega
        have hm : b[v] ∈ b.take v := by rw [← e]; exact List.mem_iff_getElem.2 ⟨u, by rw [List.length_take]; omega, List.getElem_take⟩
        obtain ⟨w, hw, hwv, e3, e4⟩ := hs hm
        have h1 := h.yes w hw (by omega) hwv
        have h2 := h.yes u hu hu' huv'
        rw [e3] at h1;rw [e, h1] at h2;rw [← e4]; exact h2
    · rw [if_neg e]
      refine h.yes u hu hu' ?_
      by_cases e2 : u = v
      · subst e2; exact absurd rfl e
      · omega
  no := fun c hc => by
    rw [List.take_succ_eq_append_getElem hv, List.mem_append, List.mem_singleton] at hc;rw [gS, if_neg (fun e => hc (.inr e))];exact h.no c fun hm => hc (.inl hm)
theorem Wi.all {b a : List Int} {ents : List (Int × Value × Nat)} (h : Wi b a b.length ents) (hl : a.length = b.length) : h9 b a := fun u hu v hv e => by
  simp only [List.getD_eq_getElem?_getD, List.getElem?_eq_getElem hu, List.getElem?_eq_getElem hv, List.getElem?_eq_getElem (show u < a.length by omega), List.getElem?_eq_getElem (show v < a.length by omega), Option.getD_some] at e ⊢;have h1 := h.yes u hu (by omega) hu
  have h2 := h.yes v hv (by omega) hv
  rw [e, h2] at h1;simp at h1;exact h1.symm
theorem not_within {b a : List Int} {u v : Nat} (hl : a.length = b.length) (hu : u < b.length) (hv : v < b.length) (e : b[u] = b[v]) (hne : a[u]'(by omega) ≠ a[v]'(by omega)) : ¬ h9 b a := fun h => hne (by
  have := h u hu v hv (by simp only [List.getD_eq_getElem?_getD, List.getElem?_eq_getElem hu, List.getElem?_eq_getElem hv, Option.getD_some]; exact e)
  simpa [List.getD_eq_getElem?_getD, show u < a.length by omega, show v < a.length by omega] using this)
/-- The members found so far. -/
def dM (L : List Int) (c : Int) (k : Nat) : List Int := ((List.range k).filter fun v => decide (L.getD v 0 = c)).map fun v : Nat => (v : Int)
theorem memTo_yes {L : List Int} {c : Int} {k : Nat} (h : L.getD k 0 = c) : dM L c (k + 1) = dM L c k ++ [(k : Int)] := by
  unfold dM; rw [List.range_succ, List.filter_append, List.map_append, List.filter_cons, if_pos (decide_eq_true h)]; rfl
theorem memTo_no {L : List Int} {c : Int} {k : Nat} (h : L.getD k 0 ≠ c) : dM L c (k + 1) = dM L c k := by
  unfold dM; rw [List.range_succ, List.filter_append, List.map_append, List.filter_cons, if_neg (by rw [decide_eq_false h]; simp)]; simp
theorem jQ (L : List Int) (c : Int) (k : Nat) : (dM L c k).length ≤ k := by
  unfold dM; rw [List.length_map]; exact Nat.le_trans (List.length_filter_le _ _) (by simp)
theorem spE_zeroN {N : Int} {l : List Arc} {L : List Int} {bd : Int} (h : spE N l L bd = 0) : ∃ n : Nat, N = (n : Int) ∧ 1 ≤ n ∧ n ≤ 1024 ∧ (bH (n : Int) l).2 = 0 ∧ c7 (n : Int) L = true ∧ 1 ≤ bd ∧ bd ≤ 1024 := by
  unfold spE at h
  by_cases h1 : (eD N l L).2 = 0
  · rw [if_neg (by rw [h1]; simp)] at h
    have hg : (bH N l).2 = 0 := by
      unfold eD at h1
      by_cases h2 : (bH N l).2 = 0
      · exact h2
      · rw [if_pos h2] at h1; exact absurd h1 h2
    have hz := bX hg
    obtain ⟨n, rfl⟩ : ∃ n : Nat, N = (n : Int) := ⟨N.toNat, by omega⟩
    by_cases h3 : bd < 1 ∨ 1024 < bd
    · rw [if_pos h3] at h; cases h
    · exact ⟨n, rfl, by omega, by omega, hg, lc_right hg h1, by omega, by omega⟩
  · rw [if_pos h1] at h; exact absurd h h1
set_option maxRecDepth 100000 in
set_option maxHeartbeats 4000000 in
theorem SizesN_spec (N : Int) (A : Option Addr) (l : List Arc) (cap : Nat) (B : Option Addr) (L : List Int) (cb : Nat) (w : World) (hr : Ro (Fr w []) w A (l.flatMap cE)) (hl : l.length ≤ 9223372036854775807) (hN : I64 N) (hok : ∀ x ∈ l, dQ x) (hL : Ro (Fr w []) w B (a6 L)) (hm : L.length ≤ 9223372036854775807) (hz : spE N l L 1 = 0) :
    Meets Tryz.prog 48 [.agg #[.int .i64 N, .slice A l.length cap], .slice B L.length cb] w [] (fun u own' => ∃ b, u = .tuple #[.slice (some ⟨b, 0, none⟩) (d4 L + 1).toNat (d4 L + 1).toNat, .int .i64 0] ∧ own' = [[(b, blk (a6 (cQ L)) 3)]]) := by
 obtain ⟨n, rfl, hn1, hn2, hg, hR, _⟩ := spE_zeroN hz
 obtain rfl : L.length = n := (cN hR).2
 have hrg := dY hR hn1
 refine bJ Tryz.func48 rfl Tryz.ntmps48 rfl Owns.nil ?_;refine aK fun K1 kh1 => ?_;refine aB ?_;refine aR rfl rfl rfl (cZ rfl rfl fun b2 => ?_);refine aA rfl rfl rfl (aF rfl) ?_;refine aA rfl rfl rfl (aF rfl) ?_;refine aJ ?_;refine aL (kh1 _ _ ?_);clear kh1;refine aK fun K2 kh2 => ?_;refine aK fun K3 kh3 => ?_;refine aB ?_;refine aA rfl rfl rfl (a8 (vs := [_, _]) Tryz.isAgg24 Tryz.sizeOf24 rfl rfl ⟨(rdA rfl), (rdA rfl), trivial⟩) ?_;refine aA rfl rfl rfl (aG rfl) ?_;refine aR rfl rfl rfl (bD Tryz.call39 rfl (fun w_ hp_ => splook_spec (L.length : Int) A B l cap L cb 1 w_ (hr.up0 hp_) hl hN hok (hL.up0 hp_) hm) ?_);rintro _ _ ⟨rfl, rfl⟩;rw [hz];dsimp only [List.cons_append, List.nil_append];refine aA rfl rfl rfl (aF rfl) ?_;refine aJ ?_;refine aL (kh3 _ _ ?_);clear kh3;refine aK fun K4 kh4 => ?_;refine aB ?_;refine aA rfl rfl rfl (aG rfl) ?_;refine aA rfl rfl rfl (c6 rfl rfl) ?_;refine aJ ?_;refine aL (kh4 _ _ ?_);clear kh4;refine e7 rfl (by simp) ?_;refine aW ?_;refine aL (kh2 _ _ ?_);clear kh2;refine aK fun K5 kh5 => ?_;refine aB ?_;refine aA rfl rfl rfl (aG rfl) ?_;refine aR rfl rfl rfl (bD Tryz.call41 rfl (fun w_ hp_ => lK B L cb w_ (hL.up0 hp_) (by omega) (by omega) (fun x hx => by have := hrg x hx; omega)) ?_);rintro _ _ ⟨bs, rfl, rfl⟩;dsimp only [List.cons_append, List.nil_append];refine aA rfl rfl rfl (aF rfl) ?_;refine aA rfl rfl rfl (aF rfl) ?_;refine aJ ?_;refine aL (kh5 _ _ ?_);clear kh5;refine a7 ?_;exact bW [[(bs, blk (a6 (cQ L)) 3)]] Tryz.results48 rfl rfl (by repeat first|exact aI|refine aD ?_|refine aC rfl ?_|refine aH ?_) ⟨bs, rfl, rfl⟩
set_option maxRecDepth 100000 in
set_option maxHeartbeats 4000000 in
theorem first_spec (N : Int) (A : Option Addr) (l : List Arc) (cap : Nat) (B : Option Addr) (L : List Int) (cb : Nat) (b : Int) (w : World) (hr : Ro (Fr w []) w A (l.flatMap cE)) (hl : l.length ≤ 9223372036854775807) (hN : I64 N) (hok : ∀ x ∈ l, dQ x) (hL : Ro (Fr w []) w B (a6 L)) (hm : L.length ≤ 9223372036854775807) (hg : (bH N l).2 = 0) :
    Meets Tryz.prog 23 [.agg #[.int .i64 N, .slice A l.length cap], .slice B L.length cb, .int .i64 b] w [] (fun u m => u = .int .i64 (iP N l L b) ∧ m = []) := by
 refine bJ Tryz.func23 rfl Tryz.ntmps23 rfl Owns.nil ?_;refine aK fun K1 kh1 => ?_;refine aB ?_;refine aR rfl rfl rfl (cZ rfl rfl fun b3 => ?_);refine aA rfl rfl rfl (aF rfl) ?_;refine aJ ?_;refine aL (kh1 _ _ ?_);clear kh1;refine aK fun K2 kh2 => ?_;refine aK fun K3 kh3 => ?_;refine aB ?_;refine aA rfl rfl rfl (a8 (vs := [_, _]) Tryz.isAgg24 Tryz.sizeOf24 rfl rfl ⟨(rdA rfl), (rdA rfl), trivial⟩) ?_;refine aA rfl rfl rfl (aG rfl) ?_;refine aR rfl rfl rfl (bD Tryz.call47 rfl (fun w_ hp_ => Count_spec N A B l cap L cb w_ (hr.up0 hp_) hl hN hok (hL.up0 hp_) hm) ?_);rintro _ _ ⟨rfl, rfl⟩;dsimp only [List.cons_append, List.nil_append];refine aA rfl rfl rfl (aG rfl) ?_;refine aA rfl rfl rfl (aV rfl rfl) ?_;refine aA rfl rfl rfl (aV rfl rfl) ?_;refine aA rfl rfl rfl (aF rfl) ?_;refine aA rfl rfl rfl (aF rfl) ?_;refine aJ ?_;refine aL (kh3 _ _ ?_);clear kh3;refine aK fun K4 kh4 => ?_;refine aB ?_;refine aA rfl rfl rfl (aG rfl) ?_;refine aA rfl rfl rfl (c6 rfl rfl) ?_;refine aJ ?_;refine aL (kh4 _ _ ?_);clear kh4;refine aZ rfl (fun c18 => ?_) (fun c18 => ?_)
 ·
  refine aK fun K5 kh5 => ?_;refine aB ?_;refine aA rfl rfl rfl (aG rfl) ?_;refine aA rfl rfl rfl (aF rfl) ?_;refine aJ ?_;refine aL (kh5 _ _ ?_);clear kh5;refine a7 ?_;refine bT ?_;exact bP [] Tryz.results23 rfl aI ⟨by unfold iP; rw [if_pos (by simpa using c18)], rfl⟩
 ·
  have hlc : (eD N l L).2 = 0 := by simpa using c18
  have hR := lc_right hg hlc
  have hgz := bX hg
  have hz1 := spE_oneN hg hR (bd := 1) (by omega)
  obtain ⟨n, hNe⟩ : ∃ n : Nat, N = (n : Int) := ⟨N.toNat, by omega⟩
  have hR2 : c7 (n : Int) L = true := by rw [← hNe]; exact hR
  have hrg := dY hR2 (by omega)
  have hLn := (cN hR2).2
  have hr0 := hrg _ (List.getElem_mem (show 0 < L.length by omega))
  have hsl : (cQ L).length = (d4 L + 1).toNat := eT _ _
  refine aW ?_;refine aL (kh2 _ _ ?_);clear kh2;refine aK fun K6 kh6 => ?_;refine aB ?_;refine aA rfl rfl rfl (a8 (vs := [_, _]) Tryz.isAgg24 Tryz.sizeOf24 rfl rfl ⟨(rdA rfl), (rdA rfl), trivial⟩) ?_;refine aA rfl rfl rfl (aG rfl) ?_;refine aR rfl rfl rfl (bD Tryz.call48 rfl (fun w_ hp_ => SizesN_spec N A l cap B L cb w_ (hr.up0 hp_) hl hN hok (hL.up0 hp_) hm hz1) ?_);rintro _ _ ⟨bs_, rfl, rfl⟩;dsimp only [List.cons_append, List.nil_append];refine aA rfl rfl rfl (aG rfl) ?_;refine aA rfl rfl rfl (aV rfl rfl) ?_;refine aA rfl rfl rfl (aV rfl rfl) ?_;refine aA rfl rfl rfl (aF rfl) ?_;refine aA rfl rfl rfl (aF rfl) ?_;refine aJ ?_;refine aL (kh6 _ _ ?_);clear kh6;refine aK fun K7 kh7 => ?_;refine aK fun K8 kh8 => ?_;refine aB ?_;refine aA rfl rfl rfl (aG rfl) ?_;refine aA rfl rfl rfl (c6 rfl rfl) ?_;refine aJ ?_;refine aL (kh8 _ _ ?_);clear kh8;refine e7 rfl (by simp) ?_;refine aW ?_;refine aL (kh7 _ _ ?_);clear kh7;refine aK fun K9 kh9 => ?_;refine aK fun K10 kh10 => ?_;refine aB ?_;refine aA rfl rfl rfl (aG rfl) ?_;refine aR rfl rfl rfl (bD Tryz.call40 rfl (fun w_ hp_ => (by have h := kA (some ⟨bs_, 0, none⟩) (cQ L) (d4 L + 1).toNat w_ (iV (b := bs_) hp_ (cs := a6 (cQ L)) (fun j v hj => hj)) (by rw [hsl]; omega) (by rw [hsl]; omega); rw [hsl] at h; exact h)) ?_);rintro _ _ ⟨rfl, rfl⟩;dsimp only [List.cons_append, List.nil_append];refine aA rfl rfl rfl (aG rfl) ?_;refine aA rfl rfl rfl (eQ rfl rfl) ?_;refine aJ ?_;refine aL (kh10 _ _ ?_);clear kh10;refine aZ rfl (fun c32 => ?_) (fun c32 => ?_)
  ·
   refine aK fun K11 kh11 => ?_;refine aB ?_;refine aA rfl rfl rfl (aF rfl) ?_;refine aJ ?_;refine aL (kh11 _ _ ?_);clear kh11;refine a7 ?_;refine bT ?_;exact bP [] Tryz.results23 rfl aI ⟨by unfold iP; rw [if_neg (by rw [hlc]; simp), if_pos (by omega)], rfl⟩
  ·
   refine aW ?_;refine aL (kh9 _ _ ?_);clear kh9;refine aK fun K12 kh12 => ?_;refine aB ?_;refine aA rfl rfl rfl (aF rfl) ?_;refine aJ ?_;refine aL (kh12 _ _ ?_);clear kh12;refine a7 ?_;exact bP [] Tryz.results23 rfl aI ⟨by unfold iP; rw [if_neg (by rw [hlc]; simp), if_neg (by omega)], rfl⟩
set_option maxRecDepth 100000 in
set_option maxHeartbeats 4000000 in
theorem within_spec (B C : Option Addr) (b a : List Int) (cb ca la : Nat) (w : World) (hb : Ro (Fr w []) w B (a6 b)) (ha : Ro (Fr w []) w C (a6 a)) (hla : a.length = la) (hl : a.length = b.length) (hm : b.length ≤ 1024) :
    Meets Tryz.prog 24 [.slice B b.length cb, .slice C la ca] w [] (fun u m => u = .bool (decide (h9 b a)) ∧ m = []) := by
 subst hla;refine bJ Tryz.func24 rfl Tryz.ntmps24 rfl Owns.nil ?_;refine aK fun K1 kh1 => ?_;refine aB ?_;refine aA rfl rfl rfl (aF rfl) ?_;refine aJ ?_;refine aL (kh1 _ _ ?_);clear kh1;refine aK fun K2 kh2 => ?_;refine aB ?_;refine aR rfl rfl rfl (iH fun b10 => ?_);refine aA rfl rfl rfl (aF rfl) ?_;refine aJ ?_;refine aL (kh2 _ _ ?_);clear kh2;refine aK fun K3 kh3 => ?_;refine aK fun K4 kh4 => ?_;refine aB ?_;refine aA rfl rfl rfl (aG rfl) ?_;refine aA rfl rfl rfl (bS bK rfl) ?_;refine aA rfl rfl rfl (aG rfl) ?_;refine aJ ?_;refine aL (kh4 _ _ ?_);clear kh4;refine aY ?_;refine cS (α := Nat × List (Int × Value × Nat) × Nat) [1, 5, 11, 12] (fun ⟨v, ents, c1⟩ => [(13, .int .i64 (v : Int))]) (fun ⟨v, ents, c1⟩ => [[(b10, f3 (fun x : Int => .int .i64 x) ents c1)]]) (fun ⟨v, ents, c1⟩ => v ≤ b.length ∧ MOk ents c1 ∧ Wi b a v ents) (fun ⟨v, ents, c1⟩ => b.length - v) (0, [], 0) ?_ ?_ ?_ ?_
 · exact (by repeat constructor)
 · repeat first|exact aI|refine aD ?_|refine aC rfl ?_|refine aH ?_
 · exact ⟨Nat.zero_le _, MOk.nil, Wi.nil b a⟩
 ·
  rintro ⟨v, ents, c1⟩ ⟨hvl, hmap, hW⟩;refine aK fun K5 kh5 => ?_;refine aB ?_;refine aA rfl rfl rfl (cD rfl rfl) ?_;refine aJ ?_;refine aL (kh5 _ _ ?_);clear kh5;refine aK fun K6 kh6 => ?_;refine aZ rfl (fun c14 => ?_) (fun c14 => ?_)
  ·
   have hv : v < b.length := by omega
   have hva : v < a.length := by omega
   obtain ⟨b1, o1, rfl, hS1, hc1⟩ := hb (fun e => by have := aX b; rw [e] at this; simp at this; omega)
   obtain ⟨b2, o2, rfl, hS2, hc2⟩ := ha (fun e => by have := aX a; rw [e] at this; simp at this; omega)
   obtain ⟨p, hp1, hp2, hp3⟩ := hW.val hl b[v]
   refine aW ?_;refine aL (kh6 _ _ ?_);clear kh6;refine aK fun K7 kh7 => ?_;refine aY ?_;refine aK fun K8 kh8 => ?_;refine aB ?_;refine aA rfl rfl rfl (aG rfl) ?_;refine aA rfl rfl rfl (bA bK rfl rfl (o1 + v) ⟨by omega, by omega, by first | omega | (simp; done) | (simp; omega)⟩) ?_;refine aA rfl rfl rfl (aM Tryz.isAgg3 rfl (dX (enc := (.int .i64 ·)) hS1 hc1 hv)) ?_;refine aA rfl rfl rfl (aF rfl) ?_;refine aA rfl rfl rfl (aF rfl) ?_;refine aJ ?_;refine aL (kh8 _ _ ?_);clear kh8;refine aK fun K9 kh9 => ?_;refine aK fun K10 kh10 => ?_;refine aB ?_;refine aA rfl rfl rfl (aG rfl) ?_;refine aA rfl rfl rfl (aG rfl) ?_;refine aA rfl rfl rfl (o_lookup2 kt86 Tryz.zeroValue3 rfl rfl rfl (.int .i64 p) hp1 (decide (b[v] ∈ b.take v)) hp2) ?_;refine aA rfl rfl rfl (aG rfl) ?_;refine aA rfl rfl rfl (aV rfl rfl) ?_;refine aA rfl rfl rfl (aV rfl rfl) ?_;refine aA rfl rfl rfl (aF rfl) ?_;refine aA rfl rfl rfl (aF rfl) ?_;refine aJ ?_;refine aL (kh10 _ _ ?_);clear kh10;refine aK fun K11 kh11 => ?_;refine aB ?_;refine aA rfl rfl rfl (aG rfl) ?_;refine aA rfl rfl rfl (aG rfl) ?_;refine cX 25 rfl (fun g25 => ?_) (fun g25 => ?_)
   ·
    refine aO rfl rfl rfl rfl rfl (aG rfl) ?_;refine aO rfl rfl rfl rfl rfl (aG rfl) ?_;refine aO rfl rfl rfl rfl rfl (aG rfl) ?_;refine aO rfl rfl rfl rfl rfl (bA bK rfl rfl (o2 + v) ⟨by omega, by omega, by first | omega | (simp; done) | (simp; omega)⟩) ?_;refine aO rfl rfl rfl rfl rfl (aM Tryz.isAgg3 rfl (dX (enc := (.int .i64 ·)) hS2 hc2 hva)) ?_;refine aO rfl rfl rfl rfl rfl (c6 rfl rfl) ?_;refine aA rfl rfl rfl (cF rfl rfl) ?_;refine aJ ?_;refine aL (kh11 _ _ ?_);clear kh11;refine aZ rfl (fun c32 => ?_) (fun c32 => ?_)
    ·
     refine aK fun K12 kh12 => ?_;refine aB ?_;refine aA rfl rfl rfl (aF rfl) ?_;refine aJ ?_;refine aL (kh12 _ _ ?_);clear kh12;refine a7 ?_;refine bT ?_;refine eC ?_;refine bT ?_;refine bT ?_;refine eC ?_;refine bT ?_;obtain ⟨u, hu, huv, e1, e2⟩ := hp3 (by simpa using g25)
     exact bP [] Tryz.results24 rfl (by repeat first|exact aI|refine aD ?_|refine aC rfl ?_|refine aH ?_) ⟨by rw [decide_eq_false (not_within hl hu hv e1 (by omega))], rfl⟩
    ·
     refine aW ?_;refine aL (kh9 _ _ ?_);clear kh9;refine aB ?_;refine aA rfl rfl rfl (aG rfl) ?_;refine aA rfl rfl rfl (aG rfl) ?_;refine aA rfl rfl rfl (aG rfl) ?_;refine aA rfl rfl rfl (aG rfl) ?_;refine aA rfl rfl rfl (bA bK rfl rfl (o2 + v) ⟨by omega, by omega, by first | omega | (simp; done) | (simp; omega)⟩) ?_;refine aA rfl rfl rfl (aM Tryz.isAgg3 rfl (dX (enc := (.int .i64 ·)) hS2 hc2 hva)) ?_;refine bF rfl rfl (gO kt86 rfl rfl rfl rfl ?_);refine aJ ?_;refine cV ?_;refine aL (kh7 _ _ ?_);clear kh7;refine aB ?_;refine aA rfl rfl rfl (bG rfl rfl _ (aT (by omega))) ?_;refine aA rfl rfl rfl (aG rfl) ?_;refine aJ ?_;refine aL (bB (v + 1, eW ents b[v] (.int .i64 a[v]) c1, fF ents b[v] c1) (by first | omega | (dsimp only; omega) | (simp; omega)) ⟨by omega, hmap.put _ _, hW.next hl hv (fun hm => by obtain ⟨u, hu, huv, e1, e2⟩ := hp3 hm; exact ⟨u, hu, huv, e1, by omega⟩) _⟩ ?_ ?_ ?_)
     · exact (by repeat constructor)
     · exact (by repeat constructor)
     · repeat first|exact aI|refine aD ?_|refine aC rfl ?_|refine aH ?_
   ·
    refine aS rfl rfl rfl rfl rfl rfl ?_;refine aS rfl rfl rfl rfl rfl rfl ?_;refine aS rfl rfl rfl rfl rfl rfl ?_;refine aS rfl rfl rfl rfl rfl rfl ?_;refine aS rfl rfl rfl rfl rfl rfl ?_;refine aS rfl rfl rfl rfl rfl rfl ?_;refine aA rfl rfl rfl (cO rfl rfl) ?_;refine aJ ?_;refine aL (kh11 _ _ ?_);clear kh11;refine gZ rfl ?_;refine aW ?_;refine aL (kh9 _ _ ?_);clear kh9;refine aB ?_;refine aA rfl rfl rfl (aG rfl) ?_;refine aA rfl rfl rfl (aG rfl) ?_;refine aA rfl rfl rfl (aG rfl) ?_;refine aA rfl rfl rfl (aG rfl) ?_;refine aA rfl rfl rfl (bA bK rfl rfl (o2 + v) ⟨by omega, by omega, by first | omega | (simp; done) | (simp; omega)⟩) ?_;refine aA rfl rfl rfl (aM Tryz.isAgg3 rfl (dX (enc := (.int .i64 ·)) hS2 hc2 hva)) ?_;refine bF rfl rfl (gO kt86 rfl rfl rfl rfl ?_);refine aJ ?_;refine cV ?_;refine aL (kh7 _ _ ?_);clear kh7;refine aB ?_;refine aA rfl rfl rfl (bG rfl rfl _ (aT (by omega))) ?_;refine aA rfl rfl rfl (aG rfl) ?_;refine aJ ?_;refine aL (bB (v + 1, eW ents b[v] (.int .i64 a[v]) c1, fF ents b[v] c1) (by first | omega | (dsimp only; omega) | (simp; omega)) ⟨by omega, hmap.put _ _, hW.next hl hv (fun hm => absurd hm (by simpa using g25)) _⟩ ?_ ?_ ?_)
    · exact (by repeat constructor)
    · exact (by repeat constructor)
    · repeat first|exact aI|refine aD ?_|refine aC rfl ?_|refine aH ?_
  ·
   refine cG ?_;refine cK ?_;clear kh6;refine cK ?_;refine d5 ?_;refine aL (kh3 _ _ ?_);clear kh3;refine aK fun K13 kh13 => ?_;refine aB ?_;refine aA rfl rfl rfl (aF rfl) ?_;refine aJ ?_;refine aL (kh13 _ _ ?_);clear kh13;refine a7 ?_;obtain rfl : v = b.length := by omega
   exact bP [] Tryz.results24 rfl (by repeat first|exact aI|refine aD ?_|refine aC rfl ?_|refine aH ?_) ⟨by rw [decide_eq_true (hW.all hl)], rfl⟩
set_option maxRecDepth 100000 in
set_option maxHeartbeats 4000000 in
theorem nbounded_spec (b c : Int) (w : World) :
    Meets Tryz.prog 22 [.int .i64 b, .int .i64 c] w [] (fun u m => u = .bool (decide (c < b ∧ b ≤ 1024)) ∧ m = []) := by
 refine bJ Tryz.func22 rfl Tryz.ntmps22 rfl Owns.nil ?_;refine aK fun K1 kh1 => ?_;refine aB ?_;refine aA rfl rfl rfl (aF rfl) ?_;refine aJ ?_;refine aL (kh1 _ _ ?_);clear kh1;refine aK fun K2 kh2 => ?_;refine aB ?_;refine aA rfl rfl rfl (aG rfl) ?_;refine aA rfl rfl rfl (aG rfl) ?_;refine aA rfl rfl rfl (eQ rfl rfl) ?_;refine aA rfl rfl rfl (aG rfl) ?_;refine cX 8 rfl (fun g8 => ?_) (fun g8 => ?_)
 ·
  refine aO rfl rfl rfl rfl rfl (aG rfl) ?_;refine aO rfl rfl rfl rfl rfl (o_leq rfl rfl) ?_;refine aA rfl rfl rfl (cF rfl rfl) ?_;refine aA rfl rfl rfl (aF rfl) ?_;refine aJ ?_;refine aL (kh2 _ _ ?_);clear kh2;refine a7 ?_;exact bP [] Tryz.results22 rfl aI ⟨by congr 1; apply decide_eq_decide.2; omega, rfl⟩
 · refine aS rfl rfl rfl rfl rfl rfl ?_;refine aS rfl rfl rfl rfl rfl rfl ?_;refine aA rfl rfl rfl (cO rfl rfl) ?_;refine aA rfl rfl rfl (aF rfl) ?_;refine aJ ?_;refine aL (kh2 _ _ ?_);clear kh2;refine a7 ?_;exact bP [] Tryz.results22 rfl aI ⟨by rw [decide_eq_false (by omega)], rfl⟩
set_option maxRecDepth 100000 in
set_option maxHeartbeats 4000000 in
theorem NCheck_spec (N : Int) (A : Option Addr) (l : List Arc) (cap : Nat) (Ab : Option Addr) (bs : List Int) (cb : Nat) (Ac : Option Addr) (R : List Row) (cc : Nat) (w : World) (hr : Ro (Fr w []) w A (l.flatMap cE)) (hl : l.length ≤ 9223372036854775807) (hN : I64 N) (hok : ∀ x ∈ l, dQ x) (hn : NestRo (Fr w []) w Ab bs Ac R) :
    Meets Tryz.prog 9 [.agg #[.int .i64 N, .slice A l.length cap], .agg #[.slice Ab bs.length cb, .slice Ac R.length cc]] w [] (fun u m => u = .tuple #[.int .i64 (nsE N l bs (bI R)).1, .int .i64 (nsE N l bs (bI R)).2] ∧ m = []) := by
 have hrl := gF R
 refine bJ Tryz.func9 rfl Tryz.ntmps9 rfl Owns.nil ?_;refine aK fun K1 kh1 => ?_;refine aB ?_;refine aR rfl rfl rfl (cZ rfl rfl fun b2 => ?_);refine aR rfl rfl rfl (cZ rfl rfl fun b3 => ?_);refine aA rfl rfl rfl (aF rfl) ?_;refine aA rfl rfl rfl (aF rfl) ?_;refine aJ ?_;refine aL (kh1 _ _ ?_);clear kh1;refine aK fun K2 kh2 => ?_;refine aK fun K3 kh3 => ?_;refine aB ?_;refine aA rfl rfl rfl (a8 (vs := [_, _]) Tryz.isAgg24 Tryz.sizeOf24 rfl rfl ⟨(rdA rfl), (rdA rfl), trivial⟩) ?_;refine aR rfl rfl rfl (bD Tryz.call21 rfl (fun w_ hp_ => fG N A l cap w_ (hr.up0 hp_) hl hN hok) ?_);rintro _ _ ⟨rfl, rfl⟩;dsimp only [List.cons_append, List.nil_append];refine aA rfl rfl rfl (aG rfl) ?_;refine aA rfl rfl rfl (aV rfl rfl) ?_;refine aA rfl rfl rfl (aV rfl rfl) ?_;refine aA rfl rfl rfl (aF rfl) ?_;refine aA rfl rfl rfl (aF rfl) ?_;refine aJ ?_;refine aL (kh3 _ _ ?_);clear kh3;refine aK fun K4 kh4 => ?_;refine aB ?_;refine aA rfl rfl rfl (aG rfl) ?_;refine aA rfl rfl rfl (c6 rfl rfl) ?_;refine aJ ?_;refine aL (kh4 _ _ ?_);clear kh4;refine aZ rfl (fun c18 => ?_) (fun c18 => ?_)
 ·
  refine aK fun K5 kh5 => ?_;refine aB ?_;refine aA rfl rfl rfl (aG rfl) ?_;refine aA rfl rfl rfl (aF rfl) ?_;refine aA rfl rfl rfl (aF rfl) ?_;refine aJ ?_;refine aL (kh5 _ _ ?_);clear kh5;refine a7 ?_;refine bT ?_;have e : nsE N l bs (bI R) = (0, (bH N l).2) := by unfold nsE; rw [if_pos (by simpa using c18)]
  exact bW [] Tryz.results9 rfl rfl aI ⟨by rw [e], rfl⟩
 ·
  have hg : (bH N l).2 = 0 := by simpa using c18
  have hgz := bX hg
  refine aW ?_;refine aL (kh2 _ _ ?_);clear kh2;refine aK fun K6 kh6 => ?_;refine aK fun K7 kh7 => ?_;refine aB ?_;refine aA rfl rfl rfl (aQ fa32_0 rfl) ?_;refine aA rfl rfl rfl (aM Tryz.isAgg25 rfl (rdA rfl)) ?_;refine aA rfl rfl rfl (bS bK rfl) ?_;refine aA rfl rfl rfl (cD rfl rfl) ?_;refine aA rfl rfl rfl (aG rfl) ?_;refine cX 24 rfl (fun g24 => ?_) (fun g24 => ?_)
  ·
   refine aS rfl rfl rfl rfl rfl rfl ?_;refine aS rfl rfl rfl rfl rfl rfl ?_;refine aS rfl rfl rfl rfl rfl rfl ?_;refine aS rfl rfl rfl rfl rfl rfl ?_;refine aA rfl rfl rfl (cF rfl rfl) ?_;refine aA rfl rfl rfl (aG rfl) ?_;refine aS rfl rfl rfl rfl rfl rfl ?_;refine aS rfl rfl rfl rfl rfl rfl ?_;refine aS rfl rfl rfl rfl rfl rfl ?_;refine aS rfl rfl rfl rfl rfl rfl ?_;refine aS rfl rfl rfl rfl rfl rfl ?_;refine aS rfl rfl rfl rfl rfl rfl ?_;refine aS rfl rfl rfl rfl rfl rfl ?_;refine aA rfl rfl rfl (cF rfl rfl) ?_;refine aJ ?_;refine aL (kh7 _ _ ?_);clear kh7;refine eF rfl ?_;refine aK fun K8 kh8 => ?_;refine aB ?_;refine aA rfl rfl rfl (aF rfl) ?_;refine aA rfl rfl rfl (aF rfl) ?_;refine aJ ?_;refine aL (kh8 _ _ ?_);clear kh8;refine a7 ?_;refine bT ?_;have e : nsE N l bs (bI R) = (0, 111) := by unfold nsE; rw [if_neg (by rw [hg]; simp), if_pos (by omega)]
   exact bW [] Tryz.results9 rfl rfl aI ⟨by rw [e], rfl⟩
  ·
   refine aO rfl rfl rfl rfl rfl (aQ fa32_0 rfl) ?_;refine aO rfl rfl rfl rfl rfl (aM Tryz.isAgg25 rfl (rdA rfl)) ?_;refine aO rfl rfl rfl rfl rfl (bS bK rfl) ?_;refine aO rfl rfl rfl rfl rfl (eQ rfl rfl) ?_;refine aA rfl rfl rfl (cO rfl rfl) ?_;refine aA rfl rfl rfl (aG rfl) ?_;refine cX 30 rfl (fun g30 => ?_) (fun g30 => ?_)
   ·
    refine aS rfl rfl rfl rfl rfl rfl ?_;refine aS rfl rfl rfl rfl rfl rfl ?_;refine aS rfl rfl rfl rfl rfl rfl ?_;refine aS rfl rfl rfl rfl rfl rfl ?_;refine aS rfl rfl rfl rfl rfl rfl ?_;refine aS rfl rfl rfl rfl rfl rfl ?_;refine aS rfl rfl rfl rfl rfl rfl ?_;refine aA rfl rfl rfl (cF rfl rfl) ?_;refine aJ ?_;refine aL (kh7 _ _ ?_);clear kh7;refine eF rfl ?_;refine aK fun K9 kh9 => ?_;refine aB ?_;refine aA rfl rfl rfl (aF rfl) ?_;refine aA rfl rfl rfl (aF rfl) ?_;refine aJ ?_;refine aL (kh9 _ _ ?_);clear kh9;refine a7 ?_;refine bT ?_;have e : nsE N l bs (bI R) = (0, 111) := by unfold nsE; rw [if_neg (by rw [hg]; simp), if_pos (by omega)]
    exact bW [] Tryz.results9 rfl rfl aI ⟨by rw [e], rfl⟩
   ·
    refine aO rfl rfl rfl rfl rfl (aQ iQ rfl) ?_;refine aO rfl rfl rfl rfl rfl (aM Tryz.isAgg30 rfl (rdA rfl)) ?_;refine aO rfl rfl rfl rfl rfl (bS gD rfl) ?_;refine aO rfl rfl rfl rfl rfl (aQ fa32_0 rfl) ?_;refine aO rfl rfl rfl rfl rfl (aM Tryz.isAgg25 rfl (rdA rfl)) ?_;refine aO rfl rfl rfl rfl rfl (bS bK rfl) ?_;refine aO rfl rfl rfl rfl rfl (c6 rfl rfl) ?_;refine aA rfl rfl rfl (cO rfl rfl) ?_;refine aJ ?_;refine aL (kh7 _ _ ?_);clear kh7;refine aZ rfl (fun c38 => ?_) (fun c38 => ?_)
    ·
     refine aK fun K10 kh10 => ?_;refine aB ?_;refine aA rfl rfl rfl (aF rfl) ?_;refine aA rfl rfl rfl (aF rfl) ?_;refine aJ ?_;refine aL (kh10 _ _ ?_);clear kh10;refine a7 ?_;refine bT ?_;have e : nsE N l bs (bI R) = (0, 111) := by unfold nsE; rw [if_neg (by rw [hg]; simp), if_pos (by omega)]
     exact bW [] Tryz.results9 rfl rfl aI ⟨by rw [e], rfl⟩
    ·
     have hmm : ¬ (bs.length < 1 ∨ 5 < bs.length ∨ (bI R).length ≠ bs.length) := by omega
     have hRl : R.length = bs.length := by omega
     refine aW ?_;refine aL (kh6 _ _ ?_);clear kh6;refine aK fun K11 kh11 => ?_;refine aB ?_;refine aA rfl rfl rfl (aF rfl) ?_;refine aJ ?_;refine aL (kh11 _ _ ?_);clear kh11;refine aK fun K12 kh12 => ?_;refine aK fun K13 kh13 => ?_;refine aB ?_;refine aA rfl rfl rfl (aQ fa32_0 rfl) ?_;refine aA rfl rfl rfl (aM Tryz.isAgg25 rfl (rdA rfl)) ?_;refine aA rfl rfl rfl (bS bK rfl) ?_;refine aA rfl rfl rfl (aG rfl) ?_;refine aJ ?_;refine aL (kh13 _ _ ?_);clear kh13;refine aY ?_;refine cS (α := Nat) [2, 3, 40, 41] (fun k => [(42, .int .i64 (k : Int)), (8, .int .i64 (jP bs k))]) (fun k => [[(b2, blk [.int .i64 N, .slice A l.length cap] 24)], [(b3, blk [.slice Ab bs.length cb, .slice Ac R.length cc] 32)]]) (fun k => k ≤ bs.length ∧ ∀ j, j < k → lvE N l bs (bI R) j = 0) (fun k => bs.length - k) (0) ?_ ?_ ?_ ?_
     · exact (by repeat constructor)
     · repeat first|exact aI|refine aD ?_|refine aC rfl ?_|refine aH ?_
     · exact ⟨Nat.zero_le _, fun j h => by omega⟩
     ·
      rintro k ⟨hkl, hall⟩;refine aK fun K14 kh14 => ?_;refine aB ?_;refine aA rfl rfl rfl (cD rfl rfl) ?_;refine aJ ?_;refine aL (kh14 _ _ ?_);clear kh14;refine aK fun K15 kh15 => ?_;refine aZ rfl (fun c43 => ?_) (fun c43 => ?_)
      ·
       have hk : k < bs.length := by omega
       have hkR : k < R.length := by omega
       obtain ⟨b1, o1, rfl, hS1, hc1⟩ := hn.b (fun e => by have := aX bs; rw [e] at this; simp at this; omega)
       obtain ⟨b2, o2, rfl, hS2, hc2⟩ := hn.c (map_ne hkR)
       have hlvd : lvE N l bs (bI R) k = if bs[k] ≤ jP bs k ∨ 1024 < bs[k] then 1 else if iP N l (R[k]'hkR).2.1 bs[k] ≠ 0 then iP N l (R[k]'hkR).2.1 bs[k] else if 0 < k ∧ ¬ h9 ((bI R).getD (k - 1) []) (R[k]'hkR).2.1 then 110 else 0 := by unfold lvE; rw [bs_at hk, gM hkR]
       refine aW ?_;refine aL (kh15 _ _ ?_);clear kh15;refine aK fun K16 kh16 => ?_;refine aY ?_;refine aK fun K17 kh17 => ?_;refine aB ?_;refine aA rfl rfl rfl (aG rfl) ?_;refine aA rfl rfl rfl (bA bK rfl rfl (o1 + k) ⟨by omega, by omega, by first | omega | (simp; done) | (simp; omega)⟩) ?_;refine aA rfl rfl rfl (aM Tryz.isAgg3 rfl (dX (enc := (.int .i64 ·)) hS1 hc1 hk)) ?_;refine aA rfl rfl rfl (aF rfl) ?_;refine aA rfl rfl rfl (aF rfl) ?_;refine aJ ?_;refine aL (kh17 _ _ ?_);clear kh17;refine aK fun K18 kh18 => ?_;refine aK fun K19 kh19 => ?_;refine aB ?_;refine aA rfl rfl rfl (aG rfl) ?_;refine aA rfl rfl rfl (aG rfl) ?_;refine aR rfl rfl rfl (bD Tryz.call22 rfl (fun w_ hp_ => nbounded_spec bs[k] (jP bs k) w_) ?_);rintro _ _ ⟨rfl, rfl⟩;dsimp only [List.cons_append, List.nil_append];refine aA rfl rfl rfl (kG rfl) ?_;refine aJ ?_;refine aL (kh19 _ _ ?_);clear kh19;refine fC rfl (fun c50 => ?_) (fun c50 => ?_)
       ·
        have hbd : bs[k] ≤ jP bs k ∨ 1024 < bs[k] := by simp at c50; omega
        refine aK fun K20 kh20 => ?_;refine aB ?_;refine aA rfl rfl rfl (aG rfl) ?_;refine aA rfl rfl rfl (bG rfl rfl _ (aT (by omega))) ?_;refine aA rfl rfl rfl (aF rfl) ?_;refine aA rfl rfl rfl (aF rfl) ?_;refine aJ ?_;refine aL (kh20 _ _ ?_);clear kh20;refine a7 ?_;refine bT ?_;refine eC ?_;refine bT ?_;refine bT ?_;refine eC ?_;refine bT ?_;have e := nsE_at hg hmm hk hall (by rw [hlvd, if_pos hbd]; decide)
        exact bW [] Tryz.results9 rfl rfl aI ⟨by rw [e, hlvd, if_pos hbd], rfl⟩
       ·
        have hbd : ¬ (bs[k] ≤ jP bs k ∨ 1024 < bs[k]) := by simp at c50; omega
        rw [if_neg hbd] at hlvd;refine aW ?_;refine aL (kh18 _ _ ?_);clear kh18;refine aK fun K21 kh21 => ?_;refine aB ?_;refine aA rfl rfl rfl (aG rfl) ?_;refine aA rfl rfl rfl (aF rfl) ?_;refine aJ ?_;refine aL (kh21 _ _ ?_);clear kh21;refine aK fun K22 kh22 => ?_;refine aK fun K23 kh23 => ?_;refine gY 7 rfl (by decide +kernel) ?_;refine aN rfl rfl rfl (a8 (vs := [_, _]) Tryz.isAgg24 Tryz.sizeOf24 rfl rfl ⟨(rdA rfl), (rdA rfl), trivial⟩) ?_;refine aN rfl rfl rfl (aQ iQ rfl) ?_;refine aN rfl rfl rfl (aM Tryz.isAgg30 rfl (rdA rfl)) ?_;refine aN rfl rfl rfl (aG rfl) ?_;refine aN rfl rfl rfl (bA gD rfl rfl (o2 + k) ⟨by omega, by omega, by first | omega | (simp; done) | (simp; omega)⟩) ?_;refine aN rfl rfl rfl (aM Tryz.isAgg25 rfl (dX (enc := eO) hS2 hc2 hkR)) ?_;refine aN rfl rfl rfl (aG rfl) ?_;refine eH (kN ?_);refine aR rfl rfl rfl (bD Tryz.call23 rfl (fun w_ hp_ => first_spec N A l cap (R[k]'hkR).1 (R[k]'hkR).2.1 (R[k]'hkR).2.2 bs[k] w_ (hr.up0 hp_) hl hN hok ((hn.rows _ (List.getElem_mem hkR)).1.up0 hp_) (hn.rows _ (List.getElem_mem hkR)).2 hg) ?_);rintro _ _ ⟨rfl, rfl⟩;dsimp only [List.cons_append, List.nil_append];refine aA rfl rfl rfl (aF rfl) ?_;refine aJ ?_;refine aL (kh23 _ _ ?_);clear kh23;refine aK fun K24 kh24 => ?_;refine aB ?_;refine aA rfl rfl rfl (aG rfl) ?_;refine aA rfl rfl rfl (c6 rfl rfl) ?_;refine aJ ?_;refine aL (kh24 _ _ ?_);clear kh24;refine aZ rfl (fun c63 => ?_) (fun c63 => ?_)
        ·
         have hfe : iP N l (R[k]'hkR).2.1 bs[k] ≠ 0 := by simpa using c63
         rw [if_pos hfe] at hlvd;refine aK fun K25 kh25 => ?_;refine aB ?_;refine aA rfl rfl rfl (aG rfl) ?_;refine aA rfl rfl rfl (bG rfl rfl _ (aT (by omega))) ?_;refine aA rfl rfl rfl (aG rfl) ?_;refine aA rfl rfl rfl (aF rfl) ?_;refine aA rfl rfl rfl (aF rfl) ?_;refine aJ ?_;refine aL (kh25 _ _ ?_);clear kh25;refine a7 ?_;refine bT ?_;refine eC ?_;refine bT ?_;refine bT ?_;refine eC ?_;refine bT ?_;have e := nsE_at hg hmm hk hall (by rw [hlvd]; exact hfe)
         exact bW [] Tryz.results9 rfl rfl aI ⟨by rw [e, hlvd], rfl⟩
        ·
         have hfe : iP N l (R[k]'hkR).2.1 bs[k] = 0 := by simpa using c63
         rw [if_neg (by rw [hfe]; simp)] at hlvd;refine aW ?_;refine aL (kh22 _ _ ?_);clear kh22;refine aK fun K26 kh26 => ?_;refine gY 14 rfl (by decide +kernel) ?_;refine aN rfl rfl rfl (aG rfl) ?_;refine aN rfl rfl rfl (eQ rfl rfl) ?_;refine aN rfl rfl rfl (aG rfl) ?_;refine f_splitS 69 rfl (fun g69 => ?_) (fun g69 => ?_)
         ·
          have hk0 : 0 < k := by omega
          have hkR1 : k - 1 < R.length := by omega
          obtain ⟨n, rfl⟩ : ∃ n : Nat, N = (n : Int) := ⟨N.toNat, by omega⟩
          have hlen2 : (R[k]'hkR).2.1.length = n := by
            unfold iP at hfe
            by_cases h1 : (eD (n : Int) l (R[k]'hkR).2.1).2 = 0
            · exact (cN (lc_right hg h1)).2
            · rw [if_pos h1] at hfe; exact absurd hfe h1
          have hlen1 : (R[k - 1]'hkR1).2.1.length = n := by
            have h2 := ((lvE_zero hg).1 (hall (k - 1) (by omega))).2.1
            rw [gM hkR1] at h2;exact (cN h2).2
          refine dS rfl rfl rfl rfl rfl (aQ iQ rfl) ?_;refine dS rfl rfl rfl rfl rfl (aM Tryz.isAgg30 rfl (rdA rfl)) ?_;refine dS rfl rfl rfl rfl rfl (aG rfl) ?_;refine dS rfl rfl rfl rfl rfl (fV rfl rfl _ (Eq.trans (aT (by omega)) (show _ = ((k - 1 : Nat) : Int) by omega))) ?_;refine dS rfl rfl rfl rfl rfl (bA gD rfl rfl (o2 + (k - 1)) ⟨by omega, by omega, by first | omega | (simp; done) | (simp; omega)⟩) ?_;refine dS rfl rfl rfl rfl rfl (aM Tryz.isAgg25 rfl (dX (enc := eO) hS2 hc2 hkR1)) ?_;refine dS rfl rfl rfl rfl rfl (aQ iQ rfl) ?_;refine dS rfl rfl rfl rfl rfl (aM Tryz.isAgg30 rfl (rdA rfl)) ?_;refine dS rfl rfl rfl rfl rfl (aG rfl) ?_;refine dS rfl rfl rfl rfl rfl (bA gD rfl rfl (o2 + k) ⟨by omega, by omega, by first | omega | (simp; done) | (simp; omega)⟩) ?_;refine dS rfl rfl rfl rfl rfl (aM Tryz.isAgg25 rfl (dX (enc := eO) hS2 hc2 hkR)) ?_;refine eH (kN ?_);refine lZ rfl rfl rfl rfl rfl (bD Tryz.call24 rfl (fun w_ hp_ => within_spec (R[k - 1]'hkR1).1 (R[k]'hkR).1 (R[k - 1]'hkR1).2.1 (R[k]'hkR).2.1 (R[k - 1]'hkR1).2.2 (R[k]'hkR).2.2 (R[k]'hkR).2.1.length w_ ((hn.rows _ (List.getElem_mem hkR1)).1.up0 hp_) ((hn.rows _ (List.getElem_mem hkR)).1.up0 hp_) rfl (by omega) (by omega)) ?_);rintro _ _ ⟨rfl, rfl⟩;dsimp only [List.cons_append, List.nil_append];refine aO rfl rfl rfl rfl rfl (kG rfl) ?_;refine aA rfl rfl rfl (cF rfl rfl) ?_;refine aJ ?_;refine aL (kh26 _ _ ?_);clear kh26;refine fC rfl (fun c83 => ?_) (fun c83 => ?_)
          ·
           have hnw : ¬ h9 (R[k - 1]'hkR1).2.1 (R[k]'hkR).2.1 := by simpa using c83
           rw [if_pos ⟨hk0, by rw [gM hkR1]; exact hnw⟩] at hlvd;refine aK fun K27 kh27 => ?_;refine aB ?_;refine aA rfl rfl rfl (aG rfl) ?_;refine aA rfl rfl rfl (bG rfl rfl _ (aT (by omega))) ?_;refine aA rfl rfl rfl (aF rfl) ?_;refine aA rfl rfl rfl (aF rfl) ?_;refine aJ ?_;refine aL (kh27 _ _ ?_);clear kh27;refine a7 ?_;refine eC ?_;refine bT ?_;refine bT ?_;refine eC ?_;refine bT ?_;have e := nsE_at hg hmm hk hall (by rw [hlvd]; decide)
           exact bW [] Tryz.results9 rfl rfl aI ⟨by rw [e, hlvd], rfl⟩
          ·
           have hyw : h9 (R[k - 1]'hkR1).2.1 (R[k]'hkR).2.1 := by simpa using c83
           rw [if_neg (fun h => h.2 (by rw [gM hkR1]; exact hyw))] at hlvd;refine aW ?_;refine cV ?_;refine aL (kh16 _ _ ?_);clear kh16;refine aB ?_;refine aA rfl rfl rfl (bG rfl rfl _ (aT (by omega))) ?_;refine aA rfl rfl rfl (aG rfl) ?_;refine aJ ?_;refine f_reQ 8 rfl (v := .int .i64 (jP bs (k + 1))) (by show _ = Value.int .i64 (bs.getD k 0); rw [bs_at hk]) ?_
           refine aL (bB (k + 1) (by first | omega | (dsimp only; omega) | (simp; omega)) ⟨by omega, fun j hj => by
             by_cases e : j = k
             · subst e; rw [hlvd]
             · exact hall j (by omega)⟩ ?_ ?_ ?_)
           · exact (by repeat constructor)
           · exact (by repeat constructor)
           · repeat first|exact aI|refine aD ?_|refine aC rfl ?_|refine aH ?_
         ·
          rw [if_neg (fun h => by omega)] at hlvd;refine eG rfl rfl rfl rfl rfl rfl ?_;refine eG rfl rfl rfl rfl rfl rfl ?_;refine eG rfl rfl rfl rfl rfl rfl ?_;refine eG rfl rfl rfl rfl rfl rfl ?_;refine eG rfl rfl rfl rfl rfl rfl ?_;refine eG rfl rfl rfl rfl rfl rfl ?_;refine eG rfl rfl rfl rfl rfl rfl ?_;refine eG rfl rfl rfl rfl rfl rfl ?_;refine eG rfl rfl rfl rfl rfl rfl ?_;refine eG rfl rfl rfl rfl rfl rfl ?_;refine eG rfl rfl rfl rfl rfl rfl ?_;refine eH (kN ?_);refine aS rfl rfl rfl rfl rfl rfl ?_;refine aS rfl rfl rfl rfl rfl rfl ?_;refine aA rfl rfl rfl (cO rfl rfl) ?_;refine aJ ?_;refine aL (kh26 _ _ ?_);clear kh26;refine gZ rfl ?_;refine aW ?_;refine cV ?_;refine aL (kh16 _ _ ?_);clear kh16;refine aB ?_;refine aA rfl rfl rfl (bG rfl rfl _ (aT (by omega))) ?_;refine aA rfl rfl rfl (aG rfl) ?_;refine aJ ?_;refine f_reQ 8 rfl (v := .int .i64 (jP bs (k + 1))) (by show _ = Value.int .i64 (bs.getD k 0); rw [bs_at hk]) ?_
          refine aL (bB (k + 1) (by first | omega | (dsimp only; omega) | (simp; omega)) ⟨by omega, fun j hj => by
            by_cases e : j = k
            · subst e; rw [hlvd]
            · exact hall j (by omega)⟩ ?_ ?_ ?_)
          · exact (by repeat constructor)
          · exact (by repeat constructor)
          · repeat first|exact aI|refine aD ?_|refine aC rfl ?_|refine aH ?_
      ·
       refine cG ?_;refine cK ?_;clear kh15;refine cK ?_;refine d5 ?_;refine aL (kh12 _ _ ?_);clear kh12;refine aK fun K28 kh28 => ?_;refine aB ?_;refine aA rfl rfl rfl (aF rfl) ?_;refine aA rfl rfl rfl (aF rfl) ?_;refine aJ ?_;refine aL (kh28 _ _ ?_);clear kh28;refine a7 ?_;have e := nsE_none hg hmm (fun j hj => hall j (by omega))
       exact bW [] Tryz.results9 rfl rfl aI ⟨by rw [e], rfl⟩
set_option maxRecDepth 100000 in
set_option maxHeartbeats 4000000 in
theorem at_spec (Ab : Option Addr) (bs : List Int) (cb : Nat) (Ac : Option Addr) (R : List Row) (cc : Nat) (q : Nat) (w : World) (hn : NestRo (Fr w []) w Ab bs Ac R) (hq : q < R.length) :
    Meets Tryz.prog 29 [.agg #[.slice Ab bs.length cb, .slice Ac R.length cc], .int .i64 ((q : Int) + 1)] w [] (fun u m => u = .agg #[eO R[q], .int .i64 ((q : Int) + 1)] ∧ m = []) := by
 obtain ⟨b_, o_, rfl, hS, hc⟩ := hn.c (map_ne hq)
 have hcl := hn.cl
 refine bJ Tryz.func29 rfl Tryz.ntmps29 rfl Owns.nil ?_;refine aK fun K1 kh1 => ?_;refine aB ?_;refine aR rfl rfl rfl (cZ rfl rfl fun b2 => ?_);refine aR rfl rfl rfl (cU Tryz.zeroValue58 rfl fun b4 => ?_);refine aJ ?_;refine aL (kh1 _ _ ?_);clear kh1;refine aK fun K2 kh2 => ?_;refine aB ?_;refine aA rfl rfl rfl (aQ iQ rfl) ?_;refine aA rfl rfl rfl (aM Tryz.isAgg30 rfl (rdA rfl)) ?_;refine aA rfl rfl rfl (aG rfl) ?_;refine aA rfl rfl rfl (fV rfl rfl _ (Eq.trans (aT (by omega)) (show _ = (q : Int) by omega))) ?_;refine aA rfl rfl rfl (bA gD rfl rfl (o_ + q) ⟨by omega, by omega, by first | omega | (simp; done) | (simp; omega)⟩) ?_;refine aA rfl rfl rfl (aM Tryz.isAgg25 rfl (dX (enc := eO) hS hc hq)) ?_;refine aA rfl rfl rfl (aG rfl) ?_;refine aA rfl rfl rfl (dB (cs := [eO R[q], .int .i64 ((q : Int) + 1)]) st58 rfl rfl) ?_;refine bF rfl rfl (cA Tryz.sizeOf58 rfl rfl rfl rfl (by first | exact Nat.le_of_ble_eq_true rfl | (simp; done) | (simp; omega)) [eO R[q], .int .i64 ((q : Int) + 1)] rfl ?_);refine aJ ?_;refine aL (kh2 _ _ ?_);clear kh2;refine a7 ?_;exact f_finR1 [] Tryz.results29 (rvA (vs := [eO R[q], .int .i64 ((q : Int) + 1)]) Tryz.isAgg58 Tryz.sizeOf58 rfl rfl ⟨(rdA rfl), (rdA rfl), trivial⟩) (by repeat first|exact aI|refine aD ?_|refine aC rfl ?_|refine aH ?_) ⟨rfl, rfl⟩
set_option maxRecDepth 100000 in
set_option maxHeartbeats 4000000 in
theorem nlooked_spec (N : Int) (A : Option Addr) (l : List Arc) (cap : Nat) (Ab : Option Addr) (bs : List Int) (cb : Nat) (Ac : Option Addr) (R : List Row) (cc : Nat) (q : Int) (w : World) (hr : Ro (Fr w []) w A (l.flatMap cE)) (hl : l.length ≤ 9223372036854775807) (hN : I64 N) (hok : ∀ x ∈ l, dQ x) (hn : NestRo (Fr w []) w Ab bs Ac R) :
    Meets Tryz.prog 25 [.agg #[.int .i64 N, .slice A l.length cap], .agg #[.slice Ab bs.length cb, .slice Ac R.length cc], .int .i64 q] w [] (fun u m => ∃ (r : Row) (x : Int), u = .tuple #[.agg #[eO r, .int .i64 x], .int .i64 (lkE N l bs (bI R) q)] ∧ m = [] ∧ (lkE N l bs (bI R) q = 0 → x = q ∧ R[(q - 1).toNat]? = some r)) := by
 have hrl := gF R
 refine bJ Tryz.func25 rfl Tryz.ntmps25 rfl Owns.nil ?_;refine aK fun K1 kh1 => ?_;refine aB ?_;refine aR rfl rfl rfl (cZ rfl rfl fun b3 => ?_);refine aR rfl rfl rfl (cZ rfl rfl fun b4 => ?_);refine aR rfl rfl rfl (cU Tryz.zeroValue58 rfl fun b6 => ?_);refine aA rfl rfl rfl (aF rfl) ?_;refine aJ ?_;refine aL (kh1 _ _ ?_);clear kh1;refine aK fun K2 kh2 => ?_;refine aK fun K3 kh3 => ?_;refine aB ?_;refine aA rfl rfl rfl (a8 (vs := [_, _]) Tryz.isAgg24 Tryz.sizeOf24 rfl rfl ⟨(rdA rfl), (rdA rfl), trivial⟩) ?_;refine aA rfl rfl rfl (a8 (vs := [_, _]) Tryz.isAgg32 Tryz.sizeOf32 rfl rfl ⟨(rdA rfl), (rdA rfl), trivial⟩) ?_;refine aR rfl rfl rfl (bD Tryz.call9 rfl (fun w_ hp_ => NCheck_spec N A l cap Ab bs cb Ac R cc w_ (hr.up0 hp_) hl hN hok (hn.up0 hp_)) ?_);rintro _ _ ⟨rfl, rfl⟩;dsimp only [List.cons_append, List.nil_append];refine aA rfl rfl rfl (aG rfl) ?_;refine aA rfl rfl rfl (aV rfl rfl) ?_;refine aA rfl rfl rfl (aV rfl rfl) ?_;refine aA rfl rfl rfl (aF rfl) ?_;refine aA rfl rfl rfl (aF rfl) ?_;refine aJ ?_;refine aL (kh3 _ _ ?_);clear kh3;refine aK fun K4 kh4 => ?_;refine aB ?_;refine aA rfl rfl rfl (aG rfl) ?_;refine aA rfl rfl rfl (c6 rfl rfl) ?_;refine aJ ?_;refine aL (kh4 _ _ ?_);clear kh4;refine aZ rfl (fun c17 => ?_) (fun c17 => ?_)
 ·
  refine aK fun K5 kh5 => ?_;refine aB ?_;refine aA rfl rfl rfl (dB (cs := [eO (none, [], 0), .int .i64 0]) st58 rfl rfl) ?_;refine aA rfl rfl rfl (aG rfl) ?_;refine bF rfl rfl (cA Tryz.sizeOf58 rfl rfl rfl rfl (by first | exact Nat.le_of_ble_eq_true rfl | (simp; done) | (simp; omega)) [eO (none, [], 0), .int .i64 0] rfl ?_);refine aA rfl rfl rfl (aF rfl) ?_;refine aJ ?_;refine aL (kh5 _ _ ?_);clear kh5;refine a7 ?_;refine bT ?_;have e : lkE N l bs (bI R) q = (nsE N l bs (bI R)).2 := by unfold lkE; rw [if_pos (by simpa using c17)]
  exact iR (vs := [eO (none, [], 0), .int .i64 0]) [] Tryz.results25 rfl Tryz.isAgg58 Tryz.sizeOf58 rfl ⟨(rdA rfl), (rdA rfl), trivial⟩ rfl (by repeat first|exact aI|refine aD ?_|refine aC rfl ?_|refine aH ?_) ⟨(none, [], 0), 0, by rw [e], rfl, fun h => absurd (e.symm.trans h) (by simpa using c17)⟩
 ·
  refine aW ?_;refine aL (kh2 _ _ ?_);clear kh2;refine aK fun K6 kh6 => ?_;refine aK fun K7 kh7 => ?_;refine aB ?_;refine aA rfl rfl rfl (aG rfl) ?_;refine aA rfl rfl rfl (cD rfl rfl) ?_;refine aA rfl rfl rfl (aG rfl) ?_;refine cX 22 rfl (fun g22 => ?_) (fun g22 => ?_)
  ·
   refine aS rfl rfl rfl rfl rfl rfl ?_;refine aS rfl rfl rfl rfl rfl rfl ?_;refine aS rfl rfl rfl rfl rfl rfl ?_;refine aS rfl rfl rfl rfl rfl rfl ?_;refine aS rfl rfl rfl rfl rfl rfl ?_;refine aA rfl rfl rfl (cF rfl rfl) ?_;refine aJ ?_;refine aL (kh7 _ _ ?_);clear kh7;refine eF rfl ?_;refine aK fun K8 kh8 => ?_;refine aB ?_;refine aA rfl rfl rfl (dB (cs := [eO (none, [], 0), .int .i64 0]) st58 rfl rfl) ?_;refine bF rfl rfl (cA Tryz.sizeOf58 rfl rfl rfl rfl (by first | exact Nat.le_of_ble_eq_true rfl | (simp; done) | (simp; omega)) [eO (none, [], 0), .int .i64 0] rfl ?_);refine aA rfl rfl rfl (aF rfl) ?_;refine aJ ?_;refine aL (kh8 _ _ ?_);clear kh8;refine a7 ?_;refine bT ?_;have e : lkE N l bs (bI R) q = 111 := by unfold lkE; rw [if_neg (by simpa using c17), if_pos (by omega)]
   exact iR (vs := [eO (none, [], 0), .int .i64 0]) [] Tryz.results25 rfl Tryz.isAgg58 Tryz.sizeOf58 rfl ⟨(rdA rfl), (rdA rfl), trivial⟩ rfl (by repeat first|exact aI|refine aD ?_|refine aC rfl ?_|refine aH ?_) ⟨(none, [], 0), 0, by rw [e], rfl, fun h => absurd (e.symm.trans h) (by decide)⟩
  ·
   refine aO rfl rfl rfl rfl rfl (aG rfl) ?_;refine aO rfl rfl rfl rfl rfl (aQ fa32_0 rfl) ?_;refine aO rfl rfl rfl rfl rfl (aM Tryz.isAgg25 rfl (rdA rfl)) ?_;refine aO rfl rfl rfl rfl rfl (bS bK rfl) ?_;refine aO rfl rfl rfl rfl rfl (eQ rfl rfl) ?_;refine aA rfl rfl rfl (cO rfl rfl) ?_;refine aJ ?_;refine aL (kh7 _ _ ?_);clear kh7;refine aZ rfl (fun c28 => ?_) (fun c28 => ?_)
   ·
    refine aK fun K9 kh9 => ?_;refine aB ?_;refine aA rfl rfl rfl (dB (cs := [eO (none, [], 0), .int .i64 0]) st58 rfl rfl) ?_;refine bF rfl rfl (cA Tryz.sizeOf58 rfl rfl rfl rfl (by first | exact Nat.le_of_ble_eq_true rfl | (simp; done) | (simp; omega)) [eO (none, [], 0), .int .i64 0] rfl ?_);refine aA rfl rfl rfl (aF rfl) ?_;refine aJ ?_;refine aL (kh9 _ _ ?_);clear kh9;refine a7 ?_;refine bT ?_;have e : lkE N l bs (bI R) q = 111 := by unfold lkE; rw [if_neg (by simpa using c17), if_pos (by omega)]
    exact iR (vs := [eO (none, [], 0), .int .i64 0]) [] Tryz.results25 rfl Tryz.isAgg58 Tryz.sizeOf58 rfl ⟨(rdA rfl), (rdA rfl), trivial⟩ rfl (by repeat first|exact aI|refine aD ?_|refine aC rfl ?_|refine aH ?_) ⟨(none, [], 0), 0, by rw [e], rfl, fun h => absurd (e.symm.trans h) (by decide)⟩
   ·
    have hz : (nsE N l bs (bI R)).2 = 0 := by simpa using c17
    obtain ⟨n, rfl, hNo⟩ := nsE_zero hz
    have hle := hNo.len
    have hlk : lkE (n : Int) l bs (bI R) q = 0 := by unfold lkE; rw [if_neg (by rw [hz]; simp), if_neg (by omega)]
    obtain ⟨q0, hqe⟩ : ∃ q0 : Nat, q = (q0 : Int) + 1 := ⟨(q - 1).toNat, by omega⟩
    have hq0 : q0 < R.length := by omega
    refine aW ?_;refine aL (kh6 _ _ ?_);clear kh6;refine aK fun K10 kh10 => ?_;refine aB ?_;refine aA rfl rfl rfl (a8 (vs := [_, _]) Tryz.isAgg32 Tryz.sizeOf32 rfl rfl ⟨(rdA rfl), (rdA rfl), trivial⟩) ?_;refine aA rfl rfl rfl (aG rfl) ?_;refine aR rfl rfl rfl (bD Tryz.call29 rfl (fun w_ hp_ => (by have h := at_spec Ab bs cb Ac R cc q0 w_ (hn.up0 hp_) hq0; rw [show ((q0 : Int) + 1) = q by omega] at h; exact h)) ?_);rintro _ _ ⟨rfl, rfl⟩;dsimp only [List.cons_append, List.nil_append];refine bF rfl rfl (cA Tryz.sizeOf58 rfl rfl rfl rfl (by first | exact Nat.le_of_ble_eq_true rfl | (simp; done) | (simp; omega)) [eO R[q0], .int .i64 q] rfl ?_);refine aA rfl rfl rfl (aF rfl) ?_;refine aJ ?_;refine aL (kh10 _ _ ?_);clear kh10;refine a7 ?_;exact iR (vs := [eO R[q0], .int .i64 q]) [] Tryz.results25 rfl Tryz.isAgg58 Tryz.sizeOf58 rfl ⟨(rdA rfl), (rdA rfl), trivial⟩ rfl (by repeat first|exact aI|refine aD ?_|refine aC rfl ?_|refine aH ?_) ⟨R[q0], q, by rw [hlk], rfl, fun _ => ⟨rfl, by rw [show (q - 1).toNat = q0 by omega, List.getElem?_eq_getElem hq0]⟩⟩
end Go.Proofs.YtjjogcnjcnpehaaGreat

/- A field of a struct that is a value. -/
namespace Go.Proofs.YtjjogcnjcnpehaaGreat.Fly
open Go Go.RowKit
set_option linter.unusedVariables false
set_option linter.unusedSectionVars false
section
variable {P : Program} {n : Nat} {S : Nat → Prop} {w0 : World} {env : Env} {segs : List Seg} {d : Option Tmp} {ty : TypeId} {pos : String} {af : Array Edge} {g : Option (Nat × Bool)}
theorem o_fval {s : TypeId} {x : Operand} {f : Nat} {cs : Array Value} {v : Value} (hx : ev env x = some (.agg cs)) (hf : ∀ w, (Instr.field s (.agg cs) f).run P w = .ok v w) : Pure P n S w0 env segs ⟨d, .field s x f, ty, pos, af, g⟩ v :=
  fun a w ha _ => by simp [execOp, ha.eval hx, hf w]
end
end Go.Proofs.YtjjogcnjcnpehaaGreat.Fly
