import Derived.Test.YtkmkakpadgljeaaGreatAll2
import Derived.Test.YtkmkakpadgljeaaGreatFlyT
import Derived.KernelRfl
import Derived.Test.YtkmkakpadgljeaaGreatAll0
import Derived.Shelf.Lays
import Derived.Test.YtkmkakpadgljeaaGreatProg
import Derived.Test.YtkmkakpadgljeaaGreatAll1

/- package nest: first, within, bounded, Check, at, looked, many, Many, cellOf, members, Members. -/
namespace Go.Proofs.YtkmkakpadgljeaaGreat
open Go Go.RowKit Fly
set_option linter.unusedVariables false
set_option linter.unusedSimpArgs false


/-- A row of cells that is read. -/
abbrev Row := Option Addr × List Int × Nat
abbrev rowV (r : Row) : Value := .slice r.1 r.2.1.length r.2.2
def rowsL (R : List Row) : List (List Int) := R.map (·.2.1)
structure NestRo (S : Nat → Prop) (w : World) (Ab : Option Addr) (bs : List Int) (Ac : Option Addr) (R : List Row) : Prop where
  b : Ro S w Ab (ints bs)
  bl : bs.length ≤ 9223372036854775807
  c : Ro S w Ac (R.map rowV)
  cl : R.length ≤ 9223372036854775807
  rows : ∀ r ∈ R, Ro S w r.1 (ints r.2.1) ∧ r.2.1.length ≤ 9223372036854775807
theorem NestRo.up0 {S : Nat → Prop} {w0 w : World} {m : Seg} {Ab Ac : Option Addr} {bs : List Int} {R : List Row} (h : NestRo S w0 Ab bs Ac R) (hp : Hp S w0 m w) : NestRo (Fr w []) w Ab bs Ac R :=
  ⟨h.b.up0 hp, h.bl, h.c.up0 hp, h.cl, fun r hr => ⟨(h.rows r hr).1.up0 hp, (h.rows r hr).2⟩⟩
theorem rowsL_len (R : List Row) : (rowsL R).length = R.length := by simp [rowsL]
theorem rowsL_at {R : List Row} {k : Nat} (h : k < R.length) : (rowsL R).getD k [] = R[k].2.1 := by simp [rowsL, List.getD_eq_getElem?_getD, h]
theorem bs_at {bs : List Int} {k : Nat} (h : k < bs.length) : bs.getD k 0 = bs[k] := by simp [List.getD_eq_getElem?_getD, h]
/-- Which cells of the level below have come, with the cell above of each. -/
structure Wi (b a : List Int) (v : Nat) (ents : List (Int × Value × Nat)) : Prop where
  yes : ∀ u (h : u < b.length) (h' : u < a.length), u < v → mget ents b[u] = some (.int .i64 a[u])
  no : ∀ c, c ∉ b.take v → mget ents c = none
theorem Wi.nil (b a : List Int) : Wi b a 0 [] := ⟨fun u _ _ h => by omega, fun c _ => rfl⟩
theorem Wi.val {b a : List Int} {v : Nat} {ents : List (Int × Value × Nat)} (h : Wi b a v ents) (hl : a.length = b.length) (c : Int) :
    ∃ p : Int, (mget ents c).getD (.int .i64 0) = .int .i64 p ∧ (mget ents c).isSome = decide (c ∈ b.take v) ∧ (c ∈ b.take v → ∃ u, ∃ hu : u < b.length, u < v ∧ b[u] = c ∧ a[u]'(by omega) = p) := by
  by_cases hm : c ∈ b.take v
  · obtain ⟨u, hu, e⟩ := List.mem_iff_getElem.1 hm
    rw [List.getElem_take] at e
    rw [List.length_take] at hu
    have := h.yes u (by omega) (by omega) (by omega)
    rw [e] at this
    exact ⟨a[u]'(by omega), by rw [this]; rfl, by rw [this, decide_eq_true hm]; rfl, fun _ => ⟨u, by omega, by omega, e, rfl⟩⟩
  · exact ⟨0, by rw [h.no c hm]; rfl, by rw [h.no c hm, decide_eq_false hm]; rfl, fun h => absurd h hm⟩
theorem Wi.next {b a : List Int} {v : Nat} {ents : List (Int × Value × Nat)} (h : Wi b a v ents) (hl : a.length = b.length) (hv : v < b.length) (hs : b[v] ∈ b.take v → ∃ u, ∃ hu : u < b.length, u < v ∧ b[u] = b[v] ∧ a[u]'(by omega) = a[v]'(by omega)) (k : Nat) : Wi b a (v + 1) (mput ents b[v] (.int .i64 (a[v]'(by omega))) k) where
  yes := fun u hu hu' huv => by
    rw [mget_put]
    by_cases e : b[u] = b[v]
    · rw [if_pos e]
      by_cases e2 : u = v
      · subst e2; rfl
      · have huv' : u < v := by omega
        have hm : b[v] ∈ b.take v := by rw [← e]; exact List.mem_iff_getElem.2 ⟨u, by rw [List.length_take]; omega, List.getElem_take⟩
        obtain ⟨w, hw, hwv, e3, e4⟩ := hs hm
        have h1 := h.yes w hw (by omega) hwv
        have h2 := h.yes u hu hu' huv'
        rw [e3] at h1
        rw [e, h1] at h2
        rw [← e4]; exact h2
    · rw [if_neg e]
      refine h.yes u hu hu' ?_
      by_cases e2 : u = v
      · subst e2; exact absurd rfl e
      · omega
  no := fun c hc => by
    rw [List.take_succ_eq_append_getElem hv, List.mem_append, List.mem_singleton] at hc
    rw [mget_put, if_neg (fun e => hc (.inr e))]
    exact h.no c fun hm => hc (.inl hm)
theorem Wi.all {b a : List Int} {ents : List (Int × Value × Nat)} (h : Wi b a b.length ents) (hl : a.length = b.length) : withinP b a := fun u hu v hv e => by
  simp only [List.getD_eq_getElem?_getD, List.getElem?_eq_getElem hu, List.getElem?_eq_getElem hv, List.getElem?_eq_getElem (show u < a.length by omega), List.getElem?_eq_getElem (show v < a.length by omega), Option.getD_some] at e ⊢
  have h1 := h.yes u hu (by omega) hu
  have h2 := h.yes v hv (by omega) hv
  rw [e, h2] at h1
  simp at h1
  exact h1.symm
theorem not_within {b a : List Int} {u v : Nat} (hl : a.length = b.length) (hu : u < b.length) (hv : v < b.length) (e : b[u] = b[v]) (hne : a[u]'(by omega) ≠ a[v]'(by omega)) : ¬ withinP b a := fun h => hne (by
  have := h u hu v hv (by simp only [List.getD_eq_getElem?_getD, List.getElem?_eq_getElem hu, List.getElem?_eq_getElem hv, Option.getD_some]; exact e)
  simpa [List.getD_eq_getElem?_getD, show u < a.length by omega, show v < a.length by omega] using this)
/-- The members found so far. -/
def memTo (L : List Int) (c : Int) (k : Nat) : List Int := ((List.range k).filter fun v => decide (L.getD v 0 = c)).map fun v : Nat => (v : Int)
theorem memTo_yes {L : List Int} {c : Int} {k : Nat} (h : L.getD k 0 = c) : memTo L c (k + 1) = memTo L c k ++ [(k : Int)] := by
  unfold memTo; rw [List.range_succ, List.filter_append, List.map_append, List.filter_cons, if_pos (decide_eq_true h)]; rfl
theorem memTo_no {L : List Int} {c : Int} {k : Nat} (h : L.getD k 0 ≠ c) : memTo L c (k + 1) = memTo L c k := by
  unfold memTo; rw [List.range_succ, List.filter_append, List.map_append, List.filter_cons, if_neg (by rw [decide_eq_false h]; simp)]; simp
theorem memTo_len (L : List Int) (c : Int) (k : Nat) : (memTo L c k).length ≤ k := by
  unfold memTo; rw [List.length_map]; exact Nat.le_trans (List.length_filter_le _ _) (by simp)

theorem spE_zeroN {N : Int} {l : List Arc} {L : List Int} {bd : Int} (h : spE N l L bd = 0) : ∃ n : Nat, N = (n : Int) ∧ 1 ≤ n ∧ n ≤ 1024 ∧ (gcheck (n : Int) l).2 = 0 ∧ rightB (n : Int) L = true ∧ 1 ≤ bd ∧ bd ≤ 1024 := by
  unfold spE at h
  by_cases h1 : (lcount N l L).2 = 0
  · rw [if_neg (by rw [h1]; simp)] at h
    have hg : (gcheck N l).2 = 0 := by
      unfold lcount at h1
      by_cases h2 : (gcheck N l).2 = 0
      · exact h2
      · rw [if_pos h2] at h1; exact absurd h1 h2
    have hz := gcheck_zero hg
    obtain ⟨n, rfl⟩ : ∃ n : Nat, N = (n : Int) := ⟨N.toNat, by omega⟩
    by_cases h3 : bd < 1 ∨ 1024 < bd
    · rw [if_pos h3] at h; cases h
    · exact ⟨n, rfl, by omega, by omega, hg, lc_right hg h1, by omega, by omega⟩
  · rw [if_pos h1] at h; exact absurd h h1

set_option maxRecDepth 100000 in
set_option maxHeartbeats 4000000 in
theorem SizesN_spec (N : Int) (A : Option Addr) (l : List Arc) (cap : Nat) (B : Option Addr) (L : List Int) (cb : Nat) (w : World) (hr : Ro (Fr w []) w A (l.flatMap arcCs)) (hl : l.length ≤ 9223372036854775807) (hN : I64 N) (hok : ∀ x ∈ l, ArcOk x) (hL : Ro (Fr w []) w B (ints L)) (hm : L.length ≤ 9223372036854775807) (hz : spE N l L 1 = 0) :
    Meets Tryz.prog 82 [.agg #[.int .i64 N, .slice A l.length cap], .slice B L.length cb] w [] (fun u own' => ∃ b, u = .tuple #[.slice (some ⟨b, 0, none⟩) (maxL L + 1).toNat (maxL L + 1).toNat, .int .i64 0] ∧ own' = [[(b, blk (ints (sizesL L)) 3)]]) := by
 obtain ⟨n, rfl, hn1, hn2, hg, hR, _⟩ := spE_zeroN hz
 obtain rfl : L.length = n := (right_parts hR).2
 have hrg := right_range hR hn1
 refine f_enter Tryz.func82 rfl Tryz.ntmps82 rfl Owns.nil ?_
 refine f_seq fun K1 kh1 => ?_
 refine f_region ?_
 refine f_step rfl rfl rfl (o_box rfl rfl fun b2 => ?_)
 refine f_stepP rfl rfl rfl (o_assign rfl) ?_
 refine f_stepP rfl rfl rfl (o_assign rfl) ?_
 refine f_done ?_
 refine f_tn (kh1 _ _ ?_)
 clear kh1
 refine f_seq fun K2 kh2 => ?_
 refine f_seq fun K3 kh3 => ?_
 refine f_region ?_
 refine f_stepP rfl rfl rfl (o_loadA (vs := [_, _]) Tryz.isAgg24 Tryz.sizeOf24 rfl rfl ⟨(rdA rfl), (rdA rfl), trivial⟩) ?_
 refine f_stepP rfl rfl rfl (o_move rfl) ?_
 refine f_step rfl rfl rfl (o_call Tryz.call86 rfl (fun w_ hp_ => splook_spec (L.length : Int) A B l cap L cb 1 w_ (hr.up0 hp_) hl hN hok (hL.up0 hp_) hm) ?_)
 rintro _ _ ⟨rfl, rfl⟩
 rw [hz]
 dsimp only [List.cons_append, List.nil_append]
 refine f_stepP rfl rfl rfl (o_assign rfl) ?_
 refine f_done ?_
 refine f_tn (kh3 _ _ ?_)
 clear kh3
 refine f_seq fun K4 kh4 => ?_
 refine f_region ?_
 refine f_stepP rfl rfl rfl (o_move rfl) ?_
 refine f_stepP rfl rfl rfl (o_neq rfl rfl) ?_
 refine f_done ?_
 refine f_tn (kh4 _ _ ?_)
 clear kh4
 refine f_condN rfl (by simp) ?_
 refine f_skip ?_
 refine f_tn (kh2 _ _ ?_)
 clear kh2
 refine f_seq fun K5 kh5 => ?_
 refine f_region ?_
 refine f_stepP rfl rfl rfl (o_move rfl) ?_
 refine f_step rfl rfl rfl (o_call Tryz.call87 rfl (fun w_ hp_ => sizes_spec B L cb w_ (hL.up0 hp_) (by omega) (by omega) (fun x hx => by have := hrg x hx; omega)) ?_)
 rintro _ _ ⟨bs, rfl, rfl⟩
 dsimp only [List.cons_append, List.nil_append]
 refine f_stepP rfl rfl rfl (o_assign rfl) ?_
 refine f_stepP rfl rfl rfl (o_assign rfl) ?_
 refine f_done ?_
 refine f_tn (kh5 _ _ ?_)
 clear kh5
 refine f_ret ?_
 exact f_fin2 [[(bs, blk (ints (sizesL L)) 3)]] Tryz.results82 rfl rfl (by repeat (first | exact Sub.nil | refine Sub.pick ?_ | refine Sub.castO rfl ?_ | refine Sub.skip ?_)) ⟨bs, rfl, rfl⟩

set_option maxRecDepth 100000 in
set_option maxHeartbeats 4000000 in
theorem first_spec (N : Int) (A : Option Addr) (l : List Arc) (cap : Nat) (B : Option Addr) (L : List Int) (cb : Nat) (b : Int) (w : World) (hr : Ro (Fr w []) w A (l.flatMap arcCs)) (hl : l.length ≤ 9223372036854775807) (hN : I64 N) (hok : ∀ x ∈ l, ArcOk x) (hL : Ro (Fr w []) w B (ints L)) (hm : L.length ≤ 9223372036854775807) (hg : (gcheck N l).2 = 0) :
    Meets Tryz.prog 77 [.agg #[.int .i64 N, .slice A l.length cap], .slice B L.length cb, .int .i64 b] w [] (fun u m => u = .int .i64 (firstE N l L b) ∧ m = []) := by
 refine f_enter Tryz.func77 rfl Tryz.ntmps77 rfl Owns.nil ?_
 refine f_seq fun K1 kh1 => ?_
 refine f_region ?_
 refine f_step rfl rfl rfl (o_box rfl rfl fun b3 => ?_)
 refine f_stepP rfl rfl rfl (o_assign rfl) ?_
 refine f_done ?_
 refine f_tn (kh1 _ _ ?_)
 clear kh1
 refine f_seq fun K2 kh2 => ?_
 refine f_seq fun K3 kh3 => ?_
 refine f_region ?_
 refine f_stepP rfl rfl rfl (o_loadA (vs := [_, _]) Tryz.isAgg24 Tryz.sizeOf24 rfl rfl ⟨(rdA rfl), (rdA rfl), trivial⟩) ?_
 refine f_stepP rfl rfl rfl (o_move rfl) ?_
 refine f_step rfl rfl rfl (o_call Tryz.call81 rfl (fun w_ hp_ => Count_spec N A B l cap L cb w_ (hr.up0 hp_) hl hN hok (hL.up0 hp_) hm) ?_)
 rintro _ _ ⟨rfl, rfl⟩
 dsimp only [List.cons_append, List.nil_append]
 refine f_stepP rfl rfl rfl (o_move rfl) ?_
 refine f_stepP rfl rfl rfl (o_extract rfl rfl) ?_
 refine f_stepP rfl rfl rfl (o_extract rfl rfl) ?_
 refine f_stepP rfl rfl rfl (o_assign rfl) ?_
 refine f_stepP rfl rfl rfl (o_assign rfl) ?_
 refine f_done ?_
 refine f_tn (kh3 _ _ ?_)
 clear kh3
 refine f_seq fun K4 kh4 => ?_
 refine f_region ?_
 refine f_stepP rfl rfl rfl (o_move rfl) ?_
 refine f_stepP rfl rfl rfl (o_neq rfl rfl) ?_
 refine f_done ?_
 refine f_tn (kh4 _ _ ?_)
 clear kh4
 refine f_cond rfl (fun c18 => ?_) (fun c18 => ?_)
 ·
  refine f_seq fun K5 kh5 => ?_
  refine f_region ?_
  refine f_stepP rfl rfl rfl (o_move rfl) ?_
  refine f_stepP rfl rfl rfl (o_assign rfl) ?_
  refine f_done ?_
  refine f_tn (kh5 _ _ ?_)
  clear kh5
  refine f_ret ?_
  refine f_tr ?_
  exact f_fin1 [] Tryz.results77 rfl Sub.nil ⟨by unfold firstE; rw [if_pos (by simpa using c18)], rfl⟩
 ·
  have hlc : (lcount N l L).2 = 0 := by simpa using c18
  have hR := lc_right hg hlc
  have hgz := gcheck_zero hg
  have hz1 := spE_oneN hg hR (bd := 1) (by omega)
  obtain ⟨n, hNe⟩ : ∃ n : Nat, N = (n : Int) := ⟨N.toNat, by omega⟩
  have hR2 : rightB (n : Int) L = true := by rw [← hNe]; exact hR
  have hrg := right_range hR2 (by omega)
  have hLn := (right_parts hR2).2
  have hr0 := hrg _ (List.getElem_mem (show 0 < L.length by omega))
  have hsl : (sizesL L).length = (maxL L + 1).toNat := szs_len _ _
  refine f_skip ?_
  refine f_tn (kh2 _ _ ?_)
  clear kh2
  refine f_seq fun K6 kh6 => ?_
  refine f_region ?_
  refine f_stepP rfl rfl rfl (o_loadA (vs := [_, _]) Tryz.isAgg24 Tryz.sizeOf24 rfl rfl ⟨(rdA rfl), (rdA rfl), trivial⟩) ?_
  refine f_stepP rfl rfl rfl (o_move rfl) ?_
  refine f_step rfl rfl rfl (o_call Tryz.call82 rfl (fun w_ hp_ => SizesN_spec N A l cap B L cb w_ (hr.up0 hp_) hl hN hok (hL.up0 hp_) hm hz1) ?_)
  rintro _ _ ⟨bs_, rfl, rfl⟩
  dsimp only [List.cons_append, List.nil_append]
  refine f_stepP rfl rfl rfl (o_move rfl) ?_
  refine f_stepP rfl rfl rfl (o_extract rfl rfl) ?_
  refine f_stepP rfl rfl rfl (o_extract rfl rfl) ?_
  refine f_stepP rfl rfl rfl (o_assign rfl) ?_
  refine f_stepP rfl rfl rfl (o_assign rfl) ?_
  refine f_done ?_
  refine f_tn (kh6 _ _ ?_)
  clear kh6
  refine f_seq fun K7 kh7 => ?_
  refine f_seq fun K8 kh8 => ?_
  refine f_region ?_
  refine f_stepP rfl rfl rfl (o_move rfl) ?_
  refine f_stepP rfl rfl rfl (o_neq rfl rfl) ?_
  refine f_done ?_
  refine f_tn (kh8 _ _ ?_)
  clear kh8
  refine f_condN rfl (by simp) ?_
  refine f_skip ?_
  refine f_tn (kh7 _ _ ?_)
  clear kh7
  refine f_seq fun K9 kh9 => ?_
  refine f_seq fun K10 kh10 => ?_
  refine f_region ?_
  refine f_stepP rfl rfl rfl (o_move rfl) ?_
  refine f_step rfl rfl rfl (o_call Tryz.call83 rfl (fun w_ hp_ => (by have h := Max_spec (some ⟨bs_, 0, none⟩) (sizesL L) (maxL L + 1).toNat w_ (roOwn (b := bs_) hp_ (cs := ints (sizesL L)) (fun j v hj => hj)) (by rw [hsl]; omega) (by rw [hsl]; omega); rw [hsl] at h; exact h)) ?_)
  rintro _ _ ⟨rfl, rfl⟩
  dsimp only [List.cons_append, List.nil_append]
  refine f_stepP rfl rfl rfl (o_move rfl) ?_
  refine f_stepP rfl rfl rfl (o_gtr rfl rfl) ?_
  refine f_done ?_
  refine f_tn (kh10 _ _ ?_)
  clear kh10
  refine f_cond rfl (fun c32 => ?_) (fun c32 => ?_)
  ·
   refine f_seq fun K11 kh11 => ?_
   refine f_region ?_
   refine f_stepP rfl rfl rfl (o_assign rfl) ?_
   refine f_done ?_
   refine f_tn (kh11 _ _ ?_)
   clear kh11
   refine f_ret ?_
   refine f_tr ?_
   exact f_fin1 [] Tryz.results77 rfl Sub.nil ⟨by unfold firstE; rw [if_neg (by rw [hlc]; simp), if_pos (by omega)], rfl⟩
  ·
   refine f_skip ?_
   refine f_tn (kh9 _ _ ?_)
   clear kh9
   refine f_seq fun K12 kh12 => ?_
   refine f_region ?_
   refine f_stepP rfl rfl rfl (o_assign rfl) ?_
   refine f_done ?_
   refine f_tn (kh12 _ _ ?_)
   clear kh12
   refine f_ret ?_
   exact f_fin1 [] Tryz.results77 rfl Sub.nil ⟨by unfold firstE; rw [if_neg (by rw [hlc]; simp), if_neg (by omega)], rfl⟩

set_option maxRecDepth 100000 in
set_option maxHeartbeats 4000000 in
theorem within_spec (B C : Option Addr) (b a : List Int) (cb ca la : Nat) (w : World) (hb : Ro (Fr w []) w B (ints b)) (ha : Ro (Fr w []) w C (ints a)) (hla : a.length = la) (hl : a.length = b.length) (hm : b.length ≤ 1024) :
    Meets Tryz.prog 78 [.slice B b.length cb, .slice C la ca] w [] (fun u m => u = .bool (decide (withinP b a)) ∧ m = []) := by
 subst hla
 refine f_enter Tryz.func78 rfl Tryz.ntmps78 rfl Owns.nil ?_
 refine f_seq fun K1 kh1 => ?_
 refine f_region ?_
 refine f_stepP rfl rfl rfl (o_assign rfl) ?_
 refine f_done ?_
 refine f_tn (kh1 _ _ ?_)
 clear kh1
 refine f_seq fun K2 kh2 => ?_
 refine f_region ?_
 refine f_step rfl rfl rfl (o_makeMap fun b10 => ?_)
 refine f_stepP rfl rfl rfl (o_assign rfl) ?_
 refine f_done ?_
 refine f_tn (kh2 _ _ ?_)
 clear kh2
 refine f_seq fun K3 kh3 => ?_
 refine f_seq fun K4 kh4 => ?_
 refine f_region ?_
 refine f_stepP rfl rfl rfl (o_move rfl) ?_
 refine f_stepP rfl rfl rfl (o_len sl25 rfl) ?_
 refine f_stepP rfl rfl rfl (o_move rfl) ?_
 refine f_done ?_
 refine f_tn (kh4 _ _ ?_)
 clear kh4
 refine f_block ?_
 refine f_loop (α := Nat × List (Int × Value × Nat) × Nat) [1, 5, 11, 12] (fun ⟨v, ents, c1⟩ => [(13, .int .i64 (v : Int))]) (fun ⟨v, ents, c1⟩ => [[(b10, mobj (fun x : Int => .int .i64 x) ents c1)]]) (fun ⟨v, ents, c1⟩ => v ≤ b.length ∧ MOk ents c1 ∧ Wi b a v ents) (fun ⟨v, ents, c1⟩ => b.length - v) (0, [], 0) ?_ ?_ ?_ ?_
 · exact (by repeat (first | exact trivial | refine ⟨rfl, ?_⟩))
 · repeat (first | exact Sub.nil | refine Sub.pick ?_ | refine Sub.castO rfl ?_ | refine Sub.skip ?_)
 · exact ⟨Nat.zero_le _, MOk.nil, Wi.nil b a⟩
 ·
  rintro ⟨v, ents, c1⟩ ⟨hvl, hmap, hW⟩
  refine f_seq fun K5 kh5 => ?_
  refine f_region ?_
  refine f_stepP rfl rfl rfl (o_lss rfl rfl) ?_
  refine f_done ?_
  refine f_tn (kh5 _ _ ?_)
  clear kh5
  refine f_seq fun K6 kh6 => ?_
  refine f_cond rfl (fun c14 => ?_) (fun c14 => ?_)
  ·
   have hv : v < b.length := by omega
   have hva : v < a.length := by omega
   obtain ⟨b1, o1, rfl, hS1, hc1⟩ := hb (fun e => by have := ints_length b; rw [e] at this; simp at this; omega)
   obtain ⟨b2, o2, rfl, hS2, hc2⟩ := ha (fun e => by have := ints_length a; rw [e] at this; simp at this; omega)
   obtain ⟨p, hp1, hp2, hp3⟩ := hW.val hl b[v]
   refine f_skip ?_
   refine f_tn (kh6 _ _ ?_)
   clear kh6
   refine f_seq fun K7 kh7 => ?_
   refine f_block ?_
   refine f_seq fun K8 kh8 => ?_
   refine f_region ?_
   refine f_stepP rfl rfl rfl (o_move rfl) ?_
   refine f_stepP rfl rfl rfl (o_idx sl25 rfl rfl (o1 + v) ⟨by omega, by omega, by first | omega | (simp; done) | (simp; omega)⟩) ?_
   refine f_stepP rfl rfl rfl (o_load Tryz.isAgg3 rfl (roOne (enc := (.int .i64 ·)) hS1 hc1 hv)) ?_
   refine f_stepP rfl rfl rfl (o_assign rfl) ?_
   refine f_stepP rfl rfl rfl (o_assign rfl) ?_
   refine f_done ?_
   refine f_tn (kh8 _ _ ?_)
   clear kh8
   refine f_seq fun K9 kh9 => ?_
   refine f_seq fun K10 kh10 => ?_
   refine f_region ?_
   refine f_stepP rfl rfl rfl (o_move rfl) ?_
   refine f_stepP rfl rfl rfl (o_move rfl) ?_
   refine f_stepP rfl rfl rfl (o_lookup2 kt105 Tryz.zeroValue3 rfl rfl rfl (.int .i64 p) hp1 (decide (b[v] ∈ b.take v)) hp2) ?_
   refine f_stepP rfl rfl rfl (o_move rfl) ?_
   refine f_stepP rfl rfl rfl (o_extract rfl rfl) ?_
   refine f_stepP rfl rfl rfl (o_extract rfl rfl) ?_
   refine f_stepP rfl rfl rfl (o_assign rfl) ?_
   refine f_stepP rfl rfl rfl (o_assign rfl) ?_
   refine f_done ?_
   refine f_tn (kh10 _ _ ?_)
   clear kh10
   refine f_seq fun K11 kh11 => ?_
   refine f_region ?_
   refine f_stepP rfl rfl rfl (o_move rfl) ?_
   refine f_stepP rfl rfl rfl (o_move rfl) ?_
   refine f_splitL 25 rfl (fun g25 => ?_) (fun g25 => ?_)
   ·
    refine f_stepPY rfl rfl rfl rfl rfl (o_move rfl) ?_
    refine f_stepPY rfl rfl rfl rfl rfl (o_move rfl) ?_
    refine f_stepPY rfl rfl rfl rfl rfl (o_move rfl) ?_
    refine f_stepPY rfl rfl rfl rfl rfl (o_idx sl25 rfl rfl (o2 + v) ⟨by omega, by omega, by first | omega | (simp; done) | (simp; omega)⟩) ?_
    refine f_stepPY rfl rfl rfl rfl rfl (o_load Tryz.isAgg3 rfl (roOne (enc := (.int .i64 ·)) hS2 hc2 hva)) ?_
    refine f_stepPY rfl rfl rfl rfl rfl (o_neq rfl rfl) ?_
    refine f_stepP rfl rfl rfl (o_pickT rfl rfl) ?_
    refine f_done ?_
    refine f_tn (kh11 _ _ ?_)
    clear kh11
    refine f_cond rfl (fun c32 => ?_) (fun c32 => ?_)
    ·
     refine f_seq fun K12 kh12 => ?_
     refine f_region ?_
     refine f_stepP rfl rfl rfl (o_assign rfl) ?_
     refine f_done ?_
     refine f_tn (kh12 _ _ ?_)
     clear kh12
     refine f_ret ?_
     refine f_tr ?_
     refine f_br ?_
     refine f_tr ?_
     refine f_tr ?_
     refine f_br ?_
     refine f_tr ?_
     obtain ⟨u, hu, huv, e1, e2⟩ := hp3 (by simpa using g25)
     exact f_fin1 [] Tryz.results78 rfl (by repeat (first | exact Sub.nil | refine Sub.pick ?_ | refine Sub.castO rfl ?_ | refine Sub.skip ?_)) ⟨by rw [decide_eq_false (not_within hl hu hv e1 (by omega))], rfl⟩
    ·
     refine f_skip ?_
     refine f_tn (kh9 _ _ ?_)
     clear kh9
     refine f_region ?_
     refine f_stepP rfl rfl rfl (o_move rfl) ?_
     refine f_stepP rfl rfl rfl (o_move rfl) ?_
     refine f_stepP rfl rfl rfl (o_move rfl) ?_
     refine f_stepP rfl rfl rfl (o_move rfl) ?_
     refine f_stepP rfl rfl rfl (o_idx sl25 rfl rfl (o2 + v) ⟨by omega, by omega, by first | omega | (simp; done) | (simp; omega)⟩) ?_
     refine f_stepP rfl rfl rfl (o_load Tryz.isAgg3 rfl (roOne (enc := (.int .i64 ·)) hS2 hc2 hva)) ?_
     refine f_step0 rfl rfl (o_mapUpdate kt105 rfl rfl rfl rfl ?_)
     refine f_done ?_
     refine f_bn ?_
     refine f_tn (kh7 _ _ ?_)
     clear kh7
     refine f_region ?_
     refine f_stepP rfl rfl rfl (o_add rfl rfl _ (wrap_i64 (by omega))) ?_
     refine f_stepP rfl rfl rfl (o_move rfl) ?_
     refine f_done ?_
     refine f_tn (f_again (v + 1, mput ents b[v] (.int .i64 a[v]) c1, mclock ents b[v] c1) (by first | omega | (dsimp only; omega) | (simp; omega)) ⟨by omega, hmap.put _ _, hW.next hl hv (fun hm => by obtain ⟨u, hu, huv, e1, e2⟩ := hp3 hm; exact ⟨u, hu, huv, e1, by omega⟩) _⟩ ?_ ?_ ?_)
     · exact (by repeat (first | exact trivial | refine ⟨rfl, ?_⟩))
     · exact (by repeat (first | exact trivial | refine ⟨rfl, ?_⟩))
     · repeat (first | exact Sub.nil | refine Sub.pick ?_ | refine Sub.castO rfl ?_ | refine Sub.skip ?_)
   ·
    refine f_stepN rfl rfl rfl rfl rfl rfl ?_
    refine f_stepN rfl rfl rfl rfl rfl rfl ?_
    refine f_stepN rfl rfl rfl rfl rfl rfl ?_
    refine f_stepN rfl rfl rfl rfl rfl rfl ?_
    refine f_stepN rfl rfl rfl rfl rfl rfl ?_
    refine f_stepN rfl rfl rfl rfl rfl rfl ?_
    refine f_stepP rfl rfl rfl (o_pickF rfl rfl) ?_
    refine f_done ?_
    refine f_tn (kh11 _ _ ?_)
    clear kh11
    refine f_condF rfl ?_
    refine f_skip ?_
    refine f_tn (kh9 _ _ ?_)
    clear kh9
    refine f_region ?_
    refine f_stepP rfl rfl rfl (o_move rfl) ?_
    refine f_stepP rfl rfl rfl (o_move rfl) ?_
    refine f_stepP rfl rfl rfl (o_move rfl) ?_
    refine f_stepP rfl rfl rfl (o_move rfl) ?_
    refine f_stepP rfl rfl rfl (o_idx sl25 rfl rfl (o2 + v) ⟨by omega, by omega, by first | omega | (simp; done) | (simp; omega)⟩) ?_
    refine f_stepP rfl rfl rfl (o_load Tryz.isAgg3 rfl (roOne (enc := (.int .i64 ·)) hS2 hc2 hva)) ?_
    refine f_step0 rfl rfl (o_mapUpdate kt105 rfl rfl rfl rfl ?_)
    refine f_done ?_
    refine f_bn ?_
    refine f_tn (kh7 _ _ ?_)
    clear kh7
    refine f_region ?_
    refine f_stepP rfl rfl rfl (o_add rfl rfl _ (wrap_i64 (by omega))) ?_
    refine f_stepP rfl rfl rfl (o_move rfl) ?_
    refine f_done ?_
    refine f_tn (f_again (v + 1, mput ents b[v] (.int .i64 a[v]) c1, mclock ents b[v] c1) (by first | omega | (dsimp only; omega) | (simp; omega)) ⟨by omega, hmap.put _ _, hW.next hl hv (fun hm => absurd hm (by simpa using g25)) _⟩ ?_ ?_ ?_)
    · exact (by repeat (first | exact trivial | refine ⟨rfl, ?_⟩))
    · exact (by repeat (first | exact trivial | refine ⟨rfl, ?_⟩))
    · repeat (first | exact Sub.nil | refine Sub.pick ?_ | refine Sub.castO rfl ?_ | refine Sub.skip ?_)
  ·
   refine f_exit ?_
   refine f_te ?_
   clear kh6
   refine f_te ?_
   refine f_be ?_
   refine f_tn (kh3 _ _ ?_)
   clear kh3
   refine f_seq fun K13 kh13 => ?_
   refine f_region ?_
   refine f_stepP rfl rfl rfl (o_assign rfl) ?_
   refine f_done ?_
   refine f_tn (kh13 _ _ ?_)
   clear kh13
   refine f_ret ?_
   obtain rfl : v = b.length := by omega
   exact f_fin1 [] Tryz.results78 rfl (by repeat (first | exact Sub.nil | refine Sub.pick ?_ | refine Sub.castO rfl ?_ | refine Sub.skip ?_)) ⟨by rw [decide_eq_true (hW.all hl)], rfl⟩

set_option maxRecDepth 100000 in
set_option maxHeartbeats 4000000 in
theorem nbounded_spec (b c : Int) (w : World) :
    Meets Tryz.prog 76 [.int .i64 b, .int .i64 c] w [] (fun u m => u = .bool (decide (c < b ∧ b ≤ 1024)) ∧ m = []) := by
 refine f_enter Tryz.func76 rfl Tryz.ntmps76 rfl Owns.nil ?_
 refine f_seq fun K1 kh1 => ?_
 refine f_region ?_
 refine f_stepP rfl rfl rfl (o_assign rfl) ?_
 refine f_done ?_
 refine f_tn (kh1 _ _ ?_)
 clear kh1
 refine f_seq fun K2 kh2 => ?_
 refine f_region ?_
 refine f_stepP rfl rfl rfl (o_move rfl) ?_
 refine f_stepP rfl rfl rfl (o_move rfl) ?_
 refine f_stepP rfl rfl rfl (o_gtr rfl rfl) ?_
 refine f_stepP rfl rfl rfl (o_move rfl) ?_
 refine f_splitL 8 rfl (fun g8 => ?_) (fun g8 => ?_)
 ·
  refine f_stepPY rfl rfl rfl rfl rfl (o_move rfl) ?_
  refine f_stepPY rfl rfl rfl rfl rfl (o_leq rfl rfl) ?_
  refine f_stepP rfl rfl rfl (o_pickT rfl rfl) ?_
  refine f_stepP rfl rfl rfl (o_assign rfl) ?_
  refine f_done ?_
  refine f_tn (kh2 _ _ ?_)
  clear kh2
  refine f_ret ?_
  exact f_fin1 [] Tryz.results76 rfl Sub.nil ⟨by congr 1; apply decide_eq_decide.2; omega, rfl⟩
 ·
  refine f_stepN rfl rfl rfl rfl rfl rfl ?_
  refine f_stepN rfl rfl rfl rfl rfl rfl ?_
  refine f_stepP rfl rfl rfl (o_pickF rfl rfl) ?_
  refine f_stepP rfl rfl rfl (o_assign rfl) ?_
  refine f_done ?_
  refine f_tn (kh2 _ _ ?_)
  clear kh2
  refine f_ret ?_
  exact f_fin1 [] Tryz.results76 rfl Sub.nil ⟨by rw [decide_eq_false (by omega)], rfl⟩

set_option maxRecDepth 100000 in
set_option maxHeartbeats 4000000 in
theorem NCheck_spec (N : Int) (A : Option Addr) (l : List Arc) (cap : Nat) (Ab : Option Addr) (bs : List Int) (cb : Nat) (Ac : Option Addr) (R : List Row) (cc : Nat) (w : World) (hr : Ro (Fr w []) w A (l.flatMap arcCs)) (hl : l.length ≤ 9223372036854775807) (hN : I64 N) (hok : ∀ x ∈ l, ArcOk x) (hn : NestRo (Fr w []) w Ab bs Ac R) :
    Meets Tryz.prog 63 [.agg #[.int .i64 N, .slice A l.length cap], .agg #[.slice Ab bs.length cb, .slice Ac R.length cc]] w [] (fun u m => u = .tuple #[.int .i64 (nsE N l bs (rowsL R)).1, .int .i64 (nsE N l bs (rowsL R)).2] ∧ m = []) := by
 have hrl := rowsL_len R
 refine f_enter Tryz.func63 rfl Tryz.ntmps63 rfl Owns.nil ?_
 refine f_seq fun K1 kh1 => ?_
 refine f_region ?_
 refine f_step rfl rfl rfl (o_box rfl rfl fun b2 => ?_)
 refine f_step rfl rfl rfl (o_box rfl rfl fun b3 => ?_)
 refine f_stepP rfl rfl rfl (o_assign rfl) ?_
 refine f_stepP rfl rfl rfl (o_assign rfl) ?_
 refine f_done ?_
 refine f_tn (kh1 _ _ ?_)
 clear kh1
 refine f_seq fun K2 kh2 => ?_
 refine f_seq fun K3 kh3 => ?_
 refine f_region ?_
 refine f_stepP rfl rfl rfl (o_loadA (vs := [_, _]) Tryz.isAgg24 Tryz.sizeOf24 rfl rfl ⟨(rdA rfl), (rdA rfl), trivial⟩) ?_
 refine f_step rfl rfl rfl (o_call Tryz.call75 rfl (fun w_ hp_ => Check_spec N A l cap w_ (hr.up0 hp_) hl hN hok) ?_)
 rintro _ _ ⟨rfl, rfl⟩
 dsimp only [List.cons_append, List.nil_append]
 refine f_stepP rfl rfl rfl (o_move rfl) ?_
 refine f_stepP rfl rfl rfl (o_extract rfl rfl) ?_
 refine f_stepP rfl rfl rfl (o_extract rfl rfl) ?_
 refine f_stepP rfl rfl rfl (o_assign rfl) ?_
 refine f_stepP rfl rfl rfl (o_assign rfl) ?_
 refine f_done ?_
 refine f_tn (kh3 _ _ ?_)
 clear kh3
 refine f_seq fun K4 kh4 => ?_
 refine f_region ?_
 refine f_stepP rfl rfl rfl (o_move rfl) ?_
 refine f_stepP rfl rfl rfl (o_neq rfl rfl) ?_
 refine f_done ?_
 refine f_tn (kh4 _ _ ?_)
 clear kh4
 refine f_cond rfl (fun c18 => ?_) (fun c18 => ?_)
 ·
  refine f_seq fun K5 kh5 => ?_
  refine f_region ?_
  refine f_stepP rfl rfl rfl (o_move rfl) ?_
  refine f_stepP rfl rfl rfl (o_assign rfl) ?_
  refine f_stepP rfl rfl rfl (o_assign rfl) ?_
  refine f_done ?_
  refine f_tn (kh5 _ _ ?_)
  clear kh5
  refine f_ret ?_
  refine f_tr ?_
  have e : nsE N l bs (rowsL R) = (0, (gcheck N l).2) := by unfold nsE; rw [if_pos (by simpa using c18)]
  exact f_fin2 [] Tryz.results63 rfl rfl Sub.nil ⟨by rw [e], rfl⟩
 ·
  have hg : (gcheck N l).2 = 0 := by simpa using c18
  have hgz := gcheck_zero hg
  refine f_skip ?_
  refine f_tn (kh2 _ _ ?_)
  clear kh2
  refine f_seq fun K6 kh6 => ?_
  refine f_seq fun K7 kh7 => ?_
  refine f_region ?_
  refine f_stepP rfl rfl rfl (o_field fa28_0 rfl) ?_
  refine f_stepP rfl rfl rfl (o_load Tryz.isAgg25 rfl (rdA rfl)) ?_
  refine f_stepP rfl rfl rfl (o_len sl25 rfl) ?_
  refine f_stepP rfl rfl rfl (o_lss rfl rfl) ?_
  refine f_stepP rfl rfl rfl (o_move rfl) ?_
  refine f_splitL 24 rfl (fun g24 => ?_) (fun g24 => ?_)
  ·
   refine f_stepN rfl rfl rfl rfl rfl rfl ?_
   refine f_stepN rfl rfl rfl rfl rfl rfl ?_
   refine f_stepN rfl rfl rfl rfl rfl rfl ?_
   refine f_stepN rfl rfl rfl rfl rfl rfl ?_
   refine f_stepP rfl rfl rfl (o_pickT rfl rfl) ?_
   refine f_stepP rfl rfl rfl (o_move rfl) ?_
   refine f_stepN rfl rfl rfl rfl rfl rfl ?_
   refine f_stepN rfl rfl rfl rfl rfl rfl ?_
   refine f_stepN rfl rfl rfl rfl rfl rfl ?_
   refine f_stepN rfl rfl rfl rfl rfl rfl ?_
   refine f_stepN rfl rfl rfl rfl rfl rfl ?_
   refine f_stepN rfl rfl rfl rfl rfl rfl ?_
   refine f_stepN rfl rfl rfl rfl rfl rfl ?_
   refine f_stepP rfl rfl rfl (o_pickT rfl rfl) ?_
   refine f_done ?_
   refine f_tn (kh7 _ _ ?_)
   clear kh7
   refine f_condT rfl ?_
   refine f_seq fun K8 kh8 => ?_
   refine f_region ?_
   refine f_stepP rfl rfl rfl (o_assign rfl) ?_
   refine f_stepP rfl rfl rfl (o_assign rfl) ?_
   refine f_done ?_
   refine f_tn (kh8 _ _ ?_)
   clear kh8
   refine f_ret ?_
   refine f_tr ?_
   have e : nsE N l bs (rowsL R) = (0, 111) := by unfold nsE; rw [if_neg (by rw [hg]; simp), if_pos (by omega)]
   exact f_fin2 [] Tryz.results63 rfl rfl Sub.nil ⟨by rw [e], rfl⟩
  ·
   refine f_stepPY rfl rfl rfl rfl rfl (o_field fa28_0 rfl) ?_
   refine f_stepPY rfl rfl rfl rfl rfl (o_load Tryz.isAgg25 rfl (rdA rfl)) ?_
   refine f_stepPY rfl rfl rfl rfl rfl (o_len sl25 rfl) ?_
   refine f_stepPY rfl rfl rfl rfl rfl (o_gtr rfl rfl) ?_
   refine f_stepP rfl rfl rfl (o_pickF rfl rfl) ?_
   refine f_stepP rfl rfl rfl (o_move rfl) ?_
   refine f_splitL 30 rfl (fun g30 => ?_) (fun g30 => ?_)
   ·
    refine f_stepN rfl rfl rfl rfl rfl rfl ?_
    refine f_stepN rfl rfl rfl rfl rfl rfl ?_
    refine f_stepN rfl rfl rfl rfl rfl rfl ?_
    refine f_stepN rfl rfl rfl rfl rfl rfl ?_
    refine f_stepN rfl rfl rfl rfl rfl rfl ?_
    refine f_stepN rfl rfl rfl rfl rfl rfl ?_
    refine f_stepN rfl rfl rfl rfl rfl rfl ?_
    refine f_stepP rfl rfl rfl (o_pickT rfl rfl) ?_
    refine f_done ?_
    refine f_tn (kh7 _ _ ?_)
    clear kh7
    refine f_condT rfl ?_
    refine f_seq fun K9 kh9 => ?_
    refine f_region ?_
    refine f_stepP rfl rfl rfl (o_assign rfl) ?_
    refine f_stepP rfl rfl rfl (o_assign rfl) ?_
    refine f_done ?_
    refine f_tn (kh9 _ _ ?_)
    clear kh9
    refine f_ret ?_
    refine f_tr ?_
    have e : nsE N l bs (rowsL R) = (0, 111) := by unfold nsE; rw [if_neg (by rw [hg]; simp), if_pos (by omega)]
    exact f_fin2 [] Tryz.results63 rfl rfl Sub.nil ⟨by rw [e], rfl⟩
   ·
    refine f_stepPY rfl rfl rfl rfl rfl (o_field fa28_1 rfl) ?_
    refine f_stepPY rfl rfl rfl rfl rfl (o_load Tryz.isAgg26 rfl (rdA rfl)) ?_
    refine f_stepPY rfl rfl rfl rfl rfl (o_len sl26 rfl) ?_
    refine f_stepPY rfl rfl rfl rfl rfl (o_field fa28_0 rfl) ?_
    refine f_stepPY rfl rfl rfl rfl rfl (o_load Tryz.isAgg25 rfl (rdA rfl)) ?_
    refine f_stepPY rfl rfl rfl rfl rfl (o_len sl25 rfl) ?_
    refine f_stepPY rfl rfl rfl rfl rfl (o_neq rfl rfl) ?_
    refine f_stepP rfl rfl rfl (o_pickF rfl rfl) ?_
    refine f_done ?_
    refine f_tn (kh7 _ _ ?_)
    clear kh7
    refine f_cond rfl (fun c38 => ?_) (fun c38 => ?_)
    ·
     refine f_seq fun K10 kh10 => ?_
     refine f_region ?_
     refine f_stepP rfl rfl rfl (o_assign rfl) ?_
     refine f_stepP rfl rfl rfl (o_assign rfl) ?_
     refine f_done ?_
     refine f_tn (kh10 _ _ ?_)
     clear kh10
     refine f_ret ?_
     refine f_tr ?_
     have e : nsE N l bs (rowsL R) = (0, 111) := by unfold nsE; rw [if_neg (by rw [hg]; simp), if_pos (by omega)]
     exact f_fin2 [] Tryz.results63 rfl rfl Sub.nil ⟨by rw [e], rfl⟩
    ·
     have hmm : ¬ (bs.length < 1 ∨ 5 < bs.length ∨ (rowsL R).length ≠ bs.length) := by omega
     have hRl : R.length = bs.length := by omega
     refine f_skip ?_
     refine f_tn (kh6 _ _ ?_)
     clear kh6
     refine f_seq fun K11 kh11 => ?_
     refine f_region ?_
     refine f_stepP rfl rfl rfl (o_assign rfl) ?_
     refine f_done ?_
     refine f_tn (kh11 _ _ ?_)
     clear kh11
     refine f_seq fun K12 kh12 => ?_
     refine f_seq fun K13 kh13 => ?_
     refine f_region ?_
     refine f_stepP rfl rfl rfl (o_field fa28_0 rfl) ?_
     refine f_stepP rfl rfl rfl (o_load Tryz.isAgg25 rfl (rdA rfl)) ?_
     refine f_stepP rfl rfl rfl (o_len sl25 rfl) ?_
     refine f_stepP rfl rfl rfl (o_move rfl) ?_
     refine f_done ?_
     refine f_tn (kh13 _ _ ?_)
     clear kh13
     refine f_block ?_
     refine f_loop (α := Nat) [2, 3, 40, 41] (fun k => [(42, .int .i64 (k : Int)), (8, .int .i64 (blwB bs k))]) (fun k => [[(b2, blk [.int .i64 N, .slice A l.length cap] 24)], [(b3, blk [.slice Ab bs.length cb, .slice Ac R.length cc] 28)]]) (fun k => k ≤ bs.length ∧ ∀ j, j < k → lvE N l bs (rowsL R) j = 0) (fun k => bs.length - k) (0) ?_ ?_ ?_ ?_
     · exact (by repeat (first | exact trivial | refine ⟨rfl, ?_⟩))
     · repeat (first | exact Sub.nil | refine Sub.pick ?_ | refine Sub.castO rfl ?_ | refine Sub.skip ?_)
     · exact ⟨Nat.zero_le _, fun j h => by omega⟩
     ·
      rintro k ⟨hkl, hall⟩
      refine f_seq fun K14 kh14 => ?_
      refine f_region ?_
      refine f_stepP rfl rfl rfl (o_lss rfl rfl) ?_
      refine f_done ?_
      refine f_tn (kh14 _ _ ?_)
      clear kh14
      refine f_seq fun K15 kh15 => ?_
      refine f_cond rfl (fun c43 => ?_) (fun c43 => ?_)
      ·
       have hk : k < bs.length := by omega
       have hkR : k < R.length := by omega
       obtain ⟨b1, o1, rfl, hS1, hc1⟩ := hn.b (fun e => by have := ints_length bs; rw [e] at this; simp at this; omega)
       obtain ⟨b2, o2, rfl, hS2, hc2⟩ := hn.c (map_ne hkR)
       have hlvd : lvE N l bs (rowsL R) k = if bs[k] ≤ blwB bs k ∨ 1024 < bs[k] then 1 else if firstE N l (R[k]'hkR).2.1 bs[k] ≠ 0 then firstE N l (R[k]'hkR).2.1 bs[k] else if 0 < k ∧ ¬ withinP ((rowsL R).getD (k - 1) []) (R[k]'hkR).2.1 then 110 else 0 := by unfold lvE; rw [bs_at hk, rowsL_at hkR]
       refine f_skip ?_
       refine f_tn (kh15 _ _ ?_)
       clear kh15
       refine f_seq fun K16 kh16 => ?_
       refine f_block ?_
       refine f_seq fun K17 kh17 => ?_
       refine f_region ?_
       refine f_stepP rfl rfl rfl (o_move rfl) ?_
       refine f_stepP rfl rfl rfl (o_idx sl25 rfl rfl (o1 + k) ⟨by omega, by omega, by first | omega | (simp; done) | (simp; omega)⟩) ?_
       refine f_stepP rfl rfl rfl (o_load Tryz.isAgg3 rfl (roOne (enc := (.int .i64 ·)) hS1 hc1 hk)) ?_
       refine f_stepP rfl rfl rfl (o_assign rfl) ?_
       refine f_stepP rfl rfl rfl (o_assign rfl) ?_
       refine f_done ?_
       refine f_tn (kh17 _ _ ?_)
       clear kh17
       refine f_seq fun K18 kh18 => ?_
       refine f_seq fun K19 kh19 => ?_
       refine f_region ?_
       refine f_stepP rfl rfl rfl (o_move rfl) ?_
       refine f_stepP rfl rfl rfl (o_move rfl) ?_
       refine f_step rfl rfl rfl (o_call Tryz.call76 rfl (fun w_ hp_ => nbounded_spec bs[k] (blwB bs k) w_) ?_)
       rintro _ _ ⟨rfl, rfl⟩
       dsimp only [List.cons_append, List.nil_append]
       refine f_stepP rfl rfl rfl (o_not rfl) ?_
       refine f_done ?_
       refine f_tn (kh19 _ _ ?_)
       clear kh19
       refine f_condB rfl (fun c50 => ?_) (fun c50 => ?_)
       ·
        have hbd : bs[k] ≤ blwB bs k ∨ 1024 < bs[k] := by simp at c50; omega
        refine f_seq fun K20 kh20 => ?_
        refine f_region ?_
        refine f_stepP rfl rfl rfl (o_move rfl) ?_
        refine f_stepP rfl rfl rfl (o_add rfl rfl _ (wrap_i64 (by omega))) ?_
        refine f_stepP rfl rfl rfl (o_assign rfl) ?_
        refine f_stepP rfl rfl rfl (o_assign rfl) ?_
        refine f_done ?_
        refine f_tn (kh20 _ _ ?_)
        clear kh20
        refine f_ret ?_
        refine f_tr ?_
        refine f_br ?_
        refine f_tr ?_
        refine f_tr ?_
        refine f_br ?_
        refine f_tr ?_
        have e := nsE_at hg hmm hk hall (by rw [hlvd, if_pos hbd]; decide)
        exact f_fin2 [] Tryz.results63 rfl rfl Sub.nil ⟨by rw [e, hlvd, if_pos hbd], rfl⟩
       ·
        have hbd : ¬ (bs[k] ≤ blwB bs k ∨ 1024 < bs[k]) := by simp at c50; omega
        rw [if_neg hbd] at hlvd
        refine f_skip ?_
        refine f_tn (kh18 _ _ ?_)
        clear kh18
        refine f_seq fun K21 kh21 => ?_
        refine f_region ?_
        refine f_stepP rfl rfl rfl (o_move rfl) ?_
        refine f_stepP rfl rfl rfl (o_assign rfl) ?_
        refine f_done ?_
        refine f_tn (kh21 _ _ ?_)
        clear kh21
        refine f_seq fun K22 kh22 => ?_
        refine f_seq fun K23 kh23 => ?_
        refine f_regionT 7 rfl (by decide +kernel) ?_
        refine f_stillP rfl rfl rfl (o_loadA (vs := [_, _]) Tryz.isAgg24 Tryz.sizeOf24 rfl rfl ⟨(rdA rfl), (rdA rfl), trivial⟩) ?_
        refine f_stillP rfl rfl rfl (o_field fa28_1 rfl) ?_
        refine f_stillP rfl rfl rfl (o_load Tryz.isAgg26 rfl (rdA rfl)) ?_
        refine f_stillP rfl rfl rfl (o_move rfl) ?_
        refine f_stillP rfl rfl rfl (o_idx sl26 rfl rfl (o2 + k) ⟨by omega, by omega, by first | omega | (simp; done) | (simp; omega)⟩) ?_
        refine f_stillP rfl rfl rfl (o_load Tryz.isAgg25 rfl (roOne (enc := rowV) hS2 hc2 hkR)) ?_
        refine f_stillP rfl rfl rfl (o_move rfl) ?_
        refine f_stillD (f_tail ?_)
        refine f_step rfl rfl rfl (o_call Tryz.call77 rfl (fun w_ hp_ => first_spec N A l cap (R[k]'hkR).1 (R[k]'hkR).2.1 (R[k]'hkR).2.2 bs[k] w_ (hr.up0 hp_) hl hN hok ((hn.rows _ (List.getElem_mem hkR)).1.up0 hp_) (hn.rows _ (List.getElem_mem hkR)).2 hg) ?_)
        rintro _ _ ⟨rfl, rfl⟩
        dsimp only [List.cons_append, List.nil_append]
        refine f_stepP rfl rfl rfl (o_assign rfl) ?_
        refine f_done ?_
        refine f_tn (kh23 _ _ ?_)
        clear kh23
        refine f_seq fun K24 kh24 => ?_
        refine f_region ?_
        refine f_stepP rfl rfl rfl (o_move rfl) ?_
        refine f_stepP rfl rfl rfl (o_neq rfl rfl) ?_
        refine f_done ?_
        refine f_tn (kh24 _ _ ?_)
        clear kh24
        refine f_cond rfl (fun c63 => ?_) (fun c63 => ?_)
        ·
         have hfe : firstE N l (R[k]'hkR).2.1 bs[k] ≠ 0 := by simpa using c63
         rw [if_pos hfe] at hlvd
         refine f_seq fun K25 kh25 => ?_
         refine f_region ?_
         refine f_stepP rfl rfl rfl (o_move rfl) ?_
         refine f_stepP rfl rfl rfl (o_add rfl rfl _ (wrap_i64 (by omega))) ?_
         refine f_stepP rfl rfl rfl (o_move rfl) ?_
         refine f_stepP rfl rfl rfl (o_assign rfl) ?_
         refine f_stepP rfl rfl rfl (o_assign rfl) ?_
         refine f_done ?_
         refine f_tn (kh25 _ _ ?_)
         clear kh25
         refine f_ret ?_
         refine f_tr ?_
         refine f_br ?_
         refine f_tr ?_
         refine f_tr ?_
         refine f_br ?_
         refine f_tr ?_
         have e := nsE_at hg hmm hk hall (by rw [hlvd]; exact hfe)
         exact f_fin2 [] Tryz.results63 rfl rfl Sub.nil ⟨by rw [e, hlvd], rfl⟩
        ·
         have hfe : firstE N l (R[k]'hkR).2.1 bs[k] = 0 := by simpa using c63
         rw [if_neg (by rw [hfe]; simp)] at hlvd
         refine f_skip ?_
         refine f_tn (kh22 _ _ ?_)
         clear kh22
         refine f_seq fun K26 kh26 => ?_
         refine f_regionT 14 rfl (by decide +kernel) ?_
         refine f_stillP rfl rfl rfl (o_move rfl) ?_
         refine f_stillP rfl rfl rfl (o_gtr rfl rfl) ?_
         refine f_stillP rfl rfl rfl (o_move rfl) ?_
         refine f_splitS 69 rfl (fun g69 => ?_) (fun g69 => ?_)
         ·
          have hk0 : 0 < k := by omega
          have hkR1 : k - 1 < R.length := by omega
          obtain ⟨n, rfl⟩ : ∃ n : Nat, N = (n : Int) := ⟨N.toNat, by omega⟩
          have hlen2 : (R[k]'hkR).2.1.length = n := by
            unfold firstE at hfe
            by_cases h1 : (lcount (n : Int) l (R[k]'hkR).2.1).2 = 0
            · exact (right_parts (lc_right hg h1)).2
            · rw [if_pos h1] at hfe; exact absurd hfe h1
          have hlen1 : (R[k - 1]'hkR1).2.1.length = n := by
            have h2 := ((lvE_zero hg).1 (hall (k - 1) (by omega))).2.1
            rw [rowsL_at hkR1] at h2
            exact (right_parts h2).2
          refine f_stillPY rfl rfl rfl rfl rfl (o_field fa28_1 rfl) ?_
          refine f_stillPY rfl rfl rfl rfl rfl (o_load Tryz.isAgg26 rfl (rdA rfl)) ?_
          refine f_stillPY rfl rfl rfl rfl rfl (o_move rfl) ?_
          refine f_stillPY rfl rfl rfl rfl rfl (o_sub rfl rfl _ (Eq.trans (wrap_i64 (by omega)) (show _ = ((k - 1 : Nat) : Int) by omega))) ?_
          refine f_stillPY rfl rfl rfl rfl rfl (o_idx sl26 rfl rfl (o2 + (k - 1)) ⟨by omega, by omega, by first | omega | (simp; done) | (simp; omega)⟩) ?_
          refine f_stillPY rfl rfl rfl rfl rfl (o_load Tryz.isAgg25 rfl (roOne (enc := rowV) hS2 hc2 hkR1)) ?_
          refine f_stillPY rfl rfl rfl rfl rfl (o_field fa28_1 rfl) ?_
          refine f_stillPY rfl rfl rfl rfl rfl (o_load Tryz.isAgg26 rfl (rdA rfl)) ?_
          refine f_stillPY rfl rfl rfl rfl rfl (o_move rfl) ?_
          refine f_stillPY rfl rfl rfl rfl rfl (o_idx sl26 rfl rfl (o2 + k) ⟨by omega, by omega, by first | omega | (simp; done) | (simp; omega)⟩) ?_
          refine f_stillPY rfl rfl rfl rfl rfl (o_load Tryz.isAgg25 rfl (roOne (enc := rowV) hS2 hc2 hkR)) ?_
          refine f_stillD (f_tail ?_)
          refine f_stepY rfl rfl rfl rfl rfl (o_call Tryz.call78 rfl (fun w_ hp_ => within_spec (R[k - 1]'hkR1).1 (R[k]'hkR).1 (R[k - 1]'hkR1).2.1 (R[k]'hkR).2.1 (R[k - 1]'hkR1).2.2 (R[k]'hkR).2.2 (R[k]'hkR).2.1.length w_ ((hn.rows _ (List.getElem_mem hkR1)).1.up0 hp_) ((hn.rows _ (List.getElem_mem hkR)).1.up0 hp_) rfl (by omega) (by omega)) ?_)
          rintro _ _ ⟨rfl, rfl⟩
          dsimp only [List.cons_append, List.nil_append]
          refine f_stepPY rfl rfl rfl rfl rfl (o_not rfl) ?_
          refine f_stepP rfl rfl rfl (o_pickT rfl rfl) ?_
          refine f_done ?_
          refine f_tn (kh26 _ _ ?_)
          clear kh26
          refine f_condB rfl (fun c83 => ?_) (fun c83 => ?_)
          ·
           have hnw : ¬ withinP (R[k - 1]'hkR1).2.1 (R[k]'hkR).2.1 := by simpa using c83
           rw [if_pos ⟨hk0, by rw [rowsL_at hkR1]; exact hnw⟩] at hlvd
           refine f_seq fun K27 kh27 => ?_
           refine f_region ?_
           refine f_stepP rfl rfl rfl (o_move rfl) ?_
           refine f_stepP rfl rfl rfl (o_add rfl rfl _ (wrap_i64 (by omega))) ?_
           refine f_stepP rfl rfl rfl (o_assign rfl) ?_
           refine f_stepP rfl rfl rfl (o_assign rfl) ?_
           refine f_done ?_
           refine f_tn (kh27 _ _ ?_)
           clear kh27
           refine f_ret ?_
           refine f_br ?_
           refine f_tr ?_
           refine f_tr ?_
           refine f_br ?_
           refine f_tr ?_
           have e := nsE_at hg hmm hk hall (by rw [hlvd]; decide)
           exact f_fin2 [] Tryz.results63 rfl rfl Sub.nil ⟨by rw [e, hlvd], rfl⟩
          ·
           have hyw : withinP (R[k - 1]'hkR1).2.1 (R[k]'hkR).2.1 := by simpa using c83
           rw [if_neg (fun h => h.2 (by rw [rowsL_at hkR1]; exact hyw))] at hlvd
           refine f_skip ?_
           refine f_bn ?_
           refine f_tn (kh16 _ _ ?_)
           clear kh16
           refine f_region ?_
           refine f_stepP rfl rfl rfl (o_add rfl rfl _ (wrap_i64 (by omega))) ?_
           refine f_stepP rfl rfl rfl (o_move rfl) ?_
           refine f_done ?_
           refine f_reQ 8 rfl (v := .int .i64 (blwB bs (k + 1))) (by show _ = Value.int .i64 (bs.getD k 0); rw [bs_at hk]) ?_
           refine f_tn (f_again (k + 1) (by first | omega | (dsimp only; omega) | (simp; omega)) ⟨by omega, fun j hj => by
             by_cases e : j = k
             · subst e; rw [hlvd]
             · exact hall j (by omega)⟩ ?_ ?_ ?_)
           · exact (by repeat (first | exact trivial | refine ⟨rfl, ?_⟩))
           · exact (by repeat (first | exact trivial | refine ⟨rfl, ?_⟩))
           · repeat (first | exact Sub.nil | refine Sub.pick ?_ | refine Sub.castO rfl ?_ | refine Sub.skip ?_)
         ·
          rw [if_neg (fun h => by omega)] at hlvd
          refine f_stillN rfl rfl rfl rfl rfl rfl ?_
          refine f_stillN rfl rfl rfl rfl rfl rfl ?_
          refine f_stillN rfl rfl rfl rfl rfl rfl ?_
          refine f_stillN rfl rfl rfl rfl rfl rfl ?_
          refine f_stillN rfl rfl rfl rfl rfl rfl ?_
          refine f_stillN rfl rfl rfl rfl rfl rfl ?_
          refine f_stillN rfl rfl rfl rfl rfl rfl ?_
          refine f_stillN rfl rfl rfl rfl rfl rfl ?_
          refine f_stillN rfl rfl rfl rfl rfl rfl ?_
          refine f_stillN rfl rfl rfl rfl rfl rfl ?_
          refine f_stillN rfl rfl rfl rfl rfl rfl ?_
          refine f_stillD (f_tail ?_)
          refine f_stepN rfl rfl rfl rfl rfl rfl ?_
          refine f_stepN rfl rfl rfl rfl rfl rfl ?_
          refine f_stepP rfl rfl rfl (o_pickF rfl rfl) ?_
          refine f_done ?_
          refine f_tn (kh26 _ _ ?_)
          clear kh26
          refine f_condF rfl ?_
          refine f_skip ?_
          refine f_bn ?_
          refine f_tn (kh16 _ _ ?_)
          clear kh16
          refine f_region ?_
          refine f_stepP rfl rfl rfl (o_add rfl rfl _ (wrap_i64 (by omega))) ?_
          refine f_stepP rfl rfl rfl (o_move rfl) ?_
          refine f_done ?_
          refine f_reQ 8 rfl (v := .int .i64 (blwB bs (k + 1))) (by show _ = Value.int .i64 (bs.getD k 0); rw [bs_at hk]) ?_
          refine f_tn (f_again (k + 1) (by first | omega | (dsimp only; omega) | (simp; omega)) ⟨by omega, fun j hj => by
            by_cases e : j = k
            · subst e; rw [hlvd]
            · exact hall j (by omega)⟩ ?_ ?_ ?_)
          · exact (by repeat (first | exact trivial | refine ⟨rfl, ?_⟩))
          · exact (by repeat (first | exact trivial | refine ⟨rfl, ?_⟩))
          · repeat (first | exact Sub.nil | refine Sub.pick ?_ | refine Sub.castO rfl ?_ | refine Sub.skip ?_)
      ·
       refine f_exit ?_
       refine f_te ?_
       clear kh15
       refine f_te ?_
       refine f_be ?_
       refine f_tn (kh12 _ _ ?_)
       clear kh12
       refine f_seq fun K28 kh28 => ?_
       refine f_region ?_
       refine f_stepP rfl rfl rfl (o_assign rfl) ?_
       refine f_stepP rfl rfl rfl (o_assign rfl) ?_
       refine f_done ?_
       refine f_tn (kh28 _ _ ?_)
       clear kh28
       refine f_ret ?_
       have e := nsE_none hg hmm (fun j hj => hall j (by omega))
       exact f_fin2 [] Tryz.results63 rfl rfl Sub.nil ⟨by rw [e], rfl⟩

set_option maxRecDepth 100000 in
set_option maxHeartbeats 4000000 in
theorem at_spec (Ab : Option Addr) (bs : List Int) (cb : Nat) (Ac : Option Addr) (R : List Row) (cc : Nat) (q : Nat) (w : World) (hn : NestRo (Fr w []) w Ab bs Ac R) (hq : q < R.length) :
    Meets Tryz.prog 64 [.agg #[.slice Ab bs.length cb, .slice Ac R.length cc], .int .i64 ((q : Int) + 1)] w [] (fun u m => u = .agg #[rowV R[q], .int .i64 ((q : Int) + 1)] ∧ m = []) := by
 obtain ⟨b_, o_, rfl, hS, hc⟩ := hn.c (map_ne hq)
 have hcl := hn.cl
 refine f_enter Tryz.func64 rfl Tryz.ntmps64 rfl Owns.nil ?_
 refine f_seq fun K1 kh1 => ?_
 refine f_region ?_
 refine f_step rfl rfl rfl (o_box rfl rfl fun b2 => ?_)
 refine f_step rfl rfl rfl (o_alloc Tryz.zeroValue71 rfl fun b4 => ?_)
 refine f_done ?_
 refine f_tn (kh1 _ _ ?_)
 clear kh1
 refine f_seq fun K2 kh2 => ?_
 refine f_region ?_
 refine f_stepP rfl rfl rfl (o_field fa28_1 rfl) ?_
 refine f_stepP rfl rfl rfl (o_load Tryz.isAgg26 rfl (rdA rfl)) ?_
 refine f_stepP rfl rfl rfl (o_move rfl) ?_
 refine f_stepP rfl rfl rfl (o_sub rfl rfl _ (Eq.trans (wrap_i64 (by omega)) (show _ = (q : Int) by omega))) ?_
 refine f_stepP rfl rfl rfl (o_idx sl26 rfl rfl (o_ + q) ⟨by omega, by omega, by first | omega | (simp; done) | (simp; omega)⟩) ?_
 refine f_stepP rfl rfl rfl (o_load Tryz.isAgg25 rfl (roOne (enc := rowV) hS hc hq)) ?_
 refine f_stepP rfl rfl rfl (o_move rfl) ?_
 refine f_stepP rfl rfl rfl (o_build (cs := [rowV R[q], .int .i64 ((q : Int) + 1)]) st71 rfl rfl) ?_
 refine f_step0 rfl rfl (o_storeA Tryz.sizeOf71 rfl rfl rfl rfl (by first | exact Nat.le_of_ble_eq_true rfl | (simp; done) | (simp; omega)) [rowV R[q], .int .i64 ((q : Int) + 1)] rfl ?_)
 refine f_done ?_
 refine f_tn (kh2 _ _ ?_)
 clear kh2
 refine f_ret ?_
 exact f_finR1 [] Tryz.results64 (rvA (vs := [rowV R[q], .int .i64 ((q : Int) + 1)]) Tryz.isAgg71 Tryz.sizeOf71 rfl rfl ⟨(rdA rfl), (rdA rfl), trivial⟩) (by repeat (first | exact Sub.nil | refine Sub.pick ?_ | refine Sub.castO rfl ?_ | refine Sub.skip ?_)) ⟨rfl, rfl⟩

set_option maxRecDepth 100000 in
set_option maxHeartbeats 4000000 in
theorem nlooked_spec (N : Int) (A : Option Addr) (l : List Arc) (cap : Nat) (Ab : Option Addr) (bs : List Int) (cb : Nat) (Ac : Option Addr) (R : List Row) (cc : Nat) (q : Int) (w : World) (hr : Ro (Fr w []) w A (l.flatMap arcCs)) (hl : l.length ≤ 9223372036854775807) (hN : I64 N) (hok : ∀ x ∈ l, ArcOk x) (hn : NestRo (Fr w []) w Ab bs Ac R) :
    Meets Tryz.prog 46 [.agg #[.int .i64 N, .slice A l.length cap], .agg #[.slice Ab bs.length cb, .slice Ac R.length cc], .int .i64 q] w [] (fun u m => ∃ (r : Row) (x : Int), u = .tuple #[.agg #[rowV r, .int .i64 x], .int .i64 (lkE N l bs (rowsL R) q)] ∧ m = [] ∧ (lkE N l bs (rowsL R) q = 0 → x = q ∧ R[(q - 1).toNat]? = some r)) := by
 have hrl := rowsL_len R
 refine f_enter Tryz.func46 rfl Tryz.ntmps46 rfl Owns.nil ?_
 refine f_seq fun K1 kh1 => ?_
 refine f_region ?_
 refine f_step rfl rfl rfl (o_box rfl rfl fun b3 => ?_)
 refine f_step rfl rfl rfl (o_box rfl rfl fun b4 => ?_)
 refine f_step rfl rfl rfl (o_alloc Tryz.zeroValue71 rfl fun b6 => ?_)
 refine f_stepP rfl rfl rfl (o_assign rfl) ?_
 refine f_done ?_
 refine f_tn (kh1 _ _ ?_)
 clear kh1
 refine f_seq fun K2 kh2 => ?_
 refine f_seq fun K3 kh3 => ?_
 refine f_region ?_
 refine f_stepP rfl rfl rfl (o_loadA (vs := [_, _]) Tryz.isAgg24 Tryz.sizeOf24 rfl rfl ⟨(rdA rfl), (rdA rfl), trivial⟩) ?_
 refine f_stepP rfl rfl rfl (o_loadA (vs := [_, _]) Tryz.isAgg28 Tryz.sizeOf28 rfl rfl ⟨(rdA rfl), (rdA rfl), trivial⟩) ?_
 refine f_step rfl rfl rfl (o_call Tryz.call63 rfl (fun w_ hp_ => NCheck_spec N A l cap Ab bs cb Ac R cc w_ (hr.up0 hp_) hl hN hok (hn.up0 hp_)) ?_)
 rintro _ _ ⟨rfl, rfl⟩
 dsimp only [List.cons_append, List.nil_append]
 refine f_stepP rfl rfl rfl (o_move rfl) ?_
 refine f_stepP rfl rfl rfl (o_extract rfl rfl) ?_
 refine f_stepP rfl rfl rfl (o_extract rfl rfl) ?_
 refine f_stepP rfl rfl rfl (o_assign rfl) ?_
 refine f_stepP rfl rfl rfl (o_assign rfl) ?_
 refine f_done ?_
 refine f_tn (kh3 _ _ ?_)
 clear kh3
 refine f_seq fun K4 kh4 => ?_
 refine f_region ?_
 refine f_stepP rfl rfl rfl (o_move rfl) ?_
 refine f_stepP rfl rfl rfl (o_neq rfl rfl) ?_
 refine f_done ?_
 refine f_tn (kh4 _ _ ?_)
 clear kh4
 refine f_cond rfl (fun c17 => ?_) (fun c17 => ?_)
 ·
  refine f_seq fun K5 kh5 => ?_
  refine f_region ?_
  refine f_stepP rfl rfl rfl (o_build (cs := [rowV (none, [], 0), .int .i64 0]) st71 rfl rfl) ?_
  refine f_stepP rfl rfl rfl (o_move rfl) ?_
  refine f_step0 rfl rfl (o_storeA Tryz.sizeOf71 rfl rfl rfl rfl (by first | exact Nat.le_of_ble_eq_true rfl | (simp; done) | (simp; omega)) [rowV (none, [], 0), .int .i64 0] rfl ?_)
  refine f_stepP rfl rfl rfl (o_assign rfl) ?_
  refine f_done ?_
  refine f_tn (kh5 _ _ ?_)
  clear kh5
  refine f_ret ?_
  refine f_tr ?_
  have e : lkE N l bs (rowsL R) q = (nsE N l bs (rowsL R)).2 := by unfold lkE; rw [if_pos (by simpa using c17)]
  exact f_fin2c (vs := [rowV (none, [], 0), .int .i64 0]) [] Tryz.results46 rfl Tryz.isAgg71 Tryz.sizeOf71 rfl ⟨(rdA rfl), (rdA rfl), trivial⟩ rfl (by repeat (first | exact Sub.nil | refine Sub.pick ?_ | refine Sub.castO rfl ?_ | refine Sub.skip ?_)) ⟨(none, [], 0), 0, by rw [e], rfl, fun h => absurd (e.symm.trans h) (by simpa using c17)⟩
 ·
  refine f_skip ?_
  refine f_tn (kh2 _ _ ?_)
  clear kh2
  refine f_seq fun K6 kh6 => ?_
  refine f_seq fun K7 kh7 => ?_
  refine f_region ?_
  refine f_stepP rfl rfl rfl (o_move rfl) ?_
  refine f_stepP rfl rfl rfl (o_lss rfl rfl) ?_
  refine f_stepP rfl rfl rfl (o_move rfl) ?_
  refine f_splitL 22 rfl (fun g22 => ?_) (fun g22 => ?_)
  ·
   refine f_stepN rfl rfl rfl rfl rfl rfl ?_
   refine f_stepN rfl rfl rfl rfl rfl rfl ?_
   refine f_stepN rfl rfl rfl rfl rfl rfl ?_
   refine f_stepN rfl rfl rfl rfl rfl rfl ?_
   refine f_stepN rfl rfl rfl rfl rfl rfl ?_
   refine f_stepP rfl rfl rfl (o_pickT rfl rfl) ?_
   refine f_done ?_
   refine f_tn (kh7 _ _ ?_)
   clear kh7
   refine f_condT rfl ?_
   refine f_seq fun K8 kh8 => ?_
   refine f_region ?_
   refine f_stepP rfl rfl rfl (o_build (cs := [rowV (none, [], 0), .int .i64 0]) st71 rfl rfl) ?_
   refine f_step0 rfl rfl (o_storeA Tryz.sizeOf71 rfl rfl rfl rfl (by first | exact Nat.le_of_ble_eq_true rfl | (simp; done) | (simp; omega)) [rowV (none, [], 0), .int .i64 0] rfl ?_)
   refine f_stepP rfl rfl rfl (o_assign rfl) ?_
   refine f_done ?_
   refine f_tn (kh8 _ _ ?_)
   clear kh8
   refine f_ret ?_
   refine f_tr ?_
   have e : lkE N l bs (rowsL R) q = 111 := by unfold lkE; rw [if_neg (by simpa using c17), if_pos (by omega)]
   exact f_fin2c (vs := [rowV (none, [], 0), .int .i64 0]) [] Tryz.results46 rfl Tryz.isAgg71 Tryz.sizeOf71 rfl ⟨(rdA rfl), (rdA rfl), trivial⟩ rfl (by repeat (first | exact Sub.nil | refine Sub.pick ?_ | refine Sub.castO rfl ?_ | refine Sub.skip ?_)) ⟨(none, [], 0), 0, by rw [e], rfl, fun h => absurd (e.symm.trans h) (by decide)⟩
  ·
   refine f_stepPY rfl rfl rfl rfl rfl (o_move rfl) ?_
   refine f_stepPY rfl rfl rfl rfl rfl (o_field fa28_0 rfl) ?_
   refine f_stepPY rfl rfl rfl rfl rfl (o_load Tryz.isAgg25 rfl (rdA rfl)) ?_
   refine f_stepPY rfl rfl rfl rfl rfl (o_len sl25 rfl) ?_
   refine f_stepPY rfl rfl rfl rfl rfl (o_gtr rfl rfl) ?_
   refine f_stepP rfl rfl rfl (o_pickF rfl rfl) ?_
   refine f_done ?_
   refine f_tn (kh7 _ _ ?_)
   clear kh7
   refine f_cond rfl (fun c28 => ?_) (fun c28 => ?_)
   ·
    refine f_seq fun K9 kh9 => ?_
    refine f_region ?_
    refine f_stepP rfl rfl rfl (o_build (cs := [rowV (none, [], 0), .int .i64 0]) st71 rfl rfl) ?_
    refine f_step0 rfl rfl (o_storeA Tryz.sizeOf71 rfl rfl rfl rfl (by first | exact Nat.le_of_ble_eq_true rfl | (simp; done) | (simp; omega)) [rowV (none, [], 0), .int .i64 0] rfl ?_)
    refine f_stepP rfl rfl rfl (o_assign rfl) ?_
    refine f_done ?_
    refine f_tn (kh9 _ _ ?_)
    clear kh9
    refine f_ret ?_
    refine f_tr ?_
    have e : lkE N l bs (rowsL R) q = 111 := by unfold lkE; rw [if_neg (by simpa using c17), if_pos (by omega)]
    exact f_fin2c (vs := [rowV (none, [], 0), .int .i64 0]) [] Tryz.results46 rfl Tryz.isAgg71 Tryz.sizeOf71 rfl ⟨(rdA rfl), (rdA rfl), trivial⟩ rfl (by repeat (first | exact Sub.nil | refine Sub.pick ?_ | refine Sub.castO rfl ?_ | refine Sub.skip ?_)) ⟨(none, [], 0), 0, by rw [e], rfl, fun h => absurd (e.symm.trans h) (by decide)⟩
   ·
    have hz : (nsE N l bs (rowsL R)).2 = 0 := by simpa using c17
    obtain ⟨n, rfl, hNo⟩ := nsE_zero hz
    have hle := hNo.len
    have hlk : lkE (n : Int) l bs (rowsL R) q = 0 := by unfold lkE; rw [if_neg (by rw [hz]; simp), if_neg (by omega)]
    obtain ⟨q0, hqe⟩ : ∃ q0 : Nat, q = (q0 : Int) + 1 := ⟨(q - 1).toNat, by omega⟩
    have hq0 : q0 < R.length := by omega
    refine f_skip ?_
    refine f_tn (kh6 _ _ ?_)
    clear kh6
    refine f_seq fun K10 kh10 => ?_
    refine f_region ?_
    refine f_stepP rfl rfl rfl (o_loadA (vs := [_, _]) Tryz.isAgg28 Tryz.sizeOf28 rfl rfl ⟨(rdA rfl), (rdA rfl), trivial⟩) ?_
    refine f_stepP rfl rfl rfl (o_move rfl) ?_
    refine f_step rfl rfl rfl (o_call Tryz.call64 rfl (fun w_ hp_ => (by have h := at_spec Ab bs cb Ac R cc q0 w_ (hn.up0 hp_) hq0; rw [show ((q0 : Int) + 1) = q by omega] at h; exact h)) ?_)
    rintro _ _ ⟨rfl, rfl⟩
    dsimp only [List.cons_append, List.nil_append]
    refine f_step0 rfl rfl (o_storeA Tryz.sizeOf71 rfl rfl rfl rfl (by first | exact Nat.le_of_ble_eq_true rfl | (simp; done) | (simp; omega)) [rowV R[q0], .int .i64 q] rfl ?_)
    refine f_stepP rfl rfl rfl (o_assign rfl) ?_
    refine f_done ?_
    refine f_tn (kh10 _ _ ?_)
    clear kh10
    refine f_ret ?_
    exact f_fin2c (vs := [rowV R[q0], .int .i64 q]) [] Tryz.results46 rfl Tryz.isAgg71 Tryz.sizeOf71 rfl ⟨(rdA rfl), (rdA rfl), trivial⟩ rfl (by repeat (first | exact Sub.nil | refine Sub.pick ?_ | refine Sub.castO rfl ?_ | refine Sub.skip ?_)) ⟨R[q0], q, by rw [hlk], rfl, fun _ => ⟨rfl, by rw [show (q - 1).toNat = q0 by omega, List.getElem?_eq_getElem hq0]⟩⟩

end Go.Proofs.YtkmkakpadgljeaaGreat

/- A field of a struct that is a value. -/

namespace Go.Proofs.YtkmkakpadgljeaaGreat.Fly
open Go Go.RowKit
set_option linter.unusedVariables false
set_option linter.unusedSectionVars false
section
variable {P : Program} {n : Nat} {S : Nat → Prop} {w0 : World} {env : Env} {segs : List Seg} {d : Option Tmp} {ty : TypeId} {pos : String} {af : Array Edge} {g : Option (Nat × Bool)}
theorem o_fval {s : TypeId} {x : Operand} {f : Nat} {cs : Array Value} {v : Value} (hx : ev env x = some (.agg cs)) (hf : ∀ w, (Instr.field s (.agg cs) f).run P w = .ok v w) : Pure P n S w0 env segs ⟨d, .field s x f, ty, pos, af, g⟩ v :=
  fun a w ha _ => by simp [execOp, ha.eval hx, hf w]
end
end Go.Proofs.YtkmkakpadgljeaaGreat.Fly

/- slices.Compact, slices.Clip over numbers. -/
namespace Go.Proofs.YtkmkakpadgljeaaGreat
open Go Go.RowKit Fly
set_option linter.unusedVariables false
set_option linter.unusedSimpArgs false


theorem ints_zero {d : List Int} {i : Nat} (hi : i ≤ d.length) (sp : List Value) : setMany (ints d ++ sp) i (List.replicate (d.length - i) [Value.int .i64 0]).flatten = ints (d.take i) ++ (ints (List.replicate (d.length - i) 0) ++ sp) := by
  have e : ints d ++ sp = ints (d.take i) ++ (ints (d.drop i) ++ sp) := by rw [← List.append_assoc, ← ints_append, List.take_append_drop]
  have e2 : (List.replicate (d.length - i) [Value.int .i64 0]).flatten = ints (List.replicate (d.length - i) 0) := by
    generalize d.length - i = q
    induction q with
    | zero => rfl
    | succ q ih => simp only [List.replicate_succ, List.flatten_cons, ih]; rfl
  rw [e, e2]
  exact setMany_append _ _ _ _ _ (by rw [ints_length, List.length_take, Nat.min_eq_left hi]) (by rw [ints_length, ints_length]; simp)
theorem intsG {l : List Int} {i : Nat} (h : i < l.length) {x : Int} (e : l[i] = x) : (ints l)[i]? = some (.int .i64 x) := by rw [ints_get h, e]
theorem cpt_put {l d : List Int} {i j : Nat} (hj : j < l.length) (hij : i < j) (hd : d.length = l.length) (h0 : d.take i = cpt (l.take j)) (hdr : d.drop (j - 1) = l.drop (j - 1)) (hne : l[j] ≠ l[j - 1]'(by omega)) :
    (d.set i l[j]).take (i + 1) = cpt (l.take (j + 1)) ∧ (d.set i l[j]).drop j = l.drop j := by
  refine ⟨?_, ?_⟩
  · rw [cpt_next (by omega) hj, if_neg (fun e => hne e.symm), ← h0, List.take_succ_eq_append_getElem (show i < (d.set i l[j]).length by simp; omega), List.getElem_set_self, List.take_set_of_le (Nat.le_refl _)]
  · rw [List.drop_set_of_lt hij]
    have := congrArg (List.drop 1) hdr
    rw [List.drop_drop, List.drop_drop, show j - 1 + 1 = j by omega] at this
    exact this
theorem cpt_pass {l d : List Int} {i j : Nat} (hj : j < l.length) (hj0 : 0 < j) (h0 : d.take i = cpt (l.take j)) (hdr : d.drop (j - 1) = l.drop (j - 1)) (he : l[j] = l[j - 1]'(by omega)) : d.take i = cpt (l.take (j + 1)) ∧ d.drop j = l.drop j := by
  refine ⟨by rw [cpt_next hj0 hj, if_pos he.symm]; exact h0, ?_⟩
  have := congrArg (List.drop 1) hdr
  rw [List.drop_drop, List.drop_drop, show j - 1 + 1 = j by omega] at this
  exact this
theorem drop_get {l d : List Int} {i j : Nat} (hd : d.length = l.length) (h : d.drop i = l.drop i) (hij : i ≤ j) (hj : j < l.length) : d[j]'(by omega) = l[j] := by
  have := congrArg (fun x => x[j - i]?) h
  simp only [List.getElem?_drop, show i + (j - i) = j by omega] at this
  rw [List.getElem?_eq_getElem (by omega), List.getElem?_eq_getElem hj] at this
  exact Option.some.inj this

set_option maxRecDepth 100000 in
set_option maxHeartbeats 4000000 in
theorem Compact_spec (A : Option Addr) (cap : Nat) (l : List Int) (m : Seg) (w : World) (ho : Own 3 1 (.slice A l.length cap) l.length (ints l) m) (hl : l.length ≤ 1000000000) (hw : Owns w [m]) :
    Meets Tryz.prog 25 [.slice A l.length cap] w [m] (fun u own' => ∃ m', own' = [m'] ∧ Own 3 1 u (cpt l).length (ints (cpt l)) m') := by
 refine f_enter Tryz.func25 rfl Tryz.ntmps25 rfl hw ?_
 refine f_seq fun K1 kh1 => ?_
 refine f_region ?_
 refine f_stepP rfl rfl rfl (o_assign rfl) ?_
 refine f_done ?_
 refine f_tn (kh1 _ _ ?_)
 clear kh1
 refine f_seq fun K2 kh2 => ?_
 refine f_seq fun K3 kh3 => ?_
 refine f_region ?_
 refine f_stepP rfl rfl rfl (o_move rfl) ?_
 refine f_stepP rfl rfl rfl (o_len sl25 rfl) ?_
 refine f_stepP rfl rfl rfl (o_lss rfl rfl) ?_
 refine f_done ?_
 refine f_tn (kh3 _ _ ?_)
 clear kh3
 refine f_cond rfl (fun c8 => ?_) (fun c8 => ?_)
 ·
  have hcl : cpt l = l := by
    match l, c8 with
    | [], _ => rfl
    | [x], _ => rfl
    | x :: y :: r, h => simp at h; omega
  refine f_seq fun K4 kh4 => ?_
  refine f_region ?_
  refine f_stepP rfl rfl rfl (o_move rfl) ?_
  refine f_stepP rfl rfl rfl (o_assign rfl) ?_
  refine f_done ?_
  refine f_tn (kh4 _ _ ?_)
  clear kh4
  refine f_ret ?_
  refine f_tr ?_
  exact f_fin1 [m] Tryz.results25 rfl (Sub.pick Sub.nil) ⟨m, rfl, by rw [hcl]; exact ho⟩
 ·
  obtain ⟨b, sp, rfl, rfl, hup⟩ := ho.upd (by omega)
  obtain ⟨_, _, e_, hcap⟩ := ho.val
  cases e_
  have hspl : sp.length = cap - l.length := by
    obtain ⟨_, h | ⟨b', c', sp', e, hm, _, _, h3⟩⟩ := ho
    · omega
    · cases e
      have := List.append_cancel_left (Array.toList_inj.2 (show (ints l ++ sp).toArray = (ints l ++ sp').toArray by simpa using hm))
      rw [this]; omega
  refine f_skip ?_
  refine f_tn (kh2 _ _ ?_)
  clear kh2
  refine f_seq fun K5 kh5 => ?_
  refine f_seq fun K6 kh6 => ?_
  refine f_region ?_
  refine f_stepP rfl rfl rfl (o_assign rfl) ?_
  refine f_done ?_
  refine f_tn (kh6 _ _ ?_)
  clear kh6
  refine f_block ?_
  refine f_loopK (α := Nat) [0] (fun k => [(3, .int .i64 (k : Int))]) (fun k => 1 ≤ k ∧ k ≤ l.length ∧ cpt (l.take k) = l.take k) (fun k => l.length - k) (1) ?_ ?_ ?_
  · exact (by repeat (first | exact trivial | refine ⟨rfl, ?_⟩))
  · exact ⟨Nat.le_refl _, by omega, cpt_one (by omega)⟩
  ·
   rintro k ⟨hk1, hkl, hck⟩
   refine f_seq fun K7 kh7 => ?_
   refine f_seq fun K8 kh8 => ?_
   refine f_region ?_
   refine f_stepP rfl rfl rfl (o_move rfl) ?_
   refine f_stepP rfl rfl rfl (o_move rfl) ?_
   refine f_stepP rfl rfl rfl (o_len sl25 rfl) ?_
   refine f_stepP rfl rfl rfl (o_lss rfl rfl) ?_
   refine f_done ?_
   refine f_tn (kh8 _ _ ?_)
   clear kh8
   refine f_cond rfl (fun c13 => ?_) (fun c13 => ?_)
   ·
    refine f_skip ?_
    refine f_tn (kh7 _ _ ?_)
    clear kh7
    refine f_seq fun K9 kh9 => ?_
    refine f_block ?_
    refine f_seq fun K10 kh10 => ?_
    refine f_regionS rfl (by decide +kernel) ?_
    refine f_stillP rfl rfl rfl (o_move rfl) ?_
    refine f_stillP rfl rfl rfl (o_move rfl) ?_
    have hk : k < l.length := by omega
    refine f_stillP rfl rfl rfl (o_idx sl25 rfl rfl (k) ⟨by omega, by omega, by first | omega | (simp; done) | (simp; omega)⟩) ?_
    refine f_stillP rfl rfl rfl (o_load Tryz.isAgg3 rfl (rdA (app_get (ints_get hk)))) ?_
    refine f_stillP rfl rfl rfl (o_move rfl) ?_
    refine f_stillP rfl rfl rfl (o_move rfl) ?_
    refine f_stillP rfl rfl rfl (o_sub rfl rfl _ (wrap_i64 (by omega))) ?_
    refine f_stillP rfl rfl rfl (o_idx sl25 rfl rfl (k - 1) ⟨by omega, by omega, by first | omega | (simp; done) | (simp; omega)⟩) ?_
    refine f_stillP rfl rfl rfl (o_load Tryz.isAgg3 rfl (rdA (app_get (ints_get (by omega))))) ?_
    refine f_stillP rfl rfl rfl (o_eql rfl rfl) ?_
    refine f_stillD ?_
    refine f_tn (kh10 _ _ ?_)
    clear kh10
    refine f_cond rfl (fun c25 => ?_) (fun c25 => ?_)
    ·
     refine f_seq fun K11 kh11 => ?_
     refine f_region ?_
     refine f_stepP rfl rfl rfl (o_move rfl) ?_
     refine f_stepP rfl rfl rfl (o_move rfl) ?_
     refine f_stepP rfl rfl rfl (o_slice sl25 rfl rfl rfl rfl (fun h => by cases h) k _ _ (.inr ⟨_, _, rfl, by omega⟩) (.inl ⟨rfl, rfl⟩) (.inl ⟨rfl, rfl⟩) ⟨by omega, by omega, by omega⟩ (.slice (some ⟨b, k, none⟩) (l.length - k) (cap - k)) (by rw [if_neg (by omega)]; simp [add_at])) ?_
     refine f_stepP rfl rfl rfl (o_assign rfl) ?_
     refine f_done ?_
     refine f_tn (kh11 _ _ ?_)
     clear kh11
     refine f_seq fun K12 kh12 => ?_
     refine f_seq fun K13 kh13 => ?_
     refine f_region ?_
     refine f_stepP rfl rfl rfl (o_assign rfl) ?_
     refine f_done ?_
     refine f_tn (kh13 _ _ ?_)
     clear kh13
     refine f_block ?_
     refine f_loop (α := Nat × Nat × List Int) [0, 4] (fun ⟨q, i, d⟩ => [(5, .int .i64 (q : Int)), (3, .int .i64 (i : Int))]) (fun ⟨q, i, d⟩ => [[(b, blk (ints d ++ sp) 3)]]) (fun ⟨q, i, d⟩ => 1 ≤ q ∧ k + q ≤ l.length ∧ i < k + q ∧ d.length = l.length ∧ d.take i = cpt (l.take (k + q)) ∧ d.drop (k + q - 1) = l.drop (k + q - 1)) (fun ⟨q, i, d⟩ => l.length - (k + q)) (1, k, l) ?_ ?_ ?_ ?_
     · exact (by repeat (first | exact trivial | refine ⟨rfl, ?_⟩))
     · repeat (first | exact Sub.nil | refine Sub.pick ?_ | refine Sub.castO rfl ?_ | refine Sub.skip ?_)
     · exact ⟨Nat.le_refl _, by omega, by omega, rfl, by rw [cpt_next (by omega) hk, if_pos c25.symm, hck], rfl⟩
     ·
      rintro ⟨q, i, d⟩ ⟨hq1, hql, hik, hdl, hdt, hdd⟩
      refine f_envC (e := [(5, _), (3, _), (0, _), (4, _)]) (by repeat (first | exact trivial | refine ⟨rfl, ?_⟩)) ?_
      refine f_seq fun K14 kh14 => ?_
      refine f_seq fun K15 kh15 => ?_
      refine f_region ?_
      refine f_stepP rfl rfl rfl (o_move rfl) ?_
      refine f_stepP rfl rfl rfl (o_move rfl) ?_
      refine f_stepP rfl rfl rfl (o_len sl25 rfl) ?_
      refine f_stepP rfl rfl rfl (o_lss rfl rfl) ?_
      refine f_done ?_
      refine f_tn (kh15 _ _ ?_)
      clear kh15
      refine f_cond rfl (fun c32 => ?_) (fun c32 => ?_)
      ·
       refine f_skip ?_
       refine f_tn (kh14 _ _ ?_)
       clear kh14
       refine f_seq fun K16 kh16 => ?_
       refine f_block ?_
       refine f_seq fun K17 kh17 => ?_
       have hj' : k + q < l.length := by omega
       have hd1 := drop_get hdl hdd (j := k + q) (by omega) hj'
       have hd2 := drop_get hdl hdd (j := k + q - 1) (Nat.le_refl _) (by omega)
       refine f_regionS rfl (by decide +kernel) ?_
       refine f_stillP rfl rfl rfl (o_move rfl) ?_
       refine f_stillP rfl rfl rfl (o_move rfl) ?_
       refine f_stillP rfl rfl rfl (o_idx sl25 rfl rfl (k + q) ⟨by omega, by omega, by first | omega | (simp; done) | (simp; omega)⟩) ?_
       refine f_stillP rfl rfl rfl (o_load Tryz.isAgg3 rfl (rdA (app_get (intsG (by omega) hd1)))) ?_
       refine f_stillP rfl rfl rfl (o_move rfl) ?_
       refine f_stillP rfl rfl rfl (o_move rfl) ?_
       refine f_stillP rfl rfl rfl (o_sub rfl rfl _ (wrap_i64 (by omega))) ?_
       refine f_stillP rfl rfl rfl (o_idx sl25 rfl rfl (k + q - 1) ⟨by omega, by omega, by first | omega | (simp; done) | (simp; omega)⟩) ?_
       refine f_stillP rfl rfl rfl (o_load Tryz.isAgg3 rfl (rdA (app_get (intsG (by omega) hd2)))) ?_
       refine f_stillP rfl rfl rfl (o_neq rfl rfl) ?_
       refine f_stillD ?_
       refine f_tn (kh17 _ _ ?_)
       clear kh17
       refine f_cond rfl (fun c44 => ?_) (fun c44 => ?_)
       ·
        refine f_seq fun K18 kh18 => ?_
        refine f_region ?_
        refine f_stepP rfl rfl rfl (o_move rfl) ?_
        refine f_stepP rfl rfl rfl (o_move rfl) ?_
        refine f_stepP rfl rfl rfl (o_move rfl) ?_
        refine f_stepP rfl rfl rfl (o_move rfl) ?_
        refine f_stepP rfl rfl rfl (o_idx sl25 rfl rfl (k + q) ⟨by omega, by omega, by first | omega | (simp; done) | (simp; omega)⟩) ?_
        refine f_stepP rfl rfl rfl (o_load Tryz.isAgg3 rfl (rdA (app_get (intsG (by omega) hd1)))) ?_
        refine f_stepP rfl rfl rfl (o_idx sl25 rfl rfl (i) ⟨by omega, by omega, by first | omega | (simp; done) | (simp; omega)⟩) ?_
        refine f_step0 rfl rfl (o_store Tryz.sizeOf3 rfl rfl rfl rfl (by rw [List.length_append, ints_length]; omega) (ints (d.set i l[k + q]) ++ sp) (by rw [List.set_append_left _ _ (by rw [ints_length]; omega)]; simp [ints, List.map_set]) ?_)
        refine f_done ?_
        refine f_tn (kh18 _ _ ?_)
        clear kh18
        refine f_region ?_
        refine f_stepP rfl rfl rfl (o_move rfl) ?_
        refine f_stepP rfl rfl rfl (o_add rfl rfl _ (wrap_i64 (by omega))) ?_
        refine f_stepP rfl rfl rfl (o_assign rfl) ?_
        refine f_done ?_
        refine f_bn ?_
        refine f_tn (kh16 _ _ ?_)
        clear kh16
        refine f_region ?_
        refine f_stepP rfl rfl rfl (o_move rfl) ?_
        refine f_stepP rfl rfl rfl (o_add rfl rfl _ (wrap_i64 (by omega))) ?_
        refine f_stepP rfl rfl rfl (o_assign rfl) ?_
        refine f_done ?_
        refine f_tn (f_again (q + 1, i + 1, d.set i l[k + q]) (by first | omega | (dsimp only; omega) | (simp; omega)) ⟨by omega, by omega, by omega, by simpa using hdl, (cpt_put hj' hik hdl hdt hdd (by omega)).1, (cpt_put hj' hik hdl hdt hdd (by omega)).2⟩ ?_ ?_ ?_)
        · exact (by repeat (first | exact trivial | refine ⟨rfl, ?_⟩))
        · exact (by repeat (first | exact trivial | refine ⟨rfl, ?_⟩))
        · repeat (first | exact Sub.nil | refine Sub.pick ?_ | refine Sub.castO rfl ?_ | refine Sub.skip ?_)
       ·
        refine f_skip ?_
        refine f_bn ?_
        refine f_tn (kh16 _ _ ?_)
        clear kh16
        refine f_region ?_
        refine f_stepP rfl rfl rfl (o_move rfl) ?_
        refine f_stepP rfl rfl rfl (o_add rfl rfl _ (wrap_i64 (by omega))) ?_
        refine f_stepP rfl rfl rfl (o_assign rfl) ?_
        refine f_done ?_
        refine f_tn (f_again (q + 1, i, d) (by first | omega | (dsimp only; omega) | (simp; omega)) ⟨by omega, by omega, by omega, hdl, (cpt_pass hj' (by omega) hdt hdd (by omega)).1, (cpt_pass hj' (by omega) hdt hdd (by omega)).2⟩ ?_ ?_ ?_)
        · exact (by repeat (first | exact trivial | refine ⟨rfl, ?_⟩))
        · exact (by repeat (first | exact trivial | refine ⟨rfl, ?_⟩))
        · repeat (first | exact Sub.nil | refine Sub.pick ?_ | refine Sub.castO rfl ?_ | refine Sub.skip ?_)
      ·
       refine f_exit ?_
       refine f_te ?_
       clear kh14
       refine f_te ?_
       refine f_be ?_
       refine f_tn (kh12 _ _ ?_)
       clear kh12
       refine f_seq fun K19 kh19 => ?_
       obtain rfl : q = l.length - k := by omega
       rw [show k + (l.length - k) = l.length by omega, List.take_length] at hdt
       have hiL : (cpt l).length = i := by rw [← hdt]; simp; omega
       refine f_region ?_
       refine f_stepP rfl rfl rfl (o_move rfl) ?_
       refine f_stepP rfl rfl rfl (o_move rfl) ?_
       refine f_stepP rfl rfl rfl (o_slice sl25 rfl rfl rfl rfl (fun h => by cases h) i _ _ (.inr ⟨_, _, rfl, by omega⟩) (.inl ⟨rfl, rfl⟩) (.inl ⟨rfl, rfl⟩) ⟨by omega, by omega, by omega⟩ (.slice (some ⟨b, i, none⟩) (l.length - i) (cap - i)) (by rw [if_neg (by omega)]; simp [add_at])) ?_
       refine f_step0 rfl rfl (o_clear el25 rfl rfl (by rw [List.length_append, ints_length]; omega) (ints (d.take i) ++ (ints (List.replicate (d.length - i) 0) ++ sp)) (by rw [← hdl]; exact ints_zero (by omega) sp) ?_)
       refine f_done ?_
       refine f_tn (kh19 _ _ ?_)
       clear kh19
       refine f_seq fun K20 kh20 => ?_
       refine f_region ?_
       refine f_stepP rfl rfl rfl (o_move rfl) ?_
       refine f_stepP rfl rfl rfl (o_move rfl) ?_
       refine f_stepP rfl rfl rfl (o_slice sl25 rfl rfl rfl rfl (fun h => by cases h) 0 i cap (.inl ⟨rfl, rfl⟩) (.inr ⟨_, _, rfl, by omega⟩) (.inl ⟨rfl, rfl⟩) ⟨by omega, by omega, by omega⟩ (.slice (some ⟨b, 0, none⟩) i cap) (by rw [if_neg (by omega)]; simp [add_at])) ?_
       refine f_stepP rfl rfl rfl (o_assign rfl) ?_
       refine f_done ?_
       refine f_tn (kh20 _ _ ?_)
       clear kh20
       refine f_ret ?_
       refine f_br ?_
       refine f_tr ?_
       refine f_tr ?_
       refine f_br ?_
       refine f_tr ?_
       exact f_fin1 [[(b, blk (ints (d.take i) ++ (ints (List.replicate (d.length - i) 0) ++ sp)) 3)]] Tryz.results25 rfl (by repeat (first | exact Sub.nil | refine Sub.pick ?_)) ⟨_, rfl, by rw [hiL, ← hdt]; exact ⟨by rw [ints_length]; simp; omega, .inr ⟨b, cap, _, rfl, rfl, by omega, by omega, by rw [List.length_append, ints_length, List.length_replicate, hspl]; omega⟩⟩⟩
    ·
     refine f_skip ?_
     refine f_bn ?_
     refine f_tn (kh9 _ _ ?_)
     clear kh9
     refine f_region ?_
     refine f_stepP rfl rfl rfl (o_move rfl) ?_
     refine f_stepP rfl rfl rfl (o_add rfl rfl _ (wrap_i64 (by omega))) ?_
     refine f_stepP rfl rfl rfl (o_assign rfl) ?_
     refine f_done ?_
     refine f_tn (f_again (k + 1) (by first | omega | (dsimp only; omega) | (simp; omega)) ⟨by omega, by omega, by rw [cpt_next (by omega) hk, if_neg (fun e => c25 e.symm), hck, ← List.take_succ_eq_append_getElem hk]⟩ ?_ ?_ ?_)
     · exact (by repeat (first | exact trivial | refine ⟨rfl, ?_⟩))
     · exact (by repeat (first | exact trivial | refine ⟨rfl, ?_⟩))
     · repeat (first | exact Sub.nil | refine Sub.pick ?_ | refine Sub.castO rfl ?_ | refine Sub.skip ?_)
   ·
    refine f_exit ?_
    refine f_te ?_
    clear kh7
    refine f_te ?_
    refine f_be ?_
    refine f_tn (kh5 _ _ ?_)
    clear kh5
    refine f_seq fun K21 kh21 => ?_
    refine f_region ?_
    refine f_stepP rfl rfl rfl (o_move rfl) ?_
    refine f_stepP rfl rfl rfl (o_assign rfl) ?_
    refine f_done ?_
    refine f_tn (kh21 _ _ ?_)
    clear kh21
    refine f_ret ?_
    have hcl : cpt l = l := by rw [List.take_of_length_le (by omega)] at hck; exact hck
    exact f_fin1 [[(b, blk (ints l ++ sp) 3)]] Tryz.results25 rfl (by repeat (first | exact Sub.nil | refine Sub.pick ?_)) ⟨_, rfl, by rw [hcl]; exact ho⟩

end Go.Proofs.YtkmkakpadgljeaaGreat

/- What the shelf's contracts ask of this program: tables of numbers, and each fact by the kernel. -/
namespace Go.Proofs
open Go.Shelf
def Tryz.laysSort_ren : Go.Shelf.Ren := ⟨fun | 189 => 23 | 125 => 40 | 257 => 39 | 128 => 58 | 129 => 59 | 294 => 50 | 295 => 51 | 296 => 52 | 297 => 53 | 298 => 54 | 299 => 55 | 216 => 44 | 300 => 56 | 301 => 57 | 328 => 66 | 329 => 67 | 330 => 68 | 331 => 69 | 332 => 70 | 215 => 62 | 343 => 79 | n => n, fun | 28 => 25 | 3 => 3 | 46 => 63 | 0 => 0 | 51 => 46 | 53 => 86 | 4 => 4 | 183 => 79 | 182 => 78 | 131 => 54 | 5 => 5 | 9 => 9 | 218 => 91 | 222 => 95 | 228 => 100 | 229 => 101 | n => n, fun | n => n⟩
theorem Tryz.laysSort : Go.Proofs.Lays.n189 Tryz.prog Tryz.laysSort_ren := {
  mixed := by kernel_rfl
  f125 := Tryz.func40.trans (congrArg some (by kernel_rfl))
  f128 := Tryz.func58.trans (congrArg some (by kernel_rfl))
  f129 := Tryz.func59.trans (congrArg some (by kernel_rfl))
  f189 := Tryz.func23.trans (congrArg some (by kernel_rfl))
  f215 := Tryz.func62.trans (congrArg some (by kernel_rfl))
  f216 := Tryz.func44.trans (congrArg some (by kernel_rfl))
  f257 := Tryz.func39.trans (congrArg some (by kernel_rfl))
  f294 := Tryz.func50.trans (congrArg some (by kernel_rfl))
  f295 := Tryz.func51.trans (congrArg some (by kernel_rfl))
  f296 := Tryz.func52.trans (congrArg some (by kernel_rfl))
  f297 := Tryz.func53.trans (congrArg some (by kernel_rfl))
  f298 := Tryz.func54.trans (congrArg some (by kernel_rfl))
  f299 := Tryz.func55.trans (congrArg some (by kernel_rfl))
  f300 := Tryz.func56.trans (congrArg some (by kernel_rfl))
  f301 := Tryz.func57.trans (congrArg some (by kernel_rfl))
  f328 := Tryz.func66.trans (congrArg some (by kernel_rfl))
  f329 := Tryz.func67.trans (congrArg some (by kernel_rfl))
  f330 := Tryz.func68.trans (congrArg some (by kernel_rfl))
  f331 := Tryz.func69.trans (congrArg some (by kernel_rfl))
  f332 := Tryz.func70.trans (congrArg some (by kernel_rfl))
  f343 := Tryz.func79.trans (congrArg some (by kernel_rfl))
  t0 := Tryz.underlying0
  a0 := Tryz.isAgg0
  z0 := Tryz.sizeOf0
  v0 := Tryz.zeroValue0
  t3 := Tryz.underlying3
  a3 := Tryz.isAgg3
  z3 := Tryz.sizeOf3
  v3 := Tryz.zeroValue3
  t4 := Tryz.underlying4
  a4 := Tryz.isAgg4
  z4 := Tryz.sizeOf4
  v4 := Tryz.zeroValue4
  t5 := Tryz.underlying5
  a5 := Tryz.isAgg5
  z5 := Tryz.sizeOf5
  v5 := Tryz.zeroValue5
  t9 := Tryz.underlying9
  a9 := Tryz.isAgg9
  z9 := Tryz.sizeOf9
  v9 := Tryz.zeroValue9
  t28 := Tryz.underlying25
  a28 := Tryz.isAgg25
  z28 := Tryz.sizeOf25
  v28 := Tryz.zeroValue25
  t46 := Tryz.underlying63
  a46 := Tryz.isAgg63
  z46 := Tryz.sizeOf63
  v46 := Tryz.zeroValue63
  t51 := Tryz.underlying46
  a51 := Tryz.isAgg46
  z51 := Tryz.sizeOf46
  v51 := Tryz.zeroValue46
  t53 := Tryz.underlying86
  a53 := Tryz.isAgg86
  z53 := Tryz.sizeOf86
  v53 := Tryz.zeroValue86
  t131 := Tryz.underlying54
  a131 := Tryz.isAgg54
  z131 := Tryz.sizeOf54
  v131 := Tryz.zeroValue54
  t182 := Tryz.underlying78
  a182 := Tryz.isAgg78
  z182 := Tryz.sizeOf78
  v182 := Tryz.zeroValue78
  t183 := Tryz.underlying79
  a183 := Tryz.isAgg79
  z183 := Tryz.sizeOf79
  v183 := Tryz.zeroValue79
  t218 := Tryz.underlying91
  a218 := Tryz.isAgg91
  z218 := Tryz.sizeOf91
  v218 := Tryz.zeroValue91
  t222 := Tryz.underlying95
  a222 := Tryz.isAgg95
  z222 := Tryz.sizeOf95
  v222 := Tryz.zeroValue95
  t228 := Tryz.underlying100
  a228 := Tryz.isAgg100
  z228 := Tryz.sizeOf100
  v228 := Tryz.zeroValue100
  t229 := Tryz.underlying101
  a229 := Tryz.isAgg101
  z229 := Tryz.sizeOf101
  v229 := Tryz.zeroValue101 }
end Go.Proofs

/- slices.Sort over numbers at this program. -/
namespace Go.Proofs.YtkmkakpadgljeaaGreat
open Go Go.RowKit Fly
set_option linter.unusedVariables false
set_option linter.unusedSimpArgs false


theorem SortInts_spec (A : Option Addr) (cap : Nat) (l : List Int) (m : Seg) (w : World) (ho : Own 3 1 (.slice A l.length cap) l.length (ints l) m) (hl : l.length < 4611686018427387904) (hw : Owns w [m]) :
    Meets Tryz.prog 23 [.slice A l.length cap] w [m] (fun u own' => u = .tuple #[] ∧ ∃ m', own' = [m'] ∧ Own 3 1 (.slice A l.length cap) l.length (ints (sortI l)) m') :=
  meets_sort Tryz.laysSort A cap l m w ho hl hw

end Go.Proofs.YtkmkakpadgljeaaGreat
