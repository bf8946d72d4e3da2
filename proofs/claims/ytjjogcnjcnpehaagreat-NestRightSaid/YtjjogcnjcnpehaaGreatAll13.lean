import Derived.Test.YtjjogcnjcnpehaaGreatAll10
import Derived.Test.YtjjogcnjcnpehaaGreatAll6
import Derived.Test.YtjjogcnjcnpehaaGreatAll12
import Derived.Test.YtjjogcnjcnpehaaGreatAll8
import Derived.Test.YtjjogcnjcnpehaaGreatFlyT
import Derived.KernelRfl
import Derived.Test.YtjjogcnjcnpehaaGreatAll3

/- split.CutUp: labels cut up. -/
namespace Go.Proofs.YtjjogcnjcnpehaaGreat
open Go Go.RowKit Fly
set_option linter.unusedVariables false
set_option linter.unusedSimpArgs false
theorem reps_boolC (n : Nat) (b : Bool) : (List.replicate n [Value.bool b]).flatten = eE (List.replicate n b) := by
  induction n with
  | zero => rfl
  | succ n ih => rw [List.replicate_succ, List.flatten_cons, ih]; rfl
theorem div_at {q t c b : Nat} (hq : q = c * b) (ht : t < b) : (q + t) / b = c := by
  subst hq;rw [Nat.add_comm, Nat.add_mul_div_right _ _ (by omega), Nat.div_eq_of_lt ht, Nat.zero_add]
theorem putTo_add (vs ord : List Int) (b : Nat) (nx : Int) (out : List Int) (y t : Nat) : gV vs ord b nx out (y + (t + 1)) = (gV vs ord b nx out (y + t)).set (putAt vs ord (y + t)) (nx + (((y + t) / b : Nat) : Int)) := rfl
theorem ceil_at {m c b : Nat} (hb : 0 < b) (h1 : m ≤ c * b) (h2 : c * b < m + b) : (m + b - 1) / b = c := by
  refine Nat.div_eq_of_lt_le (by omega) ?_;rw [Nat.succ_mul]; omega
set_option maxRecDepth 100000 in
set_option maxHeartbeats 4000000 in
theorem CutUp_spec (N : Int) (A B : Option Addr) (l : List Arc) (cap : Nat) (L : List Int) (cb : Nat) (bi : Int) (w : World) (hr : Ro (Fr w []) w A (l.flatMap cD)) (hl : l.length ≤ 9223372036854775807) (hN : I64 N) (hok : ∀ x ∈ l, dV x) (hL : Ro (Fr w []) w B (aY L)) (hm : L.length ≤ 9223372036854775807) :
    Meets Tryz.prog 37 [.agg #[.int .i64 N, .slice A l.length cap], .slice B L.length cb, .int .i64 bi] w [] (fun u own' => ∃ (R : List Int) (A' : Option Addr) (c : Nat) (m' : Seg), u = .tuple #[.slice A' R.length c, .int .i64 (spE N l L bi)] ∧ own' = [m'] ∧ Own 3 1 (.slice A' R.length c) R.length (aY R) m' ∧ (spE N l L bi ≠ 0 → R = []) ∧ (spE N l L bi = 0 → R = lS l L bi.toNat)) := by
 refine r_enter Tryz.func37 rfl Tryz.ntmps37 rfl Owns.nil ?_;refine cB fun K1 kh1 => ?_;refine bB ?_;refine d8 rfl rfl rfl (Does.toR rfl (dA rfl rfl fun b3 => ?_));refine aO rfl rfl rfl rfl (aF rfl) ?_;refine aO rfl rfl rfl rfl (aF rfl) ?_;refine bQ ?_;refine cK (kh1 _ _ _ ?_);clear kh1;refine cB fun K2 kh2 => ?_;refine cB fun K3 kh3 => ?_;refine bB ?_;refine aO rfl rfl rfl rfl (bD (vs := [_, _]) Tryz.isAgg24 Tryz.sizeOf24 rfl rfl ⟨(rdA rfl), (rdA rfl), trivial⟩) ?_;refine aO rfl rfl rfl rfl (aG rfl) ?_;refine aO rfl rfl rfl rfl (aG rfl) ?_;refine d8 rfl rfl rfl (Does.toR rfl (bE Tryz.call39 rfl (fun w_ hp_ => splook_spec N A B l cap L cb bi w_ (hr.up0 hp_) hl hN hok (hL.up0 hp_) hm) ?_));rintro _ _ ⟨rfl, rfl⟩;dsimp only [List.cons_append, List.nil_append];refine aO rfl rfl rfl rfl (aF rfl) ?_;refine bQ ?_;refine cK (kh3 _ _ _ ?_);clear kh3;refine cB fun K4 kh4 => ?_;refine bB ?_;refine aO rfl rfl rfl rfl (aG rfl) ?_;refine aO rfl rfl rfl rfl (dC rfl rfl) ?_;refine bQ ?_;refine cK (kh4 _ _ _ ?_);clear kh4;refine g7 rfl (fun c28 => ?_) (fun c28 => ?_)
 ·
  refine cB fun K5 kh5 => ?_;refine bB ?_;refine aO rfl rfl rfl rfl (aG rfl) ?_;refine aO rfl rfl rfl rfl (aF rfl) ?_;refine aO rfl rfl rfl rfl (aF rfl) ?_;refine bQ ?_;refine cK (kh5 _ _ _ ?_);clear kh5;refine jN ?_;refine r_tr ?_;have c28' : spE N l L bi ≠ 0 := by simpa using c28
  exact iP [[]] Tryz.results37 rfl rfl (show Fly.Sub _ [[]] from (by repeat first|exact aH|refine aD ?_|refine aB rfl ?_|refine aI ?_)) ⟨[], none, 0, [], rfl, rfl, Own.nil _ _, fun _ => rfl, fun h => absurd h c28'⟩
 ·
  have hz : spE N l L bi = 0 := by simpa using c28
  obtain ⟨n, rfl, hn1, hn2, hg, hR, hbd⟩ := spE_zero hz
  obtain rfl : L.length = n := (cX hR).2
  have hrg := eK hR hn1
  obtain ⟨b, rfl⟩ : ∃ b : Nat, bi = (b : Int) := ⟨bi.toNat, by omega⟩
  obtain ⟨_, _, hl8, _⟩ := bT hg
  refine fP ?_;refine cK (kh2 _ _ _ ?_);clear kh2;refine cB fun K6 kh6 => ?_;refine bB ?_;refine aO rfl rfl rfl rfl (aG rfl) ?_;refine d8 rfl rfl rfl (Does.toR rfl (bE Tryz.call19 rfl (fun w_ hp_ => j7 B L.length (aY L) cb w_ (hL.up0 hp_) (fun e => by rw [e] at hL; obtain ⟨_, _, e', _⟩ := hL (fun e => by have := aX L; rw [e] at this; simp at this; omega); cases e') (by rw [aX]; omega) (ints_oneG _) (by omega)) ?_));rintro v31 _ ⟨m31, rfl, o31⟩;obtain ⟨bo, co, sp, rfl, rfl⟩ := o31.block (by omega)
  dsimp only [List.cons_append, List.nil_append];refine d8 rfl rfl rfl (Does.toR rfl (cV Tryz.zeroValue25 rfl fun b9 => ?_));refine iG rfl rfl (Does.toR rfl (bY Tryz.sizeOf25 rfl rfl rfl rfl (by first | exact Nat.le_of_ble_eq_true rfl | (simp; done) | (simp; omega)) _ rfl ?_));refine bQ ?_;refine cK (kh6 _ _ _ ?_);clear kh6;refine cB fun K7 kh7 => ?_;refine bB ?_;refine aO rfl rfl rfl rfl (aP d9 rfl) ?_;refine aO rfl rfl rfl rfl (aM Tryz.isAgg3 rfl (rdA rfl)) ?_;refine d8 rfl rfl rfl (Does.toR rfl (cV Tryz.zeroValue3 rfl fun b10 => ?_));refine iG rfl rfl (Does.toR rfl (bY Tryz.sizeOf3 rfl rfl rfl rfl (by first | exact Nat.le_of_ble_eq_true rfl | (simp; done) | (simp; omega)) _ rfl ?_));refine bQ ?_;refine cK (kh7 _ _ _ ?_);clear kh7;refine cB fun K8 kh8 => ?_;refine cB fun K9 kh9 => ?_;refine bB ?_;refine aO rfl rfl rfl rfl (aG rfl) ?_;refine d8 rfl rfl rfl (Does.toR rfl (bE Tryz.call41 rfl (fun w_ hp_ => lA B L cb w_ (hL.up0 hp_) (by omega) (by omega) (fun x hx => by have := hrg x hx; omega)) ?_));rintro _ _ ⟨bs, rfl, rfl⟩;obtain ⟨M, hM⟩ : ∃ M : Nat, (eO L + 1).toNat = M := ⟨_, rfl⟩
  rw [cF, hM];rw [hM] at hrg;have hMn := (hrg L[0] (List.getElem_mem (by omega))).2.2
  dsimp only [List.cons_append, List.nil_append];refine aO rfl rfl rfl rfl (bU bK rfl) ?_;refine aO rfl rfl rfl rfl (aG rfl) ?_;refine bQ ?_;refine cK (kh9 _ _ _ ?_);clear kh9;refine eG ?_;refine r_loop (α := Nat × List Nat) (fun ⟨j, mk⟩ => mk) [1, 2, 3, 9, 10, 35, 36, 85] (fun ⟨j, mk⟩ => [(37, .int .i64 (j : Int))]) (fun ⟨j, mk⟩ => [mks mk, [(bo, blk (aY (cO l L b j).1 ++ sp) 3)], [(b10, blk [.int .i64 ((cO l L b j).2)] 3)], [(b9, blk [.slice (some ⟨bo, 0, none⟩) L.length co] 25)], [(bs, blk (aY (szs M L)) 3)], [(b3, blk [.int .i64 (L.length : Int), .slice A l.length cap] 24)]]) (fun ⟨j, mk⟩ => j ≤ M) (fun ⟨j, mk⟩ => M - j) (0, []) rfl ?_ ?_ ?_ ?_
  · exact (by repeat constructor)
  · repeat first|exact aH|refine aD ?_|refine aB rfl ?_|refine aI ?_
  · exact Nat.zero_le _
  ·
   rintro ⟨j, mk⟩ hjM;dsimp only at hjM ⊢;refine cB fun K10 kh10 => ?_;refine bB ?_;refine aO rfl rfl rfl rfl (cE rfl rfl) ?_;refine bQ ?_;refine cK (kh10 _ _ _ ?_);clear kh10;refine cB fun K11 kh11 => ?_;refine g7 rfl (fun c38 => ?_) (fun c38 => ?_)
   ·
    have hj : j < M := by omega
    have hcl' := cnt_le L j
    have hnx := cutTo_next (l := l) (b := b) hn2 hl8 (by omega) j
    refine fP ?_;refine cK (kh11 _ _ _ ?_);clear kh11;refine cB fun K12 kh12 => ?_;refine eG ?_;refine cB fun K13 kh13 => ?_;refine bB ?_;refine aO rfl rfl rfl rfl (aG rfl) ?_;refine aO rfl rfl rfl rfl (a8 bK rfl rfl (j) ⟨by omega, by omega, by first | omega | (simp; done) | (simp; omega)⟩) ?_;refine aO rfl rfl rfl rfl (aM Tryz.isAgg3 rfl (rdA (v := .int .i64 (cnt L j : Int)) (by rw [dO (by rw [eQ]; exact hj), iE hj]))) ?_;refine aO rfl rfl rfl rfl (aF rfl) ?_;refine aO rfl rfl rfl rfl (aF rfl) ?_;refine bQ ?_;refine cK (kh13 _ _ _ ?_);clear kh13;refine cB fun K14 kh14 => ?_;refine cB fun K15 kh15 => ?_;refine bB ?_;refine aO rfl rfl rfl rfl (aG rfl) ?_;refine aO rfl rfl rfl rfl (aG rfl) ?_;refine aO rfl rfl rfl rfl (o_leq rfl rfl) ?_;refine bQ ?_;refine cK (kh15 _ _ _ ?_);clear kh15;refine g7 rfl (fun c44 => ?_) (fun c44 => ?_)
    ·
     refine iQ ?_;refine r_te ?_;clear kh14;refine r_be ?_;refine cK (kh12 _ _ _ ?_);clear kh12;refine bB ?_;refine aO rfl rfl rfl rfl (bF rfl rfl _ (aT (by omega))) ?_;refine aO rfl rfl rfl rfl (aG rfl) ?_;refine bQ ?_;have hsame : cO l L b (j + 1) = cO l L b j := if_pos (by omega)
     rw [← hsame];refine cK (iX (j + 1, mk) (by first | omega | (dsimp only; omega) | (simp; omega)) rfl (by show j + 1 ≤ M; omega) ?_ ?_ ?_)
     · exact (by repeat constructor)
     · exact (by repeat constructor)
     · repeat first|exact aH|refine aD ?_|refine aB rfl ?_|refine aI ?_
    ·
     have hck := cut_ok (l := l) hn2 hl8 (show 0 < cnt L j by omega)
     have hop : 0 < (cA l L j).length := List.length_pos_of_mem (hck.all 0 (by have := hck.has; omega))
     have hfew := hck.few
     have hole := hck.olen
     refine fP ?_;refine cK (kh14 _ _ _ ?_);clear kh14;refine cB fun K16 kh16 => ?_;refine bB ?_;refine aO rfl rfl rfl rfl (aP d9 rfl) ?_;refine aO rfl rfl rfl rfl (aM Tryz.isAgg3 rfl (rdA rfl)) ?_;refine d8 rfl rfl rfl (Does.toR rfl (dQ el43 rfl rfl L.length rfl (by omega) (by omega) (eE (kpTo L j 0)) (by rw [kpTo_zero]; exact reps_boolC L.length false) fun b47 => ?_));refine aO rfl rfl rfl rfl (aF rfl) ?_;refine bQ ?_;refine cK (kh16 _ _ _ ?_);clear kh16;refine cB fun K17 kh17 => ?_;refine cB fun K18 kh18 => ?_;refine bB ?_;refine aO rfl rfl rfl rfl (aG rfl) ?_;refine aO rfl rfl rfl rfl (bU sl43 rfl) ?_;refine aO rfl rfl rfl rfl (aG rfl) ?_;refine bQ ?_;refine cK (kh18 _ _ _ ?_);clear kh18;refine eG ?_;refine r_loop (α := Nat) (fun k => mk) [1, 2, 3, 9, 10, 11, 13, 20, 35, 36, 37, 49, 85] (fun k => [(50, .int .i64 (k : Int))]) (fun k => [mks mk, [(b47, blk (eE (kpTo L j k)) 4)], [(bo, blk (aY (cO l L b j).1 ++ sp) 3)], [(b10, blk [.int .i64 ((cO l L b j).2)] 3)], [(b9, blk [.slice (some ⟨bo, 0, none⟩) L.length co] 25)], [(bs, blk (aY (szs M L)) 3)], [(b3, blk [.int .i64 (L.length : Int), .slice A l.length cap] 24)]]) (fun k => k ≤ L.length) (fun k => L.length - k) (0) rfl ?_ ?_ ?_ ?_
     · exact (by repeat constructor)
     · repeat first|exact aH|refine aD ?_|refine aB rfl ?_|refine aI ?_
     · exact Nat.zero_le _
     ·
      rintro k hkl;refine r_envC (e := [(50, _), (1, _), (2, _), (3, _), (9, _), (10, _), (11, _), (13, _), (35, _), (36, _), (37, _), (49, _)]) (by repeat constructor) ?_;refine cB fun K19 kh19 => ?_;refine bB ?_;refine aO rfl rfl rfl rfl (cE rfl rfl) ?_;refine bQ ?_;refine cK (kh19 _ _ _ ?_);clear kh19;refine cB fun K20 kh20 => ?_;refine g7 rfl (fun c51 => ?_) (fun c51 => ?_)
      ·
       have hk : k < L.length := by omega
       obtain ⟨bb, ob, rfl, hSb, hcb⟩ := hL (fun e => by have := aX L; rw [e] at this; simp at this; omega)
       refine fP ?_;refine cK (kh20 _ _ _ ?_);clear kh20;refine cB fun K21 kh21 => ?_;refine eG ?_;refine cB fun K22 kh22 => ?_;refine bB ?_;refine aO rfl rfl rfl rfl (aG rfl) ?_;refine aO rfl rfl rfl rfl (aF rfl) ?_;refine bQ ?_;refine cK (kh22 _ _ _ ?_);clear kh22;refine bB ?_;refine aO rfl rfl rfl rfl (aG rfl) ?_;refine aO rfl rfl rfl rfl (aG rfl) ?_;refine aO rfl rfl rfl rfl (aG rfl) ?_;refine aO rfl rfl rfl rfl (aG rfl) ?_;refine aO rfl rfl rfl rfl (a8 bK rfl rfl (ob + k) ⟨by omega, by omega, by first | omega | (simp; done) | (simp; omega)⟩) ?_;refine aO rfl rfl rfl rfl (aM Tryz.isAgg3 rfl (eD (enc := (.int .i64 ·)) hSb hcb hk)) ?_;refine aO rfl rfl rfl rfl (aG rfl) ?_;refine aO rfl rfl rfl rfl (fI rfl rfl) ?_;refine aO rfl rfl rfl rfl (a8 sl43 rfl rfl (k) ⟨by omega, by omega, by first | omega | (simp; done) | (simp; omega)⟩) ?_;refine iG rfl rfl (Does.toR rfl (bY Tryz.sizeOf4 rfl rfl rfl rfl (by simp [kpTo_len]; omega) (eE (kpTo L j (k + 1))) (by rw [boolsG_set, kpTo_next hk]) ?_));refine bQ ?_;refine r_bn ?_;refine cK (kh21 _ _ _ ?_);clear kh21;refine bB ?_;refine aO rfl rfl rfl rfl (bF rfl rfl _ (aT (by omega))) ?_;refine aO rfl rfl rfl rfl (aG rfl) ?_;refine bQ ?_;refine cK (iX (k + 1) (by first | omega | (dsimp only; omega) | (simp; omega)) rfl (by omega) ?_ ?_ ?_)
       · exact (by repeat constructor)
       · exact (by repeat constructor)
       · repeat first|exact aH|refine aD ?_|refine aB rfl ?_|refine aI ?_
      ·
       refine iQ ?_;refine r_te ?_;clear kh20;refine r_te ?_;refine r_be ?_;refine cK (kh17 _ _ _ ?_);clear kh17;refine cB fun K23 kh23 => ?_;obtain rfl : k = L.length := by omega
       rw [kpTo_all];refine bB ?_;refine aO rfl rfl rfl rfl (bD (vs := [_, _]) Tryz.isAgg24 Tryz.sizeOf24 rfl rfl ⟨(rdA rfl), (rdA rfl), trivial⟩) ?_;refine aO rfl rfl rfl rfl (aG rfl) ?_;refine d8 rfl rfl rfl (Does.toR rfl (bE Tryz.call60 rfl (fun w_ hp_ => (by have h := Induced_spec (L.length : Int) A l cap (some ⟨b47, 0, none⟩) (fB L j) L.length w_ (hr.up0 hp_) (iN (b := b47) hp_ (cs := (fB L j).map .bool) (fun j v hj => hj)) hl hN hok; rw [iS] at h; exact h)) ?_));rintro v66 own66 hI
       unfold jJ at hI
       rw [if_neg (by rw [hg]; simp), if_neg (by rw [iS]; simp), if_neg hck.has] at hI;obtain ⟨sa, sv, sl, ma, mv, ml, rfl, rfl, hoa, hov, hol⟩ := hI
       obtain ⟨Aa, ca, rfl, hca⟩ := hoa.val
       obtain ⟨bv, cv, spv, rfl, rfl⟩ := hov.block (Nat.pos_of_ne_zero hck.has)
       obtain ⟨Al, cl, rfl, hcl⟩ := hol.val
       have hsl := sub_len (fB L j) l
       dsimp only [List.cons_append, List.nil_append];refine aO rfl rfl rfl rfl (aG rfl) ?_;refine aO rfl rfl rfl rfl (aW rfl rfl) ?_;refine aO rfl rfl rfl rfl (aW rfl rfl) ?_;refine aO rfl rfl rfl rfl (aW rfl rfl) ?_;refine aO rfl rfl rfl rfl (aW rfl rfl) ?_;refine d8 rfl rfl rfl (Does.toR rfl (cV Tryz.zeroValue24 rfl fun b15 => ?_));refine d8 rfl rfl rfl (Does.toR rfl (cV Tryz.zeroValue25 rfl fun b16 => ?_));refine iG rfl rfl (Does.toR rfl (cN Tryz.sizeOf24 rfl rfl rfl rfl (by first | exact Nat.le_of_ble_eq_true rfl | (simp; done) | (simp; omega)) [.int .i64 ((cY L j).length : Int), .slice Aa (dW (fB L j) l).length ca] rfl ?_));refine iG rfl rfl (Does.toR rfl (bY Tryz.sizeOf25 rfl rfl rfl rfl (by first | exact Nat.le_of_ble_eq_true rfl | (simp; done) | (simp; omega)) _ rfl ?_));refine aO rfl rfl rfl rfl (aF rfl) ?_;refine aO rfl rfl rfl rfl (aF rfl) ?_;refine bQ ?_;refine cK (kh23 _ _ _ ?_);clear kh23;refine cB fun K24 kh24 => ?_;refine cB fun K25 kh25 => ?_;refine bB ?_;refine aO rfl rfl rfl rfl (aG rfl) ?_;refine aO rfl rfl rfl rfl (dC rfl rfl) ?_;refine bQ ?_;refine cK (kh25 _ _ _ ?_);clear kh25;refine r_condN rfl (by simp) ?_;refine fP ?_;refine cK (kh24 _ _ _ ?_);clear kh24;refine cB fun K26 kh26 => ?_;refine bB ?_;refine aO rfl rfl rfl rfl (bD (vs := [_, _]) Tryz.isAgg24 Tryz.sizeOf24 rfl rfl ⟨(rdA rfl), (rdA rfl), trivial⟩) ?_;refine d8 rfl rfl rfl (Does.toR rfl (bE Tryz.call61 rfl (fun w_ hp_ => (by have h := Order_spec ((cY L j).length : Int) Aa (dW (fB L j) l) ca w_ (eN (hoa.seen hp_)) (by omega) ⟨by omega, by omega⟩ (sub_ok (by rw [iS]; omega) hok); rw [hck.ord] at h; exact h)) ?_));rintro _ _ ⟨s76, mo, rfl, rfl, hoo⟩;dsimp only at hoo ⊢;obtain ⟨bo2, co2, sp2, rfl, rfl⟩ := hoo.block hop
       obtain ⟨_, _, e2_, hco2⟩ := hoo.val
       cases e2_
       dsimp only [List.cons_append, List.nil_append];refine aO rfl rfl rfl rfl (aG rfl) ?_;refine aO rfl rfl rfl rfl (aW rfl rfl) ?_;refine aO rfl rfl rfl rfl (aW rfl rfl) ?_;refine aO rfl rfl rfl rfl (aF rfl) ?_;refine aO rfl rfl rfl rfl (aF rfl) ?_;refine bQ ?_;refine cK (kh26 _ _ _ ?_);clear kh26;refine cB fun K27 kh27 => ?_;refine cB fun K28 kh28 => ?_;refine bB ?_;refine aO rfl rfl rfl rfl (aG rfl) ?_;refine aO rfl rfl rfl rfl (dC rfl rfl) ?_;refine bQ ?_;refine cK (kh28 _ _ _ ?_);clear kh28;refine r_condN rfl (by simp) ?_;refine fP ?_;refine cK (kh27 _ _ _ ?_);clear kh27;refine cB fun K29 kh29 => ?_;refine bB ?_;refine aO rfl rfl rfl rfl (aG rfl) ?_;refine aO rfl rfl rfl rfl (aG rfl) ?_;refine d8 rfl rfl rfl (Does.toR rfl (bE Tryz.call62 rfl (fun w_ hp_ => Chunk_spec bo2 (cA l L j).length co2 b w_ (by omega)) ?_));rintro _ _ ⟨q1, q2, rfl, rfl⟩;dsimp only [List.cons_append, List.nil_append];refine bQ ?_;refine cK (kh29 _ _ _ ?_);clear kh29;refine eG ?_;refine r_range (p := 85) (lb := [.pointer (some ⟨q1, 0, none⟩), .pointer (some ⟨q2, 0, none⟩)]) rfl Tryz.call89 rfl [[(bo, blk (aY (cO l L b j).1 ++ sp) 3)], [(b10, blk [.int .i64 ((cO l L b j).2)] 3)], [(b9, blk [.slice (some ⟨bo, 0, none⟩) L.length co] 25)], [(b16, blk [.slice (some ⟨bv, 0, none⟩) (cY L j).length cv] 25)], [(bv, blk (aY (cY L j) ++ spv) 3)], [(bo2, blk (aY (cA l L j) ++ sp2) 3)]] [[(q1, blk [.slice (some ⟨bo2, 0, none⟩) (cA l L j).length co2] 25)], [(q2, blk [.int .i64 (b : Int)] 3)]] [mks mk, [(bs, blk (aY (szs M L)) 3)], [(b3, blk [.int .i64 (L.length : Int), .slice A l.length cap] 24)]] (by repeat (first | exact Sub.refl | exact aH | refine aD ?_ | refine aB rfl ?_ | refine aI ?_)) (ckEnc bo2 (cA l L j).length b) (may := ckMay (cA l L j).length b) (Fin := ckFin q1 q2 bo2 (cA l L j).length co2 b) (Stp := ckStp q1 q2 bo2 (cA l L j).length co2 b) (fun w1_ m0_ hp_ => Chunk1_iter q1 q2 bo2 (cA l L j).length co2 b m0_ w1_ ⟨by omega, by omega⟩ (by omega) ⟨by omega, by omega⟩) (fun ys m => ys.length * b < (cA l L j).length + b ∧ ∃ q c : Nat, q = min (ys.length * b) (cA l L j).length ∧ c = ys.length ∧ m = [(bo, blk (aY (gV (cY L j) (cA l L j) b (cO l L b j).2 (cO l L b j).1 (q)) ++ sp) 3), (b10, blk [.int .i64 ((cO l L b j).2 + (c : Int))] 3), (b9, blk [.slice (some ⟨bo, 0, none⟩) L.length co] 25), (b16, blk [.slice (some ⟨bv, 0, none⟩) (cY L j).length cv] 25), (bv, blk (aY (cY L j) ++ spv) 3), (bo2, blk (aY (cA l L j) ++ sp2) 3)]) (fun _ _ => False) (.ret) (⟨by simp; omega, 0, 0, by simp, rfl, by simp [gV]⟩) ?_ ?_ ?_
       ·
        intro w1_ l_ d_ ys y m_ hI hmay hfr K_ kh_;obtain ⟨hlt, q, c, hq, rfl, rfl⟩ := hI
        obtain ⟨hy, hyl⟩ := hmay
        have hyb : ys.length ≤ ys.length * b := Nat.le_mul_of_pos_right _ (by omega)
        obtain rfl : y = q := by omega
        refine r_subC (Sub.op3 (parts := [[(bo, blk (aY (gV (cY L j) (cA l L j) b (cO l L b j).2 (cO l L b j).1 (y)) ++ sp) 3)], [(b10, blk [.int .i64 ((cO l L b j).2 + (ys.length : Int))] 3)], [(b9, blk [.slice (some ⟨bo, 0, none⟩) L.length co] 25)], [(b16, blk [.slice (some ⟨bv, 0, none⟩) (cY L j).length cv] 25)], [(bv, blk (aY (cY L j) ++ spv) 3)], [(bo2, blk (aY (cA l L j) ++ sp2) 3)]]) (by simp) Sub.refl) ?_;dsimp only [List.cons_append, List.nil_append];refine bB ?_;refine aO rfl rfl rfl rfl (aF rfl) ?_;refine bQ ?_;refine cK (kh_ _ _ ?_);clear kh_;refine eG ?_;refine cB fun K30 kh30 => ?_;refine cB fun K31 kh31 => ?_;refine bB ?_;refine aO rfl rfl rfl rfl (aG rfl) ?_;refine aO rfl rfl rfl rfl (bU bK rfl) ?_;refine aO rfl rfl rfl rfl (aG rfl) ?_;refine bQ ?_;refine cK (kh31 _ _ _ ?_);clear kh31;refine eG ?_;refine r_loop (α := Nat) (fun t => []) [1, 2, 3, 9, 10, 16, 20, 35, 36, 37, 85, 86, 87] (fun t => [(88, .int .i64 (t : Int))]) (fun t => [[(l_, .loop (d_.rc .busy none))], [(d_.D, .deferred (some []))], [(bo, blk (aY (gV (cY L j) (cA l L j) b (cO l L b j).2 (cO l L b j).1 (y + t)) ++ sp) 3)], [(b10, blk [.int .i64 ((cO l L b j).2 + (ys.length : Int))] 3)], [(b9, blk [.slice (some ⟨bo, 0, none⟩) L.length co] 25)], [(b16, blk [.slice (some ⟨bv, 0, none⟩) (cY L j).length cv] 25)], [(bv, blk (aY (cY L j) ++ spv) 3)], [(bo2, blk (aY (cA l L j) ++ sp2) 3)]]) (fun t => t ≤ min b ((cA l L j).length - y)) (fun t => min b ((cA l L j).length - y) - t) (0) rfl ?_ ?_ ?_ ?_
        · exact (by repeat constructor)
        · repeat first|exact aH|refine aD ?_|refine aB rfl ?_|refine aI ?_
        · exact Nat.zero_le _
        ·
         rintro t htl;refine r_envC (e := [(88, _), (1, _), (2, _), (3, _), (9, _), (10, _), (16, _), (20, _), (35, _), (36, _), (37, _), (85, _), (86, _), (87, _)]) (by repeat constructor) ?_;refine cB fun K32 kh32 => ?_;refine bB ?_;refine aO rfl rfl rfl rfl (cE rfl rfl) ?_;refine bQ ?_;refine cK (kh32 _ _ _ ?_);clear kh32;refine cB fun K33 kh33 => ?_;refine g7 rfl (fun c89 => ?_) (fun c89 => ?_)
         ·
          have ht : t < min b ((cA l L j).length - y) := by omega
          obtain ⟨q', hq', hq2, u, hu, ⟨hul, _⟩, hput, _⟩ := hck.at (i := y + t) (by omega)
          have hdiv := div_at (q := y) (t := t) (b := b) hy (by omega)
          have hpn : (gV (cY L j) (cA l L j) b (cO l L b j).2 (cO l L b j).1 (y + t)).set u ((cO l L b j).2 + (ys.length : Int)) = (gV (cY L j) (cA l L j) b (cO l L b j).2 (cO l L b j).1 (y + (t + 1))) := by rw [putTo_add, hput, hdiv]
          refine fP ?_;refine cK (kh33 _ _ _ ?_);clear kh33;refine cB fun K34 kh34 => ?_;refine eG ?_;refine cB fun K35 kh35 => ?_;refine bB ?_;refine aO rfl rfl rfl rfl (a8 bK rfl rfl (y + t) ⟨by omega, by omega, by first | omega | (simp; done) | (simp; omega)⟩) ?_;refine aO rfl rfl rfl rfl (aM Tryz.isAgg3 rfl (rdA (v := .int .i64 (q' : Int)) (dP (by rw [dO (by omega), hq'])))) ?_;refine aO rfl rfl rfl rfl (aF rfl) ?_;refine bQ ?_;refine cK (kh35 _ _ _ ?_);clear kh35;refine r_regionH [[(l_, .loop (d_.rc .busy none))], [(d_.D, .deferred (some []))], [(b10, blk [.int .i64 ((cO l L b j).2 + (ys.length : Int))] 3)], [(b9, blk [.slice (some ⟨bo, 0, none⟩) L.length co] 25)], [(b16, blk [.slice (some ⟨bv, 0, none⟩) (cY L j).length cv] 25)], [(bv, blk (aY (cY L j) ++ spv) 3)], [(bo2, blk (aY (cA l L j) ++ sp2) 3)]] rfl (by decide +kernel) ?_;refine aS 0 rfl (by decide +kernel) rfl rfl rfl (by repeat first|exact aH|refine aD ?_|refine aB rfl ?_|refine aI ?_) (aM Tryz.isAgg25 rfl (rdA rfl)) ?_;refine aS 1 rfl (by decide +kernel) rfl rfl rfl (by repeat first|exact aH|refine aD ?_|refine aB rfl ?_|refine aI ?_) (aM Tryz.isAgg25 rfl (rdA rfl)) ?_;refine aS 2 rfl (by decide +kernel) rfl rfl rfl (by repeat first|exact aH|refine aD ?_|refine aB rfl ?_|refine aI ?_) (aG rfl) ?_;refine aS 3 rfl (by decide +kernel) rfl rfl rfl (by repeat first|exact aH|refine aD ?_|refine aB rfl ?_|refine aI ?_) (a8 bK rfl rfl (q') ⟨by omega, by omega, by first | omega | (simp; done) | (simp; omega)⟩) ?_;refine aS 4 rfl (by decide +kernel) rfl rfl rfl (by repeat first|exact aH|refine aD ?_|refine aB rfl ?_|refine aI ?_) (aM Tryz.isAgg3 rfl (rdA (v := .int .i64 (u : Int)) (dP (by rw [dO hq2, hu])))) ?_;refine aS 5 rfl (by decide +kernel) rfl rfl rfl (by repeat first|exact aH|refine aD ?_|refine aB rfl ?_|refine aI ?_) (aM Tryz.isAgg3 rfl (rdA rfl)) ?_;refine aS 6 rfl (by decide +kernel) rfl rfl rfl (by repeat first|exact aH|refine aD ?_|refine aB rfl ?_|refine aI ?_) (a8 bK rfl rfl (u) ⟨by omega, by omega, by first | omega | (simp; done) | (simp; omega)⟩) ?_;refine eI 7 rfl (by decide +kernel) rfl rfl (bY Tryz.sizeOf3 rfl rfl rfl rfl (by rw [List.length_append, aX, putTo_len, gR]; omega) (aY (gV (cY L j) (cA l L j) b (cO l L b j).2 (cO l L b j).1 (y + (t + 1))) ++ sp) (by rw [← hpn, List.set_append_left _ _ (by rw [aX, putTo_len, gR]; omega)]; simp [aY, List.map_set]) ⟨(by repeat first|exact aH|refine aD ?_|refine aB rfl ?_|refine aI ?_), ?_⟩);refine dB (by decide +kernel) ?_;refine r_back ?_;refine r_bn ?_
          refine cK (kh34 _ _ _ ?_);clear kh34;refine bB ?_;refine aO rfl rfl rfl rfl (bF rfl rfl _ (aT (by omega))) ?_;refine aO rfl rfl rfl rfl (aG rfl) ?_;refine bQ ?_;refine cK (iX (t + 1) (by first | omega | (dsimp only; omega) | (simp; omega)) rfl (by omega) ?_ ?_ ?_)
          · exact (by repeat constructor)
          · exact (by repeat constructor)
          · repeat first|exact aH|refine aD ?_|refine aB rfl ?_|refine aI ?_
         ·
          refine iQ ?_;refine r_te ?_;clear kh33;refine r_te ?_;refine r_be ?_;refine cK (kh30 _ _ _ ?_);clear kh30;refine bB ?_;refine aO rfl rfl rfl rfl (aM Tryz.isAgg3 rfl (rdA rfl)) ?_;refine aO rfl rfl rfl rfl (bF rfl rfl _ (aT (by omega))) ?_;refine iG rfl rfl (Does.toR rfl (bY Tryz.sizeOf3 rfl rfl rfl rfl (by first | exact Nat.le_of_ble_eq_true rfl | (simp; done) | (simp; omega)) _ rfl ?_));refine bQ ?_;refine r_bn ?_;exact lD (m' := [(bo, blk (aY (gV (cY L j) (cA l L j) b (cO l L b j).2 (cO l L b j).1 (y + t)) ++ sp) 3), (b10, blk [.int .i64 ((cO l L b j).2 + (ys.length : Int) + 1)] 3), (b9, blk [.slice (some ⟨bo, 0, none⟩) L.length co] 25), (b16, blk [.slice (some ⟨bv, 0, none⟩) (cY L j).length cv] 25), (bv, blk (aY (cY L j) ++ spv) 3), (bo2, blk (aY (cA l L j) ++ sp2) 3)]) (Sub.reg (out := [[(l_, .loop (d_.rc .busy none))], [(d_.D, .deferred (some []))], [(bo, blk (aY (gV (cY L j) (cA l L j) b (cO l L b j).2 (cO l L b j).1 (y + t)) ++ sp) 3)], [(b10, blk [.int .i64 ((cO l L b j).2 + (ys.length : Int) + 1)] 3)], [(b9, blk [.slice (some ⟨bo, 0, none⟩) L.length co] 25)], [(b16, blk [.slice (some ⟨bv, 0, none⟩) (cY L j).length cv] 25)], [(bv, blk (aY (cY L j) ++ spv) 3)], [(bo2, blk (aY (cA l L j) ++ sp2) 3)]]) (by repeat first|exact aH|refine aD ?_|refine aB rfl ?_|refine aI ?_) (by simp)) ⟨by rw [List.length_append, List.length_singleton, Nat.succ_mul]; omega, y + t, ys.length + 1, by rw [List.length_append, List.length_singleton, Nat.succ_mul]; omega, by simp, by rw [show (cO l L b j).2 + ((ys.length + 1 : Nat) : Int) = (cO l L b j).2 + (ys.length : Int) + 1 by omega]⟩
       ·
        intro D_ ys m_ o_ hF hI;obtain ⟨hlt, q, c, hq, rfl, hm_⟩ := hI
        obtain ⟨hF1, rfl⟩ := hF
        obtain rfl : q = (cA l L j).length := by omega
        have hnew : cO l L b (j + 1) = ((gV (cY L j) (cA l L j) b (cO l L b j).2 (cO l L b j).1 ((cA l L j).length)), (cO l L b j).2 + ((((cA l L j).length + b - 1) / b : Nat) : Int)) := if_neg (by omega)
        rw [ceil_at (by omega) hF1 hlt] at hnew;have hm2 : m_ = [(bo, blk (aY (cO l L b (j + 1)).1 ++ sp) 3), (b10, blk [.int .i64 ((cO l L b (j + 1)).2)] 3), (b9, blk [.slice (some ⟨bo, 0, none⟩) L.length co] 25), (b16, blk [.slice (some ⟨bv, 0, none⟩) (cY L j).length cv] 25), (bv, blk (aY (cY L j) ++ spv) 3), (bo2, blk (aY (cA l L j) ++ sp2) 3)] := by rw [hm_, hnew]
        subst hm2;refine r_subQ (Sub.reg (out := [[(D_, .deferred (some []))], mks mk, [(bo, blk (aY (cO l L b (j + 1)).1 ++ sp) 3)], [(b10, blk [.int .i64 ((cO l L b (j + 1)).2)] 3)], [(b9, blk [.slice (some ⟨bo, 0, none⟩) L.length co] 25)], [(bs, blk (aY (szs M L)) 3)], [(b3, blk [.int .i64 (L.length : Int), .slice A l.length cap] 24)]]) (out' := [mks (D_ :: mk), [(bo, blk (aY (cO l L b (j + 1)).1 ++ sp) 3)], [(b10, blk [.int .i64 ((cO l L b (j + 1)).2)] 3)], [(b9, blk [.slice (some ⟨bo, 0, none⟩) L.length co] 25)], [(bs, blk (aY (szs M L)) 3)], [(b3, blk [.int .i64 (L.length : Int), .slice A l.length cap] 24)]]) (Sub.op2 (parts := [[(bo, blk (aY (cO l L b (j + 1)).1 ++ sp) 3)], [(b10, blk [.int .i64 ((cO l L b (j + 1)).2)] 3)], [(b9, blk [.slice (some ⟨bo, 0, none⟩) L.length co] 25)], [(b16, blk [.slice (some ⟨bv, 0, none⟩) (cY L j).length cv] 25)], [(bv, blk (aY (cY L j) ++ spv) 3)], [(bo2, blk (aY (cA l L j) ++ sp2) 3)]]) (by simp) (by dsimp only [List.cons_append, List.nil_append]; repeat first|exact aH|refine aD ?_|refine aB rfl ?_|refine aI ?_)) (by simp [mks])) ?_;refine r_bn ?_;refine r_bn ?_;refine cK (kh12 _ _ _ ?_);clear kh12;refine bB ?_;refine aO rfl rfl rfl rfl (bF rfl rfl _ (aT (by omega))) ?_;refine aO rfl rfl rfl rfl (aG rfl) ?_;refine bQ ?_;refine cK (iX (j + 1, D_ :: mk) (by first | omega | (dsimp only; omega) | (simp; omega)) rfl (by show j + 1 ≤ M; omega) ?_ ?_ ?_)
        · exact (by repeat constructor)
        · exact (by repeat constructor)
        · repeat first|exact aH|refine aD ?_|refine aB rfl ?_|refine aI ?_
       · intro D_ ys m_ o_ hF hI;exact hI.elim
   ·
    obtain rfl : M = j := by omega
    refine iQ ?_;refine r_te ?_;clear kh11;refine r_te ?_;refine r_be ?_;refine cK (kh8 _ _ _ ?_);clear kh8;refine cB fun K36 kh36 => ?_;refine bB ?_;refine aO rfl rfl rfl rfl (aM Tryz.isAgg25 rfl (rdA rfl)) ?_;refine d8 rfl rfl rfl (Does.toR rfl (fK [[(bo, blk (aY (cO l L b M).1 ++ sp) 3)]] _ Tryz.call46 rfl (by repeat (first | exact Sub.refl | refine aD ?_)) (fun w_ hp_ => (by have h := tidy_spec bo co (cO l L b M).1 sp w_ (by rw [gR]; omega) (by rw [gR]; omega) (kQ o31 (gR l L b M)) hp_.owns; rw [gR] at h; exact h)) ?_));rintro _ _ ⟨rfl, rfl, o104⟩;dsimp only [List.cons_append, List.nil_append];refine bQ ?_;refine cK (kh36 _ _ _ ?_);clear kh36;refine cB fun K37 kh37 => ?_;refine bB ?_;refine aO rfl rfl rfl rfl (aM Tryz.isAgg25 rfl (rdA rfl)) ?_;refine aO rfl rfl rfl rfl (aF rfl) ?_;refine aO rfl rfl rfl rfl (aF rfl) ?_;refine bQ ?_;refine cK (kh37 _ _ _ ?_);clear kh37;refine jN ?_;have hcl : (lS l L b).length = L.length := by unfold lS; rw [eM, gR]
    exact iP [[(bo, blk (aY (lS l L b) ++ sp) 3)]] Tryz.results37 rfl rfl (by rw [lS, hM]; repeat first|exact aH|refine aD ?_|refine aB rfl ?_|refine aI ?_) ⟨lS l L b, some ⟨bo, 0, none⟩, co, _, by rw [hcl, hz], rfl, (by have := kQ (L2 := lS l L b) o31 hcl; exact this), fun h => absurd hz h, fun _ => rfl⟩
end Go.Proofs.YtjjogcnjcnpehaaGreat

/- package nest: first, within, bounded, Check, at, looked, many, Many, cellOf, members, Members. -/
namespace Go.Proofs.YtjjogcnjcnpehaaGreat
open Go Go.RowKit Fly
set_option linter.unusedVariables false
set_option linter.unusedSimpArgs false
/-- A row of cells that is read. -/
abbrev Row := Option Addr × List Int × Nat
abbrev rowV (r : Row) : Value := .slice r.1 r.2.1.length r.2.2
def eF (R : List Row) : List (List Int) := R.map (·.2.1)
structure NestRo (S : Nat → Prop) (w : World) (Ab : Option Addr) (bs : List Int) (Ac : Option Addr) (R : List Row) : Prop where
  b : Ro S w Ab (aY bs)
  bl : bs.length ≤ 9223372036854775807
  c : Ro S w Ac (R.map rowV)
  cl : R.length ≤ 9223372036854775807
  rows : ∀ r ∈ R, Ro S w r.1 (aY r.2.1) ∧ r.2.1.length ≤ 9223372036854775807
theorem NestRo.up0 {S : Nat → Prop} {w0 w : World} {m : Seg} {Ab Ac : Option Addr} {bs : List Int} {R : List Row} (h : NestRo S w0 Ab bs Ac R) (hp : Hp S w0 m w) : NestRo (Fr w []) w Ab bs Ac R :=
  ⟨h.b.up0 hp, h.bl, h.c.up0 hp, h.cl, fun r hr => ⟨(h.rows r hr).1.up0 hp, (h.rows r hr).2⟩⟩
theorem jG (R : List Row) : (eF R).length = R.length := by simp [eF]
theorem kK {R : List Row} {k : Nat} (h : k < R.length) : (eF R).getD k [] = R[k].2.1 := by simp [eF, List.getD_eq_getElem?_getD, h]
theorem bs_at {bs : List Int} {k : Nat} (h : k < bs.length) : bs.getD k 0 = bs[k] := by simp [List.getD_eq_getElem?_getD, h]
/-- Which cells of the level below have come, with the cell above of each. -/
structure Wi (b a : List Int) (v : Nat) (ents : List (Int × Value × Nat)) : Prop where
  yes : ∀ u (h : u < b.length) (h' : u < a.length), u < v → dD ents b[u] = some (.int .i64 a[u])
  no : ∀ c, c ∉ b.take v → dD ents c = none
theorem Wi.nil (b a : List Int) : Wi b a 0 [] := ⟨fun u _ _ h => by omega, fun c _ => rfl⟩
theorem Wi.val {b a : List Int} {v : Nat} {ents : List (Int × Value × Nat)} (h : Wi b a v ents) (hl : a.length = b.length) (c : Int) :
    ∃ p : Int, (dD ents c).getD (.int .i64 0) = .int .i64 p ∧ (dD ents c).isSome = decide (c ∈ b.take v) ∧ (c ∈ b.take v → ∃ u, ∃ hu : u < b.length, u < v ∧ b[u] = c ∧ a[u]'(by omega) = p) := by
  by_cases hm : c ∈ b.take v
  · obtain ⟨u, hu, e⟩ := List.mem_iff_getElem.1 hm
    rw [List.getElem_take] at e;rw [List.length_take] at hu;have := h.yes u (by omega) (by omega) (by omega)
    rw [e] at this;exact ⟨a[u]'(by omega), by rw [this]; rfl, by rw [this, decide_eq_true hm]; rfl, fun _ => ⟨u, by omega, by omega, e, rfl⟩⟩
  · exact ⟨0, by rw [h.no c hm]; rfl, by rw [h.no c hm, decide_eq_false hm]; rfl, fun h => absurd h hm⟩
theorem Wi.next {b a : List Int} {v : Nat} {ents : List (Int × Value × Nat)} (h : Wi b a v ents) (hl : a.length = b.length) (hv : v < b.length) (hs : b[v] ∈ b.take v → ∃ u, ∃ hu : u < b.length, u < v ∧ b[u] = b[v] ∧ a[u]'(by omega) = a[v]'(by omega)) (k : Nat) : Wi b a (v + 1) (eS ents b[v] (.int .i64 (a[v]'(by omega))) k) where
  yes := fun u hu hu' huv => by
    rw [gK]
    by_cases e : b[u] = b[v]
    · rw [if_pos e]
      by_cases e2 : u = v
      · subst e2; rfl
      · have huv' : u < v := by omega
        have hm : b[v] ∈ b.take v := by rw [← e]; exact List.mem_iff_getElem.2 ⟨u, by rw [List.length_take]; omega, List.getElem_take⟩
        obtain ⟨w, hw, hwv, e3, e4⟩ := hs hm
        have h1 := h.yes w hw (by omega) hwv
        have h2 := h.yes u hu hu' huv'
        rw [e3] at h1;rw [e, h1] at h2;rw [← e4]; exact h2
    · rw [if_neg e]
      refine h.yes u hu hu' ?_
      by_cases e2 : u = v
      · subst e2; exact absurd rfl e
      · omega
  no := fun c hc => by
    rw [List.take_succ_eq_append_getElem hv, List.mem_append, List.mem_singleton] at hc;rw [gK, if_neg (fun e => hc (.inr e))];exact h.no c fun hm => hc (.inl hm)
theorem Wi.all {b a : List Int} {ents : List (Int × Value × Nat)} (h : Wi b a b.length ents) (hl : a.length = b.length) : gY b a := fun u hu v hv e => by
  simp only [List.getD_eq_getElem?_getD, List.getElem?_eq_getElem hu, List.getElem?_eq_getElem hv, List.getElem?_eq_getElem (show u < a.length by omega), List.getElem?_eq_getElem (show v < a.length by omega), Option.getD_some] at e ⊢;have h1 := h.yes u hu (by omega) hu
  have h2 := h.yes v hv (by omega) hv
  rw [e, h2] at h1;simp at h1;exact h1.symm
theorem not_within {b a : List Int} {u v : Nat} (hl : a.length = b.length) (hu : u < b.length) (hv : v < b.length) (e : b[u] = b[v]) (hne : a[u]'(by omega) ≠ a[v]'(by omega)) : ¬ gY b a := fun h => hne (by
  have := h u hu v hv (by simp only [List.getD_eq_getElem?_getD, List.getElem?_eq_getElem hu, List.getElem?_eq_getElem hv, Option.getD_some]; exact e)
  simpa [List.getD_eq_getElem?_getD, show u < a.length by omega, show v < a.length by omega] using this)
theorem spE_zeroN {N : Int} {l : List Arc} {L : List Int} {bd : Int} (h : spE N l L bd = 0) : ∃ n : Nat, N = (n : Int) ∧ 1 ≤ n ∧ n ≤ 1024 ∧ (bG (n : Int) l).2 = 0 ∧ cZ (n : Int) L = true ∧ 1 ≤ bd ∧ bd ≤ 1024 := by
  unfold spE at h
  by_cases h1 : (d4 N l L).2 = 0
  · rw [if_neg (by rw [h1]; simp)] at h
    have hg : (bG N l).2 = 0 := by
      unfold d4 at h1
      by_cases h2 : (bG N l).2 = 0
      · exact h2
      · rw [if_pos h2] at h1; exact absurd h1 h2
    have hz := bT hg
    obtain ⟨n, rfl⟩ : ∃ n : Nat, N = (n : Int) := ⟨N.toNat, by omega⟩
    by_cases h3 : bd < 1 ∨ 1024 < bd
    · rw [if_pos h3] at h; cases h
    · exact ⟨n, rfl, by omega, by omega, hg, lc_right hg h1, by omega, by omega⟩
  · rw [if_pos h1] at h; exact absurd h h1
set_option maxRecDepth 100000 in
set_option maxHeartbeats 4000000 in
theorem SizesN_spec (N : Int) (A : Option Addr) (l : List Arc) (cap : Nat) (B : Option Addr) (L : List Int) (cb : Nat) (w : World) (hr : Ro (Fr w []) w A (l.flatMap cD)) (hl : l.length ≤ 9223372036854775807) (hN : I64 N) (hok : ∀ x ∈ l, dV x) (hL : Ro (Fr w []) w B (aY L)) (hm : L.length ≤ 9223372036854775807) (hz : spE N l L 1 = 0) :
    Meets Tryz.prog 48 [.agg #[.int .i64 N, .slice A l.length cap], .slice B L.length cb] w [] (fun u own' => ∃ b, u = .tuple #[.slice (some ⟨b, 0, none⟩) (eO L + 1).toNat (eO L + 1).toNat, .int .i64 0] ∧ own' = [[(b, blk (aY (cF L)) 3)]]) := by
 obtain ⟨n, rfl, hn1, hn2, hg, hR, _⟩ := spE_zeroN hz
 obtain rfl : L.length = n := (cX hR).2
 have hrg := eK hR hn1
 refine bM Tryz.func48 rfl Tryz.ntmps48 rfl Owns.nil ?_;refine aK fun K1 kh1 => ?_;refine aC ?_;refine aU rfl rfl rfl (dA rfl rfl fun b2 => ?_);refine aA rfl rfl rfl (aF rfl) ?_;refine aA rfl rfl rfl (aF rfl) ?_;refine aJ ?_;refine aL (kh1 _ _ ?_);clear kh1;refine aK fun K2 kh2 => ?_;refine aK fun K3 kh3 => ?_;refine aC ?_;refine aA rfl rfl rfl (bD (vs := [_, _]) Tryz.isAgg24 Tryz.sizeOf24 rfl rfl ⟨(rdA rfl), (rdA rfl), trivial⟩) ?_;refine aA rfl rfl rfl (aG rfl) ?_;refine aU rfl rfl rfl (bE Tryz.call39 rfl (fun w_ hp_ => splook_spec (L.length : Int) A B l cap L cb 1 w_ (hr.up0 hp_) hl hN hok (hL.up0 hp_) hm) ?_);rintro _ _ ⟨rfl, rfl⟩;rw [hz];dsimp only [List.cons_append, List.nil_append];refine aA rfl rfl rfl (aF rfl) ?_;refine aJ ?_;refine aL (kh3 _ _ ?_);clear kh3;refine aK fun K4 kh4 => ?_;refine aC ?_;refine aA rfl rfl rfl (aG rfl) ?_;refine aA rfl rfl rfl (dC rfl rfl) ?_;refine aJ ?_;refine aL (kh4 _ _ ?_);clear kh4;refine gD rfl (by simp) ?_;refine aV ?_;refine aL (kh2 _ _ ?_);clear kh2;refine aK fun K5 kh5 => ?_;refine aC ?_;refine aA rfl rfl rfl (aG rfl) ?_;refine aU rfl rfl rfl (bE Tryz.call41 rfl (fun w_ hp_ => lA B L cb w_ (hL.up0 hp_) (by omega) (by omega) (fun x hx => by have := hrg x hx; omega)) ?_);rintro _ _ ⟨bs, rfl, rfl⟩;dsimp only [List.cons_append, List.nil_append];refine aA rfl rfl rfl (aF rfl) ?_;refine aA rfl rfl rfl (aF rfl) ?_;refine aJ ?_;refine aL (kh5 _ _ ?_);clear kh5;refine a7 ?_;exact bZ [[(bs, blk (aY (cF L)) 3)]] Tryz.results48 rfl rfl (by repeat first|exact aH|refine aD ?_|refine aB rfl ?_|refine aI ?_) ⟨bs, rfl, rfl⟩
set_option maxRecDepth 100000 in
set_option maxHeartbeats 4000000 in
theorem first_spec (N : Int) (A : Option Addr) (l : List Arc) (cap : Nat) (B : Option Addr) (L : List Int) (cb : Nat) (b : Int) (w : World) (hr : Ro (Fr w []) w A (l.flatMap cD)) (hl : l.length ≤ 9223372036854775807) (hN : I64 N) (hok : ∀ x ∈ l, dV x) (hL : Ro (Fr w []) w B (aY L)) (hm : L.length ≤ 9223372036854775807) (hg : (bG N l).2 = 0) :
    Meets Tryz.prog 23 [.agg #[.int .i64 N, .slice A l.length cap], .slice B L.length cb, .int .i64 b] w [] (fun u m => u = .int .i64 (iJ N l L b) ∧ m = []) := by
 refine bM Tryz.func23 rfl Tryz.ntmps23 rfl Owns.nil ?_;refine aK fun K1 kh1 => ?_;refine aC ?_;refine aU rfl rfl rfl (dA rfl rfl fun b3 => ?_);refine aA rfl rfl rfl (aF rfl) ?_;refine aJ ?_;refine aL (kh1 _ _ ?_);clear kh1;refine aK fun K2 kh2 => ?_;refine aK fun K3 kh3 => ?_;refine aC ?_;refine aA rfl rfl rfl (bD (vs := [_, _]) Tryz.isAgg24 Tryz.sizeOf24 rfl rfl ⟨(rdA rfl), (rdA rfl), trivial⟩) ?_;refine aA rfl rfl rfl (aG rfl) ?_;refine aU rfl rfl rfl (bE Tryz.call47 rfl (fun w_ hp_ => Count_spec N A B l cap L cb w_ (hr.up0 hp_) hl hN hok (hL.up0 hp_) hm) ?_);rintro _ _ ⟨rfl, rfl⟩;dsimp only [List.cons_append, List.nil_append];refine aA rfl rfl rfl (aG rfl) ?_;refine aA rfl rfl rfl (aW rfl rfl) ?_;refine aA rfl rfl rfl (aW rfl rfl) ?_;refine aA rfl rfl rfl (aF rfl) ?_;refine aA rfl rfl rfl (aF rfl) ?_;refine aJ ?_;refine aL (kh3 _ _ ?_);clear kh3;refine aK fun K4 kh4 => ?_;refine aC ?_;refine aA rfl rfl rfl (aG rfl) ?_;refine aA rfl rfl rfl (dC rfl rfl) ?_;refine aJ ?_;refine aL (kh4 _ _ ?_);clear kh4;refine a6 rfl (fun c18 => ?_) (fun c18 => ?_)
 ·
  refine aK fun K5 kh5 => ?_;refine aC ?_;refine aA rfl rfl rfl (aG rfl) ?_;refine aA rfl rfl rfl (aF rfl) ?_;refine aJ ?_;refine aL (kh5 _ _ ?_);clear kh5;refine a7 ?_;refine bS ?_;exact bJ [] Tryz.results23 rfl aH ⟨by unfold iJ; rw [if_pos (by simpa using c18)], rfl⟩
 ·
  have hlc : (d4 N l L).2 = 0 := by simpa using c18
  have hR := lc_right hg hlc
  have hgz := bT hg
  have hz1 := spE_oneN hg hR (bd := 1) (by omega)
  obtain ⟨n, hNe⟩ : ∃ n : Nat, N = (n : Int) := ⟨N.toNat, by omega⟩
  have hR2 : cZ (n : Int) L = true := by rw [← hNe]; exact hR
  have hrg := eK hR2 (by omega)
  have hLn := (cX hR2).2
  have hr0 := hrg _ (List.getElem_mem (show 0 < L.length by omega))
  have hsl : (cF L).length = (eO L + 1).toNat := eQ _ _
  refine aV ?_;refine aL (kh2 _ _ ?_);clear kh2;refine aK fun K6 kh6 => ?_;refine aC ?_;refine aA rfl rfl rfl (bD (vs := [_, _]) Tryz.isAgg24 Tryz.sizeOf24 rfl rfl ⟨(rdA rfl), (rdA rfl), trivial⟩) ?_;refine aA rfl rfl rfl (aG rfl) ?_;refine aU rfl rfl rfl (bE Tryz.call48 rfl (fun w_ hp_ => SizesN_spec N A l cap B L cb w_ (hr.up0 hp_) hl hN hok (hL.up0 hp_) hm hz1) ?_);rintro _ _ ⟨bs_, rfl, rfl⟩;dsimp only [List.cons_append, List.nil_append];refine aA rfl rfl rfl (aG rfl) ?_;refine aA rfl rfl rfl (aW rfl rfl) ?_;refine aA rfl rfl rfl (aW rfl rfl) ?_;refine aA rfl rfl rfl (aF rfl) ?_;refine aA rfl rfl rfl (aF rfl) ?_;refine aJ ?_;refine aL (kh6 _ _ ?_);clear kh6;refine aK fun K7 kh7 => ?_;refine aK fun K8 kh8 => ?_;refine aC ?_;refine aA rfl rfl rfl (aG rfl) ?_;refine aA rfl rfl rfl (dC rfl rfl) ?_;refine aJ ?_;refine aL (kh8 _ _ ?_);clear kh8;refine gD rfl (by simp) ?_;refine aV ?_;refine aL (kh7 _ _ ?_);clear kh7;refine aK fun K9 kh9 => ?_;refine aK fun K10 kh10 => ?_;refine aC ?_;refine aA rfl rfl rfl (aG rfl) ?_;refine aU rfl rfl rfl (bE Tryz.call40 rfl (fun w_ hp_ => (by have h := jY (some ⟨bs_, 0, none⟩) (cF L) (eO L + 1).toNat w_ (iN (b := bs_) hp_ (cs := aY (cF L)) (fun j v hj => hj)) (by rw [hsl]; omega) (by rw [hsl]; omega); rw [hsl] at h; exact h)) ?_);rintro _ _ ⟨rfl, rfl⟩;dsimp only [List.cons_append, List.nil_append];refine aA rfl rfl rfl (aG rfl) ?_;refine aA rfl rfl rfl (eL rfl rfl) ?_;refine aJ ?_;refine aL (kh10 _ _ ?_);clear kh10;refine a6 rfl (fun c32 => ?_) (fun c32 => ?_)
  ·
   refine aK fun K11 kh11 => ?_;refine aC ?_;refine aA rfl rfl rfl (aF rfl) ?_;refine aJ ?_;refine aL (kh11 _ _ ?_);clear kh11;refine a7 ?_;refine bS ?_;exact bJ [] Tryz.results23 rfl aH ⟨by unfold iJ; rw [if_neg (by rw [hlc]; simp), if_pos (by omega)], rfl⟩
  ·
   refine aV ?_;refine aL (kh9 _ _ ?_);clear kh9;refine aK fun K12 kh12 => ?_;refine aC ?_;refine aA rfl rfl rfl (aF rfl) ?_;refine aJ ?_;refine aL (kh12 _ _ ?_);clear kh12;refine a7 ?_;exact bJ [] Tryz.results23 rfl aH ⟨by unfold iJ; rw [if_neg (by rw [hlc]; simp), if_neg (by omega)], rfl⟩
set_option maxRecDepth 100000 in
set_option maxHeartbeats 4000000 in
theorem within_spec (B C : Option Addr) (b a : List Int) (cb ca la : Nat) (w : World) (hb : Ro (Fr w []) w B (aY b)) (ha : Ro (Fr w []) w C (aY a)) (hla : a.length = la) (hl : a.length = b.length) (hm : b.length ≤ 1024) :
    Meets Tryz.prog 24 [.slice B b.length cb, .slice C la ca] w [] (fun u m => u = .bool (decide (gY b a)) ∧ m = []) := by
 subst hla;refine bM Tryz.func24 rfl Tryz.ntmps24 rfl Owns.nil ?_;refine aK fun K1 kh1 => ?_;refine aC ?_;refine aA rfl rfl rfl (aF rfl) ?_;refine aJ ?_;refine aL (kh1 _ _ ?_);clear kh1;refine aK fun K2 kh2 => ?_;refine aC ?_;refine aU rfl rfl rfl (iA fun b10 => ?_);refine aA rfl rfl rfl (aF rfl) ?_;refine aJ ?_;refine aL (kh2 _ _ ?_);clear kh2;refine aK fun K3 kh3 => ?_;refine aK fun K4 kh4 => ?_;refine aC ?_;refine aA rfl rfl rfl (aG rfl) ?_;refine aA rfl rfl rfl (bU bK rfl) ?_;refine aA rfl rfl rfl (aG rfl) ?_;refine aJ ?_;refine aL (kh4 _ _ ?_);clear kh4;refine aZ ?_;refine cS (α := Nat × List (Int × Value × Nat) × Nat) [1, 5, 11, 12] (fun ⟨v, ents, c1⟩ => [(13, .int .i64 (v : Int))]) (fun ⟨v, ents, c1⟩ => [[(b10, fU (fun x : Int => .int .i64 x) ents c1)]]) (fun ⟨v, ents, c1⟩ => v ≤ b.length ∧ MOk ents c1 ∧ Wi b a v ents) (fun ⟨v, ents, c1⟩ => b.length - v) (0, [], 0) ?_ ?_ ?_ ?_
 · exact (by repeat constructor)
 · repeat first|exact aH|refine aD ?_|refine aB rfl ?_|refine aI ?_
 · exact ⟨Nat.zero_le _, MOk.nil, Wi.nil b a⟩
 ·
  rintro ⟨v, ents, c1⟩ ⟨hvl, hmap, hW⟩;refine aK fun K5 kh5 => ?_;refine aC ?_;refine aA rfl rfl rfl (cE rfl rfl) ?_;refine aJ ?_;refine aL (kh5 _ _ ?_);clear kh5;refine aK fun K6 kh6 => ?_;refine a6 rfl (fun c14 => ?_) (fun c14 => ?_)
  ·
   have hv : v < b.length := by omega
   have hva : v < a.length := by omega
   obtain ⟨b1, o1, rfl, hS1, hc1⟩ := hb (fun e => by have := aX b; rw [e] at this; simp at this; omega)
   obtain ⟨b2, o2, rfl, hS2, hc2⟩ := ha (fun e => by have := aX a; rw [e] at this; simp at this; omega)
   obtain ⟨p, hp1, hp2, hp3⟩ := hW.val hl b[v]
   refine aV ?_;refine aL (kh6 _ _ ?_);clear kh6;refine aK fun K7 kh7 => ?_;refine aZ ?_;refine aK fun K8 kh8 => ?_;refine aC ?_;refine aA rfl rfl rfl (aG rfl) ?_;refine aA rfl rfl rfl (a8 bK rfl rfl (o1 + v) ⟨by omega, by omega, by first | omega | (simp; done) | (simp; omega)⟩) ?_;refine aA rfl rfl rfl (aM Tryz.isAgg3 rfl (eD (enc := (.int .i64 ·)) hS1 hc1 hv)) ?_;refine aA rfl rfl rfl (aF rfl) ?_;refine aA rfl rfl rfl (aF rfl) ?_;refine aJ ?_;refine aL (kh8 _ _ ?_);clear kh8;refine aK fun K9 kh9 => ?_;refine aK fun K10 kh10 => ?_;refine aC ?_;refine aA rfl rfl rfl (aG rfl) ?_;refine aA rfl rfl rfl (aG rfl) ?_;refine aA rfl rfl rfl (o_lookup2 kt86 Tryz.zeroValue3 rfl rfl rfl (.int .i64 p) hp1 (decide (b[v] ∈ b.take v)) hp2) ?_;refine aA rfl rfl rfl (aG rfl) ?_;refine aA rfl rfl rfl (aW rfl rfl) ?_;refine aA rfl rfl rfl (aW rfl rfl) ?_;refine aA rfl rfl rfl (aF rfl) ?_;refine aA rfl rfl rfl (aF rfl) ?_;refine aJ ?_;refine aL (kh10 _ _ ?_);clear kh10;refine aK fun K11 kh11 => ?_;refine aC ?_;refine aA rfl rfl rfl (aG rfl) ?_;refine aA rfl rfl rfl (aG rfl) ?_;refine cT 25 rfl (fun g25 => ?_) (fun g25 => ?_)
   ·
    refine aQ rfl rfl rfl rfl rfl (aG rfl) ?_;refine aQ rfl rfl rfl rfl rfl (aG rfl) ?_;refine aQ rfl rfl rfl rfl rfl (aG rfl) ?_;refine aQ rfl rfl rfl rfl rfl (a8 bK rfl rfl (o2 + v) ⟨by omega, by omega, by first | omega | (simp; done) | (simp; omega)⟩) ?_;refine aQ rfl rfl rfl rfl rfl (aM Tryz.isAgg3 rfl (eD (enc := (.int .i64 ·)) hS2 hc2 hva)) ?_;refine aQ rfl rfl rfl rfl rfl (dC rfl rfl) ?_;refine aA rfl rfl rfl (bX rfl rfl) ?_;refine aJ ?_;refine aL (kh11 _ _ ?_);clear kh11;refine a6 rfl (fun c32 => ?_) (fun c32 => ?_)
    ·
     refine aK fun K12 kh12 => ?_;refine aC ?_;refine aA rfl rfl rfl (aF rfl) ?_;refine aJ ?_;refine aL (kh12 _ _ ?_);clear kh12;refine a7 ?_;refine bS ?_;refine d3 ?_;refine bS ?_;refine bS ?_;refine d3 ?_;refine bS ?_;obtain ⟨u, hu, huv, e1, e2⟩ := hp3 (by simpa using g25)
     exact bJ [] Tryz.results24 rfl (by repeat first|exact aH|refine aD ?_|refine aB rfl ?_|refine aI ?_) ⟨by rw [decide_eq_false (not_within hl hu hv e1 (by omega))], rfl⟩
    ·
     refine aV ?_;refine aL (kh9 _ _ ?_);clear kh9;refine aC ?_;refine aA rfl rfl rfl (aG rfl) ?_;refine aA rfl rfl rfl (aG rfl) ?_;refine aA rfl rfl rfl (aG rfl) ?_;refine aA rfl rfl rfl (aG rfl) ?_;refine aA rfl rfl rfl (a8 bK rfl rfl (o2 + v) ⟨by omega, by omega, by first | omega | (simp; done) | (simp; omega)⟩) ?_;refine aA rfl rfl rfl (aM Tryz.isAgg3 rfl (eD (enc := (.int .i64 ·)) hS2 hc2 hva)) ?_;refine bH rfl rfl (gG kt86 rfl rfl rfl rfl ?_);refine aJ ?_;refine cU ?_;refine aL (kh7 _ _ ?_);clear kh7;refine aC ?_;refine aA rfl rfl rfl (bF rfl rfl _ (aT (by omega))) ?_;refine aA rfl rfl rfl (aG rfl) ?_;refine aJ ?_;refine aL (bA (v + 1, eS ents b[v] (.int .i64 a[v]) c1, e7 ents b[v] c1) (by first | omega | (dsimp only; omega) | (simp; omega)) ⟨by omega, hmap.put _ _, hW.next hl hv (fun hm => by obtain ⟨u, hu, huv, e1, e2⟩ := hp3 hm; exact ⟨u, hu, huv, e1, by omega⟩) _⟩ ?_ ?_ ?_)
     · exact (by repeat constructor)
     · exact (by repeat constructor)
     · repeat first|exact aH|refine aD ?_|refine aB rfl ?_|refine aI ?_
   ·
    refine aR rfl rfl rfl rfl rfl rfl ?_;refine aR rfl rfl rfl rfl rfl rfl ?_;refine aR rfl rfl rfl rfl rfl rfl ?_;refine aR rfl rfl rfl rfl rfl rfl ?_;refine aR rfl rfl rfl rfl rfl rfl ?_;refine aR rfl rfl rfl rfl rfl rfl ?_;refine aA rfl rfl rfl (cL rfl rfl) ?_;refine aJ ?_;refine aL (kh11 _ _ ?_);clear kh11;refine gZ rfl ?_;refine aV ?_;refine aL (kh9 _ _ ?_);clear kh9;refine aC ?_;refine aA rfl rfl rfl (aG rfl) ?_;refine aA rfl rfl rfl (aG rfl) ?_;refine aA rfl rfl rfl (aG rfl) ?_;refine aA rfl rfl rfl (aG rfl) ?_;refine aA rfl rfl rfl (a8 bK rfl rfl (o2 + v) ⟨by omega, by omega, by first | omega | (simp; done) | (simp; omega)⟩) ?_;refine aA rfl rfl rfl (aM Tryz.isAgg3 rfl (eD (enc := (.int .i64 ·)) hS2 hc2 hva)) ?_;refine bH rfl rfl (gG kt86 rfl rfl rfl rfl ?_);refine aJ ?_;refine cU ?_;refine aL (kh7 _ _ ?_);clear kh7;refine aC ?_;refine aA rfl rfl rfl (bF rfl rfl _ (aT (by omega))) ?_;refine aA rfl rfl rfl (aG rfl) ?_;refine aJ ?_;refine aL (bA (v + 1, eS ents b[v] (.int .i64 a[v]) c1, e7 ents b[v] c1) (by first | omega | (dsimp only; omega) | (simp; omega)) ⟨by omega, hmap.put _ _, hW.next hl hv (fun hm => absurd hm (by simpa using g25)) _⟩ ?_ ?_ ?_)
    · exact (by repeat constructor)
    · exact (by repeat constructor)
    · repeat first|exact aH|refine aD ?_|refine aB rfl ?_|refine aI ?_
  ·
   refine cG ?_;refine cH ?_;clear kh6;refine cH ?_;refine eB ?_;refine aL (kh3 _ _ ?_);clear kh3;refine aK fun K13 kh13 => ?_;refine aC ?_;refine aA rfl rfl rfl (aF rfl) ?_;refine aJ ?_;refine aL (kh13 _ _ ?_);clear kh13;refine a7 ?_;obtain rfl : v = b.length := by omega
   exact bJ [] Tryz.results24 rfl (by repeat first|exact aH|refine aD ?_|refine aB rfl ?_|refine aI ?_) ⟨by rw [decide_eq_true (hW.all hl)], rfl⟩
set_option maxRecDepth 100000 in
set_option maxHeartbeats 4000000 in
theorem nbounded_spec (b c : Int) (w : World) :
    Meets Tryz.prog 22 [.int .i64 b, .int .i64 c] w [] (fun u m => u = .bool (decide (c < b ∧ b ≤ 1024)) ∧ m = []) := by
 refine bM Tryz.func22 rfl Tryz.ntmps22 rfl Owns.nil ?_;refine aK fun K1 kh1 => ?_;refine aC ?_;refine aA rfl rfl rfl (aF rfl) ?_;refine aJ ?_;refine aL (kh1 _ _ ?_);clear kh1;refine aK fun K2 kh2 => ?_;refine aC ?_;refine aA rfl rfl rfl (aG rfl) ?_;refine aA rfl rfl rfl (aG rfl) ?_;refine aA rfl rfl rfl (eL rfl rfl) ?_;refine aA rfl rfl rfl (aG rfl) ?_;refine cT 8 rfl (fun g8 => ?_) (fun g8 => ?_)
 ·
  refine aQ rfl rfl rfl rfl rfl (aG rfl) ?_;refine aQ rfl rfl rfl rfl rfl (o_leq rfl rfl) ?_;refine aA rfl rfl rfl (bX rfl rfl) ?_;refine aA rfl rfl rfl (aF rfl) ?_;refine aJ ?_;refine aL (kh2 _ _ ?_);clear kh2;refine a7 ?_;exact bJ [] Tryz.results22 rfl aH ⟨by congr 1; apply decide_eq_decide.2; omega, rfl⟩
 · refine aR rfl rfl rfl rfl rfl rfl ?_;refine aR rfl rfl rfl rfl rfl rfl ?_;refine aA rfl rfl rfl (cL rfl rfl) ?_;refine aA rfl rfl rfl (aF rfl) ?_;refine aJ ?_;refine aL (kh2 _ _ ?_);clear kh2;refine a7 ?_;exact bJ [] Tryz.results22 rfl aH ⟨by rw [decide_eq_false (by omega)], rfl⟩
set_option maxRecDepth 100000 in
set_option maxHeartbeats 4000000 in
theorem NCheck_spec (N : Int) (A : Option Addr) (l : List Arc) (cap : Nat) (Ab : Option Addr) (bs : List Int) (cb : Nat) (Ac : Option Addr) (R : List Row) (cc : Nat) (w : World) (hr : Ro (Fr w []) w A (l.flatMap cD)) (hl : l.length ≤ 9223372036854775807) (hN : I64 N) (hok : ∀ x ∈ l, dV x) (hn : NestRo (Fr w []) w Ab bs Ac R) :
    Meets Tryz.prog 9 [.agg #[.int .i64 N, .slice A l.length cap], .agg #[.slice Ab bs.length cb, .slice Ac R.length cc]] w [] (fun u m => u = .tuple #[.int .i64 (nsE N l bs (eF R)).1, .int .i64 (nsE N l bs (eF R)).2] ∧ m = []) := by
 have hrl := jG R
 refine bM Tryz.func9 rfl Tryz.ntmps9 rfl Owns.nil ?_;refine aK fun K1 kh1 => ?_;refine aC ?_;refine aU rfl rfl rfl (dA rfl rfl fun b2 => ?_);refine aU rfl rfl rfl (dA rfl rfl fun b3 => ?_);refine aA rfl rfl rfl (aF rfl) ?_;refine aA rfl rfl rfl (aF rfl) ?_;refine aJ ?_;refine aL (kh1 _ _ ?_);clear kh1;refine aK fun K2 kh2 => ?_;refine aK fun K3 kh3 => ?_;refine aC ?_;refine aA rfl rfl rfl (bD (vs := [_, _]) Tryz.isAgg24 Tryz.sizeOf24 rfl rfl ⟨(rdA rfl), (rdA rfl), trivial⟩) ?_;refine aU rfl rfl rfl (bE Tryz.call21 rfl (fun w_ hp_ => e8 N A l cap w_ (hr.up0 hp_) hl hN hok) ?_);rintro _ _ ⟨rfl, rfl⟩;dsimp only [List.cons_append, List.nil_append];refine aA rfl rfl rfl (aG rfl) ?_;refine aA rfl rfl rfl (aW rfl rfl) ?_;refine aA rfl rfl rfl (aW rfl rfl) ?_;refine aA rfl rfl rfl (aF rfl) ?_;refine aA rfl rfl rfl (aF rfl) ?_;refine aJ ?_;refine aL (kh3 _ _ ?_);clear kh3;refine aK fun K4 kh4 => ?_;refine aC ?_;refine aA rfl rfl rfl (aG rfl) ?_;refine aA rfl rfl rfl (dC rfl rfl) ?_;refine aJ ?_;refine aL (kh4 _ _ ?_);clear kh4;refine a6 rfl (fun c18 => ?_) (fun c18 => ?_)
 ·
  refine aK fun K5 kh5 => ?_;refine aC ?_;refine aA rfl rfl rfl (aG rfl) ?_;refine aA rfl rfl rfl (aF rfl) ?_;refine aA rfl rfl rfl (aF rfl) ?_;refine aJ ?_;refine aL (kh5 _ _ ?_);clear kh5;refine a7 ?_;refine bS ?_;have e : nsE N l bs (eF R) = (0, (bG N l).2) := by unfold nsE; rw [if_pos (by simpa using c18)]
  exact bZ [] Tryz.results9 rfl rfl aH ⟨by rw [e], rfl⟩
 ·
  have hg : (bG N l).2 = 0 := by simpa using c18
  have hgz := bT hg
  refine aV ?_;refine aL (kh2 _ _ ?_);clear kh2;refine aK fun K6 kh6 => ?_;refine aK fun K7 kh7 => ?_;refine aC ?_;refine aA rfl rfl rfl (aP fa32_0 rfl) ?_;refine aA rfl rfl rfl (aM Tryz.isAgg25 rfl (rdA rfl)) ?_;refine aA rfl rfl rfl (bU bK rfl) ?_;refine aA rfl rfl rfl (cE rfl rfl) ?_;refine aA rfl rfl rfl (aG rfl) ?_;refine cT 24 rfl (fun g24 => ?_) (fun g24 => ?_)
  ·
   refine aR rfl rfl rfl rfl rfl rfl ?_;refine aR rfl rfl rfl rfl rfl rfl ?_;refine aR rfl rfl rfl rfl rfl rfl ?_;refine aR rfl rfl rfl rfl rfl rfl ?_;refine aA rfl rfl rfl (bX rfl rfl) ?_;refine aA rfl rfl rfl (aG rfl) ?_;refine aR rfl rfl rfl rfl rfl rfl ?_;refine aR rfl rfl rfl rfl rfl rfl ?_;refine aR rfl rfl rfl rfl rfl rfl ?_;refine aR rfl rfl rfl rfl rfl rfl ?_;refine aR rfl rfl rfl rfl rfl rfl ?_;refine aR rfl rfl rfl rfl rfl rfl ?_;refine aR rfl rfl rfl rfl rfl rfl ?_;refine aA rfl rfl rfl (bX rfl rfl) ?_;refine aJ ?_;refine aL (kh7 _ _ ?_);clear kh7;refine d5 rfl ?_;refine aK fun K8 kh8 => ?_;refine aC ?_;refine aA rfl rfl rfl (aF rfl) ?_;refine aA rfl rfl rfl (aF rfl) ?_;refine aJ ?_;refine aL (kh8 _ _ ?_);clear kh8;refine a7 ?_;refine bS ?_;have e : nsE N l bs (eF R) = (0, 111) := by unfold nsE; rw [if_neg (by rw [hg]; simp), if_pos (by omega)]
   exact bZ [] Tryz.results9 rfl rfl aH ⟨by rw [e], rfl⟩
  ·
   refine aQ rfl rfl rfl rfl rfl (aP fa32_0 rfl) ?_;refine aQ rfl rfl rfl rfl rfl (aM Tryz.isAgg25 rfl (rdA rfl)) ?_;refine aQ rfl rfl rfl rfl rfl (bU bK rfl) ?_;refine aQ rfl rfl rfl rfl rfl (eL rfl rfl) ?_;refine aA rfl rfl rfl (cL rfl rfl) ?_;refine aA rfl rfl rfl (aG rfl) ?_;refine cT 30 rfl (fun g30 => ?_) (fun g30 => ?_)
   ·
    refine aR rfl rfl rfl rfl rfl rfl ?_;refine aR rfl rfl rfl rfl rfl rfl ?_;refine aR rfl rfl rfl rfl rfl rfl ?_;refine aR rfl rfl rfl rfl rfl rfl ?_;refine aR rfl rfl rfl rfl rfl rfl ?_;refine aR rfl rfl rfl rfl rfl rfl ?_;refine aR rfl rfl rfl rfl rfl rfl ?_;refine aA rfl rfl rfl (bX rfl rfl) ?_;refine aJ ?_;refine aL (kh7 _ _ ?_);clear kh7;refine d5 rfl ?_;refine aK fun K9 kh9 => ?_;refine aC ?_;refine aA rfl rfl rfl (aF rfl) ?_;refine aA rfl rfl rfl (aF rfl) ?_;refine aJ ?_;refine aL (kh9 _ _ ?_);clear kh9;refine a7 ?_;refine bS ?_;have e : nsE N l bs (eF R) = (0, 111) := by unfold nsE; rw [if_neg (by rw [hg]; simp), if_pos (by omega)]
    exact bZ [] Tryz.results9 rfl rfl aH ⟨by rw [e], rfl⟩
   ·
    refine aQ rfl rfl rfl rfl rfl (aP iW rfl) ?_;refine aQ rfl rfl rfl rfl rfl (aM Tryz.isAgg30 rfl (rdA rfl)) ?_;refine aQ rfl rfl rfl rfl rfl (bU f8 rfl) ?_;refine aQ rfl rfl rfl rfl rfl (aP fa32_0 rfl) ?_;refine aQ rfl rfl rfl rfl rfl (aM Tryz.isAgg25 rfl (rdA rfl)) ?_;refine aQ rfl rfl rfl rfl rfl (bU bK rfl) ?_;refine aQ rfl rfl rfl rfl rfl (dC rfl rfl) ?_;refine aA rfl rfl rfl (cL rfl rfl) ?_;refine aJ ?_;refine aL (kh7 _ _ ?_);clear kh7;refine a6 rfl (fun c38 => ?_) (fun c38 => ?_)
    ·
     refine aK fun K10 kh10 => ?_;refine aC ?_;refine aA rfl rfl rfl (aF rfl) ?_;refine aA rfl rfl rfl (aF rfl) ?_;refine aJ ?_;refine aL (kh10 _ _ ?_);clear kh10;refine a7 ?_;refine bS ?_;have e : nsE N l bs (eF R) = (0, 111) := by unfold nsE; rw [if_neg (by rw [hg]; simp), if_pos (by omega)]
     exact bZ [] Tryz.results9 rfl rfl aH ⟨by rw [e], rfl⟩
    ·
     have hmm : ¬ (bs.length < 1 ∨ 5 < bs.length ∨ (eF R).length ≠ bs.length) := by omega
     have hRl : R.length = bs.length := by omega
     refine aV ?_;refine aL (kh6 _ _ ?_);clear kh6;refine aK fun K11 kh11 => ?_;refine aC ?_;refine aA rfl rfl rfl (aF rfl) ?_;refine aJ ?_;refine aL (kh11 _ _ ?_);clear kh11;refine aK fun K12 kh12 => ?_;refine aK fun K13 kh13 => ?_;refine aC ?_;refine aA rfl rfl rfl (aP fa32_0 rfl) ?_;refine aA rfl rfl rfl (aM Tryz.isAgg25 rfl (rdA rfl)) ?_;refine aA rfl rfl rfl (bU bK rfl) ?_;refine aA rfl rfl rfl (aG rfl) ?_;refine aJ ?_;refine aL (kh13 _ _ ?_);clear kh13;refine aZ ?_;refine cS (α := Nat) [2, 3, 40, 41] (fun k => [(42, .int .i64 (k : Int)), (8, .int .i64 (jF bs k))]) (fun k => [[(b2, blk [.int .i64 N, .slice A l.length cap] 24)], [(b3, blk [.slice Ab bs.length cb, .slice Ac R.length cc] 32)]]) (fun k => k ≤ bs.length ∧ ∀ j, j < k → lvE N l bs (eF R) j = 0) (fun k => bs.length - k) (0) ?_ ?_ ?_ ?_
     · exact (by repeat constructor)
     · repeat first|exact aH|refine aD ?_|refine aB rfl ?_|refine aI ?_
     · exact ⟨Nat.zero_le _, fun j h => by omega⟩
     ·
      rintro k ⟨hkl, hall⟩;refine aK fun K14 kh14 => ?_;refine aC ?_;refine aA rfl rfl rfl (cE rfl rfl) ?_;refine aJ ?_;refine aL (kh14 _ _ ?_);clear kh14;refine aK fun K15 kh15 => ?_;refine a6 rfl (fun c43 => ?_) (fun c43 => ?_)
      ·
       have hk : k < bs.length := by omega
       have hkR : k < R.length := by omega
       obtain ⟨b1, o1, rfl, hS1, hc1⟩ := hn.b (fun e => by have := aX bs; rw [e] at this; simp at this; omega)
       obtain ⟨b2, o2, rfl, hS2, hc2⟩ := hn.c (map_ne hkR)
       have hlvd : lvE N l bs (eF R) k = if bs[k] ≤ jF bs k ∨ 1024 < bs[k] then 1 else if iJ N l (R[k]'hkR).2.1 bs[k] ≠ 0 then iJ N l (R[k]'hkR).2.1 bs[k] else if 0 < k ∧ ¬ gY ((eF R).getD (k - 1) []) (R[k]'hkR).2.1 then 110 else 0 := by unfold lvE; rw [bs_at hk, kK hkR]
       refine aV ?_;refine aL (kh15 _ _ ?_);clear kh15;refine aK fun K16 kh16 => ?_;refine aZ ?_;refine aK fun K17 kh17 => ?_;refine aC ?_;refine aA rfl rfl rfl (aG rfl) ?_;refine aA rfl rfl rfl (a8 bK rfl rfl (o1 + k) ⟨by omega, by omega, by first | omega | (simp; done) | (simp; omega)⟩) ?_;refine aA rfl rfl rfl (aM Tryz.isAgg3 rfl (eD (enc := (.int .i64 ·)) hS1 hc1 hk)) ?_;refine aA rfl rfl rfl (aF rfl) ?_;refine aA rfl rfl rfl (aF rfl) ?_;refine aJ ?_;refine aL (kh17 _ _ ?_);clear kh17;refine aK fun K18 kh18 => ?_;refine aK fun K19 kh19 => ?_;refine aC ?_;refine aA rfl rfl rfl (aG rfl) ?_;refine aA rfl rfl rfl (aG rfl) ?_;refine aU rfl rfl rfl (bE Tryz.call22 rfl (fun w_ hp_ => nbounded_spec bs[k] (jF bs k) w_) ?_);rintro _ _ ⟨rfl, rfl⟩;dsimp only [List.cons_append, List.nil_append];refine aA rfl rfl rfl (kR rfl) ?_;refine aJ ?_;refine aL (kh19 _ _ ?_);clear kh19;refine e9 rfl (fun c50 => ?_) (fun c50 => ?_)
       ·
        have hbd : bs[k] ≤ jF bs k ∨ 1024 < bs[k] := by simp at c50; omega
        refine aK fun K20 kh20 => ?_;refine aC ?_;refine aA rfl rfl rfl (aG rfl) ?_;refine aA rfl rfl rfl (bF rfl rfl _ (aT (by omega))) ?_;refine aA rfl rfl rfl (aF rfl) ?_;refine aA rfl rfl rfl (aF rfl) ?_;refine aJ ?_;refine aL (kh20 _ _ ?_);clear kh20;refine a7 ?_;refine bS ?_;refine d3 ?_;refine bS ?_;refine bS ?_;refine d3 ?_;refine bS ?_;have e := nsE_at hg hmm hk hall (by rw [hlvd, if_pos hbd]; decide)
        exact bZ [] Tryz.results9 rfl rfl aH ⟨by rw [e, hlvd, if_pos hbd], rfl⟩
       ·
        have hbd : ¬ (bs[k] ≤ jF bs k ∨ 1024 < bs[k]) := by simp at c50; omega
        rw [if_neg hbd] at hlvd;refine aV ?_;refine aL (kh18 _ _ ?_);clear kh18;refine aK fun K21 kh21 => ?_;refine aC ?_;refine aA rfl rfl rfl (aG rfl) ?_;refine aA rfl rfl rfl (aF rfl) ?_;refine aJ ?_;refine aL (kh21 _ _ ?_);clear kh21;refine aK fun K22 kh22 => ?_;refine aK fun K23 kh23 => ?_;refine gQ 7 rfl (by decide +kernel) ?_;refine aN rfl rfl rfl (bD (vs := [_, _]) Tryz.isAgg24 Tryz.sizeOf24 rfl rfl ⟨(rdA rfl), (rdA rfl), trivial⟩) ?_;refine aN rfl rfl rfl (aP iW rfl) ?_;refine aN rfl rfl rfl (aM Tryz.isAgg30 rfl (rdA rfl)) ?_;refine aN rfl rfl rfl (aG rfl) ?_;refine aN rfl rfl rfl (a8 f8 rfl rfl (o2 + k) ⟨by omega, by omega, by first | omega | (simp; done) | (simp; omega)⟩) ?_;refine aN rfl rfl rfl (aM Tryz.isAgg25 rfl (eD (enc := rowV) hS2 hc2 hkR)) ?_;refine aN rfl rfl rfl (aG rfl) ?_;refine d7 (kB ?_);refine aU rfl rfl rfl (bE Tryz.call23 rfl (fun w_ hp_ => first_spec N A l cap (R[k]'hkR).1 (R[k]'hkR).2.1 (R[k]'hkR).2.2 bs[k] w_ (hr.up0 hp_) hl hN hok ((hn.rows _ (List.getElem_mem hkR)).1.up0 hp_) (hn.rows _ (List.getElem_mem hkR)).2 hg) ?_);rintro _ _ ⟨rfl, rfl⟩;dsimp only [List.cons_append, List.nil_append];refine aA rfl rfl rfl (aF rfl) ?_;refine aJ ?_;refine aL (kh23 _ _ ?_);clear kh23;refine aK fun K24 kh24 => ?_;refine aC ?_;refine aA rfl rfl rfl (aG rfl) ?_;refine aA rfl rfl rfl (dC rfl rfl) ?_;refine aJ ?_;refine aL (kh24 _ _ ?_);clear kh24;refine a6 rfl (fun c63 => ?_) (fun c63 => ?_)
        ·
         have hfe : iJ N l (R[k]'hkR).2.1 bs[k] ≠ 0 := by simpa using c63
         rw [if_pos hfe] at hlvd;refine aK fun K25 kh25 => ?_;refine aC ?_;refine aA rfl rfl rfl (aG rfl) ?_;refine aA rfl rfl rfl (bF rfl rfl _ (aT (by omega))) ?_;refine aA rfl rfl rfl (aG rfl) ?_;refine aA rfl rfl rfl (aF rfl) ?_;refine aA rfl rfl rfl (aF rfl) ?_;refine aJ ?_;refine aL (kh25 _ _ ?_);clear kh25;refine a7 ?_;refine bS ?_;refine d3 ?_;refine bS ?_;refine bS ?_;refine d3 ?_;refine bS ?_;have e := nsE_at hg hmm hk hall (by rw [hlvd]; exact hfe)
         exact bZ [] Tryz.results9 rfl rfl aH ⟨by rw [e, hlvd], rfl⟩
        ·
         have hfe : iJ N l (R[k]'hkR).2.1 bs[k] = 0 := by simpa using c63
         rw [if_neg (by rw [hfe]; simp)] at hlvd;refine aV ?_;refine aL (kh22 _ _ ?_);clear kh22;refine aK fun K26 kh26 => ?_;refine gQ 14 rfl (by decide +kernel) ?_;refine aN rfl rfl rfl (aG rfl) ?_;refine aN rfl rfl rfl (eL rfl rfl) ?_;refine aN rfl rfl rfl (aG rfl) ?_;refine f_splitS 69 rfl (fun g69 => ?_) (fun g69 => ?_)
         ·
          have hk0 : 0 < k := by omega
          have hkR1 : k - 1 < R.length := by omega
          obtain ⟨n, rfl⟩ : ∃ n : Nat, N = (n : Int) := ⟨N.toNat, by omega⟩
          have hlen2 : (R[k]'hkR).2.1.length = n := by
            unfold iJ at hfe
            by_cases h1 : (d4 (n : Int) l (R[k]'hkR).2.1).2 = 0
            · exact (cX (lc_right hg h1)).2
            · rw [if_pos h1] at hfe; exact absurd hfe h1
          have hlen1 : (R[k - 1]'hkR1).2.1.length = n := by
            have h2 := ((kW hg).1 (hall (k - 1) (by omega))).2.1
            rw [kK hkR1] at h2;exact (cX h2).2
          refine dM rfl rfl rfl rfl rfl (aP iW rfl) ?_;refine dM rfl rfl rfl rfl rfl (aM Tryz.isAgg30 rfl (rdA rfl)) ?_;refine dM rfl rfl rfl rfl rfl (aG rfl) ?_;refine dM rfl rfl rfl rfl rfl (gW rfl rfl _ (Eq.trans (aT (by omega)) (show _ = ((k - 1 : Nat) : Int) by omega))) ?_;refine dM rfl rfl rfl rfl rfl (a8 f8 rfl rfl (o2 + (k - 1)) ⟨by omega, by omega, by first | omega | (simp; done) | (simp; omega)⟩) ?_;refine dM rfl rfl rfl rfl rfl (aM Tryz.isAgg25 rfl (eD (enc := rowV) hS2 hc2 hkR1)) ?_;refine dM rfl rfl rfl rfl rfl (aP iW rfl) ?_;refine dM rfl rfl rfl rfl rfl (aM Tryz.isAgg30 rfl (rdA rfl)) ?_;refine dM rfl rfl rfl rfl rfl (aG rfl) ?_;refine dM rfl rfl rfl rfl rfl (a8 f8 rfl rfl (o2 + k) ⟨by omega, by omega, by first | omega | (simp; done) | (simp; omega)⟩) ?_;refine dM rfl rfl rfl rfl rfl (aM Tryz.isAgg25 rfl (eD (enc := rowV) hS2 hc2 hkR)) ?_;refine d7 (kB ?_);refine lQ rfl rfl rfl rfl rfl (bE Tryz.call24 rfl (fun w_ hp_ => within_spec (R[k - 1]'hkR1).1 (R[k]'hkR).1 (R[k - 1]'hkR1).2.1 (R[k]'hkR).2.1 (R[k - 1]'hkR1).2.2 (R[k]'hkR).2.2 (R[k]'hkR).2.1.length w_ ((hn.rows _ (List.getElem_mem hkR1)).1.up0 hp_) ((hn.rows _ (List.getElem_mem hkR)).1.up0 hp_) rfl (by omega) (by omega)) ?_);rintro _ _ ⟨rfl, rfl⟩;dsimp only [List.cons_append, List.nil_append];refine aQ rfl rfl rfl rfl rfl (kR rfl) ?_;refine aA rfl rfl rfl (bX rfl rfl) ?_;refine aJ ?_;refine aL (kh26 _ _ ?_);clear kh26;refine e9 rfl (fun c83 => ?_) (fun c83 => ?_)
          ·
           have hnw : ¬ gY (R[k - 1]'hkR1).2.1 (R[k]'hkR).2.1 := by simpa using c83
           rw [if_pos ⟨hk0, by rw [kK hkR1]; exact hnw⟩] at hlvd;refine aK fun K27 kh27 => ?_;refine aC ?_;refine aA rfl rfl rfl (aG rfl) ?_;refine aA rfl rfl rfl (bF rfl rfl _ (aT (by omega))) ?_;refine aA rfl rfl rfl (aF rfl) ?_;refine aA rfl rfl rfl (aF rfl) ?_;refine aJ ?_;refine aL (kh27 _ _ ?_);clear kh27;refine a7 ?_;refine d3 ?_;refine bS ?_;refine bS ?_;refine d3 ?_;refine bS ?_;have e := nsE_at hg hmm hk hall (by rw [hlvd]; decide)
           exact bZ [] Tryz.results9 rfl rfl aH ⟨by rw [e, hlvd], rfl⟩
          ·
           have hyw : gY (R[k - 1]'hkR1).2.1 (R[k]'hkR).2.1 := by simpa using c83
           rw [if_neg (fun h => h.2 (by rw [kK hkR1]; exact hyw))] at hlvd;refine aV ?_;refine cU ?_;refine aL (kh16 _ _ ?_);clear kh16;refine aC ?_;refine aA rfl rfl rfl (bF rfl rfl _ (aT (by omega))) ?_;refine aA rfl rfl rfl (aG rfl) ?_;refine aJ ?_;refine f_reQ 8 rfl (v := .int .i64 (jF bs (k + 1))) (by show _ = Value.int .i64 (bs.getD k 0); rw [bs_at hk]) ?_
           refine aL (bA (k + 1) (by first | omega | (dsimp only; omega) | (simp; omega)) ⟨by omega, fun j hj => by
             by_cases e : j = k
             · subst e; rw [hlvd]
             · exact hall j (by omega)⟩ ?_ ?_ ?_)
           · exact (by repeat constructor)
           · exact (by repeat constructor)
           · repeat first|exact aH|refine aD ?_|refine aB rfl ?_|refine aI ?_
         ·
          rw [if_neg (fun h => by omega)] at hlvd;refine d6 rfl rfl rfl rfl rfl rfl ?_;refine d6 rfl rfl rfl rfl rfl rfl ?_;refine d6 rfl rfl rfl rfl rfl rfl ?_;refine d6 rfl rfl rfl rfl rfl rfl ?_;refine d6 rfl rfl rfl rfl rfl rfl ?_;refine d6 rfl rfl rfl rfl rfl rfl ?_;refine d6 rfl rfl rfl rfl rfl rfl ?_;refine d6 rfl rfl rfl rfl rfl rfl ?_;refine d6 rfl rfl rfl rfl rfl rfl ?_;refine d6 rfl rfl rfl rfl rfl rfl ?_;refine d6 rfl rfl rfl rfl rfl rfl ?_;refine d7 (kB ?_);refine aR rfl rfl rfl rfl rfl rfl ?_;refine aR rfl rfl rfl rfl rfl rfl ?_;refine aA rfl rfl rfl (cL rfl rfl) ?_;refine aJ ?_;refine aL (kh26 _ _ ?_);clear kh26;refine gZ rfl ?_;refine aV ?_;refine cU ?_;refine aL (kh16 _ _ ?_);clear kh16;refine aC ?_;refine aA rfl rfl rfl (bF rfl rfl _ (aT (by omega))) ?_;refine aA rfl rfl rfl (aG rfl) ?_;refine aJ ?_;refine f_reQ 8 rfl (v := .int .i64 (jF bs (k + 1))) (by show _ = Value.int .i64 (bs.getD k 0); rw [bs_at hk]) ?_
          refine aL (bA (k + 1) (by first | omega | (dsimp only; omega) | (simp; omega)) ⟨by omega, fun j hj => by
            by_cases e : j = k
            · subst e; rw [hlvd]
            · exact hall j (by omega)⟩ ?_ ?_ ?_)
          · exact (by repeat constructor)
          · exact (by repeat constructor)
          · repeat first|exact aH|refine aD ?_|refine aB rfl ?_|refine aI ?_
      ·
       refine cG ?_;refine cH ?_;clear kh15;refine cH ?_;refine eB ?_;refine aL (kh12 _ _ ?_);clear kh12;refine aK fun K28 kh28 => ?_;refine aC ?_;refine aA rfl rfl rfl (aF rfl) ?_;refine aA rfl rfl rfl (aF rfl) ?_;refine aJ ?_;refine aL (kh28 _ _ ?_);clear kh28;refine a7 ?_;have e := nsE_none hg hmm (fun j hj => hall j (by omega))
       exact bZ [] Tryz.results9 rfl rfl aH ⟨by rw [e], rfl⟩
end Go.Proofs.YtjjogcnjcnpehaaGreat

/- A field of a struct that is a value. -/
namespace Go.Proofs.YtjjogcnjcnpehaaGreat.Fly
open Go Go.RowKit
set_option linter.unusedVariables false
set_option linter.unusedSectionVars false
section
variable {P : Program} {n : Nat} {S : Nat → Prop} {w0 : World} {env : Env} {segs : List Seg} {d : Option Tmp} {ty : TypeId} {pos : String} {af : Array Edge} {g : Option (Nat × Bool)}
end
end Go.Proofs.YtjjogcnjcnpehaaGreat.Fly

/- package nest: many, Many, cellOf, members, Members, Children, Parent, Apart. -/
namespace Go.Proofs.YtjjogcnjcnpehaaGreat
open Go Go.RowKit Fly
set_option linter.unusedVariables false
set_option linter.unusedSimpArgs false
def apE (N : Int) (l : List Arc) (bs : List Int) (L : List (List Int)) (u v : Int) : Int := if (nsE N l bs L).2 ≠ 0 then (nsE N l bs L).2 else if u < 0 ∨ N ≤ u ∨ v < 0 ∨ N ≤ v then 5 else 0
/-- The greatest of the first levels at which two vertices are f5. -/
def apV (L : List (List Int)) (u v : Nat) : Nat → Nat
  | 0 => 0
  | k + 1 => if (L.getD k []).getD u 0 ≠ (L.getD k []).getD v 0 then k + 1 else apV L u v k
set_option maxRecDepth 100000 in
set_option maxHeartbeats 4000000 in
theorem NApart_spec (N : Int) (A : Option Addr) (l : List Arc) (cap : Nat) (Ab : Option Addr) (bs : List Int) (cb : Nat) (Ac : Option Addr) (R : List Row) (cc : Nat) (u v : Int) (w : World) (hr : Ro (Fr w []) w A (l.flatMap cD)) (hl : l.length ≤ 9223372036854775807) (hN : I64 N) (hok : ∀ x ∈ l, dV x) (hn : NestRo (Fr w []) w Ab bs Ac R) :
    Meets Tryz.prog 11 [.agg #[.int .i64 N, .slice A l.length cap], .agg #[.slice Ab bs.length cb, .slice Ac R.length cc], .int .i64 u, .int .i64 v] w [] (fun x m => x = .tuple #[.int .i64 (if apE N l bs (eF R) u v ≠ 0 then 0 else (apV (eF R) u.toNat v.toNat bs.length : Int)), .int .i64 (apE N l bs (eF R) u v)] ∧ m = []) := by
 refine bM Tryz.func11 rfl Tryz.ntmps11 rfl Owns.nil ?_;refine aK fun K1 kh1 => ?_;refine aC ?_;refine aU rfl rfl rfl (dA rfl rfl fun b4 => ?_);refine aU rfl rfl rfl (dA rfl rfl fun b5 => ?_);refine aA rfl rfl rfl (aF rfl) ?_;refine aA rfl rfl rfl (aF rfl) ?_;refine aJ ?_;refine aL (kh1 _ _ ?_);clear kh1;refine aK fun K2 kh2 => ?_;refine aK fun K3 kh3 => ?_;refine aC ?_;refine aA rfl rfl rfl (bD (vs := [_, _]) Tryz.isAgg24 Tryz.sizeOf24 rfl rfl ⟨(rdA rfl), (rdA rfl), trivial⟩) ?_;refine aA rfl rfl rfl (bD (vs := [_, _]) Tryz.isAgg32 Tryz.sizeOf32 rfl rfl ⟨(rdA rfl), (rdA rfl), trivial⟩) ?_;refine aU rfl rfl rfl (bE Tryz.call9 rfl (fun w_ hp_ => NCheck_spec N A l cap Ab bs cb Ac R cc w_ (hr.up0 hp_) hl hN hok (hn.up0 hp_)) ?_);rintro _ _ ⟨rfl, rfl⟩;dsimp only [List.cons_append, List.nil_append];refine aA rfl rfl rfl (aG rfl) ?_;refine aA rfl rfl rfl (aW rfl rfl) ?_;refine aA rfl rfl rfl (aW rfl rfl) ?_;refine aA rfl rfl rfl (aF rfl) ?_;refine aA rfl rfl rfl (aF rfl) ?_;refine aJ ?_;refine aL (kh3 _ _ ?_);clear kh3;refine aK fun K4 kh4 => ?_;refine aC ?_;refine aA rfl rfl rfl (aG rfl) ?_;refine aA rfl rfl rfl (dC rfl rfl) ?_;refine aJ ?_;refine aL (kh4 _ _ ?_);clear kh4;refine a6 rfl (fun c20 => ?_) (fun c20 => ?_)
 ·
  refine aK fun K5 kh5 => ?_;refine aC ?_;refine aA rfl rfl rfl (aG rfl) ?_;refine aA rfl rfl rfl (aF rfl) ?_;refine aA rfl rfl rfl (aF rfl) ?_;refine aJ ?_;refine aL (kh5 _ _ ?_);clear kh5;refine a7 ?_;refine bS ?_;have e : apE N l bs (eF R) u v = (nsE N l bs (eF R)).2 := by unfold apE; rw [if_pos (by simpa using c20)]
  exact bZ [] Tryz.results11 rfl rfl aH ⟨by rw [if_pos (by rw [e]; simpa using c20), e], rfl⟩
 ·
  refine aV ?_;refine aL (kh2 _ _ ?_);clear kh2;refine aK fun K6 kh6 => ?_;refine aK fun K7 kh7 => ?_;refine aC ?_;refine aA rfl rfl rfl (aG rfl) ?_;refine aA rfl rfl rfl (cE rfl rfl) ?_;refine aA rfl rfl rfl (aG rfl) ?_;refine cT 24 rfl (fun g24 => ?_) (fun g24 => ?_)
  ·
   refine aR rfl rfl rfl rfl rfl rfl ?_;refine aR rfl rfl rfl rfl rfl rfl ?_;refine aR rfl rfl rfl rfl rfl rfl ?_;refine aR rfl rfl rfl rfl rfl rfl ?_;refine aA rfl rfl rfl (bX rfl rfl) ?_;refine aA rfl rfl rfl (aG rfl) ?_;refine aR rfl rfl rfl rfl rfl rfl ?_;refine aR rfl rfl rfl rfl rfl rfl ?_;refine aA rfl rfl rfl (bX rfl rfl) ?_;refine aA rfl rfl rfl (aG rfl) ?_;refine aR rfl rfl rfl rfl rfl rfl ?_;refine aR rfl rfl rfl rfl rfl rfl ?_;refine aR rfl rfl rfl rfl rfl rfl ?_;refine aR rfl rfl rfl rfl rfl rfl ?_;refine aA rfl rfl rfl (bX rfl rfl) ?_;refine aJ ?_;refine aL (kh7 _ _ ?_);clear kh7;refine d5 rfl ?_;refine aK fun K8 kh8 => ?_;refine aC ?_;refine aA rfl rfl rfl (aF rfl) ?_;refine aA rfl rfl rfl (aF rfl) ?_;refine aJ ?_;refine aL (kh8 _ _ ?_);clear kh8;refine a7 ?_;refine bS ?_;have e : apE N l bs (eF R) u v = 5 := by unfold apE; rw [if_neg (by simpa using c20), if_pos (by omega)]
   exact bZ [] Tryz.results11 rfl rfl aH ⟨by rw [e]; rfl, rfl⟩
  ·
   refine aQ rfl rfl rfl rfl rfl (aG rfl) ?_;refine aQ rfl rfl rfl rfl rfl (aP d9 rfl) ?_;refine aQ rfl rfl rfl rfl rfl (aM Tryz.isAgg3 rfl (rdA rfl)) ?_;refine aQ rfl rfl rfl rfl rfl (iB rfl rfl) ?_;refine aA rfl rfl rfl (cL rfl rfl) ?_;refine aA rfl rfl rfl (aG rfl) ?_;refine cT 30 rfl (fun g30 => ?_) (fun g30 => ?_)
   ·
    refine aR rfl rfl rfl rfl rfl rfl ?_;refine aR rfl rfl rfl rfl rfl rfl ?_;refine aA rfl rfl rfl (bX rfl rfl) ?_;refine aA rfl rfl rfl (aG rfl) ?_;refine aR rfl rfl rfl rfl rfl rfl ?_;refine aR rfl rfl rfl rfl rfl rfl ?_;refine aR rfl rfl rfl rfl rfl rfl ?_;refine aR rfl rfl rfl rfl rfl rfl ?_;refine aA rfl rfl rfl (bX rfl rfl) ?_;refine aJ ?_;refine aL (kh7 _ _ ?_);clear kh7;refine d5 rfl ?_;refine aK fun K9 kh9 => ?_;refine aC ?_;refine aA rfl rfl rfl (aF rfl) ?_;refine aA rfl rfl rfl (aF rfl) ?_;refine aJ ?_;refine aL (kh9 _ _ ?_);clear kh9;refine a7 ?_;refine bS ?_;have e : apE N l bs (eF R) u v = 5 := by unfold apE; rw [if_neg (by simpa using c20), if_pos (by omega)]
    exact bZ [] Tryz.results11 rfl rfl aH ⟨by rw [e]; rfl, rfl⟩
   ·
    refine aQ rfl rfl rfl rfl rfl (aG rfl) ?_;refine aQ rfl rfl rfl rfl rfl (cE rfl rfl) ?_;refine aA rfl rfl rfl (cL rfl rfl) ?_;refine aA rfl rfl rfl (aG rfl) ?_;refine cT 34 rfl (fun g34 => ?_) (fun g34 => ?_)
    ·
     refine aR rfl rfl rfl rfl rfl rfl ?_;refine aR rfl rfl rfl rfl rfl rfl ?_;refine aR rfl rfl rfl rfl rfl rfl ?_;refine aR rfl rfl rfl rfl rfl rfl ?_;refine aA rfl rfl rfl (bX rfl rfl) ?_;refine aJ ?_;refine aL (kh7 _ _ ?_);clear kh7;refine d5 rfl ?_;refine aK fun K10 kh10 => ?_;refine aC ?_;refine aA rfl rfl rfl (aF rfl) ?_;refine aA rfl rfl rfl (aF rfl) ?_;refine aJ ?_;refine aL (kh10 _ _ ?_);clear kh10;refine a7 ?_;refine bS ?_;have e : apE N l bs (eF R) u v = 5 := by unfold apE; rw [if_neg (by simpa using c20), if_pos (by omega)]
     exact bZ [] Tryz.results11 rfl rfl aH ⟨by rw [e]; rfl, rfl⟩
    ·
     refine aQ rfl rfl rfl rfl rfl (aG rfl) ?_;refine aQ rfl rfl rfl rfl rfl (aP d9 rfl) ?_;refine aQ rfl rfl rfl rfl rfl (aM Tryz.isAgg3 rfl (rdA rfl)) ?_;refine aQ rfl rfl rfl rfl rfl (iB rfl rfl) ?_;refine aA rfl rfl rfl (cL rfl rfl) ?_;refine aJ ?_;refine aL (kh7 _ _ ?_);clear kh7;refine a6 rfl (fun c39 => ?_) (fun c39 => ?_)
     ·
      refine aK fun K11 kh11 => ?_;refine aC ?_;refine aA rfl rfl rfl (aF rfl) ?_;refine aA rfl rfl rfl (aF rfl) ?_;refine aJ ?_;refine aL (kh11 _ _ ?_);clear kh11;refine a7 ?_;refine bS ?_;have e : apE N l bs (eF R) u v = 5 := by unfold apE; rw [if_neg (by simpa using c20), if_pos (by omega)]
      exact bZ [] Tryz.results11 rfl rfl aH ⟨by rw [e]; rfl, rfl⟩
     ·
      have hz : (nsE N l bs (eF R)).2 = 0 := by simpa using c20
      obtain ⟨n, hNn, hNo⟩ := nsE_zero hz
      have hmany := hNo.many
      have hRl := hNo.len
      rw [jG] at hRl;have hap : apE N l bs (eF R) u v = 0 := by unfold apE; rw [if_neg (by rw [hz]; simp), if_neg (by omega)]
      obtain ⟨a, rfl⟩ : ∃ a : Nat, u = (a : Int) := ⟨u.toNat, by omega⟩
      obtain ⟨b, rfl⟩ : ∃ b : Nat, v = (b : Int) := ⟨v.toNat, by omega⟩
      refine aV ?_;refine aL (kh6 _ _ ?_);clear kh6;refine aK fun K12 kh12 => ?_;refine aK fun K13 kh13 => ?_;refine aC ?_;refine aA rfl rfl rfl (aP iW rfl) ?_;refine aA rfl rfl rfl (aM Tryz.isAgg30 rfl (rdA rfl)) ?_;refine aA rfl rfl rfl (bU f8 rfl) ?_;refine aA rfl rfl rfl (aF rfl) ?_;refine aJ ?_;refine aL (kh13 _ _ ?_);clear kh13;refine aZ ?_;refine cS (α := Nat) [2, 3, 5] (fun j => [(12, .int .i64 (j : Int))]) (fun j => [[(b5, blk [.slice Ab bs.length cb, .slice Ac R.length cc] 32)]]) (fun j => j ≤ R.length ∧ apV (eF R) a b bs.length = apV (eF R) a b j) (fun j => j) (R.length) ?_ ?_ ?_ ?_
      · exact (by repeat constructor)
      · repeat first|exact aH|refine aD ?_|refine aB rfl ?_|refine aI ?_
      · exact ⟨Nat.le_refl _, by rw [hRl]⟩
      ·
       rintro j ⟨hjl, hj⟩;refine aK fun K14 kh14 => ?_;refine aK fun K15 kh15 => ?_;refine aC ?_;refine aA rfl rfl rfl (aG rfl) ?_;refine aA rfl rfl rfl (eL rfl rfl) ?_;refine aJ ?_;refine aL (kh15 _ _ ?_);clear kh15;refine a6 rfl (fun c44 => ?_) (fun c44 => ?_)
       ·
        obtain ⟨k, rfl⟩ : ∃ k, j = k + 1 := ⟨j - 1, by omega⟩
        have hk : k < R.length := by omega
        have hrk := hn.rows _ (List.getElem_mem hk)
        have hRk := hNo.right (k := k) (by omega)
        rw [kK hk] at hRk;have hkl := (cX hRk).2
        obtain ⟨b2, o2, hA2, hS2, hc2⟩ := hn.c (map_ne hk)
        obtain ⟨bl, ol, hAl, hSl, hcl⟩ := hrk.1 (fun e => by have := aX (R[k]'hk).2.1; rw [e] at this; simp at this; omega)
        have ha2 : a < (R[k]'hk).2.1.length := by omega
        have hb2 : b < (R[k]'hk).2.1.length := by omega
        have hax : apV (eF R) a b (k + 1) = if (R[k]'hk).2.1[a] ≠ (R[k]'hk).2.1[b] then k + 1 else apV (eF R) a b k := by
          show (if _ ≠ _ then _ else _) = _
          rw [kK hk]; simp [List.getD_eq_getElem?_getD, ha2, hb2]
        refine aV ?_;refine aL (kh14 _ _ ?_);clear kh14;refine aK fun K16 kh16 => ?_;refine aZ ?_;refine aK fun K17 kh17 => ?_;refine fS rfl (by decide +kernel) ?_;refine aN rfl rfl rfl (aP iW rfl) ?_;refine aN rfl rfl rfl (aM Tryz.isAgg30 rfl (v := .slice (some ⟨b2, o2, none⟩) R.length cc) (rdA (by rw [← hA2]; rfl))) ?_;refine aN rfl rfl rfl (aG rfl) ?_;refine aN rfl rfl rfl (gW rfl rfl _ (Eq.trans (aT (by omega)) (show _ = (k : Int) by omega))) ?_;refine aN rfl rfl rfl (a8 f8 rfl rfl (o2 + k) ⟨by omega, by omega, by first | omega | (simp; done) | (simp; omega)⟩) ?_;refine aN rfl rfl rfl (aM Tryz.isAgg25 rfl (v := .slice (some ⟨bl, ol, none⟩) (R[k]'hk).2.1.length (R[k]'hk).2.2) (show Rd _ _ _ _ _ (Value.slice (some ⟨bl, ol, none⟩) (R[k]'hk).2.1.length (R[k]'hk).2.2) by rw [← hAl]; exact eD (enc := rowV) hS2 hc2 hk)) ?_;refine aN rfl rfl rfl (aG rfl) ?_;refine aN rfl rfl rfl (a8 bK rfl rfl (ol + a) ⟨by omega, by omega, by first | omega | (simp; done) | (simp; omega)⟩) ?_;refine aN rfl rfl rfl (aM Tryz.isAgg3 rfl (eD (enc := (.int .i64 ·)) hSl hcl ha2)) ?_;refine aN rfl rfl rfl (aP iW rfl) ?_;refine aN rfl rfl rfl (aM Tryz.isAgg30 rfl (v := .slice (some ⟨b2, o2, none⟩) R.length cc) (rdA (by rw [← hA2]; rfl))) ?_;refine aN rfl rfl rfl (aG rfl) ?_;refine aN rfl rfl rfl (gW rfl rfl _ (Eq.trans (aT (by omega)) (show _ = (k : Int) by omega))) ?_;refine aN rfl rfl rfl (a8 f8 rfl rfl (o2 + k) ⟨by omega, by omega, by first | omega | (simp; done) | (simp; omega)⟩) ?_;refine aN rfl rfl rfl (aM Tryz.isAgg25 rfl (v := .slice (some ⟨bl, ol, none⟩) (R[k]'hk).2.1.length (R[k]'hk).2.2) (show Rd _ _ _ _ _ (Value.slice (some ⟨bl, ol, none⟩) (R[k]'hk).2.1.length (R[k]'hk).2.2) by rw [← hAl]; exact eD (enc := rowV) hS2 hc2 hk)) ?_;refine aN rfl rfl rfl (aG rfl) ?_;refine aN rfl rfl rfl (a8 bK rfl rfl (ol + b) ⟨by omega, by omega, by first | omega | (simp; done) | (simp; omega)⟩) ?_;refine aN rfl rfl rfl (aM Tryz.isAgg3 rfl (eD (enc := (.int .i64 ·)) hSl hcl hb2)) ?_;refine aN rfl rfl rfl (dC rfl rfl) ?_;refine d7 ?_;refine aL (kh17 _ _ ?_);clear kh17;refine a6 rfl (fun c65 => ?_) (fun c65 => ?_)
        · refine aK fun K18 kh18 => ?_;refine aC ?_;refine aA rfl rfl rfl (aG rfl) ?_;refine aA rfl rfl rfl (aF rfl) ?_;refine aA rfl rfl rfl (aF rfl) ?_;refine aJ ?_;refine aL (kh18 _ _ ?_);clear kh18;refine a7 ?_;refine d3 ?_;refine bS ?_;refine bS ?_;refine d3 ?_;refine bS ?_;exact bZ [] Tryz.results11 rfl rfl aH ⟨by rw [hap, if_neg (by simp), Int.toNat_natCast, Int.toNat_natCast, hj, hax, if_pos (by omega)], rfl⟩
        ·
         refine aV ?_;refine cU ?_;refine aL (kh16 _ _ ?_);clear kh16;refine aC ?_;refine aA rfl rfl rfl (aG rfl) ?_;refine aA rfl rfl rfl (gW rfl rfl _ (Eq.trans (aT (by omega)) (show _ = (k : Int) by omega))) ?_;refine aA rfl rfl rfl (aF rfl) ?_;refine aJ ?_;refine aL (bA (k) (by first | omega | (dsimp only; omega) | (simp; omega)) ⟨by omega, by rw [hj, hax, if_neg (by omega)]⟩ ?_ ?_ ?_)
         · exact (by repeat constructor)
         · exact (by repeat constructor)
         · repeat first|exact aH|refine aD ?_|refine aB rfl ?_|refine aI ?_
       ·
        refine cG ?_;refine cH ?_;clear kh14;refine cH ?_;refine eB ?_;refine aL (kh12 _ _ ?_);clear kh12;refine aK fun K19 kh19 => ?_;refine aC ?_;refine aA rfl rfl rfl (aF rfl) ?_;refine aA rfl rfl rfl (aF rfl) ?_;refine aJ ?_;refine aL (kh19 _ _ ?_);clear kh19;refine a7 ?_;obtain rfl : j = 0 := by omega
        exact bZ [] Tryz.results11 rfl rfl aH ⟨by rw [hap, if_neg (by simp), Int.toNat_natCast, Int.toNat_natCast, hj]; rfl, rfl⟩
end Go.Proofs.YtjjogcnjcnpehaaGreat
