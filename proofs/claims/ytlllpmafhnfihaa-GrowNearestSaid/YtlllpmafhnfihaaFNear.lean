/- The search of package near: its lists, its beginning, its steps. -/
import Derived.Test.YtlllpmafhnfihaaFArith
import Derived.Test.YtlllpmafhnfihaaFHeap3
import Derived.Test.YtlllpmafhnfihaaFGraph
namespace Go.Proofs.Ytlllpmafhnfihaa
open Go Go.RowKit Fly
set_option linter.unusedVariables false
set_option linter.unusedSimpArgs false


abbrev scells (n : Nat) (A : Option Addr) (len cap : Nat) (back : Bool) (bo bd bb : Nat) (h : Value) : List Value := [.int .i64 (n : Int), .slice A len cap, .bool back, .slice (some ⟨bo, 0, none⟩) n n, .slice (some ⟨bd, 0, none⟩) n n, .slice (some ⟨bb, 0, none⟩) n n, h]
abbrev ssegs (bx bo bd bb bH n : Nat) (A : Option Addr) (len cap : Nat) (back : Bool) (vs : List Value) (G : Seg) (d by_ : List Int) (hm : Seg) : List Seg :=
  [[(bx, blk (scells n A len cap back bo bd bb (.pointer (some ⟨bH, 0, none⟩))) 80)], [(bo, blk vs 28)], G, [(bd, blk (u64s d) 49)], [(bb, blk (ints by_) 3)], hm]
/-- A search in memory. -/
def SRep (n : Nat) (A : Option Addr) (l : List Arc) (cap : Nat) (back : Bool) (bx bd : Nat) (d by_ : List Int) (T : List (Option Int)) (m : Seg) : Prop :=
  ∃ bo bb bH vs ms hm, m.Perm (ssegs bx bo bd bb bH n A l.length cap back vs ms.flatten d by_ hm).flatten ∧ RowsI 3 (rowsOf n (l.map (trn back))) vs ms ∧ HRep T bH hm
structure GOk (n : Nat) (l : List Arc) : Prop where
  n1 : 1 ≤ n ∧ n ≤ 1024
  len : l.length ≤ 8192
  good : ∀ k (hk : k < l.length), 0 ≤ l[k].src ∧ l[k].src < (n : Int) ∧ 0 ≤ l[k].dst ∧ l[k].dst < (n : Int)
  ok : ∀ x ∈ l, ArcOk x
theorem trn_get {back : Bool} {l : List Arc} {i : Nat} (h : i < (l.map (trn back)).length) (h' : i < l.length) : (l.map (trn back))[i] = trn back l[i] := List.getElem_map _
theorem trn_wt (back : Bool) (x : Arc) : (trn back x).wt = x.wt := by cases back <;> rfl
theorem GOk.src {n : Nat} {l : List Arc} (h : GOk n l) (back : Bool) : ∀ i (hi : i < (l.map (trn back)).length), (l.map (trn back))[i].src.toNat < n := fun i hi => by
  have hi' : i < l.length := by simpa using hi
  rw [trn_get hi hi']
  have := h.good i hi'
  cases back <;> simp [trn] <;> omega
theorem GOk.dst {n : Nat} {l : List Arc} (h : GOk n l) (back : Bool) : ∀ i (hi : i < (l.map (trn back)).length), (l.map (trn back))[i].dst.toNat < n := fun i hi => by
  have hi' : i < l.length := by simpa using hi
  rw [trn_get hi hi']
  have := h.good i hi'
  cases back <;> simp [trn] <;> omega
theorem GOk.wt {n : Nat} {l : List Arc} (h : GOk n l) (back : Bool) : ∀ x ∈ l.map (trn back), 0 ≤ x.wt := fun x hx => by
  obtain ⟨y, hy, rfl⟩ := List.mem_map.1 hx
  rw [trn_wt]; exact (h.ok y hy).wt.1
theorem ints_len1 {E : TypeId} {v : Value} {l : List Int} {x : Int} {m : Seg} : Own E 1 v (l.length + 1) (ints l ++ [.int .i64 x]) m = Own E 1 v (l ++ [x]).length (ints (l ++ [x])) m := by rw [ints_append, List.length_append]; rfl

set_option maxRecDepth 100000 in
set_option maxHeartbeats 4000000 in
theorem outs_spec (n : Nat) (A : Option Addr) (l : List Arc) (cap : Nat) (back : Bool) (w : World) (hr : Ro (Fr w []) w A (l.flatMap arcCs)) (hg : GOk n l) :
    Meets Try.prog 48 [.agg #[.int .i64 (n : Int), .slice A l.length cap], .bool back] w [] (fun u own' => ∃ bo vs ms, u = .slice (some ⟨bo, 0, none⟩) n n ∧ own' = [[(bo, blk vs 28)], ms.flatten] ∧ RowsI 3 (rowsOf n (l.map (trn back))) vs ms) := by
  have hn1 := hg.n1
  have hlen := hg.len
  refine f_enter Try.func48 rfl Try.ntmps48 rfl Owns.nil ?_
  refine f_seq fun K1 kh1 => ?_
  refine f_region ?_
  refine f_step rfl rfl rfl (o_box rfl rfl fun b2 => ?_)
  refine f_stepP rfl rfl rfl (o_assign rfl) ?_
  refine f_done ?_
  refine f_tn (kh1 _ _ ?_)
  clear kh1
  refine f_seq fun K2 kh2 => ?_
  refine f_region ?_
  refine f_stepP rfl rfl rfl (o_field fa24_0 rfl) ?_
  refine f_stepP rfl rfl rfl (o_load Try.isAgg3 rfl (rdA rfl)) ?_
  refine f_step rfl rfl rfl (o_make el55 rfl rfl n rfl (by omega) (by omega) (List.replicate n (.slice none 0 0)) (rep_flat n _) fun b11 => ?_)
  refine f_stepP rfl rfl rfl (o_assign rfl) ?_
  refine f_done ?_
  refine f_tn (kh2 _ _ ?_)
  clear kh2
  refine f_seq fun K3 kh3 => ?_
  refine f_seq fun K4 kh4 => ?_
  refine f_region ?_
  refine f_stepP rfl rfl rfl (o_field fa24_1 rfl) ?_
  refine f_stepP rfl rfl rfl (o_load Try.isAgg22 rfl (rdA rfl)) ?_
  refine f_stepP rfl rfl rfl (o_len sl22 rfl) ?_
  refine f_stepP rfl rfl rfl (o_move rfl) ?_
  refine f_done ?_
  refine f_tn (kh4 _ _ ?_)
  clear kh4
  refine f_block ?_
  refine f_loop (α := Nat × List Value × List Seg) [1, 5, 13, 14] (fun ⟨k, vs, ms⟩ => [(15, .int .i64 (k : Int))]) (fun ⟨k, vs, ms⟩ => [[(b11, blk vs 28)], ms.flatten, [(b2, blk [.int .i64 (n : Int), .slice A l.length cap] 24)]]) (fun ⟨k, vs, ms⟩ => k ≤ l.length ∧ RowsI 3 (rowsOf n ((l.map (trn back)).take k)) vs ms) (fun ⟨k, vs, ms⟩ => l.length - k) (0, List.replicate n (.slice none 0 0), List.replicate n []) ?_ ?_ ?_ ?_
  · exact (by repeat (first | exact trivial | refine ⟨rfl, ?_⟩))
  · dsimp only
    rw [show (List.replicate n ([] : Seg)).flatten = [] from by simp]
    repeat (first | exact Sub.nil | refine Sub.pick ?_ | refine Sub.castO rfl ?_ | refine Sub.skip ?_)
  · exact ⟨by omega, by rw [List.take_zero, rowsOf_nil]; exact RowsI.start _ n⟩
  · rintro ⟨k, vs, ms⟩ ⟨hkl, hR⟩
    refine f_seq fun K5 kh5 => ?_
    refine f_region ?_
    refine f_stepP rfl rfl rfl (o_lss rfl rfl) ?_
    refine f_done ?_
    refine f_tn (kh5 _ _ ?_)
    clear kh5
    refine f_seq fun K6 kh6 => ?_
    refine f_cond rfl (fun c16 => ?_) (fun c16 => ?_)
    · skip
      refine f_skip ?_
      refine f_tn (kh6 _ _ ?_)
      clear kh6
      refine f_seq fun K7 kh7 => ?_
      refine f_block ?_
      refine f_seq fun K8 kh8 => ?_
      refine f_region ?_
      refine f_stepP rfl rfl rfl (o_move rfl) ?_
      have hk : k < l.length := by omega
      obtain ⟨bl, off, rfl, hS, hc⟩ := hr (flat_ne arcCs arcCs_len (by omega) hk)
      have hgk := hg.good k hk
      refine f_stepP rfl rfl rfl (o_idx sl22 rfl rfl (off + k * 3) ⟨by omega, by omega, by first | omega | (simp; done) | (simp; omega)⟩) ?_
      refine f_stepP rfl rfl rfl (o_loadA (vs := arcCs l[k]) Try.isAgg44 Try.sizeOf44 rfl rfl (roElem arcCs_len hS hc hk)) ?_
      refine f_step rfl rfl rfl (o_alloc Try.zeroValue44 rfl fun b7 => ?_)
      refine f_stepP rfl rfl rfl (o_assign rfl) ?_
      refine f_step0 rfl rfl (o_storeA Try.sizeOf44 rfl rfl rfl rfl (by first | exact Nat.le_of_ble_eq_true rfl | (simp; done) | (simp; omega)) _ rfl ?_)
      refine f_done ?_
      refine f_tn (kh8 _ _ ?_)
      clear kh8
      refine f_seq fun K9 kh9 => ?_
      refine f_region ?_
      refine f_stepP rfl rfl rfl (o_field fa44_0 rfl) ?_
      refine f_stepP rfl rfl rfl (o_load Try.isAgg3 rfl (rdA rfl)) ?_
      refine f_stepP rfl rfl rfl (o_assign rfl) ?_
      refine f_done ?_
      refine f_tn (kh9 _ _ ?_)
      clear kh9
      refine f_seq fun K10 kh10 => ?_
      refine f_seq fun K11 kh11 => ?_
      refine f_region ?_
      refine f_stepP rfl rfl rfl (o_move rfl) ?_
      refine f_done ?_
      refine f_tn (kh11 _ _ ?_)
      clear kh11
      refine f_condB rfl (fun c22 => ?_) (fun c22 => ?_)
      · skip
        subst c22
        refine f_region ?_
        refine f_stepP rfl rfl rfl (o_field fa44_1 rfl) ?_
        refine f_stepP rfl rfl rfl (o_load Try.isAgg3 rfl (rdA rfl)) ?_
        refine f_stepP rfl rfl rfl (o_assign rfl) ?_
        refine f_done ?_
        refine f_tn (kh10 _ _ ?_)
        clear kh10
        obtain ⟨v, hv, hvn⟩ : ∃ v : Nat, l[k].dst = (v : Int) ∧ v < n := ⟨l[k].dst.toNat, by omega, by omega⟩
        have hve : ((l.map (trn true))[k]'(by simpa using hk)).src.toNat = v := by rw [trn_get _ hk]; simp [trn, hv]
        obtain ⟨rv, rm, rG, hrv, hro, hrp, hput⟩ := hR.split (i := v) (by rw [rowsOf_len]; exact hvn)
        rw [rowsOf_get] at hro
        have hrlen := rowOf_len (l.map (trn true)) v k
        obtain ⟨rl, hrl⟩ : ∃ rl, rl = rowOf ((l.map (trn true)).take k) v := ⟨_, rfl⟩
        rw [← hrl] at hro hrlen
        obtain ⟨Ar, cr, rfl, hcr⟩ := hro.val
        refine f_subC (Sub.splitF hrp) ?_
        refine f_region ?_
        refine f_stepP rfl rfl rfl (o_move rfl) ?_
        refine f_stepP rfl rfl rfl (o_move rfl) ?_
        refine f_stepP rfl rfl rfl (o_move rfl) ?_
        refine f_stepP rfl rfl rfl (o_move rfl) ?_
        refine f_stepP rfl rfl rfl (o_idx sl55 rfl rfl (v) ⟨by omega, by omega, by first | omega | (simp; done) | (simp; omega)⟩) ?_
        refine f_stepP rfl rfl rfl (o_load Try.isAgg28 rfl (rdA hrv)) ?_
        refine f_stepP rfl rfl rfl (o_move rfl) ?_
        refine f_step rfl rfl rfl (o_slice1 el28 (by omega) rfl rfl rfl fun b32 => ?_)
        refine f_step rfl rfl rfl (o_append el28 rfl rfl hro (ys := [.int .i64 (k : Int)]) ⟨(rdA rfl), trivial⟩ rfl rfl (by omega) (by omega) fun v33 m33 o33 => ?_)
        obtain ⟨A33, cap33, rfl, _⟩ := o33.val
        refine f_stepP rfl rfl rfl (o_idx sl55 rfl rfl (v) ⟨by omega, by omega, by first | omega | (simp; done) | (simp; omega)⟩) ?_
        refine f_step0 rfl rfl (o_store Try.sizeOf28 rfl rfl rfl rfl (by have := hR.lv; rw [rowsOf_len] at this; omega) (vs.set v (.slice A33 (rl.length + 1) cap33)) rfl ?_)
        refine f_done ?_
        refine f_bn ?_
        refine f_tn (kh7 _ _ ?_)
        clear kh7
        refine f_region ?_
        refine f_stepP rfl rfl rfl (o_add rfl rfl _ (wrap_i64 (by omega))) ?_
        refine f_stepP rfl rfl rfl (o_move rfl) ?_
        refine f_done ?_
        refine f_subQ (Sub.joinF (m := m33) (G' := rG) (hput _ _ _ (by rw [← ints_len1]; exact o33)).2) ?_
        refine f_tn (f_again (k + 1, vs.set v (.slice A33 (rl.length + 1) cap33), ms.set v m33) (by first | omega | (dsimp only; omega) | (simp; omega)) ⟨by omega, by have := (hput _ _ _ (by rw [← ints_len1]; exact o33)).1; rw [show rl ++ [(k : Int)] = rowOf ((l.map (trn _)).take k) v ++ [(k : Int)] from by rw [hrl], rowsOf_next (by simpa using hk) hve] at this; exact this⟩ ?_ ?_ ?_)
        · exact (by repeat (first | exact trivial | refine ⟨rfl, ?_⟩))
        · exact (by repeat (first | exact trivial | refine ⟨rfl, ?_⟩))
        · repeat (first | exact Sub.nil | refine Sub.pick ?_ | refine Sub.castO rfl ?_ | refine Sub.skip ?_)
      · skip
        subst c22
        refine f_skip ?_
        refine f_tn (kh10 _ _ ?_)
        clear kh10
        obtain ⟨v, hv, hvn⟩ : ∃ v : Nat, l[k].src = (v : Int) ∧ v < n := ⟨l[k].src.toNat, by omega, by omega⟩
        have hve : ((l.map (trn false))[k]'(by simpa using hk)).src.toNat = v := by rw [trn_get _ hk]; simp [trn, hv]
        obtain ⟨rv, rm, rG, hrv, hro, hrp, hput⟩ := hR.split (i := v) (by rw [rowsOf_len]; exact hvn)
        rw [rowsOf_get] at hro
        have hrlen := rowOf_len (l.map (trn false)) v k
        obtain ⟨rl, hrl⟩ : ∃ rl, rl = rowOf ((l.map (trn false)).take k) v := ⟨_, rfl⟩
        rw [← hrl] at hro hrlen
        obtain ⟨Ar, cr, rfl, hcr⟩ := hro.val
        refine f_subC (Sub.splitF hrp) ?_
        refine f_region ?_
        refine f_stepP rfl rfl rfl (o_move rfl) ?_
        refine f_stepP rfl rfl rfl (o_move rfl) ?_
        refine f_stepP rfl rfl rfl (o_move rfl) ?_
        refine f_stepP rfl rfl rfl (o_move rfl) ?_
        refine f_stepP rfl rfl rfl (o_idx sl55 rfl rfl (v) ⟨by omega, by omega, by first | omega | (simp; done) | (simp; omega)⟩) ?_
        refine f_stepP rfl rfl rfl (o_load Try.isAgg28 rfl (rdA hrv)) ?_
        refine f_stepP rfl rfl rfl (o_move rfl) ?_
        refine f_step rfl rfl rfl (o_slice1 el28 (by omega) rfl rfl rfl fun b32 => ?_)
        refine f_step rfl rfl rfl (o_append el28 rfl rfl hro (ys := [.int .i64 (k : Int)]) ⟨(rdA rfl), trivial⟩ rfl rfl (by omega) (by omega) fun v33 m33 o33 => ?_)
        obtain ⟨A33, cap33, rfl, _⟩ := o33.val
        refine f_stepP rfl rfl rfl (o_idx sl55 rfl rfl (v) ⟨by omega, by omega, by first | omega | (simp; done) | (simp; omega)⟩) ?_
        refine f_step0 rfl rfl (o_store Try.sizeOf28 rfl rfl rfl rfl (by have := hR.lv; rw [rowsOf_len] at this; omega) (vs.set v (.slice A33 (rl.length + 1) cap33)) rfl ?_)
        refine f_done ?_
        refine f_bn ?_
        refine f_tn (kh7 _ _ ?_)
        clear kh7
        refine f_region ?_
        refine f_stepP rfl rfl rfl (o_add rfl rfl _ (wrap_i64 (by omega))) ?_
        refine f_stepP rfl rfl rfl (o_move rfl) ?_
        refine f_done ?_
        refine f_subQ (Sub.joinF (m := m33) (G' := rG) (hput _ _ _ (by rw [← ints_len1]; exact o33)).2) ?_
        refine f_tn (f_again (k + 1, vs.set v (.slice A33 (rl.length + 1) cap33), ms.set v m33) (by first | omega | (dsimp only; omega) | (simp; omega)) ⟨by omega, by have := (hput _ _ _ (by rw [← ints_len1]; exact o33)).1; rw [show rl ++ [(k : Int)] = rowOf ((l.map (trn _)).take k) v ++ [(k : Int)] from by rw [hrl], rowsOf_next (by simpa using hk) hve] at this; exact this⟩ ?_ ?_ ?_)
        · exact (by repeat (first | exact trivial | refine ⟨rfl, ?_⟩))
        · exact (by repeat (first | exact trivial | refine ⟨rfl, ?_⟩))
        · repeat (first | exact Sub.nil | refine Sub.pick ?_ | refine Sub.castO rfl ?_ | refine Sub.skip ?_)
    · skip
      refine f_exit ?_
      refine f_te ?_
      clear kh6
      refine f_te ?_
      refine f_be ?_
      refine f_tn (kh3 _ _ ?_)
      clear kh3
      refine f_seq fun K12 kh12 => ?_
      refine f_region ?_
      refine f_stepP rfl rfl rfl (o_move rfl) ?_
      refine f_stepP rfl rfl rfl (o_assign rfl) ?_
      refine f_done ?_
      refine f_tn (kh12 _ _ ?_)
      clear kh12
      refine f_ret ?_
      have et : (l.map (trn back)).take k = l.map (trn back) := List.take_of_length_le (by simp; omega)
      rw [et] at hR
      exact f_fin1 [[(b11, blk vs 28)], ms.flatten] Try.results48 rfl (by repeat (first | exact Sub.nil | refine Sub.pick ?_ | refine Sub.castO rfl ?_)) ⟨b11, vs, ms, rfl, rfl, hR⟩

end Go.Proofs.Ytlllpmafhnfihaa
