/- The searcher of package local: what a vertex's neighbours bear, the next move. -/
import Derived.Test.YtagidegklmgilaaFLab
import Derived.Test.YtagidegklmgilaaPLoc
namespace Go.Proofs.Ytagidegklmgilaa
open Go Go.RowKit Fly
set_option linter.unusedVariables false
set_option linter.unusedSimpArgs false


/-- What a searcher shows. -/
structure LSee (n : Nat) (rows : Nat → List Int) (L S : List Int) (bs : Nat) (w : World) (Al : Option Addr) (cl bo bz : Nat) (vs : List Value) : Prop where
  cells : Ro (Fr w []) w (some ⟨bs, 0, none⟩) [.slice Al L.length cl, .slice (some ⟨bo, 0, none⟩) n n, .slice (some ⟨bz, 0, none⟩) S.length S.length]
  labs : Ro (Fr w []) w Al (ints L)
  side : Ro (Fr w []) w (some ⟨bo, 0, none⟩) vs
  lv : vs.length = n
  row : ∀ v, v < n → ∃ A c, vs[v]? = some (.slice A (rows v).length c) ∧ Ro (Fr w []) w A (ints (rows v))
  size : Ro (Fr w []) w (some ⟨bz, 0, none⟩) (ints S)
theorem LSee.up0 {n : Nat} {rows : Nat → List Int} {L S : List Int} {bs : Nat} {w w' : World} {Al : Option Addr} {cl bo bz : Nat} {vs : List Value} {m : Seg} (h : LSee n rows L S bs w Al cl bo bz vs) (hp : Hp (Fr w []) w m w') : LSee n rows L S bs w' Al cl bo bz vs :=
  ⟨h.cells.up0 hp, h.labs.up0 hp, h.side.up0 hp, h.lv, fun v hv => by obtain ⟨A, c, h1, h2⟩ := h.row v hv; exact ⟨A, c, h1, h2.up0 hp⟩, h.size.up0 hp⟩
/-- What is known of labels and neighbours. -/
structure LOk (n : Nat) (rows : Nat → List Int) (L S : List Int) : Prop where
  n1 : 1 ≤ n ∧ n ≤ 1024
  len : L.length = n
  lab : ∀ x ∈ L, 0 ≤ x ∧ x < (S.length : Int)
  slen : S.length ≤ 1024
  rlen : ∀ v, v < n → (rows v).length ≤ 16384
  rok : ∀ v, v < n → ∀ u ∈ rows v, 0 ≤ u ∧ u < (n : Int)
  sz : ∀ x ∈ S, 0 ≤ x ∧ x ≤ 1024
/-- Rows that were clipped. -/
structure RowsC (E : TypeId) (n : Nat) (rows : Nat → List Int) (vs : List Value) (ms : List Seg) : Prop where
  lv : vs.length = n
  lm : ms.length = n
  own : ∀ i (h : i < n), ∃ A c, vs[i]? = some (.slice A (rows i).length (rows i).length) ∧ Own E 1 (.slice A (rows i).length c) (rows i).length (ints (rows i)) (ms[i]'(by rw [lm]; exact h))
abbrev lsegs (bs : Nat) (Al : Option Addr) (cl : Nat) (L : List Int) (ml : Seg) (bo n : Nat) (vs : List Value) (G : Seg) (bz : Nat) (S : List Int) : List Seg :=
  [[(bs, blk [.slice Al L.length cl, .slice (some ⟨bo, 0, none⟩) n n, .slice (some ⟨bz, 0, none⟩) S.length S.length] 63)], ml, [(bo, blk vs 25)], G, [(bz, blk (ints S) 3)]]
/-- A searcher in memory. -/
def LRep (n : Nat) (rows : Nat → List Int) (L S : List Int) (bs : Nat) (m : Seg) : Prop := ∃ Al cl ml bo vs ms bz, m.Perm (lsegs bs Al cl L ml bo n vs ms.flatten bz S).flatten ∧ Own 3 1 (.slice Al L.length cl) L.length (ints L) ml ∧ RowsC 3 n rows vs ms
theorem own_ints {E b c : Nat} {L L2 : List Int} {sp : List Value} (h : Own E 1 (.slice (some ⟨b, 0, none⟩) L.length c) L.length (ints L) [(b, blk (ints L ++ sp) E)]) (hl : L2.length = L.length) : Own E 1 (.slice (some ⟨b, 0, none⟩) L2.length c) L2.length (ints L2) [(b, blk (ints L2 ++ sp) E)] := by
  obtain ⟨_, h | ⟨b', c', sp', e, hm, h1, h2, h3⟩⟩ := h
  · obtain ⟨e, _⟩ := h; cases e
  · cases e
    have hsp : ints L ++ sp = ints L ++ sp' := by simpa using hm
    have hsp := List.append_cancel_left hsp
    subst hsp
    exact ⟨by simp [ints], .inr ⟨b, c, sp, rfl, rfl, by omega, h2, by rw [hl]; exact h3⟩⟩

set_option maxRecDepth 100000 in
set_option maxHeartbeats 4000000 in
theorem around_spec (n : Nat) (rows : Nat → List Int) (L S : List Int) (bs : Nat) (Al : Option Addr) (cl bo bz : Nat) (vs : List Value) (v : Nat) (w : World) (hs : LSee n rows L S bs w Al cl bo bz vs) (hO : LOk n rows L S) (hv : v < n) :
    Meets Try.prog 22 [.pointer (some ⟨bs, 0, none⟩), .int .i64 (v : Int)] w [] (fun u own' => ∃ bm ents c, u = .map (some bm) ∧ own' = [[(bm, mobj (fun x : Int => .int .i64 x) ents c)]] ∧ MOk ents c ∧ Cnts L (rows v) ents) := by
  obtain ⟨_, _, e1_, hSs, hcs⟩ := hs.cells (by simp)
  cases e1_
  have hn := hO.n1
  have hLn := hO.len
  have hsl := hO.slen
  obtain ⟨Ar, cr, hvr, hrr⟩ := hs.row v hv
  obtain ⟨_, _, e2_, hSo, hco⟩ := hs.side (fun e => by have := hs.lv; rw [e] at this; simp at this; omega)
  cases e2_
  have hrl := hO.rlen v hv
  obtain ⟨_, _, e3_⟩ : ∃ bl off, True := ⟨0, 0, trivial⟩
  refine f_enter Try.func22 rfl Try.ntmps22 rfl Owns.nil ?_
  refine f_seq fun K1 kh1 => ?_
  refine f_region ?_
  refine f_stepP rfl rfl rfl (o_assign rfl) ?_
  refine f_done ?_
  refine f_tn (kh1 _ _ ?_)
  clear kh1
  refine f_seq fun K2 kh2 => ?_
  refine f_region ?_
  refine f_step rfl rfl rfl (o_makeMap fun b8 => ?_)
  refine f_stepP rfl rfl rfl (o_assign rfl) ?_
  refine f_done ?_
  refine f_tn (kh2 _ _ ?_)
  clear kh2
  refine f_seq fun K3 kh3 => ?_
  refine f_seq fun K4 kh4 => ?_
  refine f_region ?_
  refine f_stepP rfl rfl rfl (o_move rfl) ?_
  refine f_stepP rfl rfl rfl (o_nil rfl) ?_
  refine f_stepP rfl rfl rfl (o_field fa63_1 rfl) ?_
  refine f_stepP rfl rfl rfl (o_load Try.isAgg61 rfl (rdS hSs (hcs 1 _ rfl))) ?_
  refine f_stepP rfl rfl rfl (o_move rfl) ?_
  refine f_stepP rfl rfl rfl (o_idx sl61 rfl rfl (0 + v) ⟨by omega, by omega, by first | omega | (simp; done) | (simp; omega)⟩) ?_
  refine f_stepP rfl rfl rfl (o_load Try.isAgg25 rfl (rdS hSo (hco v _ hvr))) ?_
  refine f_stepP rfl rfl rfl (o_len sl25 rfl) ?_
  refine f_stepP rfl rfl rfl (o_move rfl) ?_
  refine f_done ?_
  refine f_tn (kh4 _ _ ?_)
  clear kh4
  refine f_block ?_
  refine f_loop (α := Nat × List (Int × Value × Nat) × Nat) [0, 5, 15, 16] (fun ⟨k, ents, c⟩ => [(17, .int .i64 (k : Int))]) (fun ⟨k, ents, c⟩ => [[(b8, mobj (fun x : Int => .int .i64 x) ents c)]]) (fun ⟨k, ents, c⟩ => k ≤ (rows v).length ∧ MOk ents c ∧ Cnts L ((rows v).take k) ents) (fun ⟨k, ents, c⟩ => (rows v).length - k) (0, [], 0) ?_ ?_ ?_ ?_
  · exact (by repeat (first | exact trivial | refine ⟨rfl, ?_⟩))
  · repeat (first | exact Sub.nil | refine Sub.pick ?_ | refine Sub.castO rfl ?_ | refine Sub.skip ?_)
  · exact ⟨by omega, MOk.nil, Cnts.nil L⟩
  · rintro ⟨k, ents, c⟩ ⟨hkl, hmap, hC⟩
    refine f_seq fun K5 kh5 => ?_
    refine f_region ?_
    refine f_stepP rfl rfl rfl (o_lss rfl rfl) ?_
    refine f_done ?_
    refine f_tn (kh5 _ _ ?_)
    clear kh5
    refine f_seq fun K6 kh6 => ?_
    refine f_cond rfl (fun c18 => ?_) (fun c18 => ?_)
    · skip
      have hk : k < (rows v).length := by omega
      obtain ⟨br, offr, rfl, hSr, hcr⟩ := hrr (fun e => by have := ints_length (rows v); rw [e] at this; simp at this; omega)
      have hu := hO.rok v hv _ (List.getElem_mem hk)
      obtain ⟨bl, offl, rfl, hSl, hcl⟩ := hs.labs (fun e => by have := ints_length L; rw [e] at this; simp at this; omega)
      have hcn := ncnt_le L ((rows v).take k) (lab L (rows v)[k])
      rw [List.length_take] at hcn
      refine f_skip ?_
      refine f_tn (kh6 _ _ ?_)
      clear kh6
      refine f_seq fun K7 kh7 => ?_
      refine f_block ?_
      refine f_seq fun K8 kh8 => ?_
      refine f_region ?_
      refine f_stepP rfl rfl rfl (o_idx sl25 rfl rfl (offr + k) ⟨by omega, by omega, by first | omega | (simp; done) | (simp; omega)⟩) ?_
      refine f_stepP rfl rfl rfl (o_load Try.isAgg3 rfl (roOne (enc := (.int .i64 ·)) hSr hcr hk)) ?_
      refine f_stepP rfl rfl rfl (o_assign rfl) ?_
      refine f_done ?_
      refine f_tn (kh8 _ _ ?_)
      clear kh8
      refine f_region ?_
      refine f_stepP rfl rfl rfl (o_move rfl) ?_
      refine f_stepP rfl rfl rfl (o_move rfl) ?_
      refine f_stepP rfl rfl rfl (o_nil rfl) ?_
      refine f_stepP rfl rfl rfl (o_field fa63_0 rfl) ?_
      refine f_stepP rfl rfl rfl (o_load Try.isAgg25 rfl (rdS hSs (hcs 0 _ rfl))) ?_
      refine f_stepP rfl rfl rfl (o_move rfl) ?_
      refine f_stepP rfl rfl rfl (o_idx sl25 rfl rfl (offl + (rows v)[k].toNat) ⟨by omega, by omega, by first | omega | (simp; done) | (simp; omega)⟩) ?_
      refine f_stepP rfl rfl rfl (o_load Try.isAgg3 rfl (show Rd _ _ _ _ _ (.int .i64 (lab L (rows v)[k])) by rw [lab_at (by omega)]; exact roOne (enc := (.int .i64 ·)) hSl hcl (by omega))) ?_
      refine f_stepP rfl rfl rfl (o_lookup kt65 Try.zeroValue3 rfl rfl rfl (.int .i64 (ncnt L ((rows v).take k) (lab L (rows v)[k]) : Int)) (hC _)) ?_
      refine f_stepP rfl rfl rfl (o_add rfl rfl _ (wrap_i64 (by omega))) ?_
      refine f_step0 rfl rfl (o_mapUpdate kt65 rfl rfl rfl rfl ?_)
      refine f_done ?_
      refine f_bn ?_
      refine f_tn (kh7 _ _ ?_)
      clear kh7
      refine f_region ?_
      refine f_stepP rfl rfl rfl (o_add rfl rfl _ (wrap_i64 (by omega))) ?_
      refine f_stepP rfl rfl rfl (o_move rfl) ?_
      refine f_done ?_
      refine f_tn (f_again (k + 1, mput ents (lab L (rows v)[k]) (.int .i64 ((ncnt L ((rows v).take k) (lab L (rows v)[k]) : Int) + 1)) c, mclock ents (lab L (rows v)[k]) c) (by first | omega | (dsimp only; omega) | (simp; omega)) ⟨by omega, hmap.put _ _, hC.next hk⟩ ?_ ?_ ?_)
      · exact (by repeat (first | exact trivial | refine ⟨rfl, ?_⟩))
      · exact (by repeat (first | exact trivial | refine ⟨rfl, ?_⟩))
      · repeat (first | exact Sub.nil | refine Sub.pick ?_ | refine Sub.castO rfl ?_ | refine Sub.skip ?_)
    · skip
      refine f_exit ?_
      refine f_te ?_
      clear kh6
      refine f_te ?_
      refine f_be ?_
      refine f_tn (kh3 _ _ ?_)
      clear kh3
      refine f_seq fun K9 kh9 => ?_
      refine f_region ?_
      refine f_stepP rfl rfl rfl (o_move rfl) ?_
      refine f_stepP rfl rfl rfl (o_assign rfl) ?_
      refine f_done ?_
      refine f_tn (kh9 _ _ ?_)
      clear kh9
      refine f_ret ?_
      exact f_fin1 [[(b8, mobj (fun x : Int => .int .i64 x) ents c)]] Try.results22 rfl (by repeat (first | exact Sub.nil | refine Sub.pick ?_)) ⟨b8, ents, c, rfl, rfl, hmap, by rw [List.take_of_length_le (by omega)] at hC; exact hC⟩

set_option maxRecDepth 100000 in
set_option maxHeartbeats 4000000 in
theorem next_spec (n : Nat) (rows : Nat → List Int) (L S : List Int) (bs : Nat) (Al : Option Addr) (cl bo bz : Nat) (vs : List Value) (bd : Int) (w : World) (hs : LSee n rows L S bs w Al cl bo bz vs) (hO : LOk n rows L S) :
    Meets Try.prog 19 [.pointer (some ⟨bs, 0, none⟩), .int .i64 bd] w [] (fun u own' => u = .tuple #[.agg (mvCs (mvTo L S rows bd n)).toArray, .bool (decide (0 < (mvTo L S rows bd n).2.2))] ∧ own' = []) := by
  obtain ⟨_, _, e1_, hSs, hcs⟩ := hs.cells (by simp)
  cases e1_
  have hn := hO.n1
  have hLn := hO.len
  have hsl := hO.slen
  refine f_enter Try.func19 rfl Try.ntmps19 rfl Owns.nil ?_
  refine f_seq fun K1 kh1 => ?_
  refine f_region ?_
  refine f_step rfl rfl rfl (o_alloc Try.zeroValue57 rfl fun b4 => ?_)
  refine f_stepP rfl rfl rfl (o_assign rfl) ?_
  refine f_done ?_
  refine f_tn (kh1 _ _ ?_)
  clear kh1
  refine f_seq fun K2 kh2 => ?_
  refine f_region ?_
  refine f_step rfl rfl rfl (o_alloc Try.zeroValue57 rfl fun b6 => ?_)
  refine f_done ?_
  refine f_tn (kh2 _ _ ?_)
  clear kh2
  refine f_seq fun K3 kh3 => ?_
  refine f_seq fun K4 kh4 => ?_
  refine f_region ?_
  refine f_stepP rfl rfl rfl (o_move rfl) ?_
  refine f_stepP rfl rfl rfl (o_nil rfl) ?_
  refine f_stepP rfl rfl rfl (o_field fa63_1 rfl) ?_
  refine f_stepP rfl rfl rfl (o_load Try.isAgg61 rfl (rdS hSs (hcs 1 _ rfl))) ?_
  refine f_stepP rfl rfl rfl (o_len sl61 rfl) ?_
  refine f_stepP rfl rfl rfl (o_move rfl) ?_
  refine f_done ?_
  refine f_tn (kh4 _ _ ?_)
  clear kh4
  refine f_block ?_
  refine f_loop (α := Nat) [0, 1, 4, 6, 16] (fun k => [(17, .int .i64 (k : Int))]) (fun k => [[(b4, blk [.int .i64 0, .int .i64 0, .int .i64 0] 57)], [(b6, blk (mvCs (mvTo L S rows bd k)) 57)]]) (fun k => k ≤ n) (fun k => n - k) (0) ?_ ?_ ?_ ?_
  · exact (by repeat (first | exact trivial | refine ⟨rfl, ?_⟩))
  · repeat (first | exact Sub.nil | refine Sub.pick ?_ | refine Sub.castO rfl ?_ | refine Sub.skip ?_)
  · exact Nat.zero_le _
  · rintro k hkn
    refine f_seq fun K5 kh5 => ?_
    refine f_region ?_
    refine f_stepP rfl rfl rfl (o_lss rfl rfl) ?_
    refine f_done ?_
    refine f_tn (kh5 _ _ ?_)
    clear kh5
    refine f_seq fun K6 kh6 => ?_
    refine f_cond rfl (fun c18 => ?_) (fun c18 => ?_)
    · skip
      have hk : k < n := by omega
      obtain ⟨bl, offl, rfl, hSl, hcl⟩ := hs.labs (fun e => by have := ints_length L; rw [e] at this; simp at this; omega)
      have hrl := hO.rlen k hk
      refine f_skip ?_
      refine f_tn (kh6 _ _ ?_)
      clear kh6
      refine f_seq fun K7 kh7 => ?_
      refine f_block ?_
      refine f_seq fun K8 kh8 => ?_
      refine f_region ?_
      refine f_stepP rfl rfl rfl (o_move rfl) ?_
      refine f_stepP rfl rfl rfl (o_assign rfl) ?_
      refine f_done ?_
      refine f_tn (kh8 _ _ ?_)
      clear kh8
      refine f_seq fun K9 kh9 => ?_
      refine f_region ?_
      refine f_stepP rfl rfl rfl (o_move rfl) ?_
      refine f_stepP rfl rfl rfl (o_nil rfl) ?_
      refine f_stepP rfl rfl rfl (o_field fa63_0 rfl) ?_
      refine f_stepP rfl rfl rfl (o_load Try.isAgg25 rfl (rdS hSs (hcs 0 _ rfl))) ?_
      refine f_stepP rfl rfl rfl (o_move rfl) ?_
      refine f_stepP rfl rfl rfl (o_idx sl25 rfl rfl (offl + k) ⟨by omega, by omega, by first | omega | (simp; done) | (simp; omega)⟩) ?_
      refine f_stepP rfl rfl rfl (o_load Try.isAgg3 rfl (show Rd _ _ _ _ _ (.int .i64 (lab L (k : Int))) by rw [lab_at (by simp; omega)]; exact roOne (enc := (.int .i64 ·)) hSl hcl (by omega))) ?_
      refine f_stepP rfl rfl rfl (o_assign rfl) ?_
      refine f_done ?_
      refine f_tn (kh9 _ _ ?_)
      clear kh9
      refine f_seq fun K10 kh10 => ?_
      refine f_region ?_
      refine f_stepP rfl rfl rfl (o_move rfl) ?_
      refine f_stepP rfl rfl rfl (o_move rfl) ?_
      refine f_step rfl rfl rfl (o_call Try.call22 rfl (fun w_ hp_ => around_spec n rows L S bs _ cl bo bz vs k w_ (hs.up0 hp_) hO hk) ?_)
      rintro _ _ ⟨bm, ents, c, rfl, rfl, hmap, hC⟩
      dsimp only [List.cons_append, List.nil_append]
      refine f_stepP rfl rfl rfl (o_assign rfl) ?_
      refine f_done ?_
      refine f_tn (kh10 _ _ ?_)
      clear kh10
      refine f_seq fun K11 kh11 => ?_
      refine f_region ?_
      refine f_stepP rfl rfl rfl (o_move rfl) ?_
      refine f_stepP rfl rfl rfl (o_nil rfl) ?_
      refine f_stepP rfl rfl rfl (o_field fa63_2 rfl) ?_
      refine f_stepP rfl rfl rfl (o_load Try.isAgg25 rfl (rdS hSs (hcs 2 _ rfl))) ?_
      refine f_stepP rfl rfl rfl (o_len sl25 rfl) ?_
      refine f_stepP rfl rfl rfl (o_move rfl) ?_
      refine f_done ?_
      refine f_tn (kh11 _ _ ?_)
      clear kh11
      refine f_block ?_
      refine f_loop (α := Nat) [0, 1, 4, 6, 7, 8, 9, 16, 17, 34] (fun j => [(35, .int .i64 (j : Int))]) (fun j => [[(b4, blk [.int .i64 0, .int .i64 0, .int .i64 0] 57)], [(b6, blk (mvCs (mvRow L S (rows k) bd k j (mvTo L S rows bd k))) 57)], [(bm, mobj (fun x : Int => .int .i64 x) ents c)]]) (fun j => j ≤ S.length) (fun j => S.length - j) (0) ?_ ?_ ?_ ?_
      · exact (by repeat (first | exact trivial | refine ⟨rfl, ?_⟩))
      · repeat (first | exact Sub.nil | refine Sub.pick ?_ | refine Sub.castO rfl ?_ | refine Sub.skip ?_)
      · exact Nat.zero_le _
      · rintro j hjn
        refine f_seq fun K12 kh12 => ?_
        refine f_region ?_
        refine f_stepP rfl rfl rfl (o_lss rfl rfl) ?_
        refine f_done ?_
        refine f_tn (kh12 _ _ ?_)
        clear kh12
        refine f_seq fun K13 kh13 => ?_
        refine f_cond rfl (fun c36 => ?_) (fun c36 => ?_)
        · skip
          have hj : j < S.length := by omega
          obtain ⟨_, _, e4_, hSz, hcz⟩ := hs.size (fun e => by have := ints_length S; rw [e] at this; simp at this; omega)
          cases e4_
          have hn1 := ncnt_le L (rows k) (j : Int)
          have hn2 := ncnt_le L (rows k) (lab L (k : Int))
          have hSj : S.getD j 0 = S[j] := by simp [hj]
          refine f_skip ?_
          refine f_tn (kh13 _ _ ?_)
          clear kh13
          refine f_seq fun K14 kh14 => ?_
          refine f_block ?_
          refine f_seq fun K15 kh15 => ?_
          refine f_region ?_
          refine f_stepP rfl rfl rfl (o_move rfl) ?_
          refine f_stepP rfl rfl rfl (o_assign rfl) ?_
          refine f_done ?_
          refine f_tn (kh15 _ _ ?_)
          clear kh15
          refine f_seq fun K16 kh16 => ?_
          refine f_region ?_
          refine f_stepP rfl rfl rfl (o_move rfl) ?_
          refine f_stepP rfl rfl rfl (o_move rfl) ?_
          refine f_stepP rfl rfl rfl (o_lookup kt65 Try.zeroValue3 rfl rfl rfl (.int .i64 (ncnt L (rows k) (j : Int) : Int)) (hC _)) ?_
          refine f_stepP rfl rfl rfl (o_move rfl) ?_
          refine f_stepP rfl rfl rfl (o_move rfl) ?_
          refine f_stepP rfl rfl rfl (o_lookup kt65 Try.zeroValue3 rfl rfl rfl (.int .i64 (ncnt L (rows k) (lab L (k : Int)) : Int)) (hC _)) ?_
          refine f_stepP rfl rfl rfl (o_sub rfl rfl _ (Eq.trans (wrap_i64 (by omega)) (show _ = gn L (rows k) (lab L (k : Int)) (j : Int) from rfl))) ?_
          refine f_stepP rfl rfl rfl (o_assign rfl) ?_
          refine f_done ?_
          refine f_tn (kh16 _ _ ?_)
          clear kh16
          refine f_seq fun K17 kh17 => ?_
          refine f_region ?_
          refine f_stepP rfl rfl rfl (o_move rfl) ?_
          refine f_stepP rfl rfl rfl (o_move rfl) ?_
          refine f_stepP rfl rfl rfl (o_neq rfl rfl) ?_
          refine f_stepP rfl rfl rfl (o_move rfl) ?_
          refine f_splitL 48 rfl (fun g48 => ?_) (fun g48 => ?_)
          · skip
            refine f_stepPY rfl rfl rfl rfl rfl (o_move rfl) ?_
            refine f_stepPY rfl rfl rfl rfl rfl (o_move rfl) ?_
            refine f_stepPY rfl rfl rfl rfl rfl (o_lookup kt65 Try.zeroValue3 rfl rfl rfl (.int .i64 (ncnt L (rows k) (j : Int) : Int)) (hC _)) ?_
            refine f_stepPY rfl rfl rfl rfl rfl (o_gtr rfl rfl) ?_
            refine f_stepP rfl rfl rfl (o_pickT rfl rfl) ?_
            refine f_stepP rfl rfl rfl (o_move rfl) ?_
            refine f_splitL 54 rfl (fun g54 => ?_) (fun g54 => ?_)
            · skip
              refine f_stepPY rfl rfl rfl rfl rfl (o_move rfl) ?_
              refine f_stepPY rfl rfl rfl rfl rfl (o_nil rfl) ?_
              refine f_stepPY rfl rfl rfl rfl rfl (o_field fa63_2 rfl) ?_
              refine f_stepPY rfl rfl rfl rfl rfl (o_load Try.isAgg25 rfl (rdS hSs (hcs 2 _ rfl))) ?_
              refine f_stepPY rfl rfl rfl rfl rfl (o_move rfl) ?_
              refine f_stepPY rfl rfl rfl rfl rfl (o_idx sl25 rfl rfl (0 + j) ⟨by omega, by omega, by first | omega | (simp; done) | (simp; omega)⟩) ?_
              refine f_stepPY rfl rfl rfl rfl rfl (o_load Try.isAgg3 rfl (roOne (enc := (.int .i64 ·)) hSz hcz hj)) ?_
              refine f_stepPY rfl rfl rfl rfl rfl (o_move rfl) ?_
              refine f_stepPY rfl rfl rfl rfl rfl (o_lss rfl rfl) ?_
              refine f_stepP rfl rfl rfl (o_pickT rfl rfl) ?_
              refine f_stepP rfl rfl rfl (o_move rfl) ?_
              refine f_splitL 65 rfl (fun g65 => ?_) (fun g65 => ?_)
              · skip
                refine f_stepPY rfl rfl rfl rfl rfl (o_move rfl) ?_
                refine f_stepPY rfl rfl rfl rfl rfl (o_field fa57_2 rfl) ?_
                refine f_stepPY rfl rfl rfl rfl rfl (o_load Try.isAgg3 rfl (rdA rfl)) ?_
                refine f_stepPY rfl rfl rfl rfl rfl (o_gtr rfl rfl) ?_
                refine f_stepP rfl rfl rfl (o_pickT rfl rfl) ?_
                refine f_done ?_
                refine f_tn (kh17 _ _ ?_)
                clear kh17
                refine f_cond rfl (fun c70 => ?_) (fun c70 => ?_)
                · skip
                  refine f_region ?_
                  refine f_stepP rfl rfl rfl (o_move rfl) ?_
                  refine f_stepP rfl rfl rfl (o_move rfl) ?_
                  refine f_stepP rfl rfl rfl (o_move rfl) ?_
                  refine f_stepP rfl rfl rfl (o_build (cs := mvCs ((k : Int), (j : Int), gn L (rows k) (lab L (k : Int)) (j : Int))) st57 rfl rfl) ?_
                  refine f_step0 rfl rfl (o_storeA Try.sizeOf57 rfl rfl rfl rfl (by first | exact Nat.le_of_ble_eq_true rfl | (simp; done) | (simp; omega)) (mvCs ((k : Int), (j : Int), gn L (rows k) (lab L (k : Int)) (j : Int))) rfl ?_)
                  refine f_done ?_
                  refine f_bn ?_
                  refine f_tn (kh14 _ _ ?_)
                  clear kh14
                  have hup : mvRow L S (rows k) bd k (j + 1) (mvTo L S rows bd k) = ((k : Int), (j : Int), gn L (rows k) (lab L (k : Int)) (j : Int)) := by rw [mvRow_next, mvUp, if_pos ⟨by omega, by omega, by omega, by omega⟩]
                  refine f_cellsC b6 (mvCs (mvRow L S (rows k) bd k (j + 1) (mvTo L S rows bd k))) (by rw [hup]) ?_
                  refine f_region ?_
                  refine f_stepP rfl rfl rfl (o_add rfl rfl _ (wrap_i64 (by omega))) ?_
                  refine f_stepP rfl rfl rfl (o_move rfl) ?_
                  refine f_done ?_
                  refine f_tn (f_again (j + 1) (by first | omega | (dsimp only; omega) | (simp; omega)) (by omega) ?_ ?_ ?_)
                  · exact (by repeat (first | exact trivial | refine ⟨rfl, ?_⟩))
                  · exact (by repeat (first | exact trivial | refine ⟨rfl, ?_⟩))
                  · repeat (first | exact Sub.nil | refine Sub.pick ?_ | refine Sub.castO rfl ?_ | refine Sub.skip ?_)
                · skip
                  refine f_skip ?_
                  refine f_bn ?_
                  refine f_tn (kh14 _ _ ?_)
                  clear kh14
                  have hup : mvRow L S (rows k) bd k (j + 1) (mvTo L S rows bd k) = mvRow L S (rows k) bd k j (mvTo L S rows bd k) := by rw [mvRow_next, mvUp, if_neg (by rintro ⟨h1, h2, h3, h4⟩; omega)]
                  refine f_cellsC b6 (mvCs (mvRow L S (rows k) bd k (j + 1) (mvTo L S rows bd k))) (by rw [hup]) ?_
                  refine f_region ?_
                  refine f_stepP rfl rfl rfl (o_add rfl rfl _ (wrap_i64 (by omega))) ?_
                  refine f_stepP rfl rfl rfl (o_move rfl) ?_
                  refine f_done ?_
                  refine f_tn (f_again (j + 1) (by first | omega | (dsimp only; omega) | (simp; omega)) (by omega) ?_ ?_ ?_)
                  · exact (by repeat (first | exact trivial | refine ⟨rfl, ?_⟩))
                  · exact (by repeat (first | exact trivial | refine ⟨rfl, ?_⟩))
                  · repeat (first | exact Sub.nil | refine Sub.pick ?_ | refine Sub.castO rfl ?_ | refine Sub.skip ?_)
              · skip
                refine f_stepN rfl rfl rfl rfl rfl rfl ?_
                refine f_stepN rfl rfl rfl rfl rfl rfl ?_
                refine f_stepN rfl rfl rfl rfl rfl rfl ?_
                refine f_stepN rfl rfl rfl rfl rfl rfl ?_
                refine f_stepP rfl rfl rfl (o_pickF rfl rfl) ?_
                refine f_done ?_
                refine f_tn (kh17 _ _ ?_)
                clear kh17
                refine f_condF rfl ?_
                refine f_skip ?_
                refine f_bn ?_
                refine f_tn (kh14 _ _ ?_)
                clear kh14
                have hup : mvRow L S (rows k) bd k (j + 1) (mvTo L S rows bd k) = mvRow L S (rows k) bd k j (mvTo L S rows bd k) := by rw [mvRow_next, mvUp, if_neg (by rintro ⟨h1, h2, h3, h4⟩; omega)]
                refine f_cellsC b6 (mvCs (mvRow L S (rows k) bd k (j + 1) (mvTo L S rows bd k))) (by rw [hup]) ?_
                refine f_region ?_
                refine f_stepP rfl rfl rfl (o_add rfl rfl _ (wrap_i64 (by omega))) ?_
                refine f_stepP rfl rfl rfl (o_move rfl) ?_
                refine f_done ?_
                refine f_tn (f_again (j + 1) (by first | omega | (dsimp only; omega) | (simp; omega)) (by omega) ?_ ?_ ?_)
                · exact (by repeat (first | exact trivial | refine ⟨rfl, ?_⟩))
                · exact (by repeat (first | exact trivial | refine ⟨rfl, ?_⟩))
                · repeat (first | exact Sub.nil | refine Sub.pick ?_ | refine Sub.castO rfl ?_ | refine Sub.skip ?_)
            · skip
              refine f_stepN rfl rfl rfl rfl rfl rfl ?_
              refine f_stepN rfl rfl rfl rfl rfl rfl ?_
              refine f_stepN rfl rfl rfl rfl rfl rfl ?_
              refine f_stepN rfl rfl rfl rfl rfl rfl ?_
              refine f_stepN rfl rfl rfl rfl rfl rfl ?_
              refine f_stepN rfl rfl rfl rfl rfl rfl ?_
              refine f_stepN rfl rfl rfl rfl rfl rfl ?_
              refine f_stepN rfl rfl rfl rfl rfl rfl ?_
              refine f_stepN rfl rfl rfl rfl rfl rfl ?_
              refine f_stepP rfl rfl rfl (o_pickF rfl rfl) ?_
              refine f_stepP rfl rfl rfl (o_move rfl) ?_
              refine f_stepN rfl rfl rfl rfl rfl rfl ?_
              refine f_stepN rfl rfl rfl rfl rfl rfl ?_
              refine f_stepN rfl rfl rfl rfl rfl rfl ?_
              refine f_stepN rfl rfl rfl rfl rfl rfl ?_
              refine f_stepP rfl rfl rfl (o_pickF rfl rfl) ?_
              refine f_done ?_
              refine f_tn (kh17 _ _ ?_)
              clear kh17
              refine f_condF rfl ?_
              refine f_skip ?_
              refine f_bn ?_
              refine f_tn (kh14 _ _ ?_)
              clear kh14
              have hup : mvRow L S (rows k) bd k (j + 1) (mvTo L S rows bd k) = mvRow L S (rows k) bd k j (mvTo L S rows bd k) := by rw [mvRow_next, mvUp, if_neg (by rintro ⟨h1, h2, h3, h4⟩; omega)]
              refine f_cellsC b6 (mvCs (mvRow L S (rows k) bd k (j + 1) (mvTo L S rows bd k))) (by rw [hup]) ?_
              refine f_region ?_
              refine f_stepP rfl rfl rfl (o_add rfl rfl _ (wrap_i64 (by omega))) ?_
              refine f_stepP rfl rfl rfl (o_move rfl) ?_
              refine f_done ?_
              refine f_tn (f_again (j + 1) (by first | omega | (dsimp only; omega) | (simp; omega)) (by omega) ?_ ?_ ?_)
              · exact (by repeat (first | exact trivial | refine ⟨rfl, ?_⟩))
              · exact (by repeat (first | exact trivial | refine ⟨rfl, ?_⟩))
              · repeat (first | exact Sub.nil | refine Sub.pick ?_ | refine Sub.castO rfl ?_ | refine Sub.skip ?_)
          · skip
            refine f_stepN rfl rfl rfl rfl rfl rfl ?_
            refine f_stepN rfl rfl rfl rfl rfl rfl ?_
            refine f_stepN rfl rfl rfl rfl rfl rfl ?_
            refine f_stepN rfl rfl rfl rfl rfl rfl ?_
            refine f_stepP rfl rfl rfl (o_pickF rfl rfl) ?_
            refine f_stepP rfl rfl rfl (o_move rfl) ?_
            refine f_stepN rfl rfl rfl rfl rfl rfl ?_
            refine f_stepN rfl rfl rfl rfl rfl rfl ?_
            refine f_stepN rfl rfl rfl rfl rfl rfl ?_
            refine f_stepN rfl rfl rfl rfl rfl rfl ?_
            refine f_stepN rfl rfl rfl rfl rfl rfl ?_
            refine f_stepN rfl rfl rfl rfl rfl rfl ?_
            refine f_stepN rfl rfl rfl rfl rfl rfl ?_
            refine f_stepN rfl rfl rfl rfl rfl rfl ?_
            refine f_stepN rfl rfl rfl rfl rfl rfl ?_
            refine f_stepP rfl rfl rfl (o_pickF rfl rfl) ?_
            refine f_stepP rfl rfl rfl (o_move rfl) ?_
            refine f_stepN rfl rfl rfl rfl rfl rfl ?_
            refine f_stepN rfl rfl rfl rfl rfl rfl ?_
            refine f_stepN rfl rfl rfl rfl rfl rfl ?_
            refine f_stepN rfl rfl rfl rfl rfl rfl ?_
            refine f_stepP rfl rfl rfl (o_pickF rfl rfl) ?_
            refine f_done ?_
            refine f_tn (kh17 _ _ ?_)
            clear kh17
            refine f_condF rfl ?_
            refine f_skip ?_
            refine f_bn ?_
            refine f_tn (kh14 _ _ ?_)
            clear kh14
            have hup : mvRow L S (rows k) bd k (j + 1) (mvTo L S rows bd k) = mvRow L S (rows k) bd k j (mvTo L S rows bd k) := by rw [mvRow_next, mvUp, if_neg (by rintro ⟨h1, h2, h3, h4⟩; omega)]
            refine f_cellsC b6 (mvCs (mvRow L S (rows k) bd k (j + 1) (mvTo L S rows bd k))) (by rw [hup]) ?_
            refine f_region ?_
            refine f_stepP rfl rfl rfl (o_add rfl rfl _ (wrap_i64 (by omega))) ?_
            refine f_stepP rfl rfl rfl (o_move rfl) ?_
            refine f_done ?_
            refine f_tn (f_again (j + 1) (by first | omega | (dsimp only; omega) | (simp; omega)) (by omega) ?_ ?_ ?_)
            · exact (by repeat (first | exact trivial | refine ⟨rfl, ?_⟩))
            · exact (by repeat (first | exact trivial | refine ⟨rfl, ?_⟩))
            · repeat (first | exact Sub.nil | refine Sub.pick ?_ | refine Sub.castO rfl ?_ | refine Sub.skip ?_)
        · skip
          have hj' : j = S.length := by omega
          refine f_cellsC b6 (mvCs (mvTo L S rows bd (k + 1))) (by rw [mvTo_next, hj']) ?_
          refine f_exit ?_
          refine f_te ?_
          clear kh13
          refine f_te ?_
          refine f_be ?_
          refine f_bn ?_
          refine f_tn (kh7 _ _ ?_)
          clear kh7
          refine f_region ?_
          refine f_stepP rfl rfl rfl (o_add rfl rfl _ (wrap_i64 (by omega))) ?_
          refine f_stepP rfl rfl rfl (o_move rfl) ?_
          refine f_done ?_
          refine f_tn (f_again (k + 1) (by first | omega | (dsimp only; omega) | (simp; omega)) (by omega) ?_ ?_ ?_)
          · exact (by repeat (first | exact trivial | refine ⟨rfl, ?_⟩))
          · exact (by repeat (first | exact trivial | refine ⟨rfl, ?_⟩))
          · repeat (first | exact Sub.nil | refine Sub.pick ?_ | refine Sub.castO rfl ?_ | refine Sub.skip ?_)
    · skip
      refine f_exit ?_
      refine f_te ?_
      clear kh6
      refine f_te ?_
      refine f_be ?_
      refine f_tn (kh3 _ _ ?_)
      clear kh3
      refine f_seq fun K18 kh18 => ?_
      obtain rfl : k = n := by omega
      refine f_regionH [[(b6, blk (mvCs (mvTo L S rows bd k)) 57)]] rfl ?_
      refine f_take 0 rfl (by decide +kernel) rfl rfl rfl (by repeat (first | exact Sub.nil | refine Sub.pick ?_ | refine Sub.castO rfl ?_ | refine Sub.skip ?_)) (o_loadA (vs := [_, _, _]) Try.isAgg57 Try.sizeOf57 rfl rfl ⟨(rdA rfl), (rdA rfl), (rdA rfl), trivial⟩) ?_
      refine f_take 1 rfl (by decide +kernel) rfl rfl rfl (by repeat (first | exact Sub.nil | refine Sub.pick ?_ | refine Sub.castO rfl ?_ | refine Sub.skip ?_)) (o_field fa57_2 rfl) ?_
      refine f_take 2 rfl (by decide +kernel) rfl rfl rfl (by repeat (first | exact Sub.nil | refine Sub.pick ?_ | refine Sub.castO rfl ?_ | refine Sub.skip ?_)) (o_load Try.isAgg3 rfl (rdA rfl)) ?_
      refine f_take 3 rfl (by decide +kernel) rfl rfl rfl (by repeat (first | exact Sub.nil | refine Sub.pick ?_ | refine Sub.castO rfl ?_ | refine Sub.skip ?_)) (o_gtr rfl rfl) ?_
      refine f_only0 4 rfl (by decide +kernel) rfl rfl (o_storeA Try.sizeOf57 rfl rfl rfl rfl (by first | exact Nat.le_of_ble_eq_true rfl | (simp; done) | (simp; omega)) (mvCs (mvTo L S rows bd k)) rfl ⟨(by repeat (first | exact Sub.nil | refine Sub.pick ?_ | refine Sub.castO rfl ?_ | refine Sub.skip ?_)), ?_⟩)
      refine f_only 5 rfl (by decide +kernel) rfl rfl rfl ((o_assign rfl).does ⟨(by repeat (first | exact Sub.nil | refine Sub.pick ?_ | refine Sub.castO rfl ?_ | refine Sub.skip ?_)), ?_⟩)
      refine f_over (by decide +kernel) ?_
      refine f_tn (kh18 _ _ ?_)
      clear kh18
      refine f_ret ?_
      exact f_fin2c (vs := mvCs (mvTo L S rows bd k)) [] Try.results19 rfl Try.isAgg57 Try.sizeOf57 rfl ⟨(rdA rfl), (rdA rfl), (rdA rfl), trivial⟩ rfl Sub.nil ⟨rfl, rfl⟩

set_option maxRecDepth 100000 in
set_option maxHeartbeats 4000000 in
theorem do_spec (n : Nat) (rows : Nat → List Int) (L S : List Int) (bs : Nat) (m : Seg) (v j : Nat) (g : Int) (w : World) (hS : LRep n rows L S bs m) (hO : LOk n rows L S) (hv : v < n) (hj : j < S.length) (ho : Owns w [m]) :
    Meets Try.prog 20 [.pointer (some ⟨bs, 0, none⟩), .agg (mvCs ((v : Int), (j : Int), g)).toArray] w [m] (fun u own' => ∃ m', own' = [m'] ∧ LRep n rows (tdy (L.set v (j : Int))) (szs (sns (L.set v (j : Int))).length (tdy (L.set v (j : Int)))) bs m') := by
  refine f_enter Try.func20 rfl Try.ntmps20 rfl ho ?_
  obtain ⟨Al, cl, ml, bo, vs, ms, bz, hm, hlo, hrw⟩ := hS
  refine f_subC (Sub.of_perm hm) ?_
  unfold lsegs
  have hLn := hO.len
  have hn1 := hO.n1
  obtain ⟨bl, spl, rfl, rfl⟩ := hlo.at_ (by omega)
  obtain ⟨L2, hL2⟩ : ∃ L2, L2 = L.set v (j : Int) := ⟨_, rfl⟩
  rw [← hL2]
  have hL2n : L2.length = n := by rw [hL2, List.length_set]; exact hLn
  refine f_seq fun K1 kh1 => ?_
  refine f_region ?_
  refine f_step rfl rfl rfl (o_box rfl rfl fun b3 => ?_)
  refine f_done ?_
  refine f_tn (kh1 _ _ ?_)
  clear kh1
  refine f_seq fun K2 kh2 => ?_
  refine f_regionH [[(bs, blk [.slice (some ⟨bl, 0, none⟩) L.length cl, .slice (some ⟨bo, 0, none⟩) n n, .slice (some ⟨bz, 0, none⟩) S.length S.length] 63)], [(b3, blk (mvCs ((v : Int), (j : Int), g)) 57)]] rfl ?_
  refine f_take 0 rfl (by decide +kernel) rfl rfl rfl (by repeat (first | exact Sub.nil | refine Sub.pick ?_ | refine Sub.castO rfl ?_ | refine Sub.skip ?_)) (o_move rfl) ?_
  refine f_take 1 rfl (by decide +kernel) rfl rfl rfl (by repeat (first | exact Sub.nil | refine Sub.pick ?_ | refine Sub.castO rfl ?_ | refine Sub.skip ?_)) (o_nil rfl) ?_
  refine f_take 2 rfl (by decide +kernel) rfl rfl rfl (by repeat (first | exact Sub.nil | refine Sub.pick ?_ | refine Sub.castO rfl ?_ | refine Sub.skip ?_)) (o_field fa63_0 rfl) ?_
  refine f_take 3 rfl (by decide +kernel) rfl rfl rfl (by repeat (first | exact Sub.nil | refine Sub.pick ?_ | refine Sub.castO rfl ?_ | refine Sub.skip ?_)) (o_load Try.isAgg25 rfl (rdA rfl)) ?_
  refine f_take 4 rfl (by decide +kernel) rfl rfl rfl (by repeat (first | exact Sub.nil | refine Sub.pick ?_ | refine Sub.castO rfl ?_ | refine Sub.skip ?_)) (o_field fa57_0 rfl) ?_
  refine f_take 5 rfl (by decide +kernel) rfl rfl rfl (by repeat (first | exact Sub.nil | refine Sub.pick ?_ | refine Sub.castO rfl ?_ | refine Sub.skip ?_)) (o_load Try.isAgg3 rfl (rdA rfl)) ?_
  refine f_take 6 rfl (by decide +kernel) rfl rfl rfl (by repeat (first | exact Sub.nil | refine Sub.pick ?_ | refine Sub.castO rfl ?_ | refine Sub.skip ?_)) (o_field fa57_1 rfl) ?_
  refine f_take 7 rfl (by decide +kernel) rfl rfl rfl (by repeat (first | exact Sub.nil | refine Sub.pick ?_ | refine Sub.castO rfl ?_ | refine Sub.skip ?_)) (o_load Try.isAgg3 rfl (rdA rfl)) ?_
  refine f_take 8 rfl (by decide +kernel) rfl rfl rfl (by repeat (first | exact Sub.nil | refine Sub.pick ?_ | refine Sub.castO rfl ?_ | refine Sub.skip ?_)) (o_idx sl25 rfl rfl (v) ⟨by omega, by omega, by first | omega | (simp; done) | (simp; omega)⟩) ?_
  refine f_only0 9 rfl (by decide +kernel) rfl rfl (o_store Try.sizeOf3 rfl rfl rfl rfl (by rw [List.length_append, ints_length]; omega) (ints L2 ++ spl) (by rw [hL2, List.set_append_left _ _ (by rw [ints_length]; omega)]; simp [ints, List.map_set]) ⟨(by repeat (first | exact Sub.nil | refine Sub.pick ?_ | refine Sub.castO rfl ?_ | refine Sub.skip ?_)), ?_⟩)
  refine f_over (by decide +kernel) ?_
  refine f_tn (kh2 _ _ ?_)
  clear kh2
  refine f_seq fun K3 kh3 => ?_
  refine f_region ?_
  refine f_step rfl rfl rfl (o_makeMap fun b20 => ?_)
  refine f_stepP rfl rfl rfl (o_assign rfl) ?_
  refine f_done ?_
  refine f_tn (kh3 _ _ ?_)
  clear kh3
  refine f_seq fun K4 kh4 => ?_
  refine f_seq fun K5 kh5 => ?_
  refine f_region ?_
  refine f_stepP rfl rfl rfl (o_move rfl) ?_
  refine f_stepP rfl rfl rfl (o_nil rfl) ?_
  refine f_stepP rfl rfl rfl (o_field fa63_0 rfl) ?_
  refine f_stepP rfl rfl rfl (o_load Try.isAgg25 rfl (rdA rfl)) ?_
  refine f_stepP rfl rfl rfl (o_len sl25 rfl) ?_
  refine f_stepP rfl rfl rfl (o_move rfl) ?_
  refine f_done ?_
  refine f_tn (kh5 _ _ ?_)
  clear kh5
  refine f_block ?_
  refine f_loop (α := Nat × List (Int × Value × Nat) × Nat) [0, 4, 24, 25] (fun ⟨k, ents, c⟩ => [(26, .int .i64 (k : Int))]) (fun ⟨k, ents, c⟩ => [[(bs, blk [.slice (some ⟨bl, 0, none⟩) L.length cl, .slice (some ⟨bo, 0, none⟩) n n, .slice (some ⟨bz, 0, none⟩) S.length S.length] 63)], [(bl, blk (ints (tdyTo L2 k) ++ spl) 3)], [(bo, blk vs 25)], ms.flatten, [(b20, mobj (fun x : Int => .int .i64 x) ents c)]]) (fun ⟨k, ents, c⟩ => k ≤ n ∧ MOk ents c ∧ Nums (sns (L2.take k)) ents) (fun ⟨k, ents, c⟩ => n - k) (0, [], 0) ?_ ?_ ?_ ?_
  · exact (by repeat (first | exact trivial | refine ⟨rfl, ?_⟩))
  · dsimp only
    rw [tdyTo_zero]
    repeat (first | exact Sub.nil | refine Sub.pick ?_ | refine Sub.castO rfl ?_ | refine Sub.skip ?_)
  · exact ⟨by omega, MOk.nil, Nums.nil⟩
  · rintro ⟨k, ents, c⟩ ⟨hkn, hmap, hNm⟩
    refine f_seq fun K6 kh6 => ?_
    refine f_region ?_
    refine f_stepP rfl rfl rfl (o_lss rfl rfl) ?_
    refine f_done ?_
    refine f_tn (kh6 _ _ ?_)
    clear kh6
    refine f_seq fun K7 kh7 => ?_
    refine f_cond rfl (fun c27 => ?_) (fun c27 => ?_)
    · skip
      have hk : k < L2.length := by omega
      have hsn := sns_next hk
      have hsl := sns_len (L := L2) (k := k) (by omega)
      refine f_skip ?_
      refine f_tn (kh7 _ _ ?_)
      clear kh7
      refine f_seq fun K8 kh8 => ?_
      refine f_block ?_
      refine f_seq fun K9 kh9 => ?_
      refine f_region ?_
      refine f_stepP rfl rfl rfl (o_move rfl) ?_
      refine f_stepP rfl rfl rfl (o_idx sl25 rfl rfl (k) ⟨by omega, by omega, by first | omega | (simp; done) | (simp; omega)⟩) ?_
      refine f_stepP rfl rfl rfl (o_load Try.isAgg3 rfl (rdA (v := .int .i64 L2[k]) (app_get (by rw [ints_get (by rw [tdyTo_len]; exact hk), tdyTo_get hk])))) ?_
      refine f_stepP rfl rfl rfl (o_assign rfl) ?_
      refine f_stepP rfl rfl rfl (o_assign rfl) ?_
      refine f_done ?_
      refine f_tn (kh9 _ _ ?_)
      clear kh9
      refine f_seq fun K10 kh10 => ?_
      refine f_region ?_
      refine f_stepP rfl rfl rfl (o_move rfl) ?_
      refine f_stepP rfl rfl rfl (o_move rfl) ?_
      refine f_stepP rfl rfl rfl (o_lookup2 kt65 Try.zeroValue3 rfl rfl rfl (.int .i64 (if L2[k] ∈ sns (L2.take k) then (((sns (L2.take k)).idxOf L2[k] : Nat) : Int) else 0)) (by rw [hNm.2]; split <;> rfl) (decide (L2[k] ∈ sns (L2.take k))) (by rw [hNm.2]; split <;> simp_all)) ?_
      refine f_stepP rfl rfl rfl (o_move rfl) ?_
      refine f_stepP rfl rfl rfl (o_extract rfl rfl) ?_
      refine f_stepP rfl rfl rfl (o_extract rfl rfl) ?_
      refine f_stepP rfl rfl rfl (o_assign rfl) ?_
      refine f_stepP rfl rfl rfl (o_assign rfl) ?_
      refine f_done ?_
      refine f_tn (kh10 _ _ ?_)
      clear kh10
      refine f_seq fun K11 kh11 => ?_
      refine f_seq fun K12 kh12 => ?_
      refine f_region ?_
      refine f_stepP rfl rfl rfl (o_move rfl) ?_
      refine f_stepP rfl rfl rfl (o_not rfl) ?_
      refine f_done ?_
      refine f_tn (kh12 _ _ ?_)
      clear kh12
      refine f_condB rfl (fun c38 => ?_) (fun c38 => ?_)
      · skip
        have hx : L2[k] ∉ sns (L2.take k) := by simpa using c38
        rw [if_neg hx] at hsn
        have hjt : ents.length = (sns (L2.take (k + 1))).idxOf L2[k] := by rw [hsn, List.idxOf_append, if_neg hx, hNm.1]; simp
        refine f_seq fun K13 kh13 => ?_
        refine f_region ?_
        refine f_stepP rfl rfl rfl (o_move rfl) ?_
        refine f_stepP rfl rfl rfl (o_lenM kt65.und rfl) ?_
        refine f_stepP rfl rfl rfl (o_assign rfl) ?_
        refine f_done ?_
        refine f_tn (kh13 _ _ ?_)
        clear kh13
        refine f_region ?_
        refine f_stepP rfl rfl rfl (o_move rfl) ?_
        refine f_stepP rfl rfl rfl (o_move rfl) ?_
        refine f_stepP rfl rfl rfl (o_move rfl) ?_
        refine f_step0 rfl rfl (o_mapUpdate kt65 rfl rfl rfl rfl ?_)
        refine f_done ?_
        refine f_tn (kh11 _ _ ?_)
        clear kh11
        refine f_region ?_
        refine f_stepP rfl rfl rfl (o_move rfl) ?_
        refine f_stepP rfl rfl rfl (o_nil rfl) ?_
        refine f_stepP rfl rfl rfl (o_field fa63_0 rfl) ?_
        refine f_stepP rfl rfl rfl (o_load Try.isAgg25 rfl (rdA rfl)) ?_
        refine f_stepP rfl rfl rfl (o_move rfl) ?_
        refine f_stepP rfl rfl rfl (o_move rfl) ?_
        refine f_stepP rfl rfl rfl (o_idx sl25 rfl rfl (k) ⟨by omega, by omega, by first | omega | (simp; done) | (simp; omega)⟩) ?_
        refine f_step0 rfl rfl (o_store Try.sizeOf3 rfl rfl rfl rfl (by rw [List.length_append, ints_length, tdyTo_len]; omega) (ints (tdyTo L2 (k + 1)) ++ spl) (by rw [tdyTo_next hk hjt, List.set_append_left _ _ (by rw [ints_length, tdyTo_len]; omega)]; simp [ints, List.map_set]) ?_)
        refine f_done ?_
        refine f_bn ?_
        refine f_tn (kh8 _ _ ?_)
        clear kh8
        refine f_region ?_
        refine f_stepP rfl rfl rfl (o_add rfl rfl _ (wrap_i64 (by omega))) ?_
        refine f_stepP rfl rfl rfl (o_move rfl) ?_
        refine f_done ?_
        refine f_tn (f_again (k + 1, mput ents L2[k] (.int .i64 (ents.length : Int)) c, mclock ents L2[k] c) (by first | omega | (dsimp only; omega) | (simp; omega)) ⟨by omega, hmap.put _ _, by rw [hsn]; have := hNm.add hx c; rw [← hNm.1] at this; exact this⟩ ?_ ?_ ?_)
        · exact (by repeat (first | exact trivial | refine ⟨rfl, ?_⟩))
        · exact (by repeat (first | exact trivial | refine ⟨rfl, ?_⟩))
        · repeat (first | exact Sub.nil | refine Sub.pick ?_ | refine Sub.castO rfl ?_ | refine Sub.skip ?_)
      · skip
        have hx : L2[k] ∈ sns (L2.take k) := by simpa using c38
        rw [if_pos hx] at hsn
        have hjf : (sns (L2.take k)).idxOf L2[k] = (sns (L2.take (k + 1))).idxOf L2[k] := by rw [hsn]
        refine f_reC 7 rfl (v := .int .i64 (((sns (L2.take k)).idxOf L2[k] : Nat) : Int)) (by rw [if_pos hx]) ?_
        refine f_skip ?_
        refine f_tn (kh11 _ _ ?_)
        clear kh11
        refine f_region ?_
        refine f_stepP rfl rfl rfl (o_move rfl) ?_
        refine f_stepP rfl rfl rfl (o_nil rfl) ?_
        refine f_stepP rfl rfl rfl (o_field fa63_0 rfl) ?_
        refine f_stepP rfl rfl rfl (o_load Try.isAgg25 rfl (rdA rfl)) ?_
        refine f_stepP rfl rfl rfl (o_move rfl) ?_
        refine f_stepP rfl rfl rfl (o_move rfl) ?_
        refine f_stepP rfl rfl rfl (o_idx sl25 rfl rfl (k) ⟨by omega, by omega, by first | omega | (simp; done) | (simp; omega)⟩) ?_
        refine f_step0 rfl rfl (o_store Try.sizeOf3 rfl rfl rfl rfl (by rw [List.length_append, ints_length, tdyTo_len]; omega) (ints (tdyTo L2 (k + 1)) ++ spl) (by rw [tdyTo_next hk hjf, List.set_append_left _ _ (by rw [ints_length, tdyTo_len]; omega)]; simp [ints, List.map_set]) ?_)
        refine f_done ?_
        refine f_bn ?_
        refine f_tn (kh8 _ _ ?_)
        clear kh8
        refine f_region ?_
        refine f_stepP rfl rfl rfl (o_add rfl rfl _ (wrap_i64 (by omega))) ?_
        refine f_stepP rfl rfl rfl (o_move rfl) ?_
        refine f_done ?_
        refine f_tn (f_again (k + 1, ents, c) (by first | omega | (dsimp only; omega) | (simp; omega)) ⟨by omega, hmap, by rw [hsn]; exact hNm⟩ ?_ ?_ ?_)
        · exact (by repeat (first | exact trivial | refine ⟨rfl, ?_⟩))
        · exact (by repeat (first | exact trivial | refine ⟨rfl, ?_⟩))
        · repeat (first | exact Sub.nil | refine Sub.pick ?_ | refine Sub.castO rfl ?_ | refine Sub.skip ?_)
    · skip
      refine f_exit ?_
      refine f_te ?_
      clear kh7
      refine f_te ?_
      refine f_be ?_
      refine f_tn (kh4 _ _ ?_)
      clear kh4
      refine f_seq fun K14 kh14 => ?_
      have hkn' : k = n := by omega
      rw [List.take_of_length_le (by omega)] at hNm
      have hel := hNm.1
      have hsl := sns_len (L := L2) (k := k) (by omega)
      rw [List.take_of_length_le (by omega)] at hsl
      refine f_cellsC bl (ints (tdy L2) ++ spl) (by rw [hkn', ← hL2n, tdyTo_all]) ?_
      refine f_region ?_
      refine f_stepP rfl rfl rfl (o_move rfl) ?_
      refine f_stepP rfl rfl rfl (o_move rfl) ?_
      refine f_stepP rfl rfl rfl (o_lenM kt65.und rfl) ?_
      refine f_step rfl rfl rfl (o_make el25 rfl rfl ents.length rfl (by omega) (by omega) (ints (szs ents.length [])) (by rw [szs_nil]; simp [ints, List.flatten_replicate_singleton]) fun b55 => ?_)
      refine f_stepP rfl rfl rfl (o_nil rfl) ?_
      refine f_stepP rfl rfl rfl (o_field fa63_2 rfl) ?_
      refine f_step0 rfl rfl (o_store Try.sizeOf25 rfl rfl rfl rfl (by first | exact Nat.le_of_ble_eq_true rfl | (simp; done) | (simp; omega)) [.slice (some ⟨bl, 0, none⟩) L.length cl, .slice (some ⟨bo, 0, none⟩) n n, .slice (some ⟨b55, 0, none⟩) ents.length ents.length] rfl ?_)
      refine f_done ?_
      refine f_tn (kh14 _ _ ?_)
      clear kh14
      refine f_seq fun K15 kh15 => ?_
      refine f_region ?_
      refine f_stepP rfl rfl rfl (o_move rfl) ?_
      refine f_stepP rfl rfl rfl (o_nil rfl) ?_
      refine f_stepP rfl rfl rfl (o_field fa63_0 rfl) ?_
      refine f_stepP rfl rfl rfl (o_load Try.isAgg25 rfl (rdA rfl)) ?_
      refine f_stepP rfl rfl rfl (o_len sl25 rfl) ?_
      refine f_stepP rfl rfl rfl (o_move rfl) ?_
      refine f_done ?_
      refine f_tn (kh15 _ _ ?_)
      clear kh15
      refine f_block ?_
      refine f_loop (α := Nat) [0, 61, 62] (fun q => [(63, .int .i64 (q : Int))]) (fun q => [[(bs, blk [.slice (some ⟨bl, 0, none⟩) L.length cl, .slice (some ⟨bo, 0, none⟩) n n, .slice (some ⟨b55, 0, none⟩) ents.length ents.length] 63)], [(bl, blk (ints (tdy L2) ++ spl) 3)], [(bo, blk vs 25)], ms.flatten, [(b55, blk (ints (szs ents.length ((tdy L2).take q))) 3)]]) (fun q => q ≤ n) (fun q => n - q) (0) ?_ ?_ ?_ ?_
      · exact (by repeat (first | exact trivial | refine ⟨rfl, ?_⟩))
      · repeat (first | exact Sub.nil | refine Sub.pick ?_ | refine Sub.castO rfl ?_ | refine Sub.skip ?_)
      · exact Nat.zero_le _
      · rintro q hqn
        refine f_seq fun K16 kh16 => ?_
        refine f_region ?_
        refine f_stepP rfl rfl rfl (o_lss rfl rfl) ?_
        refine f_done ?_
        refine f_tn (kh16 _ _ ?_)
        clear kh16
        refine f_seq fun K17 kh17 => ?_
        refine f_cond rfl (fun c64 => ?_) (fun c64 => ?_)
        · skip
          have hq : q < (tdy L2).length := by rw [tdy_len]; omega
          have hyr := tdy_rng _ (List.getElem_mem hq)
          obtain ⟨y, hy⟩ : ∃ y : Nat, (tdy L2)[q] = (y : Int) := ⟨(tdy L2)[q].toNat, by omega⟩
          have hyM : y < ents.length := by omega
          have hcl := cnt_le ((tdy L2).take q) y
          rw [List.length_take] at hcl
          refine f_skip ?_
          refine f_tn (kh17 _ _ ?_)
          clear kh17
          refine f_seq fun K18 kh18 => ?_
          refine f_block ?_
          refine f_seq fun K19 kh19 => ?_
          refine f_region ?_
          refine f_stepP rfl rfl rfl (o_idx sl25 rfl rfl (q) ⟨by omega, by omega, by first | omega | (simp; done) | (simp; omega)⟩) ?_
          refine f_stepP rfl rfl rfl (o_load Try.isAgg3 rfl (rdA (v := .int .i64 (y : Int)) (app_get (by rw [ints_get hq, hy])))) ?_
          refine f_stepP rfl rfl rfl (o_assign rfl) ?_
          refine f_done ?_
          refine f_tn (kh19 _ _ ?_)
          clear kh19
          refine f_region ?_
          refine f_stepP rfl rfl rfl (o_move rfl) ?_
          refine f_stepP rfl rfl rfl (o_nil rfl) ?_
          refine f_stepP rfl rfl rfl (o_field fa63_2 rfl) ?_
          refine f_stepP rfl rfl rfl (o_load Try.isAgg25 rfl (rdA rfl)) ?_
          refine f_stepP rfl rfl rfl (o_move rfl) ?_
          refine f_stepP rfl rfl rfl (o_idx sl25 rfl rfl (y) ⟨by omega, by omega, by first | omega | (simp; done) | (simp; omega)⟩) ?_
          refine f_stepP rfl rfl rfl (o_load Try.isAgg3 rfl (rdA (v := .int .i64 (cnt ((tdy L2).take q) y : Int)) (by rw [ints_get (by rw [szs_len]; exact hyM), szs_get hyM]))) ?_
          refine f_stepP rfl rfl rfl (o_add rfl rfl _ (wrap_i64 (by omega))) ?_
          refine f_stepP rfl rfl rfl (o_idx sl25 rfl rfl (y) ⟨by omega, by omega, by first | omega | (simp; done) | (simp; omega)⟩) ?_
          refine f_step0 rfl rfl (o_store Try.sizeOf3 rfl rfl rfl rfl (by rw [ints_length, szs_len]; omega) (ints (szs ents.length ((tdy L2).take (q + 1)))) (by rw [szs_next hq hy hyM]; simp [ints]) ?_)
          refine f_done ?_
          refine f_bn ?_
          refine f_tn (kh18 _ _ ?_)
          clear kh18
          refine f_region ?_
          refine f_stepP rfl rfl rfl (o_add rfl rfl _ (wrap_i64 (by omega))) ?_
          refine f_stepP rfl rfl rfl (o_move rfl) ?_
          refine f_done ?_
          refine f_tn (f_again (q + 1) (by first | omega | (dsimp only; omega) | (simp; omega)) (by omega) ?_ ?_ ?_)
          · exact (by repeat (first | exact trivial | refine ⟨rfl, ?_⟩))
          · exact (by repeat (first | exact trivial | refine ⟨rfl, ?_⟩))
          · repeat (first | exact Sub.nil | refine Sub.pick ?_ | refine Sub.castO rfl ?_ | refine Sub.skip ?_)
        · skip
          refine f_exit ?_
          refine f_te ?_
          clear kh17
          refine f_te ?_
          refine f_be ?_
          rw [List.take_of_length_le (by rw [tdy_len]; omega)]
          exact f_fin0n [(lsegs bs (some ⟨bl, 0, none⟩) cl (tdy L2) [(bl, blk (ints (tdy L2) ++ spl) 3)] bo n vs ms.flatten b55 (szs ents.length (tdy L2))).flatten] Try.results20 (Sub.flat (by unfold lsegs; rw [tdy_len, szs_len, show L2.length = L.length by omega]; repeat (first | exact Sub.nil | refine Sub.pick ?_))) ⟨_, rfl, by rw [← hel]; exact ⟨_, cl, _, bo, vs, ms, b55, List.Perm.refl _, own_ints hlo (by rw [tdy_len]; omega), hrw⟩⟩

end Go.Proofs.Ytagidegklmgilaa
