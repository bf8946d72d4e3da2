import Derived.Test.YthpkelafioikaaaGreatFlyRun
import Derived.Test.YthpkelafioikaaaGreatAll4
import Derived.Test.YthpkelafioikaaaGreatAll0
import Derived.Test.YthpkelafioikaaaGreatAll3
namespace Go.Proofs.YthpkelafioikaaaGreat
open Go Go.RowKit Fly
set_option maxRecDepth 100000
set_option maxHeartbeats 4000000
set_option linter.all false
abbrev jI (bH bT bA N:Nat) (sl:Value) (m:Seg) (at_:List Int):List Seg:=[(bH,blk [.pointer (some ⟨bT,0,none⟩)] 195)]::dJ bT bA N sl m at_
structure HAt (T:List (Option Int)) (A:Option Addr) (cap:Nat) (m:Seg) (l:List Ent) (at_:List Int):Prop where
 own:Own 193 2 (.slice A l.length cap) l.length (l.flatMap eD) m
 hok:HOk l at_
 len:at_.length=T.length
 full:nW l l.length
 tab:HT T l
 max:T.length≤16384
theorem HAt.small {T:List (Option Int)} {A:Option Addr} {cap:Nat} {m:Seg} {l:List Ent} {at_:List Int} (h:HAt T A cap m l at_):l.length≤T.length:=by rw [h.tab.count];exact tcount_le T
def HRep (T:List (Option Int)) (bH:Nat) (hm:Seg):Prop:=∃ bT bA A cap l m at_,hm.Perm (jI bH bT bA T.length (.slice A l.length cap) m at_).flatten∧HAt T A cap m l at_
theorem HRep_mk {T:List (Option Int)} {bH bT bA N cap:Nat} {A:Option Addr} {l:List Ent} {m:Seg} {at_:List Int} (F:N=T.length) (h:HAt T A cap m l at_):HRep T bH (jI bH bT bA N (.slice A l.length cap) m at_).flatten:=by
 subst F;exact ⟨bT,bA,A,cap,l,m,at_,List.Perm.refl _,h⟩
theorem HRep.max {T:List (Option Int)} {bH:Nat} {hm:Seg} (h:HRep T bH hm):T.length≤16384:=by obtain ⟨_,_,_,_,_,_,_,_,h⟩:=h;exact h.max
theorem HAt.init (n:Nat) (hn:n≤16384):HAt (List.replicate n none) none 0 [] [] (List.replicate n (-1)):=
 ⟨Own.nil _ _,⟨fun i h=>absurd h (Nat.not_lt_zero _),fun k h=> .inl (by rw [List.getElem?_replicate,if_pos (by simpa using h)])⟩,aN,fun c _ h=>by simp at h,HT.nil n,by simpa using hn⟩
theorem HAt.pushed {T:List (Option Int)} {A A' :Option Addr} {cap cap' :Nat} {m m' :Seg} {l l' :List Ent} {at_ at' :List Int} {e:Ent} (h:HAt T A cap m l at_) (he:T[e.id]? =some none) (ho:Own 193 2 (.slice A' (l++[e]).length cap') l'.length (l'.flatMap eD) m') (F:HOk l' at') (O:at'.length=T.length)
  (hp:l'.Perm (l++[e])) (J:nW l' (l++[e]).length):HAt (T.set e.id (some e.key)) A' cap' m' l' at' where
 own:=by rw [hp.length_eq] at ho ⊢;exact ho
 hok:=F
 len:=by rw [O];simp
 full:=by rw [hp.length_eq];exact J
 tab:=(h.tab.add he).perm (hp.trans (List.perm_append_comm (l₂:=[e])))
 max:=by rw [List.length_set];exact h.max
theorem HAt.fixed {T:List (Option Int)} {A:Option Addr} {cap:Nat} {m m' :Seg} {l l' :List Ent} {at_ at' :List Int} {i:Nat} {x:Int} (h:HAt T A cap m l at_) (hi:i<l.length) (ho:Own 193 2 (.slice A (l.set i ⟨(eg l i).id,x⟩).length cap) l'.length (l'.flatMap eD) m') (F:HOk l' at') (O:at'.length=T.length)
  (hp:l'.Perm (l.set i ⟨(eg l i).id,x⟩)) (J:nW l' (l.set i ⟨(eg l i).id,x⟩).length):HAt (T.set (eg l i).id (some x)) A cap m' l' at' where
 own:=by rw [hp.length_eq] at ho ⊢;exact ho
 hok:=F
 len:=by rw [O];simp
 full:=by rw [hp.length_eq];exact J
 tab:=(h.tab.key hi x).perm hp
 max:=by rw [List.length_set];exact h.max
theorem HAt.cut {T:List (Option Int)} {A:Option Addr} {cap:Nat} {m m' :Seg} {l l2:List Ent} {at_ at' :List Int} {e:Ent} (h:HAt T A cap m l at_) (ho:Own 193 2 (.slice A l2.length cap) l2.length (l2.flatMap eD) m') (F:HOk l2 at') (O:at'.length=T.length)
  (J:nW l2 l2.length) (hp:(e::l2).Perm l):HAt (T.set e.id none) A cap m' l2 at' where
 own:=ho
 hok:=F
 len:=by rw [O];simp
 full:=J
 tab:=(h.tab.perm hp).cut
 max:=by rw [List.length_set];exact h.max
theorem HAt.top {T:List (Option Int)} {A:Option Addr} {cap:Nat} {m:Seg} {l:List Ent} {at_:List Int} (h:HAt T A cap m l at_) (F:0<l.length):topR T=some ((eg l 0).id,(eg l 0).key):=(h.tab.top h.full F).topR
theorem HAt.none {T:List (Option Int)} {A:Option Addr} {cap:Nat} {m:Seg} {l:List Ent} {at_:List Int} (h:HAt T A cap m l at_) (F:l.length=0):topR T= .none:=topR_none (by rw [← h.tab.count];exact F)
theorem HAt.where_ {T:List (Option Int)} {A:Option Addr} {cap:Nat} {m:Seg} {l:List Ent} {at_:List Int} (h:HAt T A cap m l at_) {k:Nat} (hk:k<T.length):
  ∃ x:Int,at_[k]? =some x∧((x<0→x= -1∧T[k]? =some .none)∧(0≤x→x.toNat<l.length∧(eg l x.toNat).id=k∧T[k]? =some (some (eg l x.toNat).key))):=by
 rcases h.hok.h2 k (by rw [h.len];exact hk) with e|⟨i,hi,e,F⟩
 ·exact ⟨-1,e,fun _=>⟨rfl,h.tab.at_none h.hok h.len e⟩,fun h=>aA⟩
 ·exact ⟨i,e,fun h=>aA,fun _=>⟨aA,by simpa using F,by have:=h.tab.len hi;rw [F] at this;simpa using this⟩⟩
theorem lower_out {T:List (Option Int)} {id key:Int} (h:¬ (0≤id∧id<T.length)):jP T id key=(T,false,5):=if_neg h
theorem lower_new {T:List (Option Int)} {k:Nat} {key:Int} (hk:k<T.length) (h:T[k]? =some .none):jP T (k:Int) key=(T.set k (some key),true,0):=by
 unfold jP;rw [if_pos aA,Int.toNat_natCast,h]
theorem lower_no {T:List (Option Int)} {k:Nat} {key x:Int} (hk:k<T.length) (h:T[k]? =some (some x)) (hx:x≤key):jP T (k:Int) key=(T,false,0):=by
 unfold jP;rw [if_pos aA,Int.toNat_natCast,h];simp [hx]
theorem lower_yes {T:List (Option Int)} {k:Nat} {key x:Int} (hk:k<T.length) (h:T[k]? =some (some x)) (hx:¬ x≤key):jP T (k:Int) key=(T.set k (some key),true,0):=by
 unfold jP;rw [if_pos aA,Int.toNat_natCast,h];simp [hx]
theorem lB {T:List (Option Int)} {k:Nat} {x:Int} (h:topR T=some (k,x)):topA T=((k:Int),x,0):=by unfold topA;rw [h]
theorem topA_none {T:List (Option Int)} (h:topR T= .none):topA T=(0,0,5):=by unfold topA;rw [h]
theorem popT_some {T:List (Option Int)} {k:Nat} {x:Int} (h:topR T=some (k,x)):popT T=T.set k .none:=by unfold popT;rw [h]
theorem popT_none {T:List (Option Int)} (h:topR T= .none):popT T=T:=by unfold popT;rw [h]
theorem has_spec (T:List (Option Int)) (bH:Nat) (hm:Seg) (id:Int) (w:World) (F:HRep T bH hm) (hw:Owns w [hm]):Meets Tryz.prog 110 [.pointer (some ⟨bH,0,none⟩),.int .i64 id] w [hm] (fun u own' =>u= .bool (decide (0≤id∧id<T.length))∧own' =[hm]):=by
 refine bE Tryz.func110 rfl Tryz.ntmps110 rfl hw ?_;obtain ⟨bT,bA,A,cap,l,m,at_,hm',hA⟩:=F
 refine eP (Sub.permF hm') ?_
 unfold jI dJ
 have hsm:=hA.small
 have O:=hA.max
 have J:=own_cap hA.own
 refine aG fun kh1=>aB 1 rfl<|aD kh1<|aG fun kh2=>aB 3 rfl<|d8 7 rfl (fun g7=>?_) (fun g7=>?_)
 ·refine aB 2 rfl<|eA rfl rfl (dH rfl)<|eA rfl rfl (aT k3 rfl)<|eA rfl rfl (aH Tryz.isAgg187 rfl (rdA rfl))<|eA rfl rfl (dH rfl)<|eA rfl rfl (aT lT rfl)<|eA rfl rfl (aH Tryz.isAgg25 rfl (rdA rfl))<|eA rfl rfl (iH bX rfl)<|aB 3 rfl<|aD kh2 ?_
  refine aY ?_;exact bJ [hm] Tryz.results110 rfl (Sub.transF (b:=(jI bH bT bA T.length (.slice A l.length cap) m at_)) (by unfold jI;unfold dJ;repeat (first|exact aP|refine aM ?_|refine cE rfl ?_)) ⟨[],by simpa using hm'.symm⟩) ⟨by congr 1;exact decide_eq_decide.2 ⟨fun h=>⟨aA,h⟩,fun h=>h.2⟩,rfl⟩
 ·refine aB 12 rfl<|aD kh2<|aY ?_
  exact bJ [hm] Tryz.results110 rfl (Sub.transF (b:=(jI bH bT bA T.length (.slice A l.length cap) m at_)) (by unfold jI;unfold dJ;repeat (first|exact aP|refine aM ?_|refine cE rfl ?_)) ⟨[],by simpa using hm'.symm⟩) ⟨by rw [decide_eq_false aA],rfl⟩
theorem Len_spec (T:List (Option Int)) (bH:Nat) (hm:Seg)  (w:World) (J:HRep T bH hm) (hw:Owns w [hm]):Meets Tryz.prog 175 [.pointer (some ⟨bH,0,none⟩)] w [hm] (fun u own' =>u= .int .i64 (kC T:Int)∧own' =[hm]):=by
 refine bE Tryz.func175 rfl Tryz.ntmps175 rfl hw ?_;obtain ⟨bT,bA,A,cap,l,m,at_,F,hA⟩:=J
 refine eP (Sub.permF F) ?_
 unfold jI dJ
 have hsm:=hA.small
 have U:=hA.max
 have O:=own_cap hA.own
 refine aG fun kh1=>aB 1 rfl<|aD kh1<|aG fun kh2=>aB 1 rfl<|f_Q (dH rfl)<|cL k3 rfl<|cX Tryz.isAgg187 rfl (rdA rfl)<|f_Q (dH rfl)<|cL fW rfl ?_
 refine cX Tryz.isAgg188 rfl (rdA rfl)<|dU jK rfl<|aB 1 rfl<|aD kh2<|aY ?_
 exact bJ [hm] Tryz.results175 rfl (Sub.transF (b:=(jI bH bT bA T.length (.slice A l.length cap) m at_)) (by unfold jI;unfold dJ;repeat (first|exact aP|refine aM ?_|refine cE rfl ?_)) ⟨[],by simpa using F.symm⟩) ⟨by rw [hA.tab.count],rfl⟩
theorem Top_spec (T:List (Option Int)) (bH:Nat) (hm:Seg)  (w:World) (U:HRep T bH hm) (hw:Owns w [hm]):Meets Tryz.prog 113 [.pointer (some ⟨bH,0,none⟩)] w [hm] (fun u own' =>u= .tuple #[.int .i64 (topA T).1,.int .u64 (topA T).2.1,.int .i64 (topA T).2.2]∧own' =[hm]):=by
 refine bE Tryz.func113 rfl Tryz.ntmps113 rfl hw ?_;obtain ⟨bT,bA,A,cap,l,m,at_,J,hA⟩:=U
 refine eP (Sub.permF J) ?_
 unfold jI dJ
 have hsm:=hA.small
 have Z:=hA.max
 have Y:=own_cap hA.own
 refine aG fun kh1=>aB 3 rfl<|aD kh1<|aS fun kh2=>aG fun kh3=>aB 1 rfl<|f_Q (dH rfl)<|cL k3 rfl<|cX Tryz.isAgg187 rfl (rdA rfl)<|f_Q (dH rfl) ?_
 refine cL fW rfl<|cX Tryz.isAgg188 rfl (rdA rfl)<|dU jK rfl<|aB 1 rfl<|aD kh3<|aX rfl (fun c13=>?_) (fun c13=>?_)
 ·refine aG fun O=>aB 3 rfl<|aD O<|aY<|cV ?_
  exact kH [hm] Tryz.results113 rfl rfl rfl (Sub.transF (b:=(jI bH bT bA T.length (.slice A l.length cap) m at_)) (by unfold jI;unfold dJ;repeat (first|exact aP|refine aM ?_|refine cE rfl ?_)) ⟨[],by simpa using J.symm⟩) ⟨by rw [topA_none (hA.none aA)],rfl⟩
 ·obtain ⟨bl,sp,rfl,rfl,X⟩:=hA.own.upd aA
  have F:0<l.length:=aA
  refine bV kh2<|aS fun kh5=>c7 [[(bH,blk [.pointer (some ⟨bT,0,none⟩)] 195)],[(bT,blk [.slice (some ⟨bl,0,none⟩) l.length cap,.slice (some ⟨bA,0,none⟩) T.length T.length,.func (.func 109) #[] #[]] 191)],[(bl,blk (l.flatMap eD++sp) 193)]] rfl<|f_T 0 rfl (aU rfl)<|f_T 1 rfl (dH rfl)<|f_T 2 rfl (aT k3 rfl)<|f_T 3 rfl (aH Tryz.isAgg187 rfl (rdA rfl))<|f_T 4 rfl (dH rfl)<|f_T 5 rfl (aT fW rfl)<|f_T 6 rfl (aH Tryz.isAgg188 rfl (rdA rfl)) ?_
  refine f_T 7 rfl (aL jK rfl rfl (0*2))<|f_T 8 rfl (aT mY rfl)<|f_T 9 rfl (aH Tryz.isAgg3 rfl (rdOwn (v:= .int .i64 ((eg l 0).id:Int)) eB F (by rw [← i5 F];rfl))) ?_
  refine f_T 10 rfl (aU rfl)<|f_T 11 rfl (dH rfl)<|f_T 12 rfl (aT k3 rfl)<|f_T 13 rfl (aH Tryz.isAgg187 rfl (rdA rfl))<|f_T 14 rfl (dH rfl)<|f_T 15 rfl (aT fW rfl)<|f_T 16 rfl (aH Tryz.isAgg188 rfl (rdA rfl))<|f_T 17 rfl (aL jK rfl rfl (0*2))<|f_T 18 rfl (aT qX rfl)<|f_T 19 rfl (aH Tryz.isAgg46 rfl (rdOwn (v:= .int .u64 (eg l 0).key) eB F (by rw [← i5 F];rfl))) ?_
  refine f_T 20 rfl (bI rfl)<|f_T 21 rfl (bI rfl)<|f_T 22 rfl (bI rfl)<|cU aW<|bO kh5<|aY ?_
  exact kH [hm] Tryz.results113 rfl rfl rfl (Sub.transF (b:=(jI bH bT bA T.length (.slice (some ⟨bl,0,none⟩) l.length cap) [(bl,blk (l.flatMap eD++sp) 193)] at_)) (by unfold jI;unfold dJ;repeat (first|exact aP|refine aM ?_|refine cE rfl ?_)) ⟨[],by simpa using J.symm⟩) ⟨by rw [lB (hA.top F)],rfl⟩
theorem HPop_spec (T:List (Option Int)) (bH:Nat) (hm:Seg)  (w:World) (U:HRep T bH hm) (hw:Owns w [hm]):Meets Tryz.prog 67 [.pointer (some ⟨bH,0,none⟩)] w [hm] (fun u own' =>u= .tuple #[.int .i64 (topA T).1,.int .u64 (topA T).2.1,.int .i64 (topA T).2.2]∧∃ hm2,own' =[hm2]∧HRep (popT T) bH hm2):=by
 refine bE Tryz.func67 rfl Tryz.ntmps67 rfl hw<|aG fun kh1=>aB 3 rfl<|aD kh1<|aG fun kh2=>aB 1 rfl ?_
 refine f_S (d4 [hm] _ Tryz.call113 rfl (aM Sub.refl) (fun w_ F=>Top_spec T bH hm w_ U F.owns) ?_);rintro _ _ ⟨rfl,rfl⟩;dsimp only [aK,aJ];refine aB 7 rfl<|aD kh2<|aS fun kh3=>aG fun kh4=>aB 2 rfl<|aD kh4<|aX rfl (fun c12=>?_) (fun c12=>?_)
 ·obtain ⟨bT,bA,A,cap,l,m,at_,aa,hA⟩:=U
  refine eP (Sub.openF aa) ?_
  unfold jI dJ
  dsimp only [aK,aJ];have hsm:=hA.small
  have ae:=hA.max
  have ah:=own_cap hA.own
  have J:0<l.length:=by
    rcases Nat.eq_zero_or_pos l.length with X|X
    ·rw [topA_none (hA.none X)] at c12;simp at c12
    ·exact X
  refine aI<|aB 1 rfl<|f_Q (dH rfl)<|cL k3 rfl<|cX Tryz.isAgg187 rfl (rdA rfl)<|f_Q (qK Tryz.underlying187 rfl rfl) ?_
  refine f_S (d4 (dJ bT bA T.length (.slice A l.length cap) m at_) _ Tryz.call114 rfl (by unfold dJ;exact aM (aM (aM Sub.refl))) (fun w_ F=>Pop_spec bT bA T.length A cap m at_ l (l.length - 1) w_ hA.own hA.hok hA.len hA.full aA aA F.owns) ?_);rintro ai _ ⟨l2,m2,ab,rfl,ad,ag,Z,O,ac,Y⟩
  unfold dJ
  dsimp only [aK,aJ];refine aD kh3<|aG fun kh5=>aB 6 rfl<|aD kh5<|aY ?_
  exact kH [(jI bH bT bA T.length (.slice A l2.length cap) m2 ab).flatten] Tryz.results67 rfl rfl rfl (Sub.flatF (by repeat (first|exact aP|refine aM ?_|refine cE rfl ?_))) ⟨rfl,_,rfl,HRep_mk (popT_len T).symm (by rw [popT_some (hA.top J)];exact hA.cut ad Z O ac Y)⟩
 ·refine bV kh3<|aG fun kh6=>aB 6 rfl<|aD kh6<|aY ?_
  exact kH [hm] Tryz.results67 rfl rfl rfl (by repeat (first|exact aP|refine aM ?_|refine cE rfl ?_)) ⟨rfl,hm,rfl,by cases e:topR T with
    |none=>rw [popT_none e];exact U
    |some p=>obtain ⟨k,x⟩:=p;rw [lB e] at c12;exact absurd rfl c12⟩
theorem lL (T:List (Option Int)) (bH:Nat) (hm:Seg) (id key:Int) (w:World) (hH:HRep T bH hm) (hw:Owns w [hm]):Meets Tryz.prog 65 [.pointer (some ⟨bH,0,none⟩),.int .i64 id,.int .u64 key] w [hm] (fun u own' =>u= .tuple #[.bool (jP T id key).2.1,.int .i64 (jP T id key).2.2]∧∃ hm2,own' =[hm2]∧HRep (jP T id key).1 bH hm2):=by
 refine bE Tryz.func65 rfl Tryz.ntmps65 rfl hw<|aG fun kh1=>aB 2 rfl<|aD kh1<|aS fun kh2=>aG fun kh3=>aB 2 rfl ?_
 refine f_S (d4 [hm] _ Tryz.call110 rfl (aM Sub.refl) (fun w_ O=>has_spec T bH hm id w_ hH O.owns) ?_);rintro _ _ ⟨rfl,rfl⟩;dsimp only [aK,aJ];refine aB 1 rfl<|aD kh3<|eO rfl (fun c12=>?_) (fun c12=>?_)
 ·have Y:¬ (0≤id∧id<T.length):=by have h' :=c12;simp at h';omega
  refine aG fun al=>aB 2 rfl<|aD al<|aY<|cV ?_
  exact cZ [hm] Tryz.results65 rfl rfl (by repeat (first|exact aP|refine aM ?_|refine cE rfl ?_)) ⟨by rw [lower_out Y],hm,rfl,by rw [lower_out Y];exact hH⟩
 ·have ar:0≤id∧id<T.length:=by simpa using c12
  obtain ⟨k,rfl⟩:∃ k:Nat,id=k:=⟨id.toNat,aA⟩
  have hk:k<T.length:=aA
  obtain ⟨bT,bA,A,cap,l,m,at_,ab,hA⟩:=hH
  refine eP (Sub.openF ab) ?_
  unfold jI dJ
  dsimp only [aK,aJ];have hsm:=hA.small
  have ao:=hA.max
  have ap:=own_cap hA.own
  obtain ⟨x,hx,X,am⟩:=hA.where_ hk
  have aq:=hA.len
  refine bV kh2<|aG fun kh5=>aB 1 rfl<|f_Q (dH rfl)<|cL k3 rfl<|cX Tryz.isAgg187 rfl (rdA rfl)<|f_Q (dH rfl)<|cL lT rfl<|cX Tryz.isAgg25 rfl (rdA rfl)<|aB 1 rfl ?_
  refine f_Q (aL bX rfl rfl (k))<|f_Q (aH Tryz.isAgg3 rfl (rdA (ints_at hx)))<|aB 1 rfl<|aD kh5<|aS fun kh6=>aR<|aG fun kh7=>aB 3 rfl<|aD kh7<|aX rfl (fun c41=>?_) (fun c41=>?_)
  ·refine aI<|aB 1 rfl<|f_Q (dH rfl)<|cL k3 rfl<|cX Tryz.isAgg187 rfl (rdA rfl)<|f_Q (qK Tryz.underlying187 rfl rfl)<|aB 2 rfl<|f_Q (dL (cs:=eD ⟨k,key⟩) st193 rfl rfl)<|f_Q (qK Tryz.underlying193 rfl rfl) ?_
   refine f_S (d4 (dJ bT bA T.length (.slice A l.length cap) m at_) _ Tryz.call111 rfl (by unfold dJ;exact aM (aM (aM Sub.refl))) (fun w_ O=>Push_spec bT bA T.length A cap m at_ l ⟨k,key⟩ w_ hA.own hA.hok hA.len hA.full (by rw [hx,(X c41).1]) aA O.owns) ?_);rintro _ _ ⟨A',cap',l2,m2,ac,rfl,ae,aa,Z,F,an,ad⟩
   unfold dJ
   have J:=F.length_eq
   dsimp only [aK,aJ];refine aZ<|dF<|bO kh6<|aG fun kh8=>aB 2 rfl<|aD kh8<|aY ?_
   exact cZ [(jI bH bT bA T.length (.slice A' l2.length cap') m2 ac).flatten] Tryz.results65 rfl rfl (Sub.flatF (by rw [J];repeat (first|exact aP|refine aM ?_|refine cE rfl ?_))) ⟨by rw [lower_new hk (X c41).2],_,rfl,HRep_mk (by rw [lowerR_len]) (by rw [lower_new hk (X c41).2];exact hA.pushed (e:=⟨k,key⟩) (X c41).2 ae aa Z F ad)⟩
  ·obtain ⟨hi,aj,hT⟩:=am aA
   have ai:(x.toNat:Int)=x:=aA
   obtain ⟨bl,sp,rfl,rfl,ak⟩:=hA.own.upd aA
   have U:(l.set x.toNat ⟨(eg l x.toNat).id,key⟩).length=l.length:=List.length_set
   refine aG fun kh9=>aB 1 rfl<|f_Q (dH rfl)<|cL k3 rfl<|cX Tryz.isAgg187 rfl (rdA rfl)<|f_Q (dH rfl)<|cL fW rfl<|cX Tryz.isAgg188 rfl (rdA rfl)<|aB 1 rfl<|f_Q (aL jK rfl rfl (x.toNat*2)) ?_
   refine cL qX rfl<|f_Q (aH Tryz.isAgg46 rfl (rdOwn (v:= .int .u64 (eg l x.toNat).key) eB hi (by rw [← i5 hi];rfl))) ?_
   refine aB 3 rfl<|aD kh9<|aX rfl (fun c54=>?_) (fun c54=>?_)
   ·refine aG fun ah=>aB 2 rfl<|aD ah<|aY<|fA<|cV ?_
    exact cZ [hm] Tryz.results65 rfl rfl (Sub.transF (b:=(jI bH bT bA T.length (.slice (some ⟨bl,0,none⟩) l.length cap) [(bl,blk (l.flatMap eD++sp) 193)] at_)) (by unfold jI;unfold dJ;repeat (first|exact aP|refine aM ?_|refine cE rfl ?_)) ⟨[],by simpa using ab.symm⟩) ⟨by rw [lower_no hk hT c54],hm,rfl,by rw [lower_no hk hT c54];exact ⟨bT,bA,_,cap,l,_,at_,ab,hA⟩⟩
   ·refine aG fun ag=>aB 1 rfl<|f_Q (dH rfl)<|cL k3 rfl<|cX Tryz.isAgg187 rfl (rdA rfl)<|f_Q (dH rfl)<|cL fW rfl<|cX Tryz.isAgg188 rfl (rdA rfl)<|aB 2 rfl<|f_Q (aL jK rfl rfl (x.toNat*2)) ?_
    refine cL qX rfl<|f_Z (bU Tryz.sizeOf46 rfl rfl rfl rfl (by rw [List.length_append,dO eD eB];omega) ((l.set x.toNat ⟨(eg l x.toNat).id,key⟩).flatMap eD++sp) (lX eB sp aA l x.toNat _ hi (by rw [← i5 hi];rfl)) ?_)
    refine aD ag<|aI<|aB 1 rfl<|f_Q (dH rfl)<|cL k3 rfl<|cX Tryz.isAgg187 rfl (rdA rfl)<|f_Q (qK Tryz.underlying187 rfl rfl)<|aB 1 rfl ?_
    refine f_S (d4 (dJ bT bA T.length (.slice (some ⟨bl,0,none⟩) (l.set x.toNat ⟨(eg l x.toNat).id,key⟩).length cap) [(bl,blk ((l.set x.toNat ⟨(eg l x.toNat).id,key⟩).flatMap eD++sp) 193)] at_) _ Tryz.call112 rfl (by rw [U];unfold dJ;exact aM (aM (aM Sub.refl))) (fun w_ O=>(by have h:=Fix_spec bT bA T.length (some ⟨bl,0,none⟩) cap [(bl,blk ((l.set x.toNat ⟨(eg l x.toNat).id,key⟩).flatMap eD++sp) 193)] at_ (l.set x.toNat ⟨(eg l x.toNat).id,key⟩) x.toNat w_ (by rw [U];exact ak _ (by rw [dO eD eB,dO eD eB,U])) (hA.hok.key hi key) hA.len (by rw [U];exact dn_key hA.full hi) aA aA O.owns;rw [ai] at h;exact h)) ?_);rintro _ _ ⟨l2,m2,ac,rfl,ae,aa,Z,F,an,ad⟩
    unfold dJ
    have J:=F.length_eq
    dsimp only [aK,aJ];refine aZ<|dF<|bO kh6<|aG fun kh12=>aB 2 rfl<|aD kh12<|aY ?_
    exact cZ [(jI bH bT bA T.length (.slice (some ⟨bl,0,none⟩) l2.length cap) m2 ac).flatten] Tryz.results65 rfl rfl (Sub.flatF (by rw [J,U];repeat (first|exact aP|refine aM ?_|refine cE rfl ?_))) ⟨by rw [lower_yes hk hT c54],_,rfl,HRep_mk (by rw [lowerR_len]) (by rw [lower_yes hk hT c54];rw [← aj];exact hA.fixed hi ae aa Z F ad)⟩
theorem ints_rep (n:Nat) (x:Int):(List.replicate n [Value.int .i64 x]).flatten=bF (List.replicate n x):=by
 induction n with
 |zero=>rfl
 |succ n ih=>simp only [List.replicate_succ,List.flatten_cons,ih];rfl
def NewΦ (n:Int) (u:Value) (own:List Seg):Prop:=
 if n<0∨16384<n then u= .tuple #[.pointer none,.int .i64 1]∧own=[] else ∃ bH hm,u= .tuple #[.pointer (some ⟨bH,0,none⟩),.int .i64 0]∧own=[hm]∧HRep (List.replicate n.toNat none) bH hm
theorem New_spec (n:Int) (w:World):Meets Tryz.prog 64 [.int .i64 n] w [] (NewΦ n):=by
 refine bE Tryz.func64 rfl Tryz.ntmps64 rfl Owns.nil<|aG fun kh1=>aB 2 rfl<|aD kh1<|aS fun kh2=>aG fun kh3=>aB 3 rfl<|d8 8 rfl (fun g8=>?_) (fun g8=>?_)
 ·refine aB 3 rfl<|aD kh3<|fI rfl<|aG fun kh4=>aB 2 rfl<|aD kh4<|aY<|cV ?_
  exact cZ [] Tryz.results64 rfl rfl aP (by unfold NewΦ;rw [if_pos aA];exact ⟨rfl,rfl⟩)
 ·refine aB 3 rfl<|aD kh3<|aX rfl (fun c11=>?_) (fun c11=>?_)
  ·refine aG fun O=>aB 2 rfl<|aD O<|aY<|cV ?_
   exact cZ [] Tryz.results64 rfl rfl aP (by unfold NewΦ;rw [if_pos aA];exact ⟨rfl,rfl⟩)
  ·obtain ⟨k,rfl⟩:∃ k:Nat,n=k:=⟨n.toNat,aA⟩
   refine bV kh2<|aG fun kh6=>aB 1 rfl<|f_S (eZ eL rfl rfl k rfl aA aA (bF (List.replicate k 0)) (ints_rep k 0) fun b13=>?_)
   refine f_Q (dL st191 rfl rfl)<|f_S (cT rfl rfl fun b15=>?_)
   refine aB 1 rfl<|aD kh6<|aS fun kh7=>aG fun U=>aB 1 rfl<|f_Q (dH rfl)<|cL lT rfl<|cX Tryz.isAgg25 rfl (rdA rfl)<|dU bX rfl<|aB 1 rfl ?_
   refine aD U<|aR ?_
   refine dA (α:=Nat×List Int) [4,20] (fun ⟨i,at_⟩=>[(21,.int .i64 (i:Int))]) (fun ⟨i,at_⟩=>[[(b15,blk [.slice none 0 0,.slice (some ⟨b13,0,none⟩) k k,.nilFunc] 191)],[(b13,blk (bF at_) 3)]]) (fun ⟨i,at_⟩=>i≤k∧at_.length=k∧∀ j (h:j<at_.length),j<i→at_[j]= -1) (fun ⟨i,at_⟩=>k - i) (0,List.replicate k 0) ?_ ?_ ?_ ?_
   ·exact aF
   ·exact aC
   ·exact ⟨aA,aN,fun j _ h=>aA⟩
   ·rintro ⟨i,at_⟩ ⟨X,hal,F⟩;refine aG fun kh9=>aB 1 rfl<|aD kh9<|aS fun kh10=>aX rfl (fun J=>?_) (fun J=>?_)
    ·refine bV kh10<|aS fun kh11=>aR<|aG fun kh12=>aB 2 rfl<|aD kh12<|aI<|aB 1 rfl<|f_Q (dH rfl)<|cL lT rfl ?_
     refine cX Tryz.isAgg25 rfl (rdA rfl)<|aB 1 rfl ?_
     have hi:i<k:=aA
     refine f_Q (aL bX rfl rfl (i))<|f_Z (bU Tryz.sizeOf3 rfl rfl rfl rfl (by rw [a7];omega) (bF (at_.set i (-1))) (l6 _ _ _) ?_)
     refine aZ<|dF<|bO kh11<|aI<|f_Q (a8 rfl rfl)<|aB 1 rfl<|aZ ?_
     refine cS (a6 (i+1,at_.set i (-1)) (by first|omega|(dsimp only;omega)|(simp;omega)) ⟨aA,by simpa using hal,fun j h hj=>by rw [List.getElem_set];split<;>first|rfl|exact F j (by simpa using h) aA⟩ ?_ ?_ ?_)
     ·exact aF
     ·exact aF
     ·exact aC
    ·refine cN<|cO<|cO<|eC<|bO kh7<|aS fun kh13=>?_
     obtain rfl:at_=List.replicate k (-1):=List.ext_getElem (by simp [hal]) fun j h1 h2=>by rw [F j h1 aA];simp
     refine aI<|aB 1 rfl<|f_Q (dH rfl)<|cL fa191_2 rfl<|f_Z (bU Tryz.sizeOf189 rfl rfl rfl rfl cF _ rfl ?_)
     refine aD kh13<|aG fun kh14=>aB 1 rfl<|f_Q (dL st195 rfl rfl)<|f_S (cT rfl rfl fun b36=>?_)
     refine aB 2 rfl<|aD kh14<|aY ?_
     exact cZ [(jI b36 b15 b13 k (.slice none ([]:List Ent).length 0) [] (List.replicate k (-1))).flatten] Tryz.results64 rfl rfl (Sub.flatF (by unfold jI;unfold dJ;repeat (first|exact aP|exact Sub.empty|refine aM ?_|refine cE rfl ?_|refine fU ?_))) (by unfold NewΦ;rw [if_neg aA];exact ⟨b36,_,rfl,rfl,HRep_mk aN (HAt.init k aA)⟩)
abbrev kR (n:Nat) (A:Option Addr) (len cap:Nat) (back:Bool) (bo bd bb:Nat) (h:Value):List Value:=[.int .i64 (n:Int),.slice A len cap,.bool back,.slice (some ⟨bo,0,none⟩) n n,.slice (some ⟨bd,0,none⟩) n n,.slice (some ⟨bb,0,none⟩) n n,h]
abbrev n4 (bx bo bd bb bH n:Nat) (A:Option Addr) (len cap:Nat) (back:Bool) (vs:List Value) (G:Seg) (d by_:List Int) (hm:Seg):List Seg:=
 [[(bx,blk (kR n A len cap back bo bd bb (.pointer (some ⟨bH,0,none⟩))) 81)],[(bo,blk vs 25)],G,[(bd,blk (fH d) 46)],[(bb,blk (bF by_) 3)],hm]
def SRep (n:Nat) (A:Option Addr) (l:List Arc) (cap:Nat) (back:Bool) (bx bd:Nat) (d by_:List Int) (T:List (Option Int)) (m:Seg):Prop:=
 ∃ bo bb bH vs ms hm,m.Perm (n4 bx bo bd bb bH n A l.length cap back vs ms.flatten d by_ hm).flatten∧RowsI 3 (kD n (l.map (trn back))) vs ms∧HRep T bH hm
structure GOk (n:Nat) (l:List Arc):Prop where
 n1:1≤n∧n≤1024
 len:l.length≤8192
 good:∀ k (hk:k<l.length),0≤l[k].src∧l[k].src<(n:Int)∧0≤l[k].dst∧l[k].dst<(n:Int)
 ok:∀ x∈l,eK x
theorem p5 {back:Bool} {l:List Arc} {i:Nat} (h:i<(l.map (trn back)).length) (h' :i<l.length):(l.map (trn back))[i]=trn back l[i]:=List.getElem_map _
theorem trn_wt (back:Bool) (x:Arc):(trn back x).wt=x.wt:=by cases back<;>rfl
theorem GOk.src {n:Nat} {l:List Arc} (h:GOk n l) (back:Bool):∀ i (hi:i<(l.map (trn back)).length),(l.map (trn back))[i].src.toNat<n:=fun i hi=>by
 have hi' :i<l.length:=by simpa using hi
 rw [p5 hi hi'];have:=h.good i hi'
 cases back<;>simp [trn]<;>omega
theorem GOk.dst {n:Nat} {l:List Arc} (h:GOk n l) (back:Bool):∀ i (hi:i<(l.map (trn back)).length),(l.map (trn back))[i].dst.toNat<n:=fun i hi=>by
 have hi' :i<l.length:=by simpa using hi
 rw [p5 hi hi'];have:=h.good i hi'
 cases back<;>simp [trn]<;>omega
theorem GOk.wt {n:Nat} {l:List Arc} (h:GOk n l) (back:Bool):∀ x∈l.map (trn back),0≤x.wt:=fun x hx=>by
 obtain ⟨y,hy,rfl⟩:=List.mem_map.1 hx
 rw [trn_wt];exact (h.ok y hy).wt.1
theorem ints_len1 {E:TypeId} {v:Value} {l:List Int} {x:Int} {m:Seg}:Own E 1 v (l.length+1) (bF l++[.int .i64 x]) m=Own E 1 v (l++[x]).length (bF (l++[x])) m:=by rw [eJ,List.length_append];rfl
theorem pE (n:Nat) (A:Option Addr) (l:List Arc) (cap:Nat) (back:Bool) (w:World) (hr:Ro (Fr w []) w A (l.flatMap bZ)) (hg:GOk n l):
    Meets Tryz.prog 62 [.agg #[.int .i64 (n:Int),.slice A l.length cap],.bool back] w [] (fun u own' =>∃ bo vs ms,u= .slice (some ⟨bo,0,none⟩) n n∧own' =[[(bo,blk vs 25)],ms.flatten]∧RowsI 3 (kD n (l.map (trn back))) vs ms):=by
 have ak:=hg.n1
 have hlen:=hg.len
 refine bE Tryz.func62 rfl Tryz.ntmps62 rfl Owns.nil<|aG fun kh1=>f_S (cT rfl rfl fun b2=>?_)
 refine aB 1 rfl<|aD kh1<|aG fun kh2=>cL eT rfl<|cX Tryz.isAgg3 rfl (rdA rfl)<|f_S (eZ el32 rfl rfl n rfl aA aA (List.replicate n (.slice none 0 0)) (rep_flat n _) fun b11=>?_)
 refine aB 1 rfl<|aD kh2<|aS fun kh3=>aG fun ah=>cL fT rfl<|cX Tryz.isAgg22 rfl (rdA rfl)<|dU jB rfl<|aB 1 rfl<|aD ah<|aR ?_
 refine dA (α:=Nat×List Value×List Seg) [1,5,13,14] (fun ⟨k,vs,ms⟩=>[(15,.int .i64 (k:Int))]) (fun ⟨k,vs,ms⟩=>[[(b11,blk vs 25)],ms.flatten,[(b2,blk [.int .i64 (n:Int),.slice A l.length cap] 24)]]) (fun ⟨k,vs,ms⟩=>k≤l.length∧RowsI 3 (kD n ((l.map (trn back)).take k)) vs ms) (fun ⟨k,vs,ms⟩=>l.length - k) (0,List.replicate n (.slice none 0 0),List.replicate n []) ?_ ?_ ?_ ?_
 · exact aF
 · dsimp only
   rw [show (List.replicate n ([]:Seg)).flatten=[] from by simp];exact aC
 · exact ⟨aA,by rw [List.take_zero,rowsOf_nil];exact RowsI.start _ n⟩
 ·
  rintro ⟨k,vs,ms⟩ ⟨al,hR⟩;refine aG fun kh5=>aB 1 rfl<|aD kh5<|aS fun kh6=>aX rfl (fun ag=>?_) (fun ag=>?_)
  ·
   refine bV kh6<|aS fun kh7=>aR<|aG fun kh8=>aB 1 rfl ?_
   have hk:k<l.length:=aA
   obtain ⟨bl,off,rfl,hS,hc⟩:=hr (eX bZ dD aA hk)
   have am:=hg.good k hk
   refine f_Q (aL jB rfl rfl (off+k*3))<|f_Q (aO (vs:=bZ l[k]) Tryz.isAgg69 Tryz.sizeOf69 rfl rfl (f8 dD hS hc hk))<|f_S (cQ Tryz.zeroValue69 rfl fun b7=>?_)
   refine aB 1 rfl<|f_Z (bP Tryz.sizeOf69 rfl rfl rfl rfl cF _ rfl ?_)
   refine aD kh8<|aG fun kh9=>cL fY rfl<|cX Tryz.isAgg3 rfl (rdA rfl)<|aB 1 rfl<|aD kh9<|aS fun kh10=>aG fun kh11=>aB 1 rfl<|aD kh11<|eO rfl (fun c22=>?_) (fun c22=>?_)
   ·
    subst c22;refine aI<|cL fO rfl<|cX Tryz.isAgg3 rfl (rdA rfl)<|aB 1 rfl<|aD kh10 ?_
    obtain ⟨v,hv,ac⟩:∃ v:Nat,l[k].dst=(v:Int)∧v<n:=⟨l[k].dst.toNat,aA,aA⟩
    have ae : ((l.map (trn true))[k]'(by simpa using hk)).src.toNat = v := by rw [p5 _ hk]; simp [trn, hv]
    obtain ⟨rv,rm,rG,hrv,J,ad,O⟩:=hR.split (i:=v) (by rw [nE];exact ac)
    rw [lC] at J;have X:=rowOf_len (l.map (trn true)) v k
    obtain ⟨Z,ab⟩:∃ Z,Z=fB ((l.map (trn true)).take k) v:=⟨_,rfl⟩
    rw [← ab] at J X;obtain ⟨Ar,cr,rfl,ai⟩:=J.val
    refine eP (Sub.splitF ad)<|aI<|aB 4 rfl<|f_Q (aL gL rfl rfl (v))<|f_Q (aH Tryz.isAgg25 rfl (rdA hrv))<|aB 1 rfl<|f_S (bQ eL aA rfl rfl rfl fun b32=>?_)
    refine f_S (dE eL rfl rfl J (ys:=[.int .i64 (k:Int)]) ⟨(rdA rfl),trivial⟩ rfl rfl aA aA fun aj aa U=>?_);obtain ⟨Y,F,rfl,_⟩:=U.val
    refine f_Q (aL gL rfl rfl (v))<|f_Z (bU Tryz.sizeOf25 rfl rfl rfl rfl (by have:=hR.lv;rw [nE] at this;omega) (vs.set v (.slice Y (Z.length+1) F)) rfl ?_)
    refine aZ<|dF<|bO kh7<|aI<|f_Q (a8 rfl rfl)<|aB 1 rfl<|aZ<|f9 (Sub.joinF (m:=aa) (G' :=rG) (O _ _ _ (by rw [← ints_len1];exact U)).2) ?_
    refine cS (a6 (k+1,vs.set v (.slice Y (Z.length+1) F),ms.set v aa) (by first|omega|(dsimp only;omega)|(simp;omega)) ⟨aA,by have:=(O _ _ _ (by rw [← ints_len1];exact U)).1;rw [show Z++[(k:Int)]=fB ((l.map (trn _)).take k) v++[(k:Int)] from by rw [ab],rowsOf_next (by simpa using hk) ae] at this;exact this⟩ ?_ ?_ ?_)
    · exact aF
    · exact aF
    · exact aC
   ·
    subst c22;refine bV kh10 ?_;obtain ⟨v,hv,ac⟩:∃ v:Nat,l[k].src=(v:Int)∧v<n:=⟨l[k].src.toNat,aA,aA⟩
    have ae : ((l.map (trn false))[k]'(by simpa using hk)).src.toNat = v := by rw [p5 _ hk]; simp [trn, hv]
    obtain ⟨rv,rm,rG,hrv,J,ad,O⟩:=hR.split (i:=v) (by rw [nE];exact ac)
    rw [lC] at J;have X:=rowOf_len (l.map (trn false)) v k
    obtain ⟨Z,ab⟩:∃ Z,Z=fB ((l.map (trn false)).take k) v:=⟨_,rfl⟩
    rw [← ab] at J X;obtain ⟨Ar,cr,rfl,ai⟩:=J.val
    refine eP (Sub.splitF ad)<|aI<|aB 4 rfl<|f_Q (aL gL rfl rfl (v))<|f_Q (aH Tryz.isAgg25 rfl (rdA hrv))<|aB 1 rfl<|f_S (bQ eL aA rfl rfl rfl fun b32=>?_)
    refine f_S (dE eL rfl rfl J (ys:=[.int .i64 (k:Int)]) ⟨(rdA rfl),trivial⟩ rfl rfl aA aA fun aj aa U=>?_);obtain ⟨Y,F,rfl,_⟩:=U.val
    refine f_Q (aL gL rfl rfl (v))<|f_Z (bU Tryz.sizeOf25 rfl rfl rfl rfl (by have:=hR.lv;rw [nE] at this;omega) (vs.set v (.slice Y (Z.length+1) F)) rfl ?_)
    refine aZ<|dF<|bO kh7<|aI<|f_Q (a8 rfl rfl)<|aB 1 rfl<|aZ<|f9 (Sub.joinF (m:=aa) (G' :=rG) (O _ _ _ (by rw [← ints_len1];exact U)).2) ?_
    refine cS (a6 (k+1,vs.set v (.slice Y (Z.length+1) F),ms.set v aa) (by first|omega|(dsimp only;omega)|(simp;omega)) ⟨aA,by have:=(O _ _ _ (by rw [← ints_len1];exact U)).1;rw [show Z++[(k:Int)]=fB ((l.map (trn _)).take k) v++[(k:Int)] from by rw [ab],rowsOf_next (by simpa using hk) ae] at this;exact this⟩ ?_ ?_ ?_)
    · exact aF
    · exact aF
    · exact aC
  ·
   refine cN<|cO<|cO<|eC<|bO kh3<|aG fun kh12=>aB 2 rfl<|aD kh12<|aY ?_
   have et:(l.map (trn back)).take k=l.map (trn back):=List.take_of_length_le (by simp;omega)
   rw [et] at hR;exact bJ [[(b11,blk vs 25)],ms.flatten] Tryz.results62 rfl (by repeat (first|exact aP|refine aM ?_|refine cE rfl ?_)) ⟨b11,vs,ms,rfl,rfl,hR⟩
theorem looks_new {n s:Nat} (hs:s<n):(jP (List.replicate n none) (s:Int) 0).1=(List.replicate n none).set s (some 0):=by
 rw [lower_new (by simpa using hs) (by rw [List.getElem?_replicate,if_pos hs])]
theorem u64s_rep (n:Nat) (x:Int):List.replicate n (Value.int .u64 x)=fH (List.replicate n x):=by simp [fH]
theorem ints_repl (n:Nat) (x:Int):List.replicate n (Value.int .i64 x)=bF (List.replicate n x):=by simp [bF]
theorem SRep_mk {n:Nat} {A:Option Addr} {l:List Arc} {cap len:Nat} {back:Bool} {bx bo bd bb bH:Nat} {vs:List Value} {ms:List Seg} {d by_:List Int} {T:List (Option Int)} {hm:Seg} (J:RowsI 3 (kD n (l.map (trn back))) vs ms) (F:HRep T bH hm) (hl:len=l.length):
  SRep n A l cap back bx bd d by_ T (n4 bx bo bd bb bH n A len cap back vs ms.flatten d by_ hm).flatten:=by
 subst hl;exact ⟨bo,bb,bH,vs,ms,hm,List.Perm.refl _,J,F⟩
def D0 (n s:Nat):List Int:=(List.replicate n INF).set s 0
def B0 (n:Nat):List Int:=List.replicate n (-1)
def T0 (n s:Nat):List (Option Int):=(List.replicate n none).set s (some 0)
theorem SS_begin {n s:Nat} {e:List Arc} {p:Nat→Bool} (hs:s<n):SS n e p s (D0 n s) (B0 n) (T0 n s) [] (RF e []):=
 (SS.begin hs).weaken fun j ⟨_,h⟩=>by simp at h
def NextΦ (n:Nat) (A:Option Addr) (l:List Arc) (cap:Nat) (back:Bool) (p:Nat→Bool) (s bx bd:Nat) (d by_:List Int) (T:List (Option Int)) (o:List Nat) (u:Value) (own:List Seg):Prop:=
 (topR T=none∧u= .tuple #[.int .i64 0,.int .u64 0,.bool false]∧∃ m',own=[m']∧SRep n A l cap back bx bd d by_ T m')∨
 ∃ (v:Nat) (a:Int) (F J:List Int) (O:List (Option Int)) (m' :Seg),topR T=some (v,a)∧u= .tuple #[.int .i64 (v:Int),.int .u64 a,.bool true]∧own=[m']∧SRep n A l cap back bx bd F J O m'∧v<n∧v∉o∧dg d v=a∧
  SS n (l.map (trn back)) p s F J O (v::o) (RF (l.map (trn back)) (v::o))∧(∀ (u:Nat) (x:Int),O[u]? =some (some x)→a≤x)∧(∀ u,dg F u≤dg d u)∧dg F v=a∧0≤a∧a<INF∧
  (∀ u,dg F u=dg d u∨∃ (i:Nat) (h:i<(l.map (trn back)).length),(l.map (trn back))[i].src.toNat=v∧(l.map (trn back))[i].dst.toNat=u)
theorem begin_spec (n:Nat) (A:Option Addr) (l:List Arc) (cap:Nat) (back:Bool) (s:Nat) (w:World) (hr:Ro (Fr w []) w A (l.flatMap bZ)) (hg:GOk n l) (hs:s<n):
    Meets Tryz.prog 27 [.agg #[.int .i64 (n:Int),.slice A l.length cap],.int .i64 (s:Int),.bool back] w [] (fun u own' =>∃ bx bd m,u= .pointer (some ⟨bx,0,none⟩)∧own' =[m]∧SRep n A l cap back bx bd (D0 n s) (B0 n) (T0 n s) m):=by
 have ae:=hg.n1
 have hlen:=hg.len
 refine bE Tryz.func27 rfl Tryz.ntmps27 rfl Owns.nil<|aG fun kh1=>f_S (cT rfl rfl fun b3=>?_)
 refine aB 1 rfl<|aD kh1 ?_
 refine qZ (α:=Nat×Nat×Nat×Nat×List Value×List Seg) [1,3] (fun ⟨bx,bo,bd,bb,vs,ms⟩=>[(7,.pointer (some ⟨bx,0,none⟩))]) (fun ⟨bx,bo,bd,bb,vs,ms⟩=>[[(bx,blk (kR n A l.length cap back bo bd bb (.pointer none)) 81)],[(bo,blk vs 25)],ms.flatten,[(bd,blk (List.replicate n (.int .u64 18446744073709551615)) 46)],[(bb,blk (List.replicate n (.int .i64 (-1))) 3)],[(b3,blk [.int .i64 (n:Int),.slice A l.length cap] 24)]]) (fun ⟨bx,bo,bd,bb,vs,ms⟩=>RowsI 3 (kD n (l.map (trn back))) vs ms) ?_ ?_
 ·intro K2 Y;refine c7 [[(b3,blk [.int .i64 (n:Int),.slice A l.length cap] 24)]] rfl<|f_T 0 rfl (aO (vs:=[_,_]) Tryz.isAgg24 Tryz.sizeOf24 rfl rfl ⟨(rdA rfl),(rdA rfl),trivial⟩)<|f_T 1 rfl (aU rfl)<|f_T 2 rfl (aO (vs:=[_,_]) Tryz.isAgg24 Tryz.sizeOf24 rfl rfl ⟨(rdA rfl),(rdA rfl),trivial⟩)<|f_T 3 rfl (aU rfl)<|f_T 6 rfl (aT eT rfl)<|f_T 7 rfl (aH Tryz.isAgg3 rfl (rdA rfl))<|f_T 10 rfl (aT eT rfl)<|f_T 11 rfl (aH Tryz.isAgg3 rfl (rdA rfl))<|f_three 4 5 9 rfl rfl rfl aW rfl rfl rfl rfl rfl rfl rfl rfl rfl ?_ ?_ ?_
  ·refine (aV Tryz.call62 rfl (fun O F=>pE n A l cap back O (hr.up0 F) hg) ?_);rintro _ _ ⟨bo,vs,ms,rfl,rfl,Z⟩;dsimp only [aK,aJ];refine ⟨aC,?_⟩;refine gH 5 9 rfl rfl aW rfl rfl rfl rfl rfl rfl ?_ ?_
   ·refine (bQ q6 aA rfl rfl rfl fun U=>⟨aC,?_⟩);refine gH 8 9 rfl rfl aW rfl rfl rfl rfl rfl rfl ?_ ?_
    ·refine (aV Tryz.call26 rfl (fun O F=>i2 U 0 1 n 18446744073709551615 O (fP (b:=U) F (cs:=[.int .u64 18446744073709551615]) (fun j v hj=>hj)) aA) ?_);rintro _ _ ⟨bd,rfl,rfl⟩;dsimp only [aK,aJ];refine ⟨aC,?_⟩;refine f_O 9 rfl (bQ eL aA rfl rfl rfl fun J=>⟨aC,?_⟩);refine f_O 12 rfl (aV Tryz.call63 rfl (fun O F=>j1 J 0 1 n (-1) O (fP (b:=J) F (cs:=[.int .i64 (-1)]) (fun j v hj=>hj)) aA) ?_);rintro _ _ ⟨bb,rfl,rfl⟩;dsimp only [aK,aJ];refine ⟨aC,?_⟩;refine f_T 13 rfl (dL (cs:=kR n A l.length cap back bo bd bb (.pointer none)) st81 rfl (by kernel_rfl)) ?_;refine f_O 14 rfl (cT rfl rfl fun X=>⟨aC,?_⟩);refine f_O 15 rfl ((bI rfl).does ⟨aC,?_⟩);refine cU aW<|cS (Y _ _ (X,bo,bd,bb,vs,ms) Z ?_ ?_ ?_)
     ·exact aF
     ·exact aF
     ·exact aC
    ·refine (bQ eL aA rfl rfl rfl fun J=>⟨aC,?_⟩);refine f_O 8 rfl (aV Tryz.call26 rfl (fun O F=>i2 U 0 1 n 18446744073709551615 O (fP (b:=U) F (cs:=[.int .u64 18446744073709551615]) (fun j v hj=>hj)) aA) ?_);rintro _ _ ⟨bd,rfl,rfl⟩;dsimp only [aK,aJ];refine ⟨aC,?_⟩;refine f_O 12 rfl (aV Tryz.call63 rfl (fun O F=>j1 J 0 1 n (-1) O (fP (b:=J) F (cs:=[.int .i64 (-1)]) (fun j v hj=>hj)) aA) ?_);rintro _ _ ⟨bb,rfl,rfl⟩;dsimp only [aK,aJ];refine ⟨aC,?_⟩;refine f_T 13 rfl (dL (cs:=kR n A l.length cap back bo bd bb (.pointer none)) st81 rfl (by kernel_rfl)) ?_;refine f_O 14 rfl (cT rfl rfl fun X=>⟨aC,?_⟩);refine f_O 15 rfl ((bI rfl).does ⟨aC,?_⟩);refine cU aW<|cS (Y _ _ (X,bo,bd,bb,vs,ms) Z ?_ ?_ ?_)
     ·exact aF
     ·exact aF
     ·exact aC
   ·refine (bQ eL aA rfl rfl rfl fun J=>⟨aC,?_⟩);refine f_O 5 rfl (bQ q6 aA rfl rfl rfl fun U=>⟨aC,?_⟩);refine f_O 8 rfl (aV Tryz.call26 rfl (fun O F=>i2 U 0 1 n 18446744073709551615 O (fP (b:=U) F (cs:=[.int .u64 18446744073709551615]) (fun j v hj=>hj)) aA) ?_);rintro _ _ ⟨bd,rfl,rfl⟩;dsimp only [aK,aJ];refine ⟨aC,?_⟩;refine f_O 12 rfl (aV Tryz.call63 rfl (fun O F=>j1 J 0 1 n (-1) O (fP (b:=J) F (cs:=[.int .i64 (-1)]) (fun j v hj=>hj)) aA) ?_);rintro _ _ ⟨bb,rfl,rfl⟩;dsimp only [aK,aJ];refine ⟨aC,?_⟩;refine f_T 13 rfl (dL (cs:=kR n A l.length cap back bo bd bb (.pointer none)) st81 rfl (by kernel_rfl)) ?_;refine f_O 14 rfl (cT rfl rfl fun X=>⟨aC,?_⟩);refine f_O 15 rfl ((bI rfl).does ⟨aC,?_⟩);refine cU aW<|cS (Y _ _ (X,bo,bd,bb,vs,ms) Z ?_ ?_ ?_)
    ·exact aF
    ·exact aF
    ·exact aC
  ·refine (bQ q6 aA rfl rfl rfl fun U=>⟨aC,?_⟩);refine gH 4 9 rfl rfl aW rfl rfl rfl rfl rfl rfl ?_ ?_
   ·refine (aV Tryz.call62 rfl (fun O F=>pE n A l cap back O (hr.up0 F) hg) ?_);rintro _ _ ⟨bo,vs,ms,rfl,rfl,Z⟩;dsimp only [aK,aJ];refine ⟨aC,?_⟩;refine gH 8 9 rfl rfl aW rfl rfl rfl rfl rfl rfl ?_ ?_
    ·refine (aV Tryz.call26 rfl (fun O F=>i2 U 0 1 n 18446744073709551615 O (fP (b:=U) F (cs:=[.int .u64 18446744073709551615]) (fun j v hj=>hj)) aA) ?_);rintro _ _ ⟨bd,rfl,rfl⟩;dsimp only [aK,aJ];refine ⟨aC,?_⟩;refine f_O 9 rfl (bQ eL aA rfl rfl rfl fun J=>⟨aC,?_⟩);refine f_O 12 rfl (aV Tryz.call63 rfl (fun O F=>j1 J 0 1 n (-1) O (fP (b:=J) F (cs:=[.int .i64 (-1)]) (fun j v hj=>hj)) aA) ?_);rintro _ _ ⟨bb,rfl,rfl⟩;dsimp only [aK,aJ];refine ⟨aC,?_⟩;refine f_T 13 rfl (dL (cs:=kR n A l.length cap back bo bd bb (.pointer none)) st81 rfl (by kernel_rfl)) ?_;refine f_O 14 rfl (cT rfl rfl fun X=>⟨aC,?_⟩);refine f_O 15 rfl ((bI rfl).does ⟨aC,?_⟩);refine cU aW<|cS (Y _ _ (X,bo,bd,bb,vs,ms) Z ?_ ?_ ?_)
     ·exact aF
     ·exact aF
     ·exact aC
    ·refine (bQ eL aA rfl rfl rfl fun J=>⟨aC,?_⟩);refine f_O 8 rfl (aV Tryz.call26 rfl (fun O F=>i2 U 0 1 n 18446744073709551615 O (fP (b:=U) F (cs:=[.int .u64 18446744073709551615]) (fun j v hj=>hj)) aA) ?_);rintro _ _ ⟨bd,rfl,rfl⟩;dsimp only [aK,aJ];refine ⟨aC,?_⟩;refine f_O 12 rfl (aV Tryz.call63 rfl (fun O F=>j1 J 0 1 n (-1) O (fP (b:=J) F (cs:=[.int .i64 (-1)]) (fun j v hj=>hj)) aA) ?_);rintro _ _ ⟨bb,rfl,rfl⟩;dsimp only [aK,aJ];refine ⟨aC,?_⟩;refine f_T 13 rfl (dL (cs:=kR n A l.length cap back bo bd bb (.pointer none)) st81 rfl (by kernel_rfl)) ?_;refine f_O 14 rfl (cT rfl rfl fun X=>⟨aC,?_⟩);refine f_O 15 rfl ((bI rfl).does ⟨aC,?_⟩);refine cU aW<|cS (Y _ _ (X,bo,bd,bb,vs,ms) Z ?_ ?_ ?_)
     ·exact aF
     ·exact aF
     ·exact aC
   ·refine (bQ eL aA rfl rfl rfl fun J=>⟨aC,?_⟩);refine f_O 4 rfl (aV Tryz.call62 rfl (fun O F=>pE n A l cap back O (hr.up0 F) hg) ?_);rintro _ _ ⟨bo,vs,ms,rfl,rfl,Z⟩;dsimp only [aK,aJ];refine ⟨aC,?_⟩;refine f_O 8 rfl (aV Tryz.call26 rfl (fun O F=>i2 U 0 1 n 18446744073709551615 O (fP (b:=U) F (cs:=[.int .u64 18446744073709551615]) (fun j v hj=>hj)) aA) ?_);rintro _ _ ⟨bd,rfl,rfl⟩;dsimp only [aK,aJ];refine ⟨aC,?_⟩;refine f_O 12 rfl (aV Tryz.call63 rfl (fun O F=>j1 J 0 1 n (-1) O (fP (b:=J) F (cs:=[.int .i64 (-1)]) (fun j v hj=>hj)) aA) ?_);rintro _ _ ⟨bb,rfl,rfl⟩;dsimp only [aK,aJ];refine ⟨aC,?_⟩;refine f_T 13 rfl (dL (cs:=kR n A l.length cap back bo bd bb (.pointer none)) st81 rfl (by kernel_rfl)) ?_;refine f_O 14 rfl (cT rfl rfl fun X=>⟨aC,?_⟩);refine f_O 15 rfl ((bI rfl).does ⟨aC,?_⟩);refine cU aW<|cS (Y _ _ (X,bo,bd,bb,vs,ms) Z ?_ ?_ ?_)
    ·exact aF
    ·exact aF
    ·exact aC
  ·refine (bQ eL aA rfl rfl rfl fun J=>⟨aC,?_⟩);refine gH 4 5 rfl rfl aW rfl rfl rfl rfl rfl rfl ?_ ?_
   ·refine (aV Tryz.call62 rfl (fun O F=>pE n A l cap back O (hr.up0 F) hg) ?_);rintro _ _ ⟨bo,vs,ms,rfl,rfl,Z⟩;dsimp only [aK,aJ];refine ⟨aC,?_⟩;refine f_O 5 rfl (bQ q6 aA rfl rfl rfl fun U=>⟨aC,?_⟩);refine f_O 8 rfl (aV Tryz.call26 rfl (fun O F=>i2 U 0 1 n 18446744073709551615 O (fP (b:=U) F (cs:=[.int .u64 18446744073709551615]) (fun j v hj=>hj)) aA) ?_);rintro _ _ ⟨bd,rfl,rfl⟩;dsimp only [aK,aJ];refine ⟨aC,?_⟩;refine f_O 12 rfl (aV Tryz.call63 rfl (fun O F=>j1 J 0 1 n (-1) O (fP (b:=J) F (cs:=[.int .i64 (-1)]) (fun j v hj=>hj)) aA) ?_);rintro _ _ ⟨bb,rfl,rfl⟩;dsimp only [aK,aJ];refine ⟨aC,?_⟩;refine f_T 13 rfl (dL (cs:=kR n A l.length cap back bo bd bb (.pointer none)) st81 rfl (by kernel_rfl)) ?_;refine f_O 14 rfl (cT rfl rfl fun X=>⟨aC,?_⟩);refine f_O 15 rfl ((bI rfl).does ⟨aC,?_⟩);refine cU aW<|cS (Y _ _ (X,bo,bd,bb,vs,ms) Z ?_ ?_ ?_)
    ·exact aF
    ·exact aF
    ·exact aC
   ·refine (bQ q6 aA rfl rfl rfl fun U=>⟨aC,?_⟩);refine f_O 4 rfl (aV Tryz.call62 rfl (fun O F=>pE n A l cap back O (hr.up0 F) hg) ?_);rintro _ _ ⟨bo,vs,ms,rfl,rfl,Z⟩;dsimp only [aK,aJ];refine ⟨aC,?_⟩;refine f_O 8 rfl (aV Tryz.call26 rfl (fun O F=>i2 U 0 1 n 18446744073709551615 O (fP (b:=U) F (cs:=[.int .u64 18446744073709551615]) (fun j v hj=>hj)) aA) ?_);rintro _ _ ⟨bd,rfl,rfl⟩;dsimp only [aK,aJ];refine ⟨aC,?_⟩;refine f_O 12 rfl (aV Tryz.call63 rfl (fun O F=>j1 J 0 1 n (-1) O (fP (b:=J) F (cs:=[.int .i64 (-1)]) (fun j v hj=>hj)) aA) ?_);rintro _ _ ⟨bb,rfl,rfl⟩;dsimp only [aK,aJ];refine ⟨aC,?_⟩;refine f_T 13 rfl (dL (cs:=kR n A l.length cap back bo bd bb (.pointer none)) st81 rfl (by kernel_rfl)) ?_;refine f_O 14 rfl (cT rfl rfl fun X=>⟨aC,?_⟩);refine f_O 15 rfl ((bI rfl).does ⟨aC,?_⟩);refine cU aW<|cS (Y _ _ (X,bo,bd,bb,vs,ms) Z ?_ ?_ ?_)
    ·exact aF
    ·exact aF
    ·exact aC
 ·rintro ⟨bx,bo,bd,bb,vs,ms⟩ Z;refine aG fun ad=>aB 1 rfl<|cL eT rfl<|cX Tryz.isAgg3 rfl (rdA rfl) ?_
  refine f_S (aV Tryz.call64 rfl (fun O F=>New_spec (n:Int) O) ?_);rintro _ _ hN;rw [NewΦ,if_neg aA,Int.toNat_natCast] at hN;obtain ⟨bH,ab,rfl,rfl,ac⟩:=hN
  dsimp only [aK,aJ];refine aB 3 rfl<|f_Q (dH rfl)<|cL fa81_5 rfl<|f_Z (bU Tryz.sizeOf79 rfl rfl rfl rfl cF (kR n A l.length cap back bo bd bb (.pointer (some ⟨bH,0,none⟩))) rfl ?_)
  refine aD ad<|aG fun kh4=>aB 1 rfl<|f_Q (dH rfl)<|cL fa81_3 rfl<|cX Tryz.isAgg41 rfl (rdA rfl)<|aB 1 rfl<|f_Q (aL mS rfl rfl (s))<|f_Z (bU Tryz.sizeOf46 rfl rfl rfl rfl (by rw [List.length_replicate];omega) (fH (D0 n s)) (by rw [u64s_rep];exact oY _ _ _) ?_)
  refine aD kh4<|aG fun kh5=>aB 1 rfl<|f_Q (dH rfl)<|cL fa81_5 rfl<|cX Tryz.isAgg79 rfl (rdA rfl)<|aB 1 rfl ?_
  refine f_S (d4 [ab] _ Tryz.call65 rfl (aM Sub.refl) (fun O F=>lL (List.replicate n none) bH ab (s:Int) 0 O ac F.owns) ?_);rintro _ _ ⟨rfl,hm2,rfl,aa⟩;rw [looks_new hs] at aa;dsimp only [aK,aJ];refine aD kh5<|aG fun kh6=>aB 2 rfl<|aD kh6<|aY ?_
  exact bJ [(n4 bx bo bd bb bH n A l.length cap back vs ms.flatten (D0 n s) (B0 n) hm2).flatten] Tryz.results27 rfl (Sub.flatF (by unfold n4 B0;rw [← ints_repl];repeat (first|exact aP|refine aM ?_|refine cE rfl ?_))) ⟨bx,bd,_,rfl,rfl,SRep_mk Z aa rfl⟩
theorem far_spec (n:Nat) (A:Option Addr) (l:List Arc) (cap:Nat) (back:Bool) (bx bo bd bb i:Nat) (h:Value) (w:World) (hx:Ro (Fr w []) w (some ⟨bx,0,none⟩) (kR n A l.length cap back bo bd bb h)) (hr:Ro (Fr w []) w A (l.flatMap bZ)) (hi:i<l.length) (hl:l.length≤8192):
    Meets Tryz.prog 34 [.pointer (some ⟨bx,0,none⟩),.int .i64 (i:Int)] w [] (fun u m=>u= .int .i64 (trn back l[i]).dst∧m=[]):=by
 obtain ⟨b',o',e',J,F⟩:=hx aN
 obtain ⟨rfl,rfl⟩:bx=b'∧0=o' :=by cases e';exact ⟨rfl,rfl⟩
 obtain ⟨bl,off,rfl,X,hc⟩:=hr (eX bZ dD aA hi)
 refine bE Tryz.func34 rfl Tryz.ntmps34 rfl Owns.nil<|aG fun kh1=>aB 1 rfl<|aD kh1<|aS fun kh2=>aG fun U=>aB 1 rfl<|f_Q (dH rfl)<|cL fa81_1 rfl<|f_Q (aH Tryz.isAgg4 rfl (rdS J (F 2 _ rfl))) ?_
 refine aD U<|eO rfl (fun c8=>?_) (fun c8=>?_)
 ·refine aG fun O=>aB 1 rfl<|f_Q (dH rfl)<|cL fa81_0 rfl<|cL fT rfl<|f_Q (aH Tryz.isAgg22 rfl (rdS J (F 1 _ rfl)))<|aB 1 rfl<|f_Q (aL jB rfl rfl (off+i*3))<|cL fY rfl<|f_Q (aH Tryz.isAgg3 rfl (rdS X (by have:=hc (i*3+0) _ (by rw [iV bZ dD l i 0 hi aA];rfl);rwa [← Nat.add_assoc] at this))) ?_
  refine aB 1 rfl<|aD O<|aY<|cV ?_
  exact bJ [] Tryz.results34 rfl aP ⟨by subst c8;rfl,rfl⟩
 ·refine bV kh2<|aG fun kh5=>aB 1 rfl<|f_Q (dH rfl)<|cL fa81_0 rfl<|cL fT rfl<|f_Q (aH Tryz.isAgg22 rfl (rdS J (F 1 _ rfl)))<|aB 1 rfl<|f_Q (aL jB rfl rfl (off+i*3))<|cL fO rfl ?_
  refine f_Q (aH Tryz.isAgg3 rfl (rdS X (by have:=hc (i*3+1) _ (by rw [iV bZ dD l i 1 hi aA];rfl);rwa [← Nat.add_assoc] at this))) ?_;refine aB 1 rfl<|aD kh5<|aY ?_
  exact bJ [] Tryz.results34 rfl aP ⟨by subst c8;rfl,rfl⟩
theorem next_spec (n:Nat) (A:Option Addr) (l:List Arc) (cap:Nat) (back:Bool) (p:Nat→Bool) (s bx bd:Nat) (d by_:List Int) (T:List (Option Int)) (o:List Nat) (m:Seg) (fi:FuncId) (ac:List Value) (w:World) (hr:Ro (Fr w [m]) w A (l.flatMap bZ)) (hg:GOk n l)
    (hS:SRep n A l cap back bx bd d by_ T m) (be:SS n (l.map (trn back)) p s d by_ T o (RF (l.map (trn back)) o))
    (aw:∀ args w,(callFunc fi args).run Tryz.prog w= .ok (.enter fi args) w)
    (aq:∀ w',(∀ k,Fr w [m] k→w'.heap[k]? =w.heap[k]?)→∀ i,i<l.length→Meets Tryz.prog fi ([.int .i64 (i:Int)]++ac) w' [] (fun u m=>u= .bool (p i)∧m=[])) (hw:Owns w [m]):
    Meets Tryz.prog 33 [.pointer (some ⟨bx,0,none⟩),.func (.func fi) #[] ac.toArray] w [m] (NextΦ n A l cap back p s bx bd d by_ T o):=by
 have bi:=hg.n1
 have hlen:=hg.len
 have bk:(l.map (trn back)).length=l.length:=List.length_map _
 have ah:=hg.dst back
 have aj:=hg.wt back
 refine bE Tryz.func33 rfl Tryz.ntmps33 rfl hw ?_;obtain ⟨bo,bb,bH,vs,ms,hm,a2,hR,hH⟩:=hS
 refine eP (Sub.permF a2) ?_
 unfold n4
 refine aG fun kh1=>aB 3 rfl<|aD kh1<|aG fun kh2=>aB 1 rfl<|f_Q (dH rfl)<|cL fa81_5 rfl<|cX Tryz.isAgg79 rfl (rdA rfl) ?_
 refine f_S (d4 [hm] _ Tryz.call67 rfl (aM Sub.refl) (fun w_ U=>HPop_spec T bH hm w_ hH U.owns) ?_);rintro _ _ ⟨rfl,hm2,rfl,aa⟩;dsimp only [aK,aJ];refine aB 7 rfl<|aD kh2<|aS fun kh3=>aG fun kh4=>aB 2 rfl<|aD kh4<|aX rfl (fun c22=>?_) (fun c22=>?_)
 ·have Z:topR T=none:=by
    cases e' :topR T with
    |none=>rfl
    |some q=>obtain ⟨v,a⟩:=q;rw [lB e'] at c22;exact absurd rfl c22
  rw [popT_none Z] at aa;refine aG fun ax=>aB 3 rfl<|aD ax<|aY<|cV ?_
  exact kH [(n4 bx bo bd bb bH n A l.length cap back vs ms.flatten d by_ hm2).flatten] Tryz.results33 rfl rfl rfl (Sub.flatF (by unfold n4;repeat (first|exact aP|refine aM ?_|refine cE rfl ?_))) (.inl ⟨Z,rfl,_,rfl,SRep_mk hR aa rfl⟩)
 ·obtain ⟨v,a,ht⟩:∃ v a,topR T=some (v,a):=by
    cases e' :topR T with
    |none=>rw [topA_none e'] at c22;exact absurd (by decide) c22
    |some q=>exact ⟨q.1,q.2,rfl⟩
  rw [lB ht];rw [popT_some ht] at aa;obtain ⟨ak,az,bg,ao,hai,ai⟩:=NX.start be ht
  have ba:=nE n (l.map (trn back))
  obtain ⟨rv,rm,rG,ay,ad,al,_⟩:=hR.split (i:=v) aA
  rw [lC] at ad;obtain ⟨Ar,cr,rfl,bq⟩:=ad.val
  refine eP (Sub.splitF al) ?_;have bt:(fB (l.map (trn back)) v).length≤8192:=by unfold fB;rw [l7];exact Nat.le_trans List.countP_le_length aA
  refine bV kh3<|aS fun kh6=>aG fun a1=>aB 1 rfl<|f_Q (dH rfl)<|cL fa81_2 rfl<|cX Tryz.isAgg32 rfl (rdA rfl)<|aB 1 rfl<|f_Q (aL gL rfl rfl (v))<|f_Q (aH Tryz.isAgg25 rfl (rdA ay)) ?_
  refine dU bX rfl<|aB 1 rfl<|aD a1<|aR ?_
  refine dA (α:=Nat×List Int×List Int×List (Option Int)×Seg) [0,1,4,5,29,30] (fun ⟨j,X,F,Y,O⟩=>[(31,.int .i64 (j:Int))]) (fun ⟨j,X,F,Y,O⟩=>[[(bx,blk (kR n A l.length cap back bo bd bb (.pointer (some ⟨bH,0,none⟩))) 81)],[(bo,blk vs 25)],rm,rG,[(bd,blk (fH X) 46)],[(bb,blk (bF F) 3)],O]) (fun ⟨j,X,F,Y,O⟩=>j≤(fB (l.map (trn back)) v).length∧NX n (l.map (trn back)) p s d v a o j X F Y∧HRep Y bH O) (fun ⟨j,X,F,Y,O⟩=>(fB (l.map (trn back)) v).length - j) (0,d,by_,T.set v none,hm2) ?_ ?_ ?_ ?_
  ·exact aF
  ·exact aC
  ·exact ⟨Nat.zero_le _,ak,aa⟩
  ·rintro ⟨j,X,F,Y,O⟩ ⟨bp,hnx,ab⟩;refine aG fun kh8=>aB 1 rfl<|aD kh8<|aS fun kh9=>aX rfl (fun bc=>?_) (fun bc=>?_)
   ·refine bV kh9<|aS fun kh10=>aR<|aG fun kh11=>?_
    have hj:j<(fB (l.map (trn back)) v).length:=aA
    obtain ⟨br,bj,rfl,rfl,_⟩:=ad.upd aA
    obtain ⟨i,hi,hri,hsrc⟩:=rowOf_at hj
    have J:i<l.length:=aA
    obtain ⟨u,hu,ae⟩:∃ u:Nat,(trn back l[i]).dst=(u:Int)∧u<n:=⟨(trn back l[i]).dst.toNat,by have:=hg.good i J;cases back<;>simp [trn]<;>omega,by have:=hg.good i J;cases back<;>simp [trn]<;>omega⟩
    have hud:(l.map (trn back))[i].dst.toNat=u:=by rw [p5 _ J,hu];rfl
    have ar:=hr
    obtain ⟨bl,off,rfl,bf,hc⟩:=hr (eX bZ dD aA J)
    refine f_Q (aL bX rfl rfl (j))<|f_Q (aH Tryz.isAgg3 rfl (rdA (v:= .int .i64 (i:Int)) (eF (by rw [eG hj,hri])))) ?_;refine aB 1 rfl<|aD kh11<|aG fun kh12=>aB 2 rfl<|f_Q (dH rfl)<|cL fa81_0 rfl<|cL fT rfl<|cX Tryz.isAgg22 rfl (rdA rfl)<|aB 1 rfl<|f_Q (aL jB rfl rfl (off+i*3)) ?_
    refine cL fa69_2 rfl<|f_Q (aH Tryz.isAgg56 rfl (rdS bf (by have:=hc (i*3+2) _ (by rw [iV bZ dD l i 2 J aA];rfl);rwa [← Nat.add_assoc] at this))) ?_
    refine f_Q (g5 Tryz.runUnderlying56 Tryz.runUnderlying46 rfl _ (iQ (by have:=(hg.ok _ (List.getElem_mem J)).wt;omega))) ?_;refine f_S (aV Tryz.call31 rfl (fun w_ U=>p4 a l[i].wt w_ ⟨ai,Int.le_of_lt hai⟩ (by have:=(hg.ok _ (List.getElem_mem J)).wt;unfold INF;omega)) ?_);rintro _ _ ⟨rfl,rfl⟩;dsimp only [aK,aJ];refine aB 1 rfl<|aD kh12<|aG fun kh13=>aB 2 rfl ?_
    refine f_S (aV Tryz.call34 rfl (fun w_ U=>far_spec n (some ⟨bl,off,none⟩) l cap back bx bo bd bb i (.pointer (some ⟨bH,0,none⟩)) w_ (fP (b:=bx) U (fun j v hj=>hj)) (ar.up0 U) J hlen) ?_);rintro _ _ ⟨rfl,rfl⟩;rw [hu];dsimp only [aK,aJ];refine aB 1 rfl<|aD kh13<|aG fun kh14=>aB 2 rfl<|f_Q (dH rfl)<|cL fa81_3 rfl<|cX Tryz.isAgg41 rfl (rdA rfl)<|aB 1 rfl<|f_Q (aL mS rfl rfl (u))<|f_Q (aH Tryz.isAgg46 rfl (rdA (mQ (dg_at (by rw [hnx.ss.ld];exact ae))))) ?_
    refine aB 2 rfl<|d8 59 rfl (fun g59=>?_) (fun g59=>?_)
    ·refine aB 2 rfl ?_;refine jY rfl rfl rfl rfl rfl (jG [] _ aw rfl rfl Sub.refl (fun w_ U=>(by have h:=aq w_ (fun k hk=>U.same k hk) i J;exact h)) ?_);rintro _ _ ⟨rfl,rfl⟩;dsimp only [aK,aJ];refine aB 1 rfl<|aD kh14<|eO rfl (fun c63=>?_) (fun c63=>?_)
     ·have au:=(hnx.ss.rng u ae).2
      have bh:=dadd_lt g59 au
      obtain ⟨am,an⟩:=hnx.relax aj ah hj aA hri hsrc c63 hud (m:=gS a l[i].wt) (by rw [p5 _ J,trn_wt];exact bh) g59
      refine aS fun ag=>c7 [[(bx,blk (kR n (some ⟨bl,off,none⟩) l.length cap back bo bd bb (.pointer (some ⟨bH,0,none⟩))) 81)]] rfl<|f_T 0 rfl (aU rfl)<|f_T 1 rfl (dH rfl)<|f_T 2 rfl (aT fa81_3 rfl)<|f_T 3 rfl (aH Tryz.isAgg41 rfl (rdA rfl))<|f_T 4 rfl (aU rfl)<|f_T 5 rfl (aU rfl)<|f_T 6 rfl (dH rfl)<|f_T 7 rfl (aT fa81_4 rfl) ?_
      refine f_T 8 rfl (aH Tryz.isAgg25 rfl (rdA rfl))<|f_T 9 rfl (aU rfl)<|f_T 10 rfl (aU rfl)<|f_T 11 rfl (aU rfl)<|f_T 12 rfl (aL mS rfl rfl (u))<|fZ 13 rfl (bU Tryz.sizeOf46 rfl rfl rfl rfl (by rw [iE,hnx.ss.ld];omega) (fH (X.set u (gS a l[i].wt))) (oY _ _ _) ⟨aC,?_⟩)
      refine f_T 14 rfl (aL bX rfl rfl (u))<|fZ 15 rfl (bU Tryz.sizeOf3 rfl rfl rfl rfl (by rw [a7,hnx.ss.lb];omega) (bF (F.set u (i:Int))) (l6 _ _ _) ⟨aC,?_⟩)
      refine cU aW<|bO ag<|aI<|aB 1 rfl<|f_Q (dH rfl)<|cL fa81_5 rfl<|cX Tryz.isAgg79 rfl (rdA rfl)<|aB 2 rfl ?_
      refine f_S (d4 [O] _ Tryz.call65 rfl (aM Sub.refl) (fun w_ U=>lL Y bH O (u:Int) (gS a l[i].wt) w_ ab U.owns) ?_);rintro _ _ ⟨rfl,av,rfl,ap⟩;rw [an] at ap;dsimp only [aK,aJ];refine aZ<|dF<|bO kh10<|aI<|f_Q (a8 rfl rfl)<|aB 1 rfl<|aZ ?_
      refine cS (a6 (j+1,X.set u (gS a l[i].wt),F.set u (i:Int),Y.set u (some (gS a l[i].wt)),av) (by first|omega|(dsimp only;omega)|(simp;omega)) ⟨aA,am,ap⟩ ?_ ?_ ?_)
      ·exact aF
      ·exact aF
      ·exact aC
     ·refine dY<|dF<|bO kh10<|aI<|f_Q (a8 rfl rfl)<|aB 1 rfl<|aZ ?_
      refine cS (a6 (j+1,X,F,Y,O) (by first|omega|(dsimp only;omega)|(simp;omega)) ⟨aA,hnx.skip hj aA hri hsrc (fun hp=>by rw [c63] at hp;cases hp),ab⟩ ?_ ?_ ?_)
      ·exact aF
      ·exact aF
      ·exact aC
    ·refine aB 4 rfl<|aD kh14<|iJ rfl<|dY<|dF<|bO kh10<|aI<|f_Q (a8 rfl rfl)<|aB 1 rfl<|aZ ?_
     refine cS (a6 (j+1,X,F,Y,O) (by first|omega|(dsimp only;omega)|(simp;omega)) ⟨aA,hnx.skip hj aA hri hsrc (fun _=>by rw [hud,p5 _ J,trn_wt];have:=dadd_le a l[i].wt;omega),ab⟩ ?_ ?_ ?_)
     ·exact aF
     ·exact aF
     ·exact aC
   ·refine cN<|cO<|cO<|eC<|bO kh6<|aG fun kh16=>aB 5 rfl<|aD kh16<|aY ?_
    exact kH [(n4 bx bo bd bb bH n A l.length cap back vs ms.flatten X F O).flatten] Tryz.results33 rfl rfl rfl (Sub.transF (Sub.joinF (m:=rm) (G' :=rG) al.symm) (Sub.flatF (by unfold n4;repeat (first|exact aP|refine aM ?_|refine cE rfl ?_)))) (.inr ⟨v,a,X,F,Y,_,ht,rfl,rfl,SRep_mk hR ab rfl,az,bg,ao,hnx.done aA,hnx.ta,hnx.le,hnx.dv,ai,hai,hnx.ch⟩)
def Chain (e:List Arc):Nat→Nat→List Nat→Prop
 |u,t,[]=>u=t
 |u,t,i::r=>∃ h:i<e.length,e[i].src.toNat=u∧Chain e e[i].dst.toNat t r
def wsum (e:List Arc):List Nat→Int
 |[]=>0
 |i::r=>(e[i]?.map Arc.wt).getD 0+wsum e r
theorem wsum_cons {e:List Arc} {i:Nat} (h:i<e.length) (r:List Nat):wsum e (i::r)=e[i].wt+wsum e r:=by simp [wsum,h]
def heads (e:List Arc) (W:List Nat):List Nat:=W.map (fun i=>(e[i]?.map (fun x=>x.dst.toNat)).getD 0)
theorem heads_cons {e:List Arc} {i:Nat} (h:i<e.length) (r:List Nat):heads e (i::r)=e[i].dst.toNat::heads e r:=by simp [heads,h]
structure Told (e:List Arc) (s t:Nat) (W:List Nat) (x:Int):Prop where
 chain:Chain e s t W
 sum:wsum e W=x
 nd:(heads e W).Nodup
 ns:s∉heads e W
theorem free_len {n:Nat}:∀ {o:List Nat},o.Nodup→(∀ v,v∈o→v<n)→free n o+o.length≤n
 |[],_,_=>by unfold free;simp only [List.length_nil,Nat.add_zero];exact Nat.le_trans List.countP_le_length aN
 |v::o,h,hv=>by
  rw [List.nodup_cons] at h;have a:=free_len h.2 (fun u F=>hv u (List.mem_cons_of_mem _ F))
  have b:=pS (hv v (List.mem_cons_self ..)) h.1
  rw [List.length_cons];omega
structure Back (e:List Arc) (d:List Int) (o:List Nat) (t v:Nat) (W o1 o2:List Nat):Prop where
 ho:o=o1++v::o2
 chain:Chain e v t W
 sum:wsum e W+dg d v=dg d t
 hd:∀ u,u∈heads e W→u∈o1
 nd:(heads e W).Nodup
 len:W.length≤o1.length
theorem Back.start {e:List Arc} {d:List Int} {o:List Nat} {t:Nat} (U:t∈o):∃ F J,Back e d o t t [] F J:=by
 obtain ⟨F,J,h⟩:=List.append_of_mem U
 exact ⟨F,J,h,rfl,by simp [wsum],fun u O=>by simp [heads] at O,by simp [heads],Nat.zero_le _⟩
theorem Back.next {n:Nat} {e:List Arc} {p:Nat→Bool} {s:Nat} {d by_:List Int} {T:List (Option Int)} {o:List Nat} {R:Nat→Prop} (h:SS n e p s d by_ T o R) {t v:Nat} {W O Y:List Nat} (hb:Back e d o t v W O Y) (hne:v≠s):
  ∃ (i:Nat) (hi:i<e.length) (Z J:List Nat),by_[v]? =some (i:Int)∧Back e d o t e[i].src.toNat (i::W) Z J∧J.length<Y.length:=by
 obtain ⟨i,hi,h1,h2,h3,h4,h5⟩:=h.by2 O v Y hb.ho hne
 obtain ⟨a,b,F⟩:=List.append_of_mem h4
 have X:v∉O:=fun hm=>by
  have:=h.nd;rw [hb.ho] at this
  have:=(List.nodup_append.1 this).2.2 v hm v aN
  exact this rfl
 refine ⟨i,hi,O++v::a,b,h1,⟨by rw [hb.ho,F];simp,⟨hi,rfl,by rw [h3];exact hb.chain⟩,by rw [wsum_cons hi];have:=hb.sum;omega,fun u U=>?_,?_,?_⟩,by rw [F];simp;omega⟩
 ·rw [heads_cons hi,h3] at U
  rcases List.mem_cons.1 U with rfl|U
  ·simp
  ·exact List.mem_append_left _ (hb.hd u U)
 ·rw [heads_cons hi,h3,List.nodup_cons]
  exact ⟨fun hm=>X (hb.hd v hm),hb.nd⟩
 ·have:=hb.len;rw [List.length_cons,List.length_append,List.length_cons];omega
theorem Back.told {e:List Arc} {d:List Int} {o:List Nat} {t s:Nat} {W J O:List Nat} (hb:Back e d o t s W J O) (F:o.Nodup) (hz:dg d s=0):Told e s t W (dg d t):=
 ⟨hb.chain,by have:=hb.sum;omega,hb.nd,fun hm=>by
  rw [hb.ho] at F
  exact (List.nodup_append.1 F).2.2 s (hb.hd s hm) s aN rfl⟩
theorem SS.small {n:Nat} {e:List Arc} {p:Nat→Bool} {s:Nat} {d by_:List Int} {T:List (Option Int)} {o:List Nat} {R:Nat→Prop} (h:SS n e p s d by_ T o R) (hw:∀ x∈e,x.wt≤4294967295):
  ∀ (k:Nat) (J:List Nat) (v:Nat) (O:List Nat),O.length=k→o=J++v::O→dg d v≤(k:Int)*4294967295:=by
 intro k
 induction k using Nat.strongRecOn with
 |_ k ih=>
  intro J v O hk ho
  by_cases hs:v=s
  ·subst hs;rw [h.zero];omega
  ·obtain ⟨i,hi,_,_,_,U,X⟩:=h.by2 J v O ho hs
   obtain ⟨a,b,F⟩:=List.append_of_mem U
   have hl:b.length<k:=by rw [F] at hk;simp at hk;omega
   have:=ih b.length hl (J++v::a) e[i].src.toNat b rfl (by rw [ho,F];simp)
   have:=hw _ (List.getElem_mem hi)
   omega
theorem SS.bound {n:Nat} {e:List Arc} {p:Nat→Bool} {s:Nat} {d by_:List Int} {T:List (Option Int)} {o:List Nat} {R:Nat→Prop} (h:SS n e p s d by_ T o R) (hw:∀ x∈e,x.wt≤4294967295) (hn:n≤1024) (X:topR T=none):∀ v,v<n→dg d v<INF→dg d v≤4398046510080:=fun v hv hlt=>by
 have U:T[v]? =some none:=by
  have O:=jT X
  unfold kC at O
  rw [List.countP_eq_zero] at O;have J:v<T.length:=by rw [h.lt];exact hv
  have:=O _ (List.getElem_mem J)
  rw [List.getElem?_eq_getElem J]
  cases e:T[v] with
  |none=>rfl
  |some x=>rw [e] at this;simp at this
 have hm:=(h.ord v).2 ⟨hv,hlt,U⟩
 obtain ⟨a,b,F⟩:=List.append_of_mem hm
 have hb:=h.small hw b.length a v b rfl F
 have hl:=free_len h.nd (fun v hv=>((h.ord v).1 hv).1)
 rw [F] at hl;simp at hl;omega
theorem GOk.wts {n:Nat} {l:List Arc} (h:GOk n l) (back:Bool):∀ x∈l.map (trn back),x.wt≤4294967295:=fun x hx=>by
 obtain ⟨y,hy,rfl⟩:=List.mem_map.1 hx
 rw [trn_wt];exact (h.ok y hy).wt.2
def iA (N:Int) (l:List Arc) (vs:List Int):Int:=if (cG N l).2≠0 then (cG N l).2 else if vs.any (fun v=>decide (v<0)||decide (N≤v)) then 5 else 0
theorem gok_of {n:Nat} {l:List Arc} (h:(cG (n:Int) l).2=0) (hok:∀ x∈l,eK x):GOk n l:=by
 obtain ⟨h1,h2,h3,F⟩:=bS h
 exact ⟨aA,h3,F,hok⟩
theorem nlooked_zero {N:Int} {l:List Arc} {vs:List Int} (h:iA N l vs=0):(cG N l).2=0∧∀ v∈vs,0≤v∧v<N:=by
 unfold iA at h
 split at h
 ·rename_i h1;exact absurd h h1
 ·split at h
  ·simp at h
  ·rename_i h1 h2
   exact ⟨by simpa using h1,by simpa using h2⟩
def DistΦ (F:Int) (n:Nat) (e:List Arc) (p:Nat→Bool) (s:Nat) (u:Value) (own:List Seg):Prop:=
 ∃ v m D,u= .tuple #[v,.int .i64 F]∧own=[m]∧Own 46 1 v D.length (fH D) m∧(F≠0→D=[])∧(F=0→IsD n e p s D∧∀ v,v<n→dg D v<INF→dg D v≤4398046510080)
abbrev every:Nat→Bool:=fun _=>true
theorem own_dist {bd n:Nat} {d:List Int} (h:d.length=n) (hn:n≤1024):Own 46 1 (.slice (some ⟨bd,0,none⟩) n n) d.length (fH d) [(bd,blk (fH d) 46)]:=by
 subst h;exact Own.mk (by rw [iE];omega) aA
theorem free_spec (i:Int) (w:World):Meets Tryz.prog 30 [.int .i64 i] w [] (fun u m=>u= .bool true∧m=[]):=by
 refine bE Tryz.func30 rfl Tryz.ntmps30 rfl Owns.nil<|aG fun kh1=>aB 1 rfl<|aD kh1<|aG fun kh2=>aB 1 rfl<|aD kh2<|aY ?_
 exact bJ [] Tryz.results30 rfl aP ⟨rfl,rfl⟩
theorem all_spec (n:Nat) (A:Option Addr) (l:List Arc) (cap:Nat) (back:Bool) (p:Nat→Bool) (s bx bd:Nat) (d by_:List Int) (T:List (Option Int)) (o:List Nat) (m:Seg) (fi:FuncId) (U:List Value) (w:World) (hr:Ro (Fr w [m]) w A (l.flatMap bZ)) (hg:GOk n l)
    (hS:SRep n A l cap back bx bd d by_ T m) (aj:SS n (l.map (trn back)) p s d by_ T o (RF (l.map (trn back)) o))
    (ah:∀ args w,(callFunc fi args).run Tryz.prog w= .ok (.enter fi args) w)
    (ae:∀ w',(∀ k,Fr w [m] k→w'.heap[k]? =w.heap[k]?)→∀ i,i<l.length→Meets Tryz.prog fi ([.int .i64 (i:Int)]++U) w' [] (fun u m=>u= .bool (p i)∧m=[])) (hw:Owns w [m]):
    Meets Tryz.prog 28 [.pointer (some ⟨bx,0,none⟩),.func (.func fi) #[] U.toArray] w [m] (fun u own' =>∃ O F J o' m',u= .slice (some ⟨bd,0,none⟩) n n∧own' =[m']∧SRep n A l cap back bx bd O F J m'∧SS n (l.map (trn back)) p s O F J o' (RF (l.map (trn back)) o')∧topR J=none):=by
 refine bE Tryz.func28 rfl Tryz.ntmps28 rfl hw<|aG fun kh1=>aB 1 rfl<|aD kh1<|aS fun kh2=>aG fun am=>aB 1 rfl<|aD am<|aR ?_
 refine dA (α:=Bool×List Int×List Int×List (Option Int)×List Nat×Seg) [0,1] (fun ⟨b,O,F,J,o',m'⟩=>[(5,.bool b)]) (fun ⟨b,O,F,J,o',m'⟩=>[m']) (fun ⟨b,O,F,J,o',m'⟩=>SRep n A l cap back bx bd O F J m'∧SS n (l.map (trn back)) p s O F J o' (RF (l.map (trn back)) o')∧(b=false→topR J=none)) (fun ⟨b,O,F,J,o',m'⟩=>free n o' +(if b then 1 else 0)) (true,d,by_,T,o,m) ?_ ?_ ?_ ?_
 · exact aF
 · exact aC
 · exact ⟨hS,aj,fun h=>by cases h⟩
 ·
  rintro ⟨b,O,F,J,o',m'⟩ ⟨ac,X,hb⟩;refine aS fun al=>aG fun kh5=>aB 1 rfl<|aD kh5<|eO rfl (fun c6=>?_) (fun c6=>?_)
  ·
   refine bV al<|aR<|aI<|aB 2 rfl ?_
   refine f_S (d4 [m'] _ Tryz.call33 rfl (aM Sub.refl) (fun w_ Z=>next_spec n A l cap back p s bx bd O F J o' m' fi U w_ (hr.up Z) hg ac X ah (fun w' hs i hi=>ae w' (Z.chain hs) i hi) Z.owns) ?_);rintro ao ap hN
   rcases hN with ⟨aa,rfl,m2,rfl,ab⟩|⟨v,a,d2,by2,T2,m2,ht,rfl,rfl,ab,ai,ak,an,ad,_⟩
   · dsimp only [aK,aJ]
     refine aB 5 rfl<|aZ<|dF ?_
     refine cS (a6 (false,O,F,J,o',m2) (by subst c6;simp) ⟨ab,X,fun _=>aa⟩ ?_ ?_ ?_)
     · exact aF
     · exact aF
     · exact aC
   have ag:=pS ai ak
   dsimp only [aK,aJ];refine aB 5 rfl<|aZ<|dF ?_
   refine cS (a6 (true,d2,by2,T2,v::o',m2) (by subst c6;simp;omega) ⟨ab,ad,fun h=>by cases h⟩ ?_ ?_ ?_)
   · exact aF
   · exact aF
   · exact aC
  ·
   refine cN<|cO<|cO<|eC<|bO kh2<|aS fun kh6=>?_
   obtain ⟨bo,bb,bH,vs,ms,hm,Y,hR,hH⟩:=ac
   refine eP (Sub.openF Y) ?_
   unfold n4
   dsimp only [aK,aJ];refine aI<|aB 1 rfl<|f_Q (dH rfl)<|cL fa81_3 rfl<|cX Tryz.isAgg41 rfl (rdA rfl)<|aB 1 rfl<|aD kh6<|aY ?_
   exact bJ [m'] Tryz.results28 rfl (Sub.transF (b:=n4 bx bo bd bb bH n A l.length cap back vs ms.flatten O F hm) (by unfold n4;repeat (first|exact aP|refine aM ?_|refine cE rfl ?_)) ⟨[],by simpa using Y.symm⟩) ⟨O,F,J,o',m',rfl,rfl,⟨bo,bb,bH,vs,ms,hm,Y,hR,hH⟩,X,hb c6⟩
theorem nrlook_spec (N:Int) (A:Option Addr) (l:List Arc) (cap:Nat) (B:Option Addr) (vs:List Int) (cb:Nat) (w:World) (hr:Ro (Fr w []) w A (l.flatMap bZ)) (hk:Ro (Fr w []) w B (bF vs)) (hl:l.length≤9223372036854775807) (hN:I64 N) (hok:∀ x∈l,eK x) (ad:vs.length≤1000000):
    Meets Tryz.prog 25 [.agg #[.int .i64 N,.slice A l.length cap],.slice B vs.length cb] w [] (fun u m=>u= .int .i64 (iA N l vs)∧m=[]):=by
 refine bE Tryz.func25 rfl Tryz.ntmps25 rfl Owns.nil<|aG fun kh1=>f_S (cT rfl rfl fun b2=>?_)
 refine aB 1 rfl<|aD kh1<|aS fun kh2=>aG fun kh3=>f_Q (aO (vs:=[_,_]) Tryz.isAgg24 Tryz.sizeOf24 rfl rfl ⟨(rdA rfl),(rdA rfl),trivial⟩) ?_
 refine f_S (aV Tryz.call20 rfl (fun w_ aa=>f3 N A l cap w_ (hr.up0 aa) hl hN hok) ?_);rintro _ _ ⟨rfl,rfl⟩;dsimp only [aK,aJ];refine aB 5 rfl<|aD kh3<|aG fun kh4=>aB 2 rfl<|aD kh4<|aX rfl (fun c15=>?_) (fun c15=>?_)
 ·refine aG fun U=>aB 2 rfl<|aD U<|aY<|cV ?_
  exact bJ [] Tryz.results25 rfl aP ⟨by unfold iA;rw [if_pos (by simpa using c15)],rfl⟩
 ·refine bV kh2<|aS fun kh6=>aG fun X=>aB 1 rfl<|dU bX rfl<|aB 1 rfl<|aD X<|aR ?_
  refine dA (α:=Nat) [2,17,18] (fun k=>[(19,.int .i64 (k:Int))]) (fun k=>[[(b2,blk [.int .i64 N,.slice A l.length cap] 24)]]) (fun k=>k≤vs.length∧∀ j (h:j<vs.length),j<k→(decide (vs[j]<0)||decide (N≤vs[j]))=false) (fun k=>vs.length - k) (0) ?_ ?_ ?_ ?_
  ·exact aF
  ·exact aC
  ·exact ⟨Nat.zero_le _,fun j _ h=>aA⟩
  ·rintro k ⟨ac,J⟩;refine aG fun kh8=>aB 1 rfl<|aD kh8<|aS fun kh9=>aX rfl (fun Y=>?_) (fun Y=>?_)
   ·refine bV kh9<|aS fun kh10=>aR<|aG fun kh11=>?_
    have F:k<vs.length:=aA
    obtain ⟨bk,ok,rfl,ab,Z⟩:=hk (fX F)
    refine f_Q (aL bX rfl rfl (ok+k))<|f_Q (aH Tryz.isAgg3 rfl (d3 (enc:=(.int .i64 ·)) ab Z F))<|aB 1 rfl<|aD kh11<|aG fun kh12=>aB 3 rfl<|d8 25 rfl (fun g25=>?_) (fun g25=>?_)
    ·refine aB 5 rfl<|aD kh12<|fI rfl<|aG fun kh13=>aB 1 rfl<|aD kh13<|aY<|fA<|cV<|cV ?_
     refine fA<|cV ?_
     exact bJ [] Tryz.results25 rfl aP ⟨by unfold iA;rw [if_neg (by simpa using c15),if_pos (List.any_eq_true.2 ⟨_,List.getElem_mem F,by simp [g25]⟩)],rfl⟩
    ·refine aB 1 rfl<|eA rfl rfl (aT eT rfl)<|eA rfl rfl (aH Tryz.isAgg3 rfl (rdA rfl))<|aB 2 rfl<|aD kh12<|aX rfl (fun c30=>?_) (fun c30=>?_)
     ·refine aG fun O=>aB 1 rfl<|aD O<|aY<|fA<|cV<|cV<|fA<|cV ?_
      exact bJ [] Tryz.results25 rfl aP ⟨by unfold iA;rw [if_neg (by simpa using c15),if_pos (List.any_eq_true.2 ⟨_,List.getElem_mem F,by simp;omega⟩)],rfl⟩
     ·refine dY<|dF<|bO kh10<|aI<|f_Q (a8 rfl rfl)<|aB 1 rfl<|aZ ?_
      refine cS (a6 (k+1) (by first|omega|(dsimp only;omega)|(simp;omega)) ⟨aA,qU (p:=fun v=>decide (v<0)||decide (N≤v)) (l:=vs) (hk:=F) J (by simp;omega)⟩ ?_ ?_ ?_)
      ·exact aF
      ·exact aF
      ·exact aC
   ·refine cN<|cO<|cO<|eC<|bO kh6<|aG fun kh15=>aB 1 rfl<|aD kh15<|aY ?_
    exact bJ [] Tryz.results25 rfl aP ⟨by unfold iA;rw [if_neg (by simpa using c15),if_neg (by
                    have hf:vs.any (fun v=>decide (v<0)||decide (N≤v))=false:=List.any_eq_false.2 fun v hv=>by
                      obtain ⟨j,hj,rfl⟩:=List.mem_iff_getElem.1 hv
                      simpa using J j hj aA
                    rw [hf];decide)],rfl⟩
theorem From_spec (N:Int) (A:Option Addr) (l:List Arc) (cap:Nat) (s:Int) (w:World) (hr:Ro (Fr w []) w A (l.flatMap bZ)) (hl:l.length≤9223372036854775807) (hN:I64 N) (hok:∀ x∈l,eK x):
    Meets Tryz.prog 16 [.agg #[.int .i64 N,.slice A l.length cap],.int .i64 s] w [] (DistΦ (iA N l [s]) N.toNat (l.map (trn false)) every s.toNat):=by
 refine bE Tryz.func16 rfl Tryz.ntmps16 rfl Owns.nil<|aG fun kh1=>f_S (cT rfl rfl fun b2=>?_)
 refine aB 2 rfl<|aD kh1<|aS fun kh2=>aG fun kh3=>f_Q (aO (vs:=[_,_]) Tryz.isAgg24 Tryz.sizeOf24 rfl rfl ⟨(rdA rfl),(rdA rfl),trivial⟩)<|aB 1 rfl<|f_S (bQ eL aA rfl rfl rfl fun b9=>?_)
 refine f_S (aV Tryz.call25 rfl (fun U F=>nrlook_spec N A l cap (some ⟨b9,0,none⟩) [s] 1 U (hr.up0 F) (fP (b:=b9) F (cs:=bF [s]) (fun j v hj=>hj)) hl hN hok aN) ?_);rintro _ _ ⟨rfl,rfl⟩;dsimp only [aK,aJ];refine aB 1 rfl<|aD kh3<|aG fun kh4=>aB 2 rfl<|aD kh4<|aX rfl (fun c12=>?_) (fun c12=>?_)
 ·refine aG fun aa=>aB 3 rfl<|aD aa<|aY<|cV ?_
  exact cZ [[]] Tryz.results16 rfl rfl Sub.empty ⟨.slice none 0 0,[],[],rfl,rfl,Own.nil _ _,fun _=>rfl,fun h=>absurd h c12⟩
 ·have hz:iA N l [s]=0:=by simpa using c12
  obtain ⟨Z,hv⟩:=nlooked_zero hz
  have ad:=hv s aN
  obtain ⟨n,rfl⟩:∃ n:Nat,N=n:=⟨N.toNat,aA⟩
  obtain ⟨k,rfl⟩:∃ k:Nat,s=k:=⟨s.toNat,aA⟩
  have hg:=gok_of Z hok
  have O:k<n:=aA
  refine bV kh2<|aG fun kh6=>f_Q (aO (vs:=[_,_]) Tryz.isAgg24 Tryz.sizeOf24 rfl rfl ⟨(rdA rfl),(rdA rfl),trivial⟩)<|aB 1 rfl ?_
  refine f_S (aV Tryz.call27 rfl (fun U F=>begin_spec n A l cap false k U (hr.up0 F) hg O) ?_);rintro _ _ ⟨bx,bd,m1,rfl,rfl,Y⟩;dsimp only [aK,aJ];refine f_S (d4 [m1] _ Tryz.call28 rfl (aM Sub.refl) (fun U F=>all_spec n A l cap false every k bx bd (D0 n k) (B0 n) (T0 n k) [] m1 30 [] U (hr.up F) hg Y (SS_begin O) Tryz.call30 (fun w' _ i _=>free_spec i w') F.owns) ?_);rintro _ _ ⟨d2,by2,T2,o2,m2,rfl,rfl,ac,J,X⟩;dsimp only [aK,aJ];refine aB 2 rfl<|aD kh6<|aY ?_
  obtain ⟨bo,bb,bH,vs,ms,hm,ab,hR,hH⟩:=ac
  exact cZ [[(bd,blk (fH d2) 46)]] Tryz.results16 rfl rfl (Sub.pickF (m:=m2) ab (by unfold n4;dsimp only [aK,aJ];exact aM aP)) ⟨_,_,d2,by rw [hz],rfl,own_dist J.ld hg.n1.2,fun h=>absurd hz h,fun _=>⟨J.done X (hg.src _) (hg.dst _) (hg.wt _),J.bound (hg.wts _) hg.n1.2 X⟩⟩
theorem Sub.flatTwo {segs out1 out2 r:List Seg} (h:Sub segs (out1++(out2++r))):Sub segs (out1.flatten::out2.flatten::r):=by
 obtain ⟨q,h⟩:=h
 exact ⟨q,by simpa using h⟩
theorem Sub.openAt {segs F out:List Seg} {m:Seg} [p:Pick segs m F] (hp:m.Perm out.flatten):Sub segs (out++F):=Sub.pickF hp Sub.refl
theorem D0_dg {n s u:Nat} (hs:s<n) (F:u<n):dg (D0 n s) u=if s=u then 0 else INF:=by
 unfold D0;rw [dg_set (by simpa using hs)];split
 ·rfl
 ·rw [dg_eq (by simpa using F)];simp

def wA:List Arc:=[⟨0,1,5⟩,⟨1,2,7⟩,⟨0,2,20⟩]
theorem w0:iA 3 wA [0]=0:=by decide
theorem IsD.arc {n:Nat} {e:List Arc} {p:Nat→Bool} {s:Nat} {d:List Int} (h:IsD n e p s d) {i:Nat} (hi:i<e.length) (hp:p i=true) (hd:e[i].dst.toNat<n):dg d e[i].dst.toNat≤gS (dg d e[i].src.toNat) e[i].wt:=by
 have h2:=h.arcs i hi hp
 have:=(h.rng _ hd).2
 unfold gS;split<;>omega
def over (D Y:List Int) (u:Nat) (w:Int) (v:Nat):Int:=if dg D u<INF∧dg Y v<INF then dg D u+w+dg Y v else INF
theorem Wk.more {e:List Arc} {a:Arc} {s v:Nat} {m:Int} (h:Wk e (fun _=>true) s v m):Wk (e++[a]) (fun _=>true) s v m:=by
 induction h with
 |nil=>exact .nil
 | @step n i hi hp _ ih=>
  have hi' :i<(e++[a]).length:=by simp;omega
  have eq:(e++[a])[i]=e[i]:=List.getElem_append_left hi
  have:=Wk.step (p:=fun _=>true) hi' rfl (by rw [eq];exact ih)
  rwa [eq] at this


theorem heldIn {S:Nat→Prop} {w0 w w' :World} {own fr:List Seg} {b:Nat} {cs:List Value} {T:TypeId} {f:Seg→List Seg} [h:At fr b (blk cs T) f] (hp:Hp S w0 (own++fr).flatten w) (hs:∀ k,Fr w own k→w'.heap[k]? =w.heap[k]?):Ro (Fr w' []) w' (some ⟨b,0,none⟩) cs:=fun hne=>by
 rw [List.flatten_append] at hp;have F:(b,blk cs T)∈fr.flatten:=h.mem
 have hb:=hp.own b _ (List.mem_append_right _ F)
 have hn:b∉own.flatten.map (·.1):=fun hm=>by
  have:=hp.nodup
  rw [List.map_append] at this;exact (List.nodup_append.1 this).2.2 b hm b (List.mem_map.2 ⟨_,F,rfl⟩) rfl
 have e:=hs b ⟨hp.key_lt (List.mem_append_right _ F),hn⟩
 rw [hb] at e;exact ⟨b,0,rfl,⟨(Array.getElem?_eq_some_iff.1 e).1,aN⟩,fun k v hk=>by simp [World.cell?,e];simpa using hk⟩
theorem ro_keep {S:Nat→Prop} {w0 w' :World} {A:Option Addr} {cs:List Value} (h:Ro S w0 A cs) (hlt:∀ b,S b→b<w0.heap.size) (hs:∀ k,S k→w'.heap[k]? =w0.heap[k]?):Ro (Fr w' []) w' A cs:=fun hne=>by
 obtain ⟨b,off,rfl,F,hc⟩:=h hne
 have e:=hs b F
 rw [Array.getElem?_eq_getElem (hlt b F)] at e;exact ⟨b,off,rfl,⟨(Array.getElem?_eq_some_iff.1 e).1,aN⟩,hc.same (hs b F)⟩
def pW (l:List Arc) (F:List Bool) (i:Nat):Bool:=(l[i]?.map (fun x=>F.getD x.dst.toNat false)).getD false
theorem pW_eq {l:List Arc} {F:List Bool} {i:Nat} (h:i<l.length) (h' :l[i].dst.toNat<F.length):pW l F i=F[l[i].dst.toNat]:=by
 simp [pW,h,List.getD_eq_getElem?_getD,h']
def wcode (N:Int) (l:List Arc) (s:Int) (len:Nat):Int:=if iA N l [s]≠0 then iA N l [s] else if (len:Int)≠N then 4 else 0
theorem Wk.sub {e:List Arc} {p q:Nat→Bool} (h:∀ i,p i=true→q i=true) {s v:Nat} {m:Int} (hw:Wk e p s v m):Wk e q s v m:=by
 induction hw with
 |nil=>exact .nil
 | @step m i hi hp _ ih=>exact .step hi (h _ hp) ih
theorem Win1_spec (n:Nat) (A B:Option Addr) (l:List Arc) (F:List Bool) (cap cb b1 b2 i:Nat) (w:World) (h1:Ro (Fr w []) w (some ⟨b1,0,none⟩) [.slice B F.length cb]) (h2:Ro (Fr w []) w (some ⟨b2,0,none⟩) [.int .i64 (n:Int),.slice A l.length cap])
    (hr:Ro (Fr w []) w A (l.flatMap bZ)) (hb:Ro (Fr w []) w B (F.map .bool)) (hi:i<l.length) (hg:GOk n l) (ac:F.length=n):
    Meets Tryz.prog 29 ([.int .i64 (i:Int)]++[.pointer (some ⟨b1,0,none⟩),.pointer (some ⟨b2,0,none⟩)]) w [] (fun u m=>u= .bool (pW l F i)∧m=[]):=by
 have hlen:=hg.len
 have ab:=hg.good i hi
 have J:l[i].dst.toNat<F.length:=aA
 obtain ⟨b',o',e',Y,X⟩:=h1 aN
 obtain ⟨rfl,rfl⟩:b1=b'∧0=o' :=by cases e';exact ⟨rfl,rfl⟩
 obtain ⟨b',o',e',aa,O⟩:=h2 aN
 obtain ⟨rfl,rfl⟩:b2=b'∧0=o' :=by cases e';exact ⟨rfl,rfl⟩
 obtain ⟨bl,off,rfl,hS,hc⟩:=hr (eX bZ dD aA hi)
 obtain ⟨bi,oi,rfl,U,Z⟩:=hb (fX J)
 refine bE Tryz.func29 rfl Tryz.ntmps29 rfl Owns.nil<|aG fun kh1=>aB 1 rfl<|aD kh1<|aS fun kh2=>gG 9 rfl aW<|dB (aH Tryz.isAgg37 rfl (rdS Y (X 0 _ rfl)))<|dB (aT fT rfl)<|dB (aH Tryz.isAgg22 rfl (rdS aa (O 1 _ rfl)))<|dI 1 rfl ?_
 refine dB (aL jB rfl rfl (off+i*3))<|dB (aT fO rfl)<|dB (aH Tryz.isAgg3 rfl (rdS hS (by have:=hc (i*3+1) _ (by rw [iV bZ dD l i 1 hi aA];rfl);rwa [← Nat.add_assoc] at this))) ?_;refine dB (aL o9 rfl rfl (oi+l[i].dst.toNat))<|dB (aH Tryz.isAgg4 rfl (d3 (enc:= .bool) U Z J))<|eI (iX ?_)
 refine aB 1 rfl<|aD kh2<|aY ?_
 exact bJ [] Tryz.results29 rfl aP ⟨by rw [pW_eq hi J],rfl⟩
def WinΦ (N:Int) (l:List Arc) (s:Int) (F:List Bool) (u:Value) (own:List Seg):Prop:=
 ∃ v m D,u= .tuple #[v,.int .i64 (wcode N l s F.length)]∧own=[m]∧Own 46 1 v D.length (fH D) m∧(wcode N l s F.length≠0→D=[])∧
  (wcode N l s F.length=0→if F.getD s.toNat false=true then IsD N.toNat (l.map (trn false)) (pW l F) s.toNat D∧∀ v,v<N.toNat→dg D v<INF→dg D v≤4398046510080 else D=List.replicate N.toNat INF)
theorem WithinB_spec (N:Int) (A:Option Addr) (l:List Arc) (cap:Nat) (s:Int) (B:Option Addr) (J:List Bool) (cb:Nat) (w:World) (hr:Ro (Fr w []) w A (l.flatMap bZ)) (hb:Ro (Fr w []) w B (J.map .bool)) (hl:l.length≤9223372036854775807) (hN:I64 N) (hok:∀ x∈l,eK x):
    Meets Tryz.prog 10 [.agg #[.int .i64 N,.slice A l.length cap],.int .i64 s,.slice B J.length cb] w [] (WinΦ N l s J):=by
 refine bE Tryz.func10 rfl Tryz.ntmps10 rfl Owns.nil<|aG fun kh1=>f_S (cT rfl rfl fun b3=>?_)
 refine f_S (cT rfl rfl fun b5=>?_);refine aB 2 rfl<|aD kh1<|aS fun kh2=>aG fun kh3=>f_Q (aO (vs:=[_,_]) Tryz.isAgg24 Tryz.sizeOf24 rfl rfl ⟨(rdA rfl),(rdA rfl),trivial⟩)<|aB 1 rfl<|f_S (bQ eL aA rfl rfl rfl fun b11=>?_)
 refine f_S (aV Tryz.call25 rfl (fun Z F=>nrlook_spec N A l cap (some ⟨b11,0,none⟩) [s] 1 Z (hr.up0 F) (fP (b:=b11) F (cs:=bF [s]) (fun j v hj=>hj)) hl hN hok aN) ?_);rintro _ _ ⟨rfl,rfl⟩;dsimp only [aK,aJ];refine aB 1 rfl<|aD kh3<|aG fun kh4=>aB 2 rfl<|aD kh4<|aX rfl (fun c14=>?_) (fun c14=>?_)
 ·refine aG fun ak=>aB 3 rfl<|aD ak<|aY<|cV ?_
  have U:wcode N l s J.length=iA N l [s]:=by unfold wcode;rw [if_pos c14]
  exact cZ [[]] Tryz.results10 rfl rfl Sub.empty ⟨.slice none 0 0,[],[],by rw [U],rfl,Own.nil _ _,fun _=>rfl,fun h=>by rw [U] at h;exact absurd h (c14)⟩
 ·have hz:iA N l [s]=0:=by simpa using c14
  obtain ⟨ah,hv⟩:=nlooked_zero hz
  have ar:=hv s aN
  obtain ⟨n,rfl⟩:∃ n:Nat,N=n:=⟨N.toNat,aA⟩
  obtain ⟨k,rfl⟩:∃ k:Nat,s=k:=⟨s.toNat,aA⟩
  have hg:=gok_of ah hok
  have ab:k<n:=aA
  have aq:=hg.n1
  have hlen:=hg.len
  refine bV kh2<|aS fun kh6=>aG fun kh7=>cX Tryz.isAgg37 rfl (rdA rfl)<|dU o9 rfl<|cL eT rfl<|cX Tryz.isAgg3 rfl (rdA rfl)<|aB 1 rfl<|aD kh7<|aX rfl (fun c20=>?_) (fun c20=>?_)
  ·refine aG fun ap=>aB 2 rfl<|aD ap<|aY<|cV ?_
   have U:wcode (n:Int) l (k:Int) J.length=4:=by unfold wcode;rw [if_neg aA,if_pos aA]
   exact cZ [[]] Tryz.results10 rfl rfl Sub.empty ⟨.slice none 0 0,[],[],by rw [U],rfl,Own.nil _ _,fun _=>rfl,fun h=>by rw [U] at h;exact absurd h (by decide)⟩
  ·have aj:J.length=n:=aA
   have X:wcode (n:Int) l (k:Int) J.length=0:=by unfold wcode;rw [if_neg aA,if_neg aA]
   have Y:k<J.length:=aA
   have ae:J.getD k false=J[k]:=by simp [List.getD_eq_getElem?_getD,Y]
   refine bV kh6<|aS fun kh9=>aG fun kh10=>cX Tryz.isAgg37 rfl (rdA rfl)<|aB 1 rfl ?_
   have am:=hb (fX Y)
   obtain ⟨bi,oi,rfl,an,ai⟩:=am
   refine f_Q (aL o9 rfl rfl (oi+k))<|f_Q (aH Tryz.isAgg4 rfl (d3 (enc:= .bool) an ai Y))<|aB 1 rfl<|aD kh10<|eO rfl (fun c25=>?_) (fun c25=>?_)
   ·refine aG fun aa=>f_S (bQ q6 aA rfl rfl rfl fun ac=>?_);refine cL eT rfl<|cX Tryz.isAgg3 rfl (rdA rfl) ?_
    refine f_S (aV Tryz.call26 rfl (fun Z F=>i2 ac 0 1 n 18446744073709551615 Z (fP (b:=ac) F (cs:=[.int .u64 18446744073709551615]) (fun j v hj=>hj)) aA) ?_);rintro _ _ ⟨bd,rfl,rfl⟩;dsimp only [aK,aJ];refine aB 2 rfl<|aD aa<|aY<|cV ?_
    have hf:J[k]=false:=by simpa using c25
    exact cZ [[(bd,blk (fH (List.replicate n INF)) 46)]] Tryz.results10 rfl rfl (by rw [← u64s_rep];exact aM aP) ⟨_,_,List.replicate n INF,by rw [X],rfl,own_dist aN hg.n1.2,fun h=>absurd X h,fun _=>by rw [Int.toNat_natCast,Int.toNat_natCast,ae,hf,if_neg (by decide)]⟩
   ·refine bV kh9<|aG fun kh12=>f_Q (aO (vs:=[_,_]) Tryz.isAgg24 Tryz.sizeOf24 rfl rfl ⟨(rdA rfl),(rdA rfl),trivial⟩)<|aB 1 rfl ?_
    refine f_S (aV Tryz.call27 rfl (fun Z F=>begin_spec n A l cap false k Z (hr.up0 F) hg ab) ?_);rintro _ _ ⟨bx,bd,m1,rfl,rfl,ag⟩;dsimp only [aK,aJ];refine f_Q (kT rfl rfl) ?_;refine f_S (d4 [m1] _ Tryz.call28 rfl (aM Sub.refl) (fun Z F=>all_spec n A l cap false (pW l J) k bx bd (D0 n k) (B0 n) (T0 n k) [] m1 29 [.pointer (some ⟨b5,0,none⟩),.pointer (some ⟨b3,0,none⟩)] Z (hr.up F) hg ag (SS_begin ab) Tryz.call29 (fun w' hs i hi=>Win1_spec n A (some ⟨bi,oi,none⟩) l J cap cb b5 b3 i w' (heldIn F hs) (heldIn F hs) (ro_keep hr F.lt (F.chain hs)) (ro_keep hb F.lt (F.chain hs)) hi hg aj) F.owns) ?_);rintro _ _ ⟨d2,by2,T2,o2,m2,rfl,rfl,ao,O,ad⟩;dsimp only [aK,aJ];refine aB 2 rfl<|aD kh12<|aY ?_
    have hf:J[k]=true:=by simpa using c25
    obtain ⟨bo,bb,bH,vs,ms,hm,al,hR,hH⟩:=ao
    exact cZ [[(bd,blk (fH d2) 46)]] Tryz.results10 rfl rfl (Sub.pickF (m:=m2) al (by unfold n4;dsimp only [aK,aJ];exact aM aP)) ⟨_,_,d2,by rw [X],rfl,own_dist O.ld hg.n1.2,fun h=>absurd X h,fun _=>by rw [Int.toNat_natCast,Int.toNat_natCast,ae,hf,if_pos rfl];exact ⟨O.done ad (hg.src _) (hg.dst _) (hg.wt _),O.bound (hg.wts _) hg.n1.2 ad⟩⟩
end Go.Proofs.YthpkelafioikaaaGreat
namespace Go.Proofs.YthpkelafioikaaaGreat
open Go Go.RowKit Fly
set_option linter.unusedVariables false
set_option linter.unusedSimpArgs false
structure Mx where
 lv:Int
 cl:Int
 ep:Int
 A:Option Addr
 D:List Int
 cap:Nat
def gQ (m:Mx):List Value:=[.int .i64 m.lv,.int .i64 m.cl,.int .i64 m.ep,.slice m.A m.D.length m.cap]
theorem i9 (m:Mx):(gQ m).length=4:=rfl
structure GN (S:Nat→Prop) (w:World) (n:Nat) (A:Option Addr) (l:List Arc) (Ab:Option Addr) (bs:List Int) (Ac:Option Addr) (R:List Row):Prop where
 r:Ro S w A (l.flatMap bZ)
 ok:∀ x∈l,eK x
 ns:NestRo S w Ab bs Ac R
 o:NestOk n l bs (bG R)
theorem GN.up0 {S:Nat→Prop} {w0 w:World} {m:Seg} {n:Nat} {A:Option Addr} {l:List Arc} {F:Option Addr} {bs:List Int} {J:Option Addr} {R:List Row} (h:GN S w0 n A l F bs J R) (hp:Hp S w0 m w):GN (Fr w []) w n A l F bs J R:=
 ⟨h.r.up0 hp,h.ok,h.ns.up0 hp,h.o⟩
structure MRows (B:List Int) (Q:Nat→Nat→Int→Prop) (D:List Int) (i:Nat):Prop where
 len:D.length=i*B.length
 at_:∀ a j,a<i→(ha:a<B.length)→(hj:j<B.length)→Q B[a].toNat B[j].toNat (dg D (a*B.length+j))
theorem MRows.nil (B:List Int) (Q:Nat→Nat→Int→Prop):MRows B Q [] 0:=⟨aN,fun a j h=>aA⟩
def j2 (B W:List Int):List Int:=B.map fun u=>dg W u.toNat
theorem rowD_len (B W:List Int):(j2 B W).length=B.length:=by simp [j2]
theorem MRows.next {B:List Int} {Q:Nat→Nat→Int→Prop} {D W:List Int} {i:Nat} (h:MRows B Q D i) (hi:i<B.length) (hq:∀ j (hj:j<B.length),Q B[i].toNat B[j].toNat (dg W B[j].toNat)):MRows B Q (D++j2 B W) (i+1) where
 len:=by rw [List.length_append,h.len,rowD_len,Nat.succ_mul]
 at_ a j hai ha hj:=by
  by_cases e:a=i
  ·subst e
   have:dg (D++j2 B W) (a*B.length+j)=dg W B[j].toNat:=by
    show (D++j2 B W).getD _ _=_
    rw [List.getD_eq_getElem?_getD,List.getElem?_append_right (by rw [h.len];omega),h.len,Nat.add_sub_cancel_left];simp [j2,hj]
   rw [this];exact hq j hj
  ·have hlt:a*B.length+j<D.length:=by
    rw [h.len];have:(a+1)*B.length≤i*B.length:=Nat.mul_le_mul_right _ aA
    rw [Nat.succ_mul] at this;omega
   have:dg (D++j2 B W) (a*B.length+j)=dg D (a*B.length+j):=by
    show (D++j2 B W).getD _ _=D.getD _ _
    rw [List.getD_eq_getElem?_getD,List.getD_eq_getElem?_getD,List.getElem?_append_left hlt]
   rw [this];exact h.at_ a j aA ha hj
theorem rowD_take {B W:List Int} {j:Nat} (hj:j<B.length):j2 (B.take (j+1)) W=j2 (B.take j) W++[dg W B[j].toNat]:=by
 unfold j2;rw [List.take_succ_eq_append_getElem hj,List.map_append];rfl
theorem u64s_append (a b:List Int):fH (a++b)=fH a++fH b:=by simp [fH]
theorem nB (l:List Arc):l.map (trn false)=l:=by
 induction l with
 |nil=>rfl
 |cons x l ih=>rw [List.map_cons,ih];rfl
theorem u64_len1 {E:TypeId} {v:Value} {l:List Int} {x:Int} {m:Seg}:Own E 1 v (l.length+1) (fH l++[.int .u64 x]) m=Own E 1 v (l++[x]).length (fH (l++[x])) m:=by rw [u64s_append,List.length_append];rfl
def qQ (L:List Int) (c:Int) (n k:Nat):List Bool:=(List.range n).map fun v=>decide (v<k)&&decide (L.getD v 0=c)
theorem inTo_len (L:List Int) (c:Int) (n k:Nat):(qQ L c n k).length=n:=by simp [qQ]
theorem inTo_zero (L:List Int) (c:Int) (n:Nat):qQ L c n 0=List.replicate n false:=by
 refine List.ext_getElem (by simp [qQ]) fun i h1 h2=>?_;simp [qQ]
theorem inTo_next {L:List Int} {c:Int} {n k:Nat} (hk:k<n):(qQ L c n k).set k (decide (L.getD k 0=c))=qQ L c n (k+1):=by
 refine List.ext_getElem (by simp [qQ]) fun i h1 h2=>?_;rw [List.getElem_set];simp only [qQ,List.getElem_map,List.getElem_range]
 by_cases e:k=i
 ·subst e;simp
 ·rw [if_neg e]
  congr 1
  exact decide_eq_decide.2 aA
theorem inTo_at {L:List Int} {c:Int} {n v:Nat} (hv:v<n):(qQ L c n n).getD v false=decide (L.getD v 0=c):=by
 simp [qQ,List.getD_eq_getElem?_getD,hv]
theorem oL {n:Nat} {L:List Int} {c:Int} {l:List Arc} (hg:∀ k (hk:k<l.length),0≤l[k].src∧l[k].src<(n:Int)∧0≤l[k].dst∧l[k].dst<(n:Int)) {v:Int} (h:v∈bdL L c l):0≤v∧v<(n:Int):=by
 obtain ⟨a,ha,hb⟩:=k7.1 h
 obtain ⟨j,hj,rfl⟩:=List.mem_iff_getElem.1 ha
 have:=hg j hj
 rcases (jR.1 hb).2 with ⟨_,e⟩|⟨_,e⟩<;>omega
theorem pY (L:List Int) (c:Int) (l:List Arc):(bdL L c l).length≤2*l.length:=by
 have h1:=bdR_len L c l
 have h2:=kI (gT (bdR L c l))
 rw [e6] at h2
 unfold bdL;omega
theorem mul_q {a b:Nat} (h:a*b≤9223372036854775807):IntKind.i64.wrap ((a:Int)*(b:Int))=((a*b:Nat):Int):=by
 rw [← Int.natCast_mul];exact d7 aA
theorem pW_in {n:Nat} {l:List Arc} {L:List Int} {c:Int} (hg:∀ k (hk:k<l.length),0≤l[k].src∧l[k].src<(n:Int)∧0≤l[k].dst∧l[k].dst<(n:Int)) {i:Nat} (hi:i<l.length):pW l (qQ L c n n) i=decide (L.getD l[i].dst.toNat 0=c):=by
 have:=hg i hi
 unfold pW
 rw [List.getElem?_eq_getElem hi];exact inTo_at aA
theorem within_row {n:Nat} {l:List Arc} {L:List Int} {c:Int} {W:List Int} (hg:∀ k (hk:k<l.length),0≤l[k].src∧l[k].src<(n:Int)∧0≤l[k].dst∧l[k].dst<(n:Int)) {s:Nat} (hs:L.getD s 0=c) (h:IsD n (l.map (trn false)) (pW l (qQ L c n n)) s W) {v:Nat} (hv:v<n):IsB l (pI l L c) s v (dg W v):=by
 have h1:=h.isB hv
 rw [nB] at h1;exact h1.inner (fun i hi=>pW_in hg hi) hs
theorem wrap_q {a:Nat} (h:a≤9223372036854775807):IntKind.i64.wrap (a:Int)=(a:Int):=d7 aA
def wtL (l:List Arc) (arcs:List Int):List Int:=arcs.map fun i=>((l[i.toNat]?).map (·.wt)).getD 0
def w32s (l:List Int):List Value:=l.map (.int .u32 ·)
theorem w32s_append (a b:List Int):w32s (a++b)=w32s a++w32s b:=by simp [w32s]
theorem wtL_len (l:List Arc) (arcs:List Int):(wtL l arcs).length=arcs.length:=by simp [wtL]
theorem wtL_next {l:List Arc} {arcs:List Int} {k i:Nat} (hk:k<arcs.length) (hi:i<l.length) (e:arcs[k]=(i:Int)):wtL l (arcs.take (k+1))=wtL l (arcs.take k)++[l[i].wt]:=by
 unfold wtL;rw [List.take_succ_eq_append_getElem hk,List.map_append]
 simp [e,hi]
theorem wtL_at {l:List Arc} {arcs:List Int} {k i:Nat} (hk:k<arcs.length) (hi:i<l.length) (e:arcs[k]=(i:Int)):(wtL l arcs)[k]? =some l[i].wt:=by
 simp [wtL,hk,e,hi]
def rD (l:List Arc) (arcs:List Int):Prop:=∀ x∈arcs,∃ i:Nat,x=(i:Int)∧i<l.length
theorem mV (p:Arc→Bool) (l:List Arc):rD l (gF p l):=fun x hx=>by
 obtain ⟨i,hi,e,_⟩:=idxs_mem hx
 exact ⟨i,e,hi⟩
theorem fr_of {S:Nat→Prop} {w0 w:World} {own fr:List Seg} {b:Nat} {o:Obj} (hp:Hp S w0 (own++fr).flatten w) (hm:(b,o)∈fr.flatten):Fr w own b∧w.heap[b]? =some o:=by
 rw [List.flatten_append] at hp;refine ⟨⟨hp.key_lt (List.mem_append_right _ hm),fun hx=>?_⟩,hp.own b o (List.mem_append_right _ hm)⟩;have:=hp.nodup
 rw [List.map_append] at this;exact (List.nodup_append.1 this).2.2 b hx b (List.mem_map.2 ⟨_,hm,rfl⟩) rfl
theorem roBlk {S:Nat→Prop} {w:World} {b:Nat} {cs sp:List Value} {T:TypeId} (F:S b) (hb:w.heap[b]? =some (blk (cs++sp) T)):Ro S w (some ⟨b,0,none⟩) cs:=fun _=>
 ⟨b,0,rfl,F,fun j v hj=>by rw [Nat.zero_add];simp [World.cell?,hb];rw [List.getElem?_append_left (List.getElem?_eq_some_iff.1 hj).1];exact hj⟩
theorem roFr {S:Nat→Prop} {w0 w:World} {own fr:List Seg} {b:Nat} {cs:List Value} {T:TypeId} {f:Seg→List Seg} [h:At fr b (blk cs T) f] (hp:Hp S w0 (own++fr).flatten w):Ro (Fr w own) w (some ⟨b,0,none⟩) cs:=by
 obtain ⟨h1,h2⟩:=fr_of hp h.mem
 exact roBlk (sp:=[]) h1 (by rw [List.append_nil];exact h2)
theorem Own.fr {S:Nat→Prop} {w0 w:World} {own fr out:List Seg} {E sz len F cap:Nat} {A:Option Addr} {cs:List Value} {m:Seg} (h:Own E sz (.slice A F cap) len cs m) (hp:Hp S w0 (own++fr).flatten w) [p:Pick fr m out]:Ro (Fr w own) w A cs:=fun hne=>by
 rcases h.2 with ⟨_,rfl,_⟩|⟨b,c,sp,e,rfl,_⟩
 ·exact absurd (List.eq_nil_of_length_eq_zero (by simpa using h.1)) hne
 ·cases e
  obtain ⟨h1,h2⟩:=fr_of hp (p.perm.mem_iff.2 (List.mem_append_left _ (List.mem_singleton.2 rfl)))
  exact roBlk h1 h2 hne
section
variable {P:Program} {n:Nat} {S:Nat→Prop} {w0:World} {env:Env} {segs:List Seg} {K:Value→List Seg→Prop} {d:Option Tmp} {ty:TypeId} {pos:String} {af:Array Edge} {g:Option (Nat×Bool)}
theorem o_make0 {T E sz F:Nat} {z:List Value} {x y:Operand} {U O:IntKind} {N:Int} (J:ElT P T E sz F z) (hx:ev env x=some (.int U 0)) (hy:ev env y=some (.int O N)) (m:Nat) (hm:N=(m:Int)) (hb:F*m≤281474976710656)
  (X:m≤9223372036854775807) (k:∀ v ms,Own E sz v 0 [] ms→K v (ms::segs)):Does P n S w0 env segs ⟨d,.makeSlice T x y,ty,pos,af,g⟩ K:=
 gP fun a w ha hp=>by
  obtain ⟨i,v,hi,hz,hc,rfl,rfl⟩:=J.i
  subst hm;have hr:=run_make (P:=P) w T E i v J.und hi hz U O 0 m (Int.le_refl _) aA (by rw [← Int.natCast_mul];omega) aA
  rw [Int.toNat_natCast,hc,← J.len,kU z m (by rw [J.len];exact J.pos)] at hr;refine ⟨.slice (some ⟨w.heap.size,0,none⟩) 0 m,[(w.heap.size,blk (List.replicate m z).flatten E)]::segs,w.alloc (blk (List.replicate m z).flatten E),.inl ?_,hp.alloc _,k _ _ ⟨aN,.inr ⟨_,m,(List.replicate m z).flatten,rfl,aN,Nat.zero_le _,X,by simp [J.len]⟩⟩⟩;simp only [execOp,ha.eval hx,ha.eval hy,hr,Sem.run_bind,Result.andThen_ok,Sem.run_pure];rfl
end
section
variable {P:Program} {n:Nat} {env:Env} {segs:List Seg}
theorem f_fin1c {fn:Func} {own:List Seg} {w:World} {Φ:Value→List Seg→Prop} (own' :List Seg) {r:Tmp} {T:TypeId} {b sz:Nat} {vs:List Value} (hr:fn.results= #[.cell r T]) (hv:Fly.look env r=some (.pointer (some ⟨b,0,none⟩)))
  (U:∀ w,(isAgg T).run P w= .ok true w) (J:∀ w,(sizeOf T).run P w= .ok sz w) (hl:vs.length=sz) (F:Rds (Fr w own) w segs b 0 vs) (hs:Sub segs own') (O:Φ (.agg vs.toArray) own'):
  Wq n (Fr w own) w (bodyPost P fn (fV w own Φ) .ret) env segs:=
 fun a w' ha hp=>⟨ha.defers,.agg vs.toArray,by
  have:=Fly.run_loadCellsFrom (P:=P) (w:=w') (b:=b) (i:=0) vs 0 #[] (by simpa using F.cells hp)
  subst hl
  simp [results,hr,Array.getD_eq_getD_getElem?,ha.get _ _ hv,asAddr,loadVar,U,J,loadCells,this],_,own',rfl,hp.sub hs,O⟩
end
end Go.Proofs.YthpkelafioikaaaGreat
