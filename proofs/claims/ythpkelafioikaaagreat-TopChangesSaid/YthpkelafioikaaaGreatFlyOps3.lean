import Derived.Test.YthpkelafioikaaaGreatFlyOps2
import Derived.Laws.CopyRow
import Derived.Laws.Externs
import Derived.Scope
namespace Go.Proofs.YthpkelafioikaaaGreat.Fly
open Go Go.RowKit
set_option linter.unusedVariables false
set_option linter.unusedSimpArgs false
variable {P:Program} {n:Nat} {S:Nat→Prop} {w0:World} {env:Env} {segs:List Seg} {d:Option Tmp} {ty:TypeId} {pos:String} {af:Array Edge} {g:Option (Nat×Bool)}
theorem o_ext {f:FuncId} {args:List Operand} {F:Array TypeId} {vs:List Value} {v:Value} (ha:evs env args=some vs) (hc:∀ w,(callFunc f vs.toArray).run P w= .ok (.value v) w):
  Pure P n S w0 env segs ⟨d,.call ⟨.value (.func f),args.toArray,F⟩,ty,pos,af,g⟩ v:=
 fun a w J _=>by simp [execOp,resolve,Deferred.ofValue,invoke,Act.eval,J.evals ha,hc]
theorem o_and {T J:TypeId} {x y:Operand} {F:IntKind} {p q:Int} (hx:ev env x=some (.int F p)) (hy:ev env y=some (.int F q)) (c:Int) (hc:F.wrap ((BitVec.ofInt F.bits p&&& BitVec.ofInt F.bits q).toNat)=c):
  Pure P n S w0 env segs ⟨d,.binOp .and T x y J,ty,pos,af,g⟩ (.int F c):=
 fun a w ha _=>by subst hc;simp [execOp,eqGuard,binOp,Op.intBits,ha.eval hx,ha.eval hy]
theorem and_mask {k:Nat} {y:Nat} (hk:k≤63) (h:y<2 ^ 63):IntKind.u64.wrap ((BitVec.ofInt IntKind.u64.bits (y:Int)&&& BitVec.ofInt IntKind.u64.bits ((2 ^ k - 1:Nat):Int)).toNat)=((y % 2 ^ k:Nat):Int):=by
 have e:IntKind.u64.bits=64:=rfl
 have hp:2 ^ k≤2 ^ 63:=Nat.pow_le_pow_right aA hk
 have F:0<2 ^ k:=Nat.pow_pos aA
 have hm:y % 2 ^ k<2 ^ k:=Nat.mod_lt _ F
 rw [e];rw [show ((y:Nat):Int)=Int.ofNat y from rfl,show (((2 ^ k - 1:Nat)):Int)=Int.ofNat (2 ^ k - 1) from rfl];rw [BitVec.toNat_and];simp only [BitVec.ofInt_ofNat,BitVec.toNat_ofNat,Int.ofNat_eq_natCast,BitVec.ofInt_natCast];rw [Nat.mod_eq_of_lt aA,Nat.mod_eq_of_lt aA,Nat.and_two_pow_sub_one_eq_mod];exact iQ aA
section
variable {K:Value→List Seg→Prop}
theorem o_copy {dT sT E:TypeId} {x y:Operand} {Y o J U b off F aa:Nat} {cur cs:List Value} {f:Seg→List Seg} (hu:P.underlying dT=some (.slice E)) (hs:(P.info? E).map (·.size)=some 1)
  (hx:ev env x=some (.slice (some ⟨Y,o,none⟩) J U)) (hy:ev env y=some (.slice (some ⟨b,off,none⟩) F aa)) [hA:At segs Y (blk cur E) f]
  (hr:Rds S w0 segs b off cs) (hn:cs.length=Nat.min F J) (hone:cs.all (·.oneCell')=true) (ac:o+cs.length≤cur.length) (Z:List Value) (he:cur.take o++cs++cur.drop (o+cs.length)=Z)
  (k:K (.int .i64 (cs.length:Int)) (f [(Y,blk Z E)])):Does P n S w0 env segs ⟨d,.call ⟨.builtin .copy,#[x,y],#[dT,sT]⟩,ty,pos,af,g⟩ K:=
 gP fun a w ha hp=>by
  subst he;have O:∀ j v,cs[j]? =some v→w.cell? ((⟨b,off,none⟩:Addr).add j)=some v:=fun j v hj=>by rw [dG];exact hr.cells hp j v hj
  obtain ⟨L,R,e1,e2⟩:=hA.flat
  have X:=hp.own Y _ hA.mem
  have ab:=run_copy_row (P:=P) w dT sT ty E Y o J U ⟨b,off,none⟩ F aa cur.toArray E cs hu hs X hn O (by simpa using ac) (by simpa using hone)
  refine ⟨_,_,w.setRow Y (cur.toArray.toList.take o++cs++cur.toArray.toList.drop (o+cs.length)).toArray,.inl ?_,?_,k⟩
  ·simp [execOp,resolve,invoke,builtin,ha.eval hx,ha.eval hy,ab,goInt]
  ·rw [e2]
   rw [e1] at hp;exact hp.put rfl rfl rfl (by simp [World.setRow]) (Nat.le_refl _) (setRow_heap w Y _ (cur.take o++cs++cur.drop (o+cs.length)).toArray E (0,0) X) (fun k hk=>setRow_other w Y k _ hk)
end
structure RowsI (E:TypeId) (ls:List (List Int)) (vs:List Value) (ms:List Seg):Prop where
 lv:vs.length=ls.length
 lm:ms.length=ls.length
 own : ∀ (i : Nat) (h : i < ls.length), Own E 1 (vs[i]'(lv ▸ h)) ls[i].length (bF ls[i]) (ms[i]'(lm ▸ h))
theorem RowsI.start (E:TypeId) (n:Nat):RowsI E (List.replicate n []) (List.replicate n (.slice none 0 0)) (List.replicate n []):=
 ⟨aN,aN,fun i h=>by simp only [List.getElem_replicate];exact Own.nil E 1⟩
theorem RowsI.set {E:TypeId} {F:List (List Int)} {vs:List Value} {ms:List Seg} (h:RowsI E F vs ms) (i:Nat) {l:List Int} {v:Value} {m:Seg} (ho:Own E 1 v l.length (bF l) m):RowsI E (F.set i l) (vs.set i v) (ms.set i m):=
 ⟨by simp [h.lv],by simp [h.lm],fun j hj=>by
  rw [List.getElem_set,List.getElem_set,List.getElem_set]
  split
  ·exact ho
  ·exact h.own j (by simpa using hj)⟩
theorem gN:∀ (ms:List Seg) (i:Nat) (h:i<ms.length),ms.flatten.Perm (ms[i]++(ms.eraseIdx i).flatten)
 |m::ms,0,_=>aN
 |m::ms,i+1,h=>by
  simp only [List.flatten_cons,List.getElem_cons_succ,List.eraseIdx_cons_succ];have ih:=gN ms i (by simpa using h)
  refine (List.Perm.append_left m ih).trans ?_;rw [← List.append_assoc,← List.append_assoc];exact List.perm_append_comm.append_right _
theorem RowsI.split {E:TypeId} {F:List (List Int)} {vs:List Value} {ms:List Seg} (h:RowsI E F vs ms) {i:Nat} (hi:i<F.length):
  ∃ v m G,vs[i]? =some v∧Own E 1 v F[i].length (bF F[i]) m∧ms.flatten.Perm (m++G)∧
   ∀ l v' m',Own E 1 v' l.length (bF l) m'→RowsI E (F.set i l) (vs.set i v') (ms.set i m')∧(m' ++G).Perm (ms.set i m').flatten:=by
 have hm:i<ms.length:=by rw [h.lm];exact hi
 refine ⟨_,_,_,List.getElem?_eq_getElem (by rw [h.lv];exact hi),h.own i hi,gN ms i hm,fun l v' m' ho=>⟨h.set i ho,?_⟩⟩;have:=gN (ms.set i m') i (by simpa using hm)
 rw [List.getElem_set_self,List.eraseIdx_set_eq] at this;exact this.symm
theorem Sub.splitF {segs out:List Seg} {G m G' :Seg} [p:Pick segs G out] (hp:G.Perm (m++G')):Sub segs (m::G' ::out):=
 Sub.transF (aM (s:=G) Sub.refl) ⟨[],by simp only [List.flatten_cons,List.append_nil];rw [← List.append_assoc];exact hp.append_right _⟩
theorem Sub.joinF {segs O J:List Seg} {m G' F:Seg} [p:Pick segs m O] [q:Pick O G' J] (hp:(m++G').Perm F):Sub segs (F::J):=
 Sub.transF (aM (s:=m) (aM (s:=G') Sub.refl)) ⟨[],by simp only [List.flatten_cons,List.append_nil];rw [← List.append_assoc];exact hp.append_right _⟩
section
theorem run_append_roomAt (w:World) (t ty e:TypeId) (i:TypeInfo) (ht:P.underlying t=some (.slice e)) (hi:P.info? e=some i)
  (g off J O:Nat) (cur:Array Value) (hg:w.heap[g]? =some (.cells cur e (0,0)))
  (a:Addr) (m c:Nat) (F:List Value) (hl:F.length=m*i.size) (U:∀ j u,F[j]? =some u→w.cell? (a.add j)=some u) (h1:∀ u∈F,u.oneCell' =true)
  (X:J+m≤O) (Y:off+J*i.size+F.length≤cur.size):
  (Builtin.append_ #[t,t] ty #[.slice (some ⟨g,off,none⟩) J O,.slice (some a) m c]).run P w=
   .ok (.slice (some ⟨g,off,none⟩) (J+m) O) (w.setRow g (cur.toList.take (off+J*i.size)++F++cur.toList.drop (off+J*i.size+F.length)).toArray):=by
 have hf:=run_firstCells_some (P:=P) w i.size m a m c F hl U
 have Z:=run_storeCells_at P g (off+J*i.size) e F 0 cur w hg (by simpa using Y) h1
 simp only [Nat.add_zero] at Z;simp [Builtin.append_,run_underlying ht,sizeOf,typeInfo,hi,Builtin.lenOf,X,hf,Addr.add_lit,dG,Z]
def OwnQ (E:TypeId) (v:Value) (cs:List Value) (m:Seg):Prop:=
 ∃ b off cap pre sp,v= .slice (some ⟨b,off,none⟩) cs.length cap∧m=[(b,blk (pre++(cs++sp)) E)]∧cs.length≤cap∧cap≤9223372036854775807∧sp.length=cap - cs.length∧(cap≠0→pre.length=off)
theorem OwnQ.one (E:TypeId) (b:Nat) (x:Value):OwnQ E (.slice (some ⟨b,0,none⟩) 1 1) [x] [(b,blk [x] E)]:=⟨b,0,1,[],[],rfl,rfl,Nat.le_refl _,by decide,rfl,fun _=>rfl⟩
theorem OwnQ.tail {E:TypeId} {A:Option Addr} {len cap:Nat} {x:Value} {cs:List Value} {m:Seg} (h:OwnQ E (.slice A len cap) (x::cs) m):OwnQ E (.slice (if cap=1 then A else A.map (·.add (1*1))) (len - 1) (cap - 1)) cs m:=by
 obtain ⟨b,off,c,pre,sp,hv,rfl,h1,h2,h3,F⟩:=h
 simp only [Value.slice.injEq] at hv;obtain ⟨rfl,rfl,rfl⟩:=hv
 have hl:(x::cs).length=cs.length+1:=rfl
 have hp:=F aA
 by_cases hc:cap=1
 ·subst hc
  have:cs=[]:=List.length_eq_zero_iff.1 aA
  subst this;exact ⟨b,off,0,pre++[x],sp,by rw [if_pos rfl];rfl,aN,Nat.zero_le _,by decide,by simpa using h3,fun h=>absurd rfl h⟩
 ·exact ⟨b,off+1,cap - 1,pre++[x],sp,by rw [if_neg hc];simp [dG],aN,aA,aA,aA,fun _=>by simp [hp]⟩
theorem o_appendO {T E J:Nat} {z:List Value} {s x:Operand} {v:Value} {m b off c:Nat} {cs ys:List Value} {ms:Seg} {segs' :List Seg} {K:Value→List Seg→Prop} (hT:ElT P T E 1 J z) (hs:ev env s=some v) (hx:ev env x=some (.slice (some ⟨b,off,none⟩) m c))
  (ag:OwnQ E v cs ms) [pk:Pick segs ms segs'] (hr:Rds S w0 segs b off ys) (hy:ys.length=m) (hm:0<m) (hone:ys.all (·.oneCell')=true) (hb:(cs.length+m)*J≤140737488355328) (ah:cs.length+m≤9223372036854775807)
  (k:∀ v' ms',OwnQ E v' (cs++ys) ms'→K v' (ms' ::segs')):Does P n S w0 env segs ⟨d,.call ⟨.builtin .append,#[s,x],#[T,T]⟩,ty,pos,af,g⟩ K:=
 gP fun a w ha hp=>by
  obtain ⟨i,u,hi,hz,ao,ai,rfl⟩:=hT.i
  have F:∀ j v,ys[j]? =some v→w.cell? ((⟨b,off,none⟩:Addr).add j)=some v:=fun j v hj=>by rw [dG];exact hr.cells hp j v hj
  have ab:∀ u∈ys,u.oneCell' =true:=by simpa using hone
  have Y:Hp S w0 (ms++segs'.flatten) w:=hp.perm pk.perm
  have hlen:(cs++ys).length=cs.length+m:=by rw [List.length_append,hy]
  have ak:∀ (q old:Nat),q≤grownCap w q old E:=fun q old=>grownCap_ge w q old E
  have al:∀ (q old:Nat),q≤9223372036854775807→grownCap w q old E≤9223372036854775807:=fun q old hq=>grownCap_le_maxLen w q old E hq
  have an:u.cells.size=1:=by rw [ao];simp [hT.len]
  have X:i.size=1:=ai
  have ae:ys.length=m*i.size:=by rw [X,hy,Nat.mul_one]
  obtain ⟨b0,Z,cap,pre,sp,rfl,rfl,h1,h2,h3,h4⟩:=ag
  by_cases aa:cs.length+m≤cap
  ·have O:=h4 aA
   have ac:=Y.own b0 _ (by simp:(b0,blk (pre++(cs++sp)) E)∈_)
   have U:=run_append_roomAt (P:=P) w T ty E i hT.und hi b0 Z cs.length cap (pre++(cs++sp)).toArray ac ⟨b,off,none⟩ m c ys ae F ab aa (by rw [List.size_toArray,List.length_append,List.length_append,X,Nat.mul_one];omega)
   refine ⟨.slice (some ⟨b0,Z,none⟩) (cs.length+m) cap,[(b0,blk (pre++((cs++ys)++sp.drop m)) E)]::segs',w.setRow b0 ((pre++(cs++sp)).toArray.toList.take (Z+cs.length*i.size)++ys++(pre++(cs++sp)).toArray.toList.drop (Z+cs.length*i.size+ys.length)).toArray,.inl ?_,?_,k _ _ ⟨b0,Z,cap,pre,sp.drop m,by rw [hlen],rfl,aA,h2,by rw [List.length_drop];omega,h4⟩⟩
   ·simp [execOp,resolve,invoke,builtin,ha.eval hs,ha.eval hx,U]
   ·have hl:((pre++(cs++sp)).toArray.toList.take (Z+cs.length*i.size)++ys++(pre++(cs++sp)).toArray.toList.drop (Z+cs.length*i.size+ys.length))=pre++((cs++ys)++sp.drop m):=by
     rw [X,Nat.mul_one,← O,hy];simp only;rw [← List.append_assoc pre cs sp,show pre.length+cs.length=(pre++cs).length by simp,List.take_left,show (pre++cs).length+m=(pre++cs).length+m from rfl,List.drop_append];simp
    have h5:=run_setRow_Hp (cs' :=pre++((cs++ys)++sp.drop m)) (r:=segs'.flatten) (by simpa using Y)
    rw [hl]
    simpa using h5
  ·have ad:∀ j v,cs[j]? =some v→w.cell? ((⟨b0,Z,none⟩:Addr).add j)=some v:=fun j v hj=>by
    have am:=(List.getElem?_eq_some_iff.1 hj).1
    have O:=h4 aA
    rw [dG,Y.cell (by simp:(b0,blk (pre++(cs++sp)) E)∈_),← O,List.getElem?_append_right (Nat.le_add_right _ _),Nat.add_sub_cancel_left,List.getElem?_append_left am];exact hj
   have U:=run_append_grow (P:=P) w T ty E i u hT.und hi hz ⟨b0,Z,none⟩ cs.length cap cs (by rw [X,Nat.mul_one]) ad ⟨b,off,none⟩ m c ys ae F aA aA (growslice_fits aA hb)
   refine ⟨.slice (some ⟨w.heap.size,0,none⟩) (cs.length+m) (grownCap w (cs.length+m) cap E),[(w.heap.size,blk ((cs++ys)++(Builtin.zeroCells u.cells (grownCap w (cs.length+m) cap E - (cs.length+m))).toList) E)]::segs',w.drew.alloc (.cells (cs.toArray++ys.toArray++Builtin.zeroCells u.cells (grownCap w (cs.length+m) cap E - (cs.length+m))) E),.inl ?_,?_,k _ _ ⟨w.heap.size,0,grownCap w (cs.length+m) cap E,[],_,by rw [hlen],rfl,by rw [hlen];exact ak _ _,al _ _ ah,?_,fun _=>rfl⟩⟩
   ·simp [execOp,resolve,invoke,builtin,ha.eval hs,ha.eval hx,U]
   ·have aj:Hp S w0 segs'.flatten w:=by
     have h5:Hp S w0 (segs'.flatten++[(b0,blk (pre++(cs++sp)) E)]) w:=Y.perm (List.perm_append_comm)
     exact h5.left
    have h4:=(aj.drew (w.drawn+1) (Nat.le_succ _)).alloc (blk ((cs++ys)++(Builtin.zeroCells u.cells (grownCap w (cs.length+m) cap E - (cs.length+m))).toList) E)
    have e:cs.toArray++ys.toArray++Builtin.zeroCells u.cells (grownCap w (cs.length+m) cap E - (cs.length+m))=((cs++ys)++(Builtin.zeroCells u.cells (grownCap w (cs.length+m) cap E - (cs.length+m))).toList).toArray:=aN
    rw [e];exact h4
   ·rw [hlen];simp [size_zeroCells,an]
theorem o_xor {T J:TypeId} {x y:Operand} {F:IntKind} {p q:Int} (hx:ev env x=some (.int F p)) (hy:ev env y=some (.int F q)) (c:Int) (hc:F.wrap ((BitVec.ofInt F.bits p ^^^ BitVec.ofInt F.bits q).toNat)=c):
  Pure P n S w0 env segs ⟨d,.binOp .xor T x y J,ty,pos,af,g⟩ (.int F c):=
 fun a w ha _=>by subst hc;simp [execOp,eqGuard,binOp,Op.intBits,ha.eval hx,ha.eval hy]
theorem wrap_ofNat {y:Nat} (h:y<2 ^ 63):IntKind.i64.wrap (y:Int)=y:=d7 aA
theorem bv64 {y:Nat} (h:y<2 ^ 63):(BitVec.ofInt 64 (y:Int)).toNat=y:=by
 rw [BitVec.toNat_ofInt];omega
theorem and_one {y:Nat} (h:y<2 ^ 63):IntKind.i64.wrap ((BitVec.ofInt IntKind.i64.bits (y:Int)&&& BitVec.ofInt IntKind.i64.bits 1).toNat)=((y % 2:Nat):Int):=by
 have e:IntKind.i64.bits=64:=rfl
 rw [e,BitVec.toNat_and,bv64 h];have:(BitVec.ofInt 64 1).toNat=1:=by decide
 rw [this,show y&&& 1=y % 2 from Nat.and_one_is_mod y];exact wrap_ofNat aA
theorem xor_one {y:Nat} (h:y<2 ^ 62):IntKind.i64.wrap ((BitVec.ofInt IntKind.i64.bits (y:Int) ^^^ BitVec.ofInt IntKind.i64.bits 1).toNat)=((y ^^^ 1:Nat):Int):=by
 have e:IntKind.i64.bits=64:=rfl
 rw [e,BitVec.toNat_xor,bv64 aA];have:(BitVec.ofInt 64 1).toNat=1:=by decide
 rw [this];have h2:y ^^^ 1<2 ^ 62:=Nat.xor_lt_two_pow h aA
 exact wrap_ofNat aA
end
section
variable {Q:Exit→Act→World→Prop}
theorem f_scope {c:Code} (h:Wc P n S w0 (Exit.noGoto Q) env segs c):Wc P n S w0 Q env segs (.scope c):=fun a w ha hp=>wp_scope_straight (h a w ha hp)
theorem f_label {l:Nat} (h:Wq n S w0 (Q .normal) env segs):Wc P n S w0 Q env segs (.label l):=fun a w ha hp=>wp_label (h a w ha hp)
theorem f_nr (h:Wq n S w0 (Q .ret) env segs):Wq n S w0 (Exit.noGoto Q .ret) env segs:=h
end
end Go.Proofs.YthpkelafioikaaaGreat.Fly
