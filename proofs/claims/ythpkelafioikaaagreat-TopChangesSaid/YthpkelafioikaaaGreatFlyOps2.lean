import Derived.Test.YthpkelafioikaaaGreatFlyMap
import Derived.Test.YthpkelafioikaaaGreatFlySlice
namespace Go.Proofs.YthpkelafioikaaaGreat.Fly
open Go Go.RowKit
set_option linter.unusedVariables false
set_option linter.unusedSimpArgs false
variable {P:Program} {n:Nat} {S:Nat→Prop} {w0:World} {env:Env} {segs:List Seg} {d:Option Tmp} {ty:TypeId} {pos:String} {af:Array Edge} {g:Option (Nat×Bool)}
theorem tmod_nat (a b:Nat):(a:Int).tmod (b:Int)=((a % b:Nat):Int):=rfl
theorem tdiv_nat (a b:Nat):(a:Int).tdiv (b:Int)=((a / b:Nat):Int):=rfl
theorem o_rem {T J:TypeId} {x y:Operand} {F:IntKind} {p q:Int} (hx:ev env x=some (.int F p)) (hy:ev env y=some (.int F q)) (hq:q≠0) (c:Int) (hc:p.tmod q=c):
  Pure P n S w0 env segs ⟨d,.binOp .rem T x y J,ty,pos,af,g⟩ (.int F c):=
 fun a w ha _=>by simp [execOp,eqGuard,binOp,Op.intDiv,ha.eval hx,ha.eval hy,hc,hq]
theorem o_quo {T J:TypeId} {x y:Operand} {F:IntKind} {p q:Int} (hx:ev env x=some (.int F p)) (hy:ev env y=some (.int F q)) (hq:q≠0) (c:Int) (hc:F.wrap (p.tdiv q)=c):
  Pure P n S w0 env segs ⟨d,.binOp .quo T x y J,ty,pos,af,g⟩ (.int F c):=
 fun a w ha _=>by simp [execOp,eqGuard,binOp,Op.intDiv,ha.eval hx,ha.eval hy,hc,hq]
theorem o_shr {T J:TypeId} {x y:Operand} {F O:IntKind} {p q:Int} (hx:ev env x=some (.int F p)) (hy:ev env y=some (.int O q)) (hq:0≤q) (c:Int) (hc:p.fdiv (2 ^ (min q.toNat F.bits))=c):
  Pure P n S w0 env segs ⟨d,.binOp .shr T x y J,ty,pos,af,g⟩ (.int F c):=
 fun a w ha _=>by
  have:¬ q<0:=aA
  simp [execOp,eqGuard,binOp,Op.shift,ha.eval hx,ha.eval hy,hc,this]
theorem o_eqlB {T F:TypeId} {x y:Operand} {p q:Bool} (J:P.underlying T=some .bool) (hx:ev env x=some (.bool p)) (hy:ev env y=some (.bool q)):Pure P n S w0 env segs ⟨d,.binOp .eql T x y F,ty,pos,af,g⟩ (.bool (decide (p=q))):=
 fun a w ha _=>by
  have:(p==q)=decide (p=q):=by cases p<;>cases q<;>rfl
  simp [execOp,eqGuard,binOp,ha.eval hx,ha.eval hy,run_equal_bool w T p q J,this]
def notIface:TypeDesc→Bool
 | .interface _=>false
 |_=>true
theorem qK {T:TypeId} {x:Operand} {v:Value} {F:TypeDesc} (J:P.underlying T=some F) (hn:notIface F=true) (hx:ev env x=some v):Pure P n S w0 env segs ⟨d,.makeInterface T x,ty,pos,af,g⟩ (.iface T v):=
 fun a w ha _=>by
  have O:∀ w,(underlying T).run P w= .ok F w:=run_underlying J
  cases F<;>first|(simp [notIface] at hn;done)|simp [execOp,Instr.makeInterface,O,ha.eval hx]
theorem o_assert {T X:TypeId} {x:Operand} {v:Value} {F:TypeDesc} (J:P.underlying T=some F) (hn:notIface F=true) (hx:ev env x=some (.iface T v)):Pure P n S w0 env segs ⟨d,.typeAssert x X T false,ty,pos,af,g⟩ v:=
 fun a w ha _=>by
  have O:∀ w,(underlying T).run P w= .ok F w:=run_underlying J
  cases F<;>first|(simp [notIface] at hn;done)|simp [execOp,Instr.typeAssert,O,ha.eval hx]
theorem i8 {K:Value→List Seg→Prop} (own fr:List Seg) {f:FuncId} {x:Operand} {T:TypeId} {v:Value} {F:String} {args:List Operand} {X:Array TypeId} {vs:List Value} {Φ:Value→List Seg→Prop}
  (hc:∀ args w,(callMethod (.iface T v) F args).run P w= .ok (.enter f (#[v]++args)) w)
  (hx:ev env x=some (.iface T v)) (ha:evs env args=some vs)
  (O:Sub segs (own++fr)) (J:∀ w,Hp S w0 (own++fr).flatten w→Meets P f (v::vs) w own Φ) (k:∀ v own',Φ v own'→K v (own' ++fr)):
  Does P n S w0 env segs ⟨d,.call ⟨.invoke x F,args.toArray,X⟩,ty,pos,af,g⟩ K:=
 fun a w next Q U hp hk=>does_call (own:=own) (fr:=fr) (fun a w U=>by
  have e:(#[Value.iface T v]++vs.toArray).extract 1 (1+vs.length)=vs.toArray:=aN
  simp [execOp,resolve,invoke,U.eval hx,U.evals ha,hc,e]) J k a w next Q U (hp.sub O) hk
section
variable {K:Value→List Seg→Prop}
theorem pF {T E sz F:Nat} {z:List Value} {s x:Operand} {v:Value} {A:Option Addr} {len m c:Nat} {cs ys:List Value} {ms:Seg} {segs' :List Seg} (O:ElT P T E sz F z) (hs:ev env s=some v) (hx:ev env x=some (.slice A m c))
  (J:Own E sz v len cs ms) [pk:Pick segs ms segs'] (hr:ys≠[]→∃ b off,A=some ⟨b,off,none⟩∧Rds S w0 segs b off ys) (hy:ys.length=m*sz) (hone:ys.all (·.oneCell')=true) (hb:(len+m)*F≤140737488355328) (Y:len+m≤9223372036854775807)
  (k:∀ v' ms',Own E sz v' (len+m) (cs++ys) ms'→K v' (ms' ::segs')):Does P n S w0 env segs ⟨d,.call ⟨.builtin .append,#[s,x],#[T,T]⟩,ty,pos,af,g⟩ K:=by
 by_cases hne:ys=[]
 ·subst hne
  have Z:0<sz:=O.pos
  have hm:m=0:=by
   rcases Nat.eq_zero_or_pos m with h|h
   ·exact h
   ·have:=Nat.mul_pos h Z;simp at hy;omega
  subst hm;refine gP fun a w ha hp=>?_;obtain ⟨i,u,hi,hz,aa,rfl,rfl⟩:=O.i
  have X:Hp S w0 ((ms::segs').flatten) w:=hp.perm pk.perm
  refine ⟨v,ms::segs',w,.inl ?_,X,k _ _ (by simpa using J)⟩
  rcases J.2 with ⟨rfl,rfl,rfl⟩|⟨b0,cap,sp,rfl,rfl,h1,h2,h3⟩
  ·cases A<;>simp [execOp,resolve,invoke,builtin,Builtin.append_,run_underlying O.und,sizeOf,typeInfo,hi,Builtin.lenOf,Builtin.firstCells,loadCells,loadCellsFrom,ha.eval hs,ha.eval hx]
  ·cases A<;>simp [execOp,resolve,invoke,builtin,Builtin.append_,run_underlying O.und,sizeOf,typeInfo,hi,Builtin.lenOf,Builtin.firstCells,loadCells,loadCellsFrom,storeCells,ha.eval hs,ha.eval hx,h1]
 ·obtain ⟨b,off,rfl,U⟩:=hr hne
  exact dE O hs hx J U hy hone hb Y k
end
theorem Sub.flatF {segs out:List Seg} (h:Sub segs out):Sub segs [out.flatten]:=by
 obtain ⟨r,h⟩:=h;exact ⟨r,by simpa using h⟩
theorem Sub.permF {m:Seg} {out:List Seg} (h:m.Perm out.flatten):Sub [m] out:=⟨[],by simpa using h⟩
theorem Sub.openF {m:Seg} {F out:List Seg} (h:m.Perm out.flatten):Sub (m::F) (out++F):=⟨[],by simp only [List.flatten_cons,List.flatten_append,List.append_nil];exact h.append_right _⟩
theorem Sub.transF {a b c:List Seg} (h:Sub a b) (k:Sub b c):Sub a c:=by
 obtain ⟨r,h⟩:=h
 obtain ⟨q,k⟩:=k
 exact ⟨q++r,h.trans (by rw [← List.append_assoc];exact k.append_right r)⟩
theorem Sub.pickF {segs F r:List Seg} {m:Seg} {out:List Seg} [p:Pick segs m F] (hp:m.Perm out.flatten) (h:Sub (out++F) r):Sub segs r:=
 Sub.transF (aM (s:=m) Sub.refl) (Sub.transF (Sub.openF hp) h)
theorem jL {α:Type} {enc:α→List Value} {sz:Nat} (hs:∀ x,(enc x).length=sz) {l:List α} {sp:List Value} {b T:Nat} {f:Seg→List Seg} [h:At segs b (blk (l.flatMap enc++sp) T) f] {k:Nat} (hk:k<l.length):Rds S w0 segs b (k*sz) (enc l[k]):=
 oO _ _ fun j v hj=>rdA (eF (by rw [iV enc hs l k j hk (by rw [← hs l[k]];exact (List.getElem?_eq_some_iff.1 hj).1)];exact hj))
theorem rdOwn {α:Type} {enc:α→List Value} {sz:Nat} (hs:∀ x,(enc x).length=sz) {l:List α} {sp:List Value} {b T:Nat} {f:Seg→List Seg} [h:At segs b (blk (l.flatMap enc++sp) T) f] {k j:Nat} {v:Value} (hk:k<l.length) (hj:(enc l[k])[j]? =some v):Rd S w0 segs b (k*sz+j) v:=
 rdA (eF (by rw [iV enc hs l k j hk (by rw [← hs l[k]];exact (List.getElem?_eq_some_iff.1 hj).1)];exact hj))
theorem Own.head {E sz len F cap n:Nat} {A:Option Addr} {cs:List Value} {m:Seg} (h:Own E sz (.slice A F cap) len cs m) (hn:n≤len):Own E sz (.slice A n cap) n (cs.take (n*sz)) m:=by
 obtain ⟨J,h⟩:=h
 have O:n*sz≤len*sz:=Nat.mul_le_mul_right _ hn
 rcases h with ⟨e,rfl,rfl⟩|⟨b,c,sp,e,rfl,h1,h2,h3⟩
 ·obtain ⟨rfl,rfl,rfl⟩:=Value.slice.inj e
  obtain rfl:n=0:=aA
  exact ⟨aN,.inl ⟨rfl,rfl,rfl⟩⟩
 ·obtain ⟨rfl,rfl,rfl⟩:=Value.slice.inj e
  refine ⟨by rw [List.length_take];omega,.inr ⟨b,cap,cs.drop (n*sz)++sp,rfl,by rw [← List.append_assoc,List.take_append_drop],aA,h2,?_⟩⟩;rw [List.length_append,List.length_drop,h3,J];have:(cap - n)*sz=(F - n)*sz+(cap - F)*sz:=by rw [← Nat.add_mul];congr 1;omega
  rw [this,Nat.sub_mul F n]
theorem Own.upd {E sz len F cap:Nat} {A:Option Addr} {cs:List Value} {m:Seg} (h:Own E sz (.slice A F cap) len cs m) (hl:0<len):
  ∃ b sp,A=some ⟨b,0,none⟩∧m=[(b,blk (cs++sp) E)]∧∀ cs' :List Value,cs'.length=cs.length→Own E sz (.slice A F cap) len cs' [(b,blk (cs' ++sp) E)]:=by
 obtain ⟨J,h⟩:=h
 rcases h with ⟨_,h1,_⟩|⟨b,c,sp,e,hm,h1,h2,h3⟩
 ·omega
 ·exact ⟨b,sp,(Value.slice.inj e).1,hm,fun cs' hc=>⟨aA,.inr ⟨b,c,sp,e,rfl,h1,h2,h3⟩⟩⟩
theorem j5 {E sz len F cap:Nat} {A:Option Addr} {cs:List Value} {m:Seg} (h:Own E sz (.slice A F cap) len cs m) (e:A=none):len=0:=by
 rcases Nat.eq_zero_or_pos len with J|J
 ·exact J
 ·obtain ⟨b,sp,e',_⟩:=h.at_ J
  rw [e] at e';cases e'
theorem lX {α:Type} {enc:α→List Value} {sz:Nat} (hs:∀ x,(enc x).length=sz) (sp:List Value) {q:Nat} {v:Value} (hq:q<sz):∀ (l:List α) (k:Nat) (y:α) (hk:k<l.length),(enc l[k]).set q v=enc y→
  (l.flatMap enc++sp).set (k*sz+q) v=(l.set k y).flatMap enc++sp
 |x::l,0,y,hk,e=>by
  simp only [List.getElem_cons_zero] at e;rw [List.flatMap_cons,List.append_assoc,List.set_append_left _ _ (by rw [hs];omega),Nat.zero_mul,Nat.zero_add,e,List.set_cons_zero,List.flatMap_cons,List.append_assoc]
 |x::l,k+1,y,hk,e=>by
  simp only [List.getElem_cons_succ] at e
  rw [List.flatMap_cons,List.append_assoc,List.set_append_right _ _ (by rw [hs,Nat.add_mul];omega),show (k+1)*sz+q - (enc x).length=k*sz+q from by rw [hs,Nat.add_mul];omega,
   lX hs sp hq l k y (by simpa using hk) e,List.set_cons_succ,List.flatMap_cons,List.append_assoc]
theorem oQ {w w' :World} {b:Nat} {cs:List Value} {T:TypeId} {f:Seg→List Seg} [h:At segs b (blk cs T) f] (hp:Hp S w0 segs.flatten w) (hs:∀ k,Fr w [] k→w'.heap[k]? =w.heap[k]?):Ro (Fr w' []) w' (some ⟨b,0,none⟩) cs:=fun hne=>by
 have F:0<cs.length:=by cases cs<;>simp_all
 refine ⟨b,0,rfl,(heldCell (i:=0) hp (List.getElem?_eq_getElem F) hs).2,fun k v hk=>?_⟩;rw [Nat.zero_add];exact (heldCell hp hk hs).1
theorem eS {S:Nat→Prop} {w:World} {A:Option Addr} {cs:List Value} (h:Seen S w A cs):Ro S w A cs:=fun hne=>by
 rcases h with ⟨_,e⟩|⟨b,off,e,h⟩
 ·exact absurd e hne
 ·exact ⟨b,off,e,h hne⟩
end Go.Proofs.YthpkelafioikaaaGreat.Fly
