import Derived.Test.YthpkelafioikaaaGreatFly
import Derived.Laws.StructEq
namespace Go.Proofs.YthpkelafioikaaaGreat.Fly
open Go Go.RowKit
set_option linter.unusedVariables false
theorem dG (b i n:Nat):(⟨b,i,none⟩:Addr).add n=⟨b,i+n,none⟩:=by
 unfold Addr.add;split
 ·simp_all
 ·rfl
def Rd (S:Nat→Prop) (w0:World) (segs:List Seg) (b i:Nat) (v:Value):Prop:=∀ w,Hp S w0 segs.flatten w→w.cell? ⟨b,i,none⟩=some v
theorem rdA {S:Nat→Prop} {w0:World} {segs:List Seg} {b i:Nat} {v:Value} {cs:List Value} {T:TypeId} {f:Seg→List Seg} [h:At segs b (blk cs T) f] (hc:cs[i]? =some v):Rd S w0 segs b i v:=
 fun _ hp=>(hp.cell h.mem i).trans hc
theorem rdS {S:Nat→Prop} {w0:World} {segs:List Seg} {b i:Nat} {v:Value} (F:S b) (hc:w0.cell? ⟨b,i,none⟩=some v):Rd S w0 segs b i v:=
 fun _ hp=>(hp.cellS F i).trans hc
def Rds (S:Nat→Prop) (w0:World) (segs:List Seg) (b i:Nat):List Value→Prop
 |[]=>True
 |v::r=>Rd S w0 segs b i v∧Rds S w0 segs b (i+1) r
def CellsAre (w:World) (b i:Nat) (vs:List Value):Prop:=∀ j v,vs[j]? =some v→w.cell? ⟨b,i+j,none⟩=some v
theorem Rds.cells {S:Nat→Prop} {w0 w:World} {segs:List Seg} {b:Nat} (hp:Hp S w0 segs.flatten w):∀ {vs:List Value} {i:Nat},Rds S w0 segs b i vs→CellsAre w b i vs
 |[],i,_,j,v,hj=>by simp at hj
 |u::r,i,h,0,v,hj=>by simp at hj;subst hj;exact h.1 w hp
 |u::r,i,h,j+1,v,hj=>by
  have:=Rds.cells hp h.2 j v (by simpa using hj)
  rw [show i+(j+1)=i+1+j from by omega];exact this
theorem run_loadCellsFrom {P:Program} {w:World} {b i:Nat}:∀ (vs:List Value) (j:Nat) (acc:Array Value),CellsAre w b (i+j) vs→
  (loadCellsFrom ⟨b,i,none⟩ j vs.length acc).run P w= .ok (acc++vs.toArray) w
 |[],j,acc,_=>by simp [loadCellsFrom]
 |v::r,j,acc,h=>by
  have F:w.cell? ((⟨b,i,none⟩:Addr).add j)=some v:=by rw [dG];exact h 0 v rfl
  have hr:CellsAre w b (i+(j+1)) r:=fun k u hk=>by
   have:=h (k+1) u (by simpa using hk)
   rw [show i+(j+1)+k=i+j+(k+1) from by omega];exact this
  simp only [loadCellsFrom,List.length_cons,Sem.run_bind,run_load,F,Result.andThen_ok];rw [run_loadCellsFrom r (j+1) _ hr];simp
section
variable {P:Program} {n:Nat} {S:Nat→Prop} {w0:World} {env:Env} {segs:List Seg} {K:Value→List Seg→Prop} {d:Option Tmp} {ty:TypeId} {pos:String} {af:Array Edge} {g:Option (Nat×Bool)}
theorem gP {o:Oper} (h:∀ a w,En n env a→Hp S w0 segs.flatten w→∃ v segs' w',((execOp a.eval o).run P w= .ok (.value v) w'∨(v=undef∧(execOp a.eval o).run P w= .ok .skip w'))∧
  Hp S w0 segs'.flatten w'∧K v segs'):Does P n S w0 env segs o K:=by
 intro a w next Q ha hp hk
 obtain ⟨v,segs',w',hr|⟨rfl,hr⟩,F,J⟩:=h a w ha hp
 ·unfold Oper.wp;rw [hr];exact hk v segs' w' J F
 ·unfold Oper.wp;rw [hr];exact hk _ segs' w' J F
theorem Pure.does {o:Oper} {v:Value} (h:Pure P n S w0 env segs o v) (k:K v segs):Does P n S w0 env segs o K:=
 gP fun a w ha hp=>⟨v,segs,w,.inl (h a w ha hp),hp,k⟩
theorem aU {x:Operand} {v:Value} (hx:ev env x=some v):Pure P n S w0 env segs ⟨d,.move x,ty,pos,af,g⟩ v:=
 fun a w ha _=>by simp [execOp,ha.eval hx]
theorem bI {x:Operand} {v:Value} (hx:ev env x=some v):Pure P n S w0 env segs ⟨d,.assign x,ty,pos,af,g⟩ v:=
 fun a w ha _=>by simp [execOp,ha.eval hx]
theorem qI {c x y:Operand} {v:Value} (hc:ev env c=some (.bool true)) (hx:ev env x=some v):Pure P n S w0 env segs ⟨d,.pick c x y,ty,pos,af,g⟩ v:=
 fun a w ha _=>by simp [execOp,ha.eval hc,ha.eval hx,asBool]
theorem o_pickF {c x y:Operand} {v:Value} (hc:ev env c=some (.bool false)) (hx:ev env y=some v):Pure P n S w0 env segs ⟨d,.pick c x y,ty,pos,af,g⟩ v:=
 fun a w ha _=>by simp [execOp,ha.eval hc,ha.eval hx,asBool]
theorem eU {x:Operand} {i:Nat} {vs:List Value} {v:Value} (hx:ev env x=some (.tuple vs.toArray)) (hi:vs[i]? =some v):Pure P n S w0 env segs ⟨d,.extract x i,ty,pos,af,g⟩ v:=
 fun a w ha _=>by simp [execOp,ha.eval hx,Instr.extract,hi]
theorem kT {fn:Fn} {fs cs:List Operand} {F vs:List Value} (hf:evs env fs=some F) (hc:evs env cs=some vs):
  Pure P n S w0 env segs ⟨d,.makeFunc fn fs.toArray cs.toArray,ty,pos,af,g⟩ (.func fn F.toArray vs.toArray):=
 fun a w ha _=>by simp [execOp,Instr.makeFunc,ha.evals hf,ha.evals hc]
theorem dH {x:Operand} {F:Addr} (hx:ev env x=some (.pointer (some F))):Pure P n S w0 env segs ⟨d,.nilCheck x,ty,pos,af,g⟩ (.pointer (some F)):=
 fun a w ha _=>by simp [execOp,ha.eval hx]
theorem aH {T:TypeId} {x:Operand} {b i:Nat} {v:Value} (F:∀ w,(isAgg T).run P w= .ok false w) (hx:ev env x=some (.pointer (some ⟨b,i,none⟩))) (hr:Rd S w0 segs b i v):
  Pure P n S w0 env segs ⟨d,.load T x,ty,pos,af,g⟩ v:=
 fun a w ha hp=>by simp [execOp,Instr.loadAt,Instr.sureAddr,loadVar,ha.eval hx,F,hr w hp]
theorem aO {T:TypeId} {x:Operand} {b i sz:Nat} {vs:List Value} (J:∀ w,(isAgg T).run P w= .ok true w) (F:∀ w,(sizeOf T).run P w= .ok sz w) (hx:ev env x=some (.pointer (some ⟨b,i,none⟩)))
  (hl:vs.length=sz) (hr:Rds S w0 segs b i vs):Pure P n S w0 env segs ⟨d,.load T x,ty,pos,af,g⟩ (.agg vs.toArray):=
 fun a w ha hp=>by
  have:=run_loadCellsFrom (P:=P) (w:=w) (b:=b) (i:=i) vs 0 #[] (by simpa using hr.cells hp)
  subst hl;simp [execOp,Instr.loadAt,Instr.sureAddr,loadVar,ha.eval hx,J,F,loadCells,this]
theorem gW {fn:Func} {own:List Seg} {w:World} {Φ:Value→List Seg→Prop} (own' :List Seg) {r s:Tmp} {T:TypeId} {b sz:Nat} {vs:List Value} {u:Value} (hr:fn.results= #[.cell r T,.tmp s]) (hv:look env r=some (.pointer (some ⟨b,0,none⟩)))
  (U:∀ w,(isAgg T).run P w= .ok true w) (O:∀ w,(sizeOf T).run P w= .ok sz w) (hl:vs.length=sz) (J:Rds (Fr w own) w segs b 0 vs) (X:look env s=some u) (hs:Sub segs own') (F:Φ (.tuple #[.agg vs.toArray,u]) own'):
  Wq n (Fr w own) w (bodyPost P fn (fV w own Φ) .ret) env segs:=
 fun a w' ha hp=>⟨ha.defers,.tuple #[.agg vs.toArray,u],by
  have:=run_loadCellsFrom (P:=P) (w:=w') (b:=b) (i:=0) vs 0 #[] (by simpa using J.cells hp)
  subst hl
  simp [results,hr,Array.getD_eq_getD_getElem?,ha.get _ _ hv,ha.get _ _ X,asAddr,loadVar,U,O,loadCells,this],_,own',rfl,hp.sub hs,F⟩
theorem cT {T:TypeId} {x:Operand} {v:Value} {cs:List Value} (hx:ev env x=some v) (F:v.cells=cs.toArray) (k:∀ b,K (.pointer (some ⟨b,0,none⟩)) ([(b,blk cs T)]::segs)):
  Does P n S w0 env segs ⟨d,.box T x,ty,pos,af,g⟩ K:=
 gP fun a w ha hp=>⟨_,_,w.alloc (blk cs T),.inl (by simp [execOp,Instr.box,newVar,newRow,ha.eval hx,F]),by simpa using hp.alloc (blk cs T),k w.heap.size⟩
theorem cQ {T:TypeId} {v:Value} {cs:List Value} (hz:∀ w,(zeroValue T).run P w= .ok v w) (F:v.cells=cs.toArray) (k:∀ b,K (.pointer (some ⟨b,0,none⟩)) ([(b,blk cs T)]::segs)):
  Does P n S w0 env segs ⟨d,.alloc T,ty,pos,af,g⟩ K:=
 gP fun a w ha hp=>⟨_,_,w.alloc (blk cs T),.inl (by simp [execOp,Instr.alloc,newVar,newRow,hz,F]),by simpa using hp.alloc (blk cs T),k w.heap.size⟩
def jF (cs:List Value) (i:Nat):List Value→List Value
 |[]=>cs
 |v::r=>jF (cs.set i v) (i+1) r
theorem nD {P:Program} {S:Nat→Prop} {w0:World} {l r:Seg} {b i:Nat} {T:TypeId}:∀ (vs:List Value) (cs:List Value) (j:Nat) (w:World),Hp S w0 (l++(b,blk cs T)::r) w→
  (∀ v∈vs,v.oneCell' =true)→i+j+vs.length≤cs.length→
  ∃ w',(storeCells ⟨b,i,none⟩ vs j).run P w= .ok () w'∧Hp S w0 (l++(b,blk (jF cs (i+j) vs) T)::r) w'
 |[],cs,j,w,hp,_,_=>⟨w,by simp [storeCells],by simpa [jF] using hp⟩
 |v::rest,cs,j,w,hp,hone,hlen=>by
  simp only [List.length_cons] at hlen;have hc : w.cell? ⟨b, i + j, none⟩ = some (cs[i + j]'aA) := by rw [hp.cell (cs := cs) (T := T) aN (i + j)]; exact List.getElem?_eq_getElem aA
  have F:w.frozen? ⟨b,i+j,none⟩=false:=hp.frozen (cs:=cs) (T:=T) aN (i+j)
  have J:=hp.setCell (i+j) v
  obtain ⟨w',hr,O⟩:=nD (P:=P) (i:=i) rest (cs.set (i+j) v) (j+1) _ J (fun u X=>hone u (by simp [X])) (by simp;omega)
  refine ⟨w',?_,?_⟩
  ·have U:(store ⟨b,i+j,none⟩ v).run P w= .ok () (w.setCell ⟨b,i+j,none⟩ v):=by
    rw [run_store P w _ v .plain (hone v aN)];simp [hc,F]
   simp only [storeCells,dG,Sem.run_bind,U,Result.andThen_ok,hr]
  ·simp only [jF];rw [show i+j+1=i+(j+1) from by omega];exact O
theorem does_store {o:Oper} {T:TypeId} {x y:Operand} {b i:Nat} {v:Value} {vs cs:List Value} {E:TypeId} {f:Seg→List Seg} [hA:At segs b (blk cs E) f] (ho:o.op= .store T x y)
  (F:∀ w,(sizeOf T).run P w= .ok vs.length w) (hx:ev env x=some (.pointer (some ⟨b,i,none⟩))) (hy:ev env y=some v) (hv:v.cells=vs.toArray) (hone:∀ u∈vs,u.oneCell' =true) (hi:i+vs.length≤cs.length)
  (k:K undef (f [(b,blk (jF cs i vs) E)])):Does P n S w0 env segs o K:=
 gP fun a w ha hp=>by
  obtain ⟨l,r,e1,e2⟩:=hA.flat
  obtain ⟨w',hr,J⟩:=nD (P:=P) (i:=i) vs cs 0 w (e1▸hp) hone aA
  refine ⟨undef,_,w',.inr ⟨rfl,?_⟩,by rw [e2];exact J,k⟩;simp [execOp,ho,Instr.storeAt,Instr.sureAddr,storeVar,ha.eval hx,ha.eval hy,F,hv,hr]
theorem bU {T:TypeId} {x y:Operand} {b i:Nat} {v:Value} {cs:List Value} {E:TypeId} {f:Seg→List Seg} (F:∀ w,(sizeOf T).run P w= .ok 1 w) (hx:ev env x=some (.pointer (some ⟨b,i,none⟩)))
  (hy:ev env y=some v) [At segs b (blk cs E) f] (hv:v.cells= #[v]) (hone:v.oneCell' =true) (hi:i<cs.length) (cs' :List Value) (he:cs.set i v=cs') (k:K undef (f [(b,blk cs' E)])):
  Does P n S w0 env segs ⟨d,.store T x y,ty,pos,af,g⟩ K:=
 does_store (vs:=[v]) rfl F hx hy hv (by simpa using hone) hi (by subst he;exact k)
theorem bP {T:TypeId} {x y:Operand} {b i sz:Nat} {vs cs:List Value} {E:TypeId} {f:Seg→List Seg} (F:∀ w,(sizeOf T).run P w= .ok sz w) (hx:ev env x=some (.pointer (some ⟨b,i,none⟩)))
  (hy:ev env y=some (.agg vs.toArray)) [At segs b (blk cs E) f] (hl:vs.length=sz) (hone:vs.all (·.oneCell')=true) (hi:i+vs.length≤cs.length) (cs' :List Value) (he:jF cs i vs=cs') (k:K undef (f [(b,blk cs' E)])):
  Does P n S w0 env segs ⟨d,.store T x y,ty,pos,af,g⟩ K:=
 does_store (vs:=vs) rfl (by subst hl;exact F) hx hy rfl (by simpa using hone) hi (by subst he;exact k)
def dN (P:Program) (s:TypeId) (f o:Nat):Prop:=∀ b i w,(Instr.fieldAt s (.pointer (some ⟨b,i,none⟩)) f).run P w= .ok (.pointer (some ⟨b,i+o,none⟩)) w
theorem aT {s:TypeId} {x:Operand} {f o b i:Nat} (hf:dN P s f o) (hx:ev env x=some (.pointer (some ⟨b,i,none⟩))):
  Pure P n S w0 env segs ⟨d,.fieldAddr s x f,ty,pos,af,g⟩ (.pointer (some ⟨b,i+o,none⟩)):=
 fun a w ha _=>by simp [execOp,ha.eval hx,hf b i w]
structure SlT (P:Program) (T E sz:Nat):Prop where
 und:∀ w,(underlying T).run P w= .ok (.slice E) w
 size:∀ w,(sizeOf E).run P w= .ok sz w
theorem o_idx {T E sz:Nat} {x y:Operand} {b off len cap:Nat} {J:IntKind} {j:Int} (F:SlT P T E sz) (hx:ev env x=some (.slice (some ⟨b,off,none⟩) len cap)) (hy:ev env y=some (.int J j))
  (i:Nat) (hj:0≤j∧j<len∧off+j.toNat*sz=i):Pure P n S w0 env segs ⟨d,.indexAddr T x y,ty,pos,af,g⟩ (.pointer (some ⟨b,i,none⟩)):=
 fun a w ha _=>by
  obtain ⟨O,h1,rfl⟩:=hj
  simp [execOp,Instr.indexAt,ha.eval hx,ha.eval hy,F.und,F.size,asIntOf,O,h1,dG]
theorem iH {T E sz:Nat} {x:Operand} {A:Option Addr} {len cap:Nat} (F:SlT P T E sz) (hx:ev env x=some (.slice A len cap)):
  Pure P n S w0 env segs ⟨d,.call ⟨.builtin .len,#[x],#[T]⟩,ty,pos,af,g⟩ (.int .i64 len):=
 fun a w ha _=>by simp [execOp,resolve,invoke,builtin,Builtin.len_,ha.eval hx,F.und,goInt]
theorem d7 {c:Int} (h: -9223372036854775808≤c∧c≤9223372036854775807):IntKind.i64.wrap c=c:=by
 unfold IntKind.wrap IntKind.bits IntKind.signed;simp only;split<;>rename_i hc<;>simp at hc<;>omega
theorem iQ {c:Int} (h:0≤c∧c≤18446744073709551615):IntKind.u64.wrap c=c:=by
 unfold IntKind.wrap IntKind.bits IntKind.signed;simp only;split<;>rename_i hc<;>simp at hc<;>omega
theorem wrap_u32 {c:Int} (h:0≤c∧c≤4294967295):IntKind.u32.wrap c=c:=by
 unfold IntKind.wrap IntKind.bits IntKind.signed;simp only;split<;>rename_i hc<;>simp at hc<;>omega
theorem lA {T J:TypeId} {x y:Operand} {F:IntKind} {p q:Int} (hx:ev env x=some (.int F p)) (hy:ev env y=some (.int F q)) (c:Int) (hc:F.wrap (p+q)=c):
  Pure P n S w0 env segs ⟨d,.binOp .add T x y J,ty,pos,af,g⟩ (.int F c):=
 fun a w ha _=>by simp [execOp,eqGuard,binOp,Op.intArith,ha.eval hx,ha.eval hy,hc]
theorem kM {T J:TypeId} {x y:Operand} {F:IntKind} {p q:Int} (hx:ev env x=some (.int F p)) (hy:ev env y=some (.int F q)) (c:Int) (hc:F.wrap (p - q)=c):
  Pure P n S w0 env segs ⟨d,.binOp .sub T x y J,ty,pos,af,g⟩ (.int F c):=
 fun a w ha _=>by simp [execOp,eqGuard,binOp,Op.intArith,ha.eval hx,ha.eval hy,hc]
theorem o_mul {T J:TypeId} {x y:Operand} {F:IntKind} {p q:Int} (hx:ev env x=some (.int F p)) (hy:ev env y=some (.int F q)) (c:Int) (hc:F.wrap (p*q)=c):
  Pure P n S w0 env segs ⟨d,.binOp .mul T x y J,ty,pos,af,g⟩ (.int F c):=
 fun a w ha _=>by simp [execOp,eqGuard,binOp,Op.intArith,ha.eval hx,ha.eval hy,hc]
theorem o_lss {T J:TypeId} {x y:Operand} {F:IntKind} {p q:Int} (hx:ev env x=some (.int F p)) (hy:ev env y=some (.int F q)):
  Pure P n S w0 env segs ⟨d,.binOp .lss T x y J,ty,pos,af,g⟩ (.bool (decide (p<q))):=
 fun a w ha _=>by simp [execOp,eqGuard,binOp,Op.intCmp,ha.eval hx,ha.eval hy]
theorem o_leq {T J:TypeId} {x y:Operand} {F:IntKind} {p q:Int} (hx:ev env x=some (.int F p)) (hy:ev env y=some (.int F q)):
  Pure P n S w0 env segs ⟨d,.binOp .leq T x y J,ty,pos,af,g⟩ (.bool (decide (p≤q))):=
 fun a w ha _=>by simp [execOp,eqGuard,binOp,Op.intCmp,ha.eval hx,ha.eval hy]
theorem o_gtr {T J:TypeId} {x y:Operand} {F:IntKind} {p q:Int} (hx:ev env x=some (.int F p)) (hy:ev env y=some (.int F q)):
  Pure P n S w0 env segs ⟨d,.binOp .gtr T x y J,ty,pos,af,g⟩ (.bool (decide (q<p))):=
 fun a w ha _=>by simp [execOp,eqGuard,binOp,Op.intCmp,ha.eval hx,ha.eval hy]
theorem o_geq {T J:TypeId} {x y:Operand} {F:IntKind} {p q:Int} (hx:ev env x=some (.int F p)) (hy:ev env y=some (.int F q)):
  Pure P n S w0 env segs ⟨d,.binOp .geq T x y J,ty,pos,af,g⟩ (.bool (decide (q≤p))):=
 fun a w ha _=>by simp [execOp,eqGuard,binOp,Op.intCmp,ha.eval hx,ha.eval hy]
theorem o_eql {T J:TypeId} {x y:Operand} {F:IntKind} {p q:Int} (hx:ev env x=some (.int F p)) (hy:ev env y=some (.int F q)):
  Pure P n S w0 env segs ⟨d,.binOp .eql T x y J,ty,pos,af,g⟩ (.bool (decide (p=q))):=
 fun a w ha _=>by
  have:(p==q)=decide (p=q):=by by_cases h:p=q<;>simp [h]
  simp [execOp,eqGuard,binOp,Op.intCmp,ha.eval hx,ha.eval hy,this]
theorem o_neq {T J:TypeId} {x y:Operand} {F:IntKind} {p q:Int} (hx:ev env x=some (.int F p)) (hy:ev env y=some (.int F q)):
  Pure P n S w0 env segs ⟨d,.binOp .neq T x y J,ty,pos,af,g⟩ (.bool (decide (p≠q))):=
 fun a w ha _=>by
  have:(p !=q)=decide (p≠q):=by by_cases h:p=q<;>simp [h]
  simp [execOp,eqGuard,binOp,Op.intCmp,ha.eval hx,ha.eval hy,this]
theorem o_not {T:TypeId} {x:Operand} {b:Bool} (hx:ev env x=some (.bool b)):Pure P n S w0 env segs ⟨d,.unOp .not T x,ty,pos,af,g⟩ (.bool (!b)):=
 fun a w ha _=>by simp [execOp,Op.unary,ha.eval hx]
theorem o_max {x y:Operand} {T J:TypeId} {F:IntKind} {p q:Int} (hx:ev env x=some (.int F p)) (hy:ev env y=some (.int F q)):
  Pure P n S w0 env segs ⟨d,.call ⟨.builtin .max,#[x,y],#[T,J]⟩,ty,pos,af,g⟩ (.int F (max p q)):=
 fun a w ha _=>by
  have:(if q>p then q else p)=max p q:=by rw [Int.max_def];split<;>split<;>omega
  simp [execOp,resolve,invoke,builtin,Builtin.max_,Builtin.max2,ha.eval hx,ha.eval hy,this]
theorem o_min {x y:Operand} {T J:TypeId} {F:IntKind} {p q:Int} (hx:ev env x=some (.int F p)) (hy:ev env y=some (.int F q)):
  Pure P n S w0 env segs ⟨d,.call ⟨.builtin .min,#[x,y],#[T,J]⟩,ty,pos,af,g⟩ (.int F (min p q)):=
 fun a w ha _=>by
  have:(if q<p then q else p)=min p q:=by rw [Int.min_def];split<;>split<;>omega
  simp [execOp,resolve,invoke,builtin,Builtin.min_,Builtin.min2,ha.eval hx,ha.eval hy,this]
theorem g5 {src dst:TypeId} {x:Operand} {F O:IntKind} {p:Int} {J:TypeDesc} (hs:∀ w,(underlying src).run P w= .ok J w) (hd:∀ w,(underlying dst).run P w= .ok (.int F) w) (hx:ev env x=some (.int O p))
  (c:Int) (hc:F.wrap p=c):Pure P n S w0 env segs ⟨d,.convert src dst x,ty,pos,af,g⟩ (.int F c):=
 fun a w ha _=>by cases J<;>simp [execOp,convert,Conv.intToInt,hs,hd,ha.eval hx,hc]
theorem o_eqlA {T O:TypeId} {x y:Operand} {J ys:Array Value} {F:Prop} [Decidable F] (hg:P.eqGuardType P.depth T=false) (he:∀ w,(Op.equalIn 10000 T (.agg J) (.agg ys)).run P w= .ok (decide F) w)
  (hx:ev env x=some (.agg J)) (hy:ev env y=some (.agg ys)):Pure P n S w0 env segs ⟨d,.binOp .eql T x y O,ty,pos,af,g⟩ (.bool (decide F)):=
 fun a w ha _=>by simp [execOp,ha.eval hx,ha.eval hy,run_eqGuard_agg w _ _ _ _ _ _ hg,run_eql_struct,he]
theorem o_neqA {T O:TypeId} {x y:Operand} {J ys:Array Value} {F:Prop} [Decidable F] (hg:P.eqGuardType P.depth T=false) (he:∀ w,(Op.equalIn 10000 T (.agg J) (.agg ys)).run P w= .ok (decide F) w)
  (hx:ev env x=some (.agg J)) (hy:ev env y=some (.agg ys)):Pure P n S w0 env segs ⟨d,.binOp .neq T x y O,ty,pos,af,g⟩ (.bool (decide (¬ F))):=
 fun a w ha _=>by simp [execOp,ha.eval hx,ha.eval hy,run_eqGuard_agg w _ _ _ _ _ _ hg,run_neq_struct,he]
theorem does_call {o:Oper} {f:FuncId} {vs:List Value} {own fr:List Seg} {Φ:Value→List Seg→Prop} (J:∀ a w,En n env a→(execOp a.eval o).run P w= .ok (.enter f vs.toArray) w)
  (F:∀ w,Hp S w0 (own++fr).flatten w→Meets P f vs w own Φ) (k:∀ v own',Φ v own'→K v (own' ++fr)):Does P n S w0 env (own++fr) o K:=by
 intro a w next Q ha hp hk
 unfold Oper.wp
 rw [J a w ha,Oper.upon_enter];refine Calls.mono (F w hp) ?_;rintro e w' ⟨v,own',rfl,O,U⟩;exact hk v _ w' (k v own' U) (hp.called O)
theorem aV {f:FuncId} {args:List Operand} {J:Array TypeId} {vs:List Value} {Φ:Value→List Seg→Prop} (hc:∀ args w,(callFunc f args).run P w= .ok (.enter f args) w) (ha:evs env args=some vs)
  (F:∀ w,Hp S w0 segs.flatten w→Meets P f vs w [] Φ) (k:∀ v own',Φ v own'→K v (own' ++segs)):Does P n S w0 env segs ⟨d,.call ⟨.value (.func f),args.toArray,J⟩,ty,pos,af,g⟩ K:=
 does_call (own:=[]) (fun a w O=>by simp [execOp,resolve,Deferred.ofValue,invoke,Act.eval,O.evals ha,hc]) F k
theorem d4 (own fr:List Seg) {f:FuncId} {args:List Operand} {U:Array TypeId} {vs:List Value} {Φ:Value→List Seg→Prop} (hc:∀ args w,(callFunc f args).run P w= .ok (.enter f args) w) (ha:evs env args=some vs)
  (J:Sub segs (own++fr)) (F:∀ w,Hp S w0 (own++fr).flatten w→Meets P f vs w own Φ) (k:∀ v own',Φ v own'→K v (own' ++fr)):
  Does P n S w0 env segs ⟨d,.call ⟨.value (.func f),args.toArray,U⟩,ty,pos,af,g⟩ K:=
 fun a w next Q O hp hk=>does_call (own:=own) (fr:=fr) (fun a w O=>by simp [execOp,resolve,Deferred.ofValue,invoke,Act.eval,O.evals ha,hc]) F k a w next Q O (hp.sub J) hk
theorem jG (own fr:List Seg) {f:FuncId} {x:Operand} {first cap:List Value} {args:List Operand} {U:Array TypeId} {vs:List Value} {Φ:Value→List Seg→Prop} (hc:∀ args w,(callFunc f args).run P w= .ok (.enter f args) w)
  (hx:ev env x=some (.func (.func f) first.toArray cap.toArray)) (ha:evs env args=some vs)
  (J:Sub segs (own++fr)) (F:∀ w,Hp S w0 (own++fr).flatten w→Meets P f (first++vs++cap) w own Φ) (k:∀ v own',Φ v own'→K v (own' ++fr)):
  Does P n S w0 env segs ⟨d,.call ⟨.value x,args.toArray,U⟩,ty,pos,af,g⟩ K:=
 fun a w next Q O hp hk=>does_call (own:=own) (fr:=fr) (fun a w O=>by simp [execOp,resolve,Deferred.ofValue,invoke,O.eval hx,O.evals ha,hc]) F k a w next Q O (hp.sub J) hk
end
section
variable {P:Program} {fn:Func} {n:Nat} {w:World} {own:List Seg} {Φ:Value→List Seg→Prop} {env:Env} {segs:List Seg}
def rget (tmps:Array Value) (r:ResultVar):Sem Value:=match r with
 | .tmp t=>pure (tmps.getD t undef)
 | .cell a t=>do loadVar t (← asAddr (tmps.getD a undef))
theorem qE (fn:Func) (tmps:Array Value):results fn tmps=(do let vs ← fn.results.mapM (rget tmps);pure (if h:vs.size=1 then vs[0] else .tuple vs)):=rfl
def RVal (P:Program) (n:Nat) (S:Nat→Prop) (w0:World) (env:Env) (segs:List Seg) (r:ResultVar) (v:Value):Prop:=
 ∀ a w,En n env a→Hp S w0 segs.flatten w→(rget a.tmps r).run P w= .ok v w
theorem rv {S:Nat→Prop} {w0:World} {t:Tmp} {v:Value} (h:look env t=some v):RVal P n S w0 env segs (.tmp t) v:=fun a w ha _=>by
 simp [rget,ha.get _ _ h]
theorem rvA {S:Nat→Prop} {w0:World} {x:Tmp} {T:TypeId} {b i sz:Nat} {vs:List Value} (J:∀ w,(isAgg T).run P w= .ok true w) (F:∀ w,(sizeOf T).run P w= .ok sz w) (hx:look env x=some (.pointer (some ⟨b,i,none⟩)))
  (hl:vs.length=sz) (hr:Rds S w0 segs b i vs):RVal P n S w0 env segs (.cell x T) (.agg vs.toArray):=fun a w ha hp=>by
 have:=run_loadCellsFrom (P:=P) (w:=w) (b:=b) (i:=i) vs 0 #[] (by simpa using hr.cells hp)
 subst hl;simp [rget,ha.get _ _ hx,asAddr,loadVar,J,F,loadCells,this]
theorem f_finR1 (own' :List Seg) {r:ResultVar} {v:Value} (hr:fn.results= #[r]) (h1:RVal P n (Fr w own) w env segs r v) (hs:Sub segs own') (F:Φ v own'):
  Wq n (Fr w own) w (bodyPost P fn (fV w own Φ) .ret) env segs:=
 fun a w' ha hp=>⟨ha.defers,v,by have:=h1 a w' ha hp;rw [qE,hr];simp [this],_,own',rfl,hp.sub hs,F⟩
theorem f_finR2 (own' :List Seg) {r s:ResultVar} {v u:Value} (hr:fn.results= #[r,s]) (h1:RVal P n (Fr w own) w env segs r v) (h2:RVal P n (Fr w own) w env segs s u) (hs:Sub segs own') (F:Φ (.tuple #[v,u]) own'):
  Wq n (Fr w own) w (bodyPost P fn (fV w own Φ) .ret) env segs:=
 fun a w' ha hp=>⟨ha.defers,.tuple #[v,u],by
  have e1:=h1 a w' ha hp
  have e2:=h2 a w' ha hp
  rw [qE,hr];simp [e1,e2],_,own',rfl,hp.sub hs,F⟩
theorem f_finR4 (own' :List Seg) {r s t q:ResultVar} {v u x y:Value} (hr:fn.results= #[r,s,t,q]) (h1:RVal P n (Fr w own) w env segs r v) (h2:RVal P n (Fr w own) w env segs s u) (h3:RVal P n (Fr w own) w env segs t x) (U:RVal P n (Fr w own) w env segs q y)
  (hs:Sub segs own') (F:Φ (.tuple #[v,u,x,y]) own'):Wq n (Fr w own) w (bodyPost P fn (fV w own Φ) .ret) env segs:=
 fun a w' ha hp=>⟨ha.defers,.tuple #[v,u,x,y],by
  have e1:=h1 a w' ha hp
  have e2:=h2 a w' ha hp
  have O:=h3 a w' ha hp
  have J:=U a w' ha hp
  rw [qE,hr];simp [e1,e2,O,J],_,own',rfl,hp.sub hs,F⟩
end
end Go.Proofs.YthpkelafioikaaaGreat.Fly
