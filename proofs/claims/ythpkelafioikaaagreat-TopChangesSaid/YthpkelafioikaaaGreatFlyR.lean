import Derived.Test.YthpkelafioikaaaGreatFlyMem
import Derived.Deep.Slices
import Derived.Deep.Strs
import Derived.Deep.Fields
import Derived.ChangeSame
import Derived.ChangeOld
import Derived.Carry
import Derived.OpenShut
import Derived.ProofKit
import Derived.SizedLaws
import Derived.Deep.CondSized
import Derived.JoinedCond
import Derived.Lib.SmallJoins
namespace Go.Proofs.YthpkelafioikaaaGreat.Fly
open Go Go.RowKit Go.ChangeShapes Go.WideShapes Go.Deep
set_option linter.unusedVariables false
set_option linter.unusedSimpArgs false
set_option linter.unusedSectionVars false
section
variable {H:Type} {enc:TypeId×Value→H} {P:Program} {w:World}
def Reads (enc:TypeId×Value→H) (P:Program) (w:World) (t:TypeId) {α:Type} (cells:α→List Value) (F:α→Prop):Prop:=
 ∀ fuel cs y,DataW.trod enc P w 0 (fun _=>true) true fuel t cs=some y→∃ x,cs=cells x∧F x
theorem lD {t:TypeId} {k:IntKind} (F:P.underlying t=some (.int k)):Reads enc P w t (fun n=>[.int k n]) (fun n=>(Lit.int k n).wf=true):=fun fuel cs y h=>by
 obtain ⟨n,rfl,_,hw⟩:=DataW.trod_int F h
 exact ⟨n,rfl,hw⟩
theorem pieces3 {α:Type} {cs:List α} {a b c:α} (hl:cs.length=3) (F:(cs.drop 0).take 1=[a]) (h1:(cs.drop 1).take 1=[b]) (h2:(cs.drop 2).take 1=[c]):cs=[a,b,c]:=by
 match cs,hl with
 |[x,y,z],_=>simp at F h1 h2;subst F;subst h1;subst h2;rfl
theorem pieces2 {α:Type} {cs:List α} {a b:α} (hl:cs.length=2) (F:(cs.drop 0).take 1=[a]) (h1:(cs.drop 1).take 1=[b]):cs=[a,b]:=by
 match cs,hl with
 |[x,y],_=>simp at F h1;subst F;subst h1;rfl
theorem i64_wf {n:Int} (h:(Lit.int .i64 n).wf=true):I64 n:=by
 simpa [Lit.wf,IntKind.min,IntKind.max,IntKind.signed,IntKind.bits] using h
theorem u32_wf {n:Int} (h:(Lit.int .u32 n).wf=true):0≤n∧n≤4294967295:=by
 simpa [Lit.wf,IntKind.min,IntKind.max,IntKind.signed,IntKind.bits] using h
theorem reads3 {t:TypeId} {O J F:Field} (ht:P.underlying t=some (.struct #[O,J,F])) (hC:P.cellsOf t=3) (Y:O.offset=0∧P.cellsOf O.type=1) (h1:J.offset=1∧P.cellsOf J.type=1) (h2:F.offset=2∧P.cellsOf F.type=1)
  {α U X:Type} {ca:α→Value} {cb:U→Value} {cc:X→Value} {A:α→Prop} {B:U→Prop} {C:X→Prop}
  (ra:Reads enc P w O.type (fun x=>[ca x]) A) (rb:Reads enc P w J.type (fun x=>[cb x]) B) (rc:Reads enc P w F.type (fun x=>[cc x]) C):
  Reads enc P w t (fun x:α×U×X=>[ca x.1,cb x.2.1,cc x.2.2]) (fun x=>A x.1∧B x.2.1∧C x.2.2):=fun fuel cs y h=>by
 obtain ⟨y0,y1,y2,n,_,hl,Z,e1,e2⟩:=trod_struct3 ht h
 rw [Y.1,Y.2] at Z;rw [h1.1,h1.2] at e1;rw [h2.1,h2.2] at e2;obtain ⟨x0,p0,a0⟩:=ra _ _ _ Z
 obtain ⟨x1,p1,a1⟩:=rb _ _ _ e1
 obtain ⟨x2,p2,a2⟩:=rc _ _ _ e2
 exact ⟨(x0,x1,x2),pieces3 (hl.trans hC) p0 p1 p2,a0,a1,a2⟩
theorem reads2 {t:TypeId} {J F:Field} (Z:P.underlying t=some (.struct #[J,F])) (hC:P.cellsOf t=2) (U:J.offset=0∧P.cellsOf J.type=1) (h1:F.offset=1∧P.cellsOf F.type=1)
  {α O:Type} {ca:α→Value} {cb:O→Value} {A:α→Prop} {B:O→Prop}
  (ra:Reads enc P w J.type (fun x=>[ca x]) A) (rb:Reads enc P w F.type (fun x=>[cb x]) B):
  Reads enc P w t (fun x:α×O=>[ca x.1,cb x.2]) (fun x=>A x.1∧B x.2):=fun fuel cs y h=>by
 obtain ⟨y0,y1,n,_,hl,X,e1⟩:=trod_struct2 Z h
 rw [U.1,U.2] at X;rw [h1.1,h1.2] at e1;obtain ⟨x0,p0,a0⟩:=ra _ _ _ X
 obtain ⟨Y,p1,a1⟩:=rb _ _ _ e1
 exact ⟨(x0,Y),pieces2 (hl.trans hC) p0 p1,a0,a1⟩
structure SlIn (w:World) {α:Type} (cells:α→List Value) (Ok:α→Prop) (A:Option Addr) (l:List α) (cap:Nat):Prop where
 ro:Ro (Fr w []) w A (l.flatMap cells)
 ok:∀ x∈l,Ok x
 le:l.length≤cap
 max:cap≤9223372036854775807
 nil:A=none→l=[]∧cap=0
theorem list_of {α:Type} {R:Nat→α→Prop}:∀ {n:Nat},(∀ i,i<n→∃ x,R i x)→∃ l:List α,l.length=n∧∀ i (h:i<l.length),R i l[i]
 |0,_=>⟨[],rfl,fun i h=>by simp at h⟩
 |n+1,h=>by
  obtain ⟨l,hl,hr⟩:=list_of (n:=n) fun i hi=>h i aA
  obtain ⟨x,hx⟩:=h n aA
  refine ⟨l++[x],by simp [hl],fun i hi=>?_⟩
  by_cases F:i<l.length
  ·rw [List.getElem_append_left F];exact hr i F
  ·have:i=n:=by simp at hi;omega
   subst this;rw [List.getElem_append_right aA]
   simpa [hl] using hx
theorem n7 {t e:TypeId} (ht:P.underlying t=some (.slice e)) {α:Type} {cells:α→List Value} {Ok:α→Prop} {sz:Nat} (hC:P.cellsOf e=sz) (hs:∀ x,(cells x).length=sz) (hz:0<sz) (he:Reads enc P w e cells Ok):
  Reads enc P w t (fun x:Option Addr×List α×Nat=>[.slice x.1 x.2.1.length x.2.2]) (fun x=>SlIn w cells Ok x.1 x.2.1 x.2.2):=fun fuel cs y h=>by
 rcases open_slice ht h with ⟨rfl,_⟩|⟨a,len,cap,m,n,D,Pl,rfl,hb,hl,hm,Y,hx,hi⟩
 ·exact ⟨(none,[],0),rfl,⟨Ro.nil,aN,aN,aN,fun _=>⟨rfl,rfl⟩⟩⟩
 ·simp only [if_true] at Y
  subst Y
  have key:∀ i,i<len→∃ x,Ok x∧∀ j v,(cells x)[j]? =some v→w.cell? (a.add (i*sz+j))=some v:=fun i ah=>by
   obtain ⟨cs',hc,ab⟩:=hi i aA
   obtain ⟨x,rfl,hok⟩:=he _ _ _ ab
   obtain ⟨_,ai,ae⟩:=World.cells?_some hc
   refine ⟨x,hok,fun j v hj=>?_⟩;have ad:j<P.cellsOf e:=by have:=(List.getElem?_eq_some_iff.1 hj).1;rw [hs] at this;omega
   have:=ae j ad
   rw [hj,add_add,hC] at this;exact this
  obtain ⟨l,rfl,U⟩:=list_of key
  refine ⟨(some a,l,m),rfl,⟨?_,fun x hx=>?_,hl,hm,fun e=>by cases e⟩⟩
  ·intro hne
   have Z:0<l.length:=by
    rcases Nat.eq_zero_or_pos l.length with F|F
    ·rw [List.length_eq_zero_iff] at F;subst F;exact absurd rfl hne
    ·exact F
   have O:∀ i j v (hi:i<l.length),(cells l[i])[j]? =some v→w.cell? (a.add (i*sz+j))=some v:=fun i j v hi hj=>(U i hi).2 j v hj
   have F := O 0 0 ((cells l[0])[0]'(by rw [hs]; exact hz)) Z (List.getElem?_eq_getElem _)
   have J:a.spot=none:=by
    unfold World.cell? at F
    simp only [Nat.zero_mul,Nat.add_zero,Addr.add,if_true] at F
    split at F
    ·split at F
     ·cases F
     ·rename_i ag;simpa using ag
    ·cases F
   have ha:a=⟨a.block,a.off,none⟩:=by cases a;simp only at J;subst J;rfl
   refine ⟨a.block,a.off,by rw [← ha],⟨?_,aN⟩,fun q v hq=>?_⟩
   ·have:=World.block_lt_of_cell? w _ F
    simpa [Addr.add] using this
   ·have ac:q % sz<sz:=Nat.mod_lt _ hz
    have aa:q<l.length*sz:=by have:=(List.getElem?_eq_some_iff.1 hq).1;rwa [dO cells hs] at this
    have X:q / sz<l.length:=(Nat.div_lt_iff_lt_mul hz).2 aa
    have e:q / sz*sz+q % sz=q:=Nat.div_add_mod' q sz
    rw [← e,iV cells hs l (q / sz) (q % sz) X ac] at hq;have:=O _ _ v X hq
    rw [e,ha,dG] at this;exact this
  ·obtain ⟨i,hi',rfl⟩:=List.mem_iff_getElem.1 hx
   exact (U i hi').1
theorem Reads.map {t:TypeId} {α F:Type} {ca:α→List Value} {cb:F→List Value} {A:α→Prop} {B:F→Prop} (h:Reads enc P w t ca A) (f:α→F) (hc:∀ x,ca x=cb (f x)) (hA:∀ x,A x→B (f x)):Reads enc P w t cb B:=
 fun fuel cs y hy=>let ⟨x,e,hx⟩:=h fuel cs y hy;⟨f x,e.trans (hc x),hA x hx⟩
theorem arg_struct {t:TypeId} {fs:Array Field} {base:Nat} {v:Value} {d:DataW H} {p:List MemPlace} {α:Type} {cells:α→List Value} {F:α→Prop} (J:P.underlying t=some (.struct fs)) (hv:Value.okWide P w .any base t v)
  (h:DataW.Trod enc P w 0 (fun _=>true) true t v d p) (hr:Reads enc P w t cells F):∃ x,v= .agg (cells x).toArray∧F x:=by
 obtain ⟨cs,rfl,_⟩:=okWide_struct J hv
 obtain ⟨fuel,hf⟩:=h
 obtain ⟨x,e,hx⟩:=hr _ _ _ hf
 refine ⟨x,?_,hx⟩;have:cs.toList=cells x:=e
 rw [← this]
theorem arg_slice {t e:TypeId} {base:Nat} {v:Value} {d:DataW H} {p:List MemPlace} {α:Type} {cells:α→Value} {F:α→Prop} (J:P.underlying t=some (.slice e)) (hv:Value.okWide P w .any base t v)
  (h:DataW.Trod enc P w 0 (fun _=>true) true t v d p) (hr:Reads enc P w t (fun x=>[cells x]) F):∃ x,v=cells x∧F x:=by
 obtain ⟨a,len,cap,rfl⟩:=okWide_slice J hv
 obtain ⟨fuel,hf⟩:=h
 obtain ⟨x,e,hx⟩:=hr _ _ _ hf
 refine ⟨x,?_,hx⟩;have:[Value.slice a len cap]=[cells x]:=e
 exact (List.cons.inj this).1
theorem reads_i64 {t:TypeId} (F:P.underlying t=some (.int .i64)):Reads enc P w t (fun n:Int=>[.int .i64 n]) I64:=fun fuel cs y h=>
 let ⟨n,e,h⟩:=lD F fuel cs y h;⟨n,e,i64_wf h⟩
theorem arg_sliceOf {t e:TypeId} {base:Nat} {v:Value} {d:DataW H} {p:List MemPlace} {α:Type} {cells:α→List Value} {J:α→Prop} {sz:Nat} (F:P.underlying t=some (.slice e)) (O:P.cellsOf e=sz) (hs:∀ x,(cells x).length=sz) (hz:0<sz) (he:Reads enc P w e cells J)
  (hv:Value.okWide P w .any base t v) (h:DataW.Trod enc P w 0 (fun _=>true) true t v d p):∃ x:Option Addr×List α×Nat,v= .slice x.1 x.2.1.length x.2.2∧SlIn w cells J x.1 x.2.1 x.2.2:=
 arg_slice (cells:=fun x:Option Addr×List α×Nat=> .slice x.1 x.2.1.length x.2.2) F hv h (n7 F O hs hz he)
theorem flat_one {α:Type} (f:α→Value) (l:List α):(l.flatMap fun x=>[f x])=l.map f:=by induction l<;>simp_all
theorem trod_places {t:TypeId} {v:Value} {d:DataW H} {p:List MemPlace} (h:DataW.Trod enc P w 0 (fun _=>true) true t v d p):∀ x∈p,x.block<w.heap.size:=by
 obtain ⟨m,hm⟩:=h
 exact DataW.trod_lt m _ _ _ hm
theorem reads_arc {t:TypeId} {O J F:Field} (U:P.underlying t=some (.struct #[O,J,F])) (Z:P.cellsOf t=3) (X:O.offset=0∧P.cellsOf O.type=1) (h1:J.offset=1∧P.cellsOf J.type=1) (h2:F.offset=2∧P.cellsOf F.type=1)
  (Y:P.underlying O.type=some (.int .i64)) (u1:P.underlying J.type=some (.int .i64)) (u2:P.underlying F.type=some (.int .u32)):Reads enc P w t bZ eK:=
 (reads3 U Z X h1 h2 (ca:=fun n=> .int .i64 n) (cb:=fun n=> .int .i64 n) (cc:=fun n=> .int .u32 n) (lD Y) (lD u1) (lD u2)).map (fun x=>⟨x.1,x.2.1,x.2.2⟩) (fun x=>rfl)
  fun x hx=>⟨i64_wf hx.1,i64_wf hx.2.1,u32_wf hx.2.2⟩
structure GrIn (w:World) (N:Int) (A:Option Addr) (l:List Arc) (cap:Nat):Prop where
 n:I64 N
 arcs:SlIn w bZ eK A l cap
theorem reads_graph {t:TypeId} {J F:Field} {e:TypeId} (U:P.underlying t=some (.struct #[J,F])) (Z:P.cellsOf t=2) (X:J.offset=0∧P.cellsOf J.type=1) (h1:F.offset=1∧P.cellsOf F.type=1)
  (Y:P.underlying J.type=some (.int .i64)) (u1:P.underlying F.type=some (.slice e)) (O:P.cellsOf e=3) (he:Reads enc P w e bZ eK):
  Reads enc P w t (fun x:Int×Option Addr×List Arc×Nat=>[.int .i64 x.1,.slice x.2.1 x.2.2.1.length x.2.2.2]) (fun x=>GrIn w x.1 x.2.1 x.2.2.1 x.2.2.2):=
 (reads2 U Z X h1 (ca:=fun n=> .int .i64 n) (cb:=fun x:Option Addr×List Arc×Nat=> .slice x.1 x.2.1.length x.2.2) (lD Y) (n7 u1 O dD aA he)).map (fun x=>x) (fun x=>rfl)
  fun x hx=>⟨i64_wf hx.1,hx.2⟩
theorem law_ends {f:FuncId} {args:List Value} (h:Meets P f args w [] fun u m=>u= .bool true∧m=[]):Calls P f args.toArray w fun e w' =>e= .returned (.bool true)∧Below w.heap.size w w' :=
 (h.below).mono fun _ _ ⟨_,_,he,hb,e,_⟩=>⟨he.trans (by rw [e]),hb⟩
end
end Go.Proofs.YthpkelafioikaaaGreat.Fly
