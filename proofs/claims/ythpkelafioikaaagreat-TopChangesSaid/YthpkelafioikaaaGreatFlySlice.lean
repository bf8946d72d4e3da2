import Derived.Test.YthpkelafioikaaaGreatFlyMem
namespace Go.Proofs.YthpkelafioikaaaGreat.Fly
open Go Go.RowKit
set_option linter.unusedVariables false
set_option linter.unusedSimpArgs false
def optv (env:Env):Option Operand→Option (Option Value)
 |none=>some none
 |some x=>(ev env x).map some
def Bd (v:Option Value) (F n:Nat):Prop:=(v=none∧n=F)∨∃ k i,v=some (.int k i)∧i=(n:Int)
theorem run_bounds {P:Program} {X J O:Option Value} {len cap l h m:Nat} (bl:Bd X 0 l) (U:Bd J len h) (bm:Bd O cap m) (F:l≤h∧h≤m∧m≤cap) (hs:O.isSome=true→J.isSome=true) (w:World):
  (Instr.sliceBounds true len cap X J O).run P w= .ok (l,h,m) w:=by
 obtain ⟨h1,h2,h3⟩:=F
 have hb:∀ (k:IntKind) (i y:Nat) (c:BoundsCode),i≤y→(Instr.sliceBound (.int k i) y c).run P w= .ok i w:=fun k i y c h=>by
  simp [Instr.sliceBound,asIntOf,h]
 rcases bm with ⟨rfl,rfl⟩|⟨km,im,rfl,rfl⟩
 ·rcases U with ⟨rfl,rfl⟩|⟨kh,ih,rfl,rfl⟩<;>rcases bl with ⟨rfl,rfl⟩|⟨Z,Y,rfl,rfl⟩<;>simp [Instr.sliceBounds,hb,h1,h2,h3]
 ·rcases U with ⟨rfl,rfl⟩|⟨kh,ih,rfl,rfl⟩
  ·simp at hs
  ·rcases bl with ⟨rfl,rfl⟩|⟨Z,Y,rfl,rfl⟩<;>simp [Instr.sliceBounds,hb,h1,h2,h3]
section
variable {P:Program} {n:Nat} {S:Nat→Prop} {w0:World} {env:Env} {segs segs' :List Seg} {K:Value→List Seg→Prop} {d:Option Tmp} {ty:TypeId} {pos:String} {af:Array Edge} {g:Option (Nat×Bool)}
theorem En.opt {a:Act} (h:En n env a) {o:Option Operand} {v:Option Value} (hv:optv env o=some v):o.map a.eval=v:=by
 cases o with
 |none=>simp [optv] at hv;simp [hv]
 |some x=>
  simp only [optv,Option.map_eq_some_iff] at hv;obtain ⟨u,F,rfl⟩:=hv
  simp [h.eval F]
theorem f7 {T E sz:Nat} {x:Operand} {Z hi Y:Option Operand} {X J O:Option Value} {A:Option Addr} {len cap:Nat} (U:SlT P T E sz) (hx:ev env x=some (.slice A len cap)) (hl:optv env Z=some X) (hh:optv env hi=some J) (hm:optv env Y=some O)
  (hs:O.isSome=true→J.isSome=true) (l h m:Nat) (bl:Bd X 0 l) (bh:Bd J len h) (bm:Bd O cap m) (F:l≤h∧h≤m∧m≤cap) (v:Value) (hv: .slice (if m=l then A else A.map (·.add (l*sz))) (h - l) (m - l)=v):
  Pure P n S w0 env segs ⟨d,.slice T x Z hi Y,ty,pos,af,g⟩ v:=
 fun a w ha _=>by
  subst hv;simp only [execOp,Instr.sliceAt,Sem.run_bind,U.und,Result.andThen_ok,Instr.slice,ha.eval hx,ha.opt hl,ha.opt hh,ha.opt hm,run_bounds bl bh bm F hs,U.size,Sem.run_pure]
theorem zeroCells_flat (z:List Value) (n:Nat) (h:0<z.length):(Builtin.zeroCells z.toArray n).toList=(List.replicate n z).flatten:=by
 have:=kU z n h
 have e:Builtin.zeroCells z.toArray n=madeCells z.toArray (n*z.length):=by simp [Builtin.zeroCells,madeCells]
 rw [e,this]
theorem o_clear {T E sz F:Nat} {z:List Value} {x:Operand} {b off m c:Nat} {cs:List Value} {f:Seg→List Seg} (J:ElT P T E sz F z) (hx:ev env x=some (.slice (some ⟨b,off,none⟩) m c)) [hA:At segs b (blk cs E) f]
  (hone:z.all (·.oneCell')=true) (hi:off+m*sz≤cs.length) (cs' :List Value) (he:jF cs off (List.replicate m z).flatten=cs') (k:K (.tuple #[]) (f [(b,blk cs' E)])):
  Does P n S w0 env segs ⟨d,.call ⟨.builtin .clear,#[x],#[T]⟩,ty,pos,af,g⟩ K:=
 gP fun a w ha hp=>by
  subst he;obtain ⟨i,u,hi',hz,X,rfl,rfl⟩:=J.i
  obtain ⟨l,r,e1,e2⟩:=hA.flat
  by_cases hm:m=0
  ·subst hm
   refine ⟨.tuple #[],_,w,.inl ?_,by rw [e2];rw [e1] at hp;simpa [jF] using hp,k⟩;simp [execOp,resolve,invoke,builtin,Builtin.clear_,ha.eval hx,run_underlying J.und]
  ·have hlen:(List.replicate m z).flatten.length=m*i.size:=by simp [J.len]
   obtain ⟨w',hr,Y⟩:=nD (P:=P) (i:=off) (List.replicate m z).flatten cs 0 w (e1▸hp) (fun v hv=>by
    obtain ⟨l',O,U⟩:=List.mem_flatten.1 hv
    have:=(List.mem_replicate.1 O).2
    subst this
    exact (List.all_eq_true.1 hone) v U) (by rw [hlen];omega)
   refine ⟨.tuple #[],_,w',.inl ?_,by rw [e2];exact Y,k⟩;obtain ⟨q,rfl⟩:∃ q,m=q+1:=⟨m - 1,aA⟩
   simp only [execOp,resolve,invoke,builtin,Builtin.clear_,ha.eval hx,Sem.run_bind,Sem.run_pure,Result.andThen_ok,List.map_toArray,List.map_cons,List.map_nil,List.getElem?_toArray,List.getElem?_cons_zero,run_underlying J.und,
    zeroValue,typeInfo,run_program,hi',hz,X,zeroCells_flat z (q+1) (by rw [J.len];exact J.pos),hr]
theorem o_slice0 {T E sz F:Nat} {z:List Value} (J:ElT P T E sz F z) (k:∀ b,K (.slice (some ⟨b,0,none⟩) 0 0) ([(b,blk [] E)]::segs)):Does P n S w0 env segs ⟨d,.buildSlice T 0 #[],ty,pos,af,g⟩ K:=
 gP fun a w ha hp=>by
  obtain ⟨i,u,hi,hz,O,rfl,rfl⟩:=J.i
  refine ⟨_,_,w.alloc (blk [] E),.inl ?_,by simpa using hp.alloc (blk [] E),k w.heap.size⟩;have e:Array.map (fun x=>(default:Value)) (Array.range 0)= #[]:=by apply Array.eq_empty_of_size_eq_zero;simp
  simp [execOp,Instr.buildSlice,run_underlying J.und,sizeOf,typeInfo,hi,Instr.fill,newRow,e]
def Seen (S:Nat→Prop) (w:World) (A:Option Addr) (cs:List Value):Prop:=(A=none∧cs=[])∨∃ b off,A=some ⟨b,off,none⟩∧(cs≠[]→S b∧CellsAre w b off cs)
theorem Seen.rds {S:Nat→Prop} {w0:World} {segs:List Seg} {b off:Nat} {cs:List Value} (h:cs≠[]→S b∧CellsAre w0 b off cs):Rds S w0 segs b off cs:=
 oO _ _ fun j v hj=>have hne:cs≠[]:=fun e=>by subst e;simp at hj
  rdS (h hne).1 ((h hne).2 j v hj)
theorem Own.seen {S:Nat→Prop} {w0 w:World} {segs out:List Seg} {E sz len J cap:Nat} {A:Option Addr} {cs:List Value} {m:Seg} (h:Own E sz (.slice A J cap) len cs m) (hp:Hp S w0 segs.flatten w) [p:Pick segs m out]:Seen (Fr w []) w A cs:=by
 rcases h.2 with ⟨e,O,_⟩|⟨b,c,sp,e,hm,_⟩
 ·cases e;exact .inl ⟨rfl,List.eq_nil_of_length_eq_zero (by rw [h.1,O];simp)⟩
 ·cases e
  refine .inr ⟨b,0,rfl,fun _=>?_⟩;have F:(b,blk (cs++sp) E)∈segs.flatten:=p.perm.mem_iff.2 (by rw [hm];simp)
  refine ⟨⟨hp.key_lt F,aN⟩,fun j v hj=>?_⟩;rw [hp.cell F];simp only [Nat.zero_add];exact eF hj
theorem fF {Q:Exit→Act→World→Prop} {e:Env} {c:Code} (he:Has env e) (h:Wc P n S w0 Q e segs c):Wc P n S w0 Q env segs c:=
 fun a w ha hp=>h a w (by have:=ha.has ha.nil he;rwa [List.append_nil] at this) hp
theorem k6 {Q:Exit→Act→World→Prop} (b:Nat) {cs:List Value} {E:TypeId} {f:Seg→List Seg} {c:Code} (cs' :List Value) [hA:At segs b (blk cs E) f] (e:cs=cs') (h:Wc P n S w0 Q env (f [(b,blk cs' E)]) c):Wc P n S w0 Q env segs c:=
 fun a w ha hp=>h a w ha (hp.respell e)
end
end Go.Proofs.YthpkelafioikaaaGreat.Fly
