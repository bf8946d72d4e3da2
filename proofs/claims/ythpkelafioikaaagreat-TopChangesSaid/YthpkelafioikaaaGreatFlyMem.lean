import Derived.Test.YthpkelafioikaaaGreatFlyD
import Derived.Laws.Append
import Derived.Laws.MakeOwn
namespace Go.Proofs.YthpkelafioikaaaGreat.Fly
open Go Go.RowKit
set_option linter.unusedVariables false
structure ElT (P:Program) (T E sz bytes:Nat) (z:List Value):Prop where
 und:P.underlying T=some (.slice E)
 info:(P.info? E).map (fun i=>(i.zero.map (·.cells),i.size,i.bytes))=some (some z.toArray,sz,bytes)
 len:z.length=sz
 pos:0<sz
theorem ElT.i {P:Program} {T E sz bytes:Nat} {z:List Value} (h:ElT P T E sz bytes z):∃ i v,P.info? E=some i∧i.zero=some v∧v.cells=z.toArray∧i.size=sz∧i.bytes=bytes:=by
 have:=h.info
 cases hi:P.info? E with
 |none=>simp [hi] at this
 |some i=>
  cases hz:i.zero with
  |none=>simp [hi,hz] at this
  |some v=>
   simp only [hi,hz,Option.map_some,Option.some.injEq,Prod.mk.injEq] at this;exact ⟨i,v,rfl,hz,this.1,this.2.1,this.2.2⟩
def Own (E sz:Nat) (v:Value) (len:Nat) (cs:List Value) (m:Seg):Prop:=
 cs.length=len*sz∧((v= .slice none 0 0∧len=0∧m=[])∨
  ∃ b cap sp,v= .slice (some ⟨b,0,none⟩) len cap∧m=[(b,blk (cs++sp) E)]∧len≤cap∧cap≤9223372036854775807∧sp.length=(cap - len)*sz)
theorem Own.nil (E sz:Nat):Own E sz (.slice none 0 0) 0 [] []:=⟨aN,.inl ⟨rfl,rfl,rfl⟩⟩
theorem Own.mk {E sz b len:Nat} {cs:List Value} (h:cs.length=len*sz) (hm:len≤9223372036854775807):Own E sz (.slice (some ⟨b,0,none⟩) len len) len cs [(b,blk cs E)]:=
 ⟨h,.inr ⟨b,len,[],rfl,aN,Nat.le_refl _,hm,aN⟩⟩
theorem Own.val {E sz len:Nat} {v:Value} {cs:List Value} {m:Seg} (h:Own E sz v len cs m):∃ A cap,v= .slice A len cap∧len≤cap∧cap≤9223372036854775807:=by
 rcases h.2 with ⟨rfl,rfl,_⟩|⟨b,cap,sp,rfl,_,h1,h2,_⟩
 ·exact ⟨_,_,rfl,Nat.le_refl _,aA⟩
 ·exact ⟨_,_,rfl,h1,h2⟩
theorem Own.block {E sz len:Nat} {v:Value} {cs:List Value} {m:Seg} (h:Own E sz v len cs m) (hl:0<len):∃ b cap sp,v= .slice (some ⟨b,0,none⟩) len cap∧m=[(b,blk (cs++sp) E)]:=by
 rcases h.2 with ⟨_,F,_⟩|⟨b,cap,sp,rfl,rfl,_⟩
 ·omega
 ·exact ⟨b,cap,sp,rfl,rfl⟩
theorem Own.at_ {E sz len F cap:Nat} {A:Option Addr} {cs:List Value} {m:Seg} (h:Own E sz (.slice A F cap) len cs m) (hl:0<len):∃ b sp,A=some ⟨b,0,none⟩∧m=[(b,blk (cs++sp) E)]:=by
 obtain ⟨b,c,sp,e,hm⟩:=h.block hl
 exact ⟨b,sp,(Value.slice.inj e).1,hm⟩
theorem eF {F ys:List Value} {j:Nat} {v:Value} (h:F[j]? =some v):(F++ys)[j]? =some v:=by
 rw [List.getElem?_append_left (List.getElem?_eq_some_iff.1 h).1];exact h
theorem kU (z:List Value) (n:Nat) (h:0<z.length):madeCells z.toArray (n*z.length)=((List.replicate n z).flatten).toArray:=by
 apply Array.ext
 ·simp [madeCells]
 ·intro i h1 h2
  have hi:i<n*z.length:=by simpa [madeCells] using h1
  have hm:i % z.length<z.length:=Nat.mod_lt _ h
  simp only [madeCells,Array.getElem_map,Array.getElem_range,List.getElem_toArray];rw [show z.toArray.size=z.length from by simp,getElem!_pos z.toArray (i % z.length) (by simpa using hm)]
  have hq:i / z.length<n:=by
   rcases Nat.lt_or_ge (i / z.length) n with h' |h'
   ·exact h'
   ·have h3:=Nat.mul_le_mul_right z.length h'
    have J:=Nat.div_mul_le_self i z.length
    omega
  have key : ∀ (n i : Nat) (hh : i < ((List.replicate n z).flatten).length), ((List.replicate n z).flatten)[i] = z[i % z.length]'(Nat.mod_lt _ h) := by
   intro n
   induction n with
   |zero=>intro i hh;simp at hh
   |succ n ih=>
    intro i hh;simp only [List.replicate_succ,List.flatten_cons];rw [List.getElem_append]
    split
    ·rename_i hlt;congr 1;exact (Nat.mod_eq_of_lt hlt).symm
    ·rename_i F
     rw [ih]
     congr 1
     exact (Nat.mod_eq_sub_mod aA).symm
  rw [key n i (by simpa using hi)];simp
theorem run_setRow_Hp {S:Nat→Prop} {w0 w:World} {r:Seg} {b:Nat} {cs cs' :List Value} {E:TypeId} (h:Hp S w0 ((b,blk cs E)::r) w):Hp S w0 ((b,blk cs' E)::r) (w.setRow b cs'.toArray):=by
 have hb:=h.own b (blk cs E) aN
 exact Hp.put (l:=[]) h rfl rfl rfl (by simp [World.setRow]) (Nat.le_refl _) (setRow_heap w b _ cs'.toArray E (0,0) hb) (fun k hk=>setRow_other w b k _ hk)
def StT (P:Program) (t:TypeId) (F:List (Nat×Nat)) (J:List Value):Prop:=
 ∀ (vs:List (Nat×Value)) (cs:Array Value) (w:World),Instr.fill (F.toArray[·]?) J.toArray vs=some cs→(Instr.build t vs.toArray).run P w= .ok (.agg cs) w
def evi (env:Env):List (Nat×Operand)→Option (List (Nat×Value))
 |[]=>some []
 |(i,x)::r=>match ev env x with
  |some v=>match evi env r with
   |some vs=>some ((i,v)::vs)
   |none=>none
  |none=>none
theorem En.evi {n:Nat} {env:Env} {a:Act} (h:En n env a):∀ {l:List (Nat×Operand)} {vs:List (Nat×Value)},evi env l=some vs→l.map (fun x=>(x.1,a.eval x.2))=vs
 |[],vs,hx=>by simp [Fly.evi] at hx;simp [hx]
 |(i,x)::r,vs,hx=>by
  simp only [Fly.evi] at hx
  split at hx
  ·rename_i v hv
   split at hx
   ·rename_i J F
    cases hx
    simp [h.eval hv,h.evi F]
   ·cases hx
  ·cases hx
section
variable {P:Program} {n:Nat} {S:Nat→Prop} {w0:World} {env:Env} {segs segs' :List Seg} {K:Value→List Seg→Prop} {d:Option Tmp} {ty:TypeId} {pos:String} {af:Array Edge} {g:Option (Nat×Bool)}
theorem eZ {T E sz F:Nat} {z:List Value} {x y:Operand} {U O:IntKind} {N:Int} (J:ElT P T E sz F z) (hx:ev env x=some (.int U N)) (hy:ev env y=some (.int O N)) (m:Nat) (hm:N=(m:Int)) (hb:F*m≤281474976710656)
  (X:m≤9223372036854775807) (cs:List Value) (he:(List.replicate m z).flatten=cs) (k:∀ b,K (.slice (some ⟨b,0,none⟩) m m) ([(b,blk cs E)]::segs)):Does P n S w0 env segs ⟨d,.makeSlice T x y,ty,pos,af,g⟩ K:=
 gP fun a w ha hp=>by
  obtain ⟨i,v,hi,hz,hc,rfl,rfl⟩:=J.i
  subst hm;subst he;have hr:=run_make (P:=P) w T E i v J.und hi hz U O m m aA (Int.le_refl _) (by rw [← Int.natCast_mul];omega) aA
  rw [Int.toNat_natCast,hc,← J.len,kU z m (by rw [J.len];exact J.pos)] at hr;refine ⟨.slice (some ⟨w.heap.size,0,none⟩) m m,[(w.heap.size,blk (List.replicate m z).flatten E)]::segs,w.alloc (blk (List.replicate m z).flatten E),.inl ?_,hp.alloc _,k w.heap.size⟩;simp only [execOp,ha.eval hx,ha.eval hy,hr,Sem.run_bind,Result.andThen_ok,Sem.run_pure]
theorem foldl_set (l:List Value):∀ (j:Nat) (a:Array Value) (i:Nat),j+l.length≤a.size→
  ((l.zipIdx j).foldl (fun cs x=>cs.setIfInBounds x.2 x.1) a)[i]? =if i<j then a[i]? else if i<j+l.length then l[i - j]? else a[i]? :=by
 induction l with
 |nil=>intro j a i _;by_cases h:i<j<;>simp [h]
 |cons x l ih=>
  intro j a i hl;simp only [List.length_cons] at hl;simp only [List.zipIdx_cons,List.foldl_cons];rw [ih (j+1) (a.setIfInBounds j x) i (by simp;omega)]
  by_cases h1:i<j
  ·rw [if_pos aA,if_pos h1,Array.getElem?_setIfInBounds_ne aA]
  ·rw [if_neg h1]
   by_cases h2:i=j
   ·subst h2
    rw [if_pos aA,if_pos aN];rw [Array.getElem?_setIfInBounds_self_of_lt aA];simp
   ·rw [if_neg aA]
    by_cases h3:i<j+1+l.length
    ·rw [if_pos h3,if_pos (by simp;omega)]
     obtain ⟨q,hq⟩:∃ q,i - j=q+1:=⟨i - j - 1,aA⟩
     rw [hq,show i - (j+1)=q from by omega];simp
    ·rw [if_neg h3,if_neg (by simp;omega),Array.getElem?_setIfInBounds_ne aA]
theorem fill_one {z:List Value} {v:Value} {cs:List Value} {sz:Nat} (hz:z.length=sz) (hv:v.cells=cs.toArray) (hc:cs.length=sz):
  Instr.fill (fun i=>some (i*sz,sz)) z.toArray [(0,v)]=some cs.toArray:=by
 have key:(Array.foldl (fun (cs:Array Value) (x:Value×Nat)=>cs.setIfInBounds x.2 x.1) z.toArray cs.toArray.zipIdx)=cs.toArray:=by
  rw [← Array.foldl_toList];have he:cs.toArray.zipIdx.toList=cs.zipIdx:=aN
  rw [he];apply Array.ext_getElem?;intro i;rw [foldl_set cs 0 z.toArray i (by simp;omega)];simp only [Nat.not_lt_zero,if_false,Nat.zero_add,Nat.sub_zero]
  split
  ·simp
  ·rw [Array.getElem?_eq_none (by simp;omega),Array.getElem?_eq_none (by simp;omega)]
 have hb:¬ (cs.length>z.length):=aA
 simp only [Instr.fill,Nat.zero_mul,Nat.zero_add,hv,List.size_toArray,hc,hz,ne_eq,not_true_eq_false,decide_false,Bool.false_or,gt_iff_lt,Nat.lt_irrefl,Bool.false_eq_true,if_false];exact congrArg some key
theorem rangeMap_self (z:List Value):(Array.range z.length).map (fun i=>z.toArray[i % z.toArray.size]!)=z.toArray:=by
 apply Array.ext
 ·simp
 ·intro i h1 h2
  have hi:i<z.length:=by simpa using h1
  simp only [Array.getElem_map,Array.getElem_range,List.size_toArray,Nat.mod_eq_of_lt hi];rw [getElem!_pos z.toArray i (by simpa using hi)]
theorem bQ {T E sz J:Nat} {z:List Value} {x:Operand} {v:Value} {cs:List Value} (F:ElT P T E sz J z) (Y:sz≤1000) (hx:ev env x=some v) (hv:v.cells=cs.toArray) (hc:cs.length=sz)
  (k:∀ b,K (.slice (some ⟨b,0,none⟩) 1 1) ([(b,blk cs E)]::segs)):Does P n S w0 env segs ⟨d,.buildSlice T 1 #[(0,x)],ty,pos,af,g⟩ K:=
 gP fun a w ha hp=>by
  obtain ⟨i,u,hi,hz,U,rfl,rfl⟩:=F.i
  refine ⟨_,_,w.alloc (blk cs E),.inl ?_,by simpa using hp.alloc (blk cs E),k w.heap.size⟩;have hf:=fill_one F.len hv hc
  have X:i.size≠0:=by have:=F.pos;omega
  have hr:=rangeMap_self z
  rw [F.len] at hr;simp only [List.size_toArray,F.len] at hr;have O:Array.map (fun x=>z[x % i.size]?.getD default) (Array.range i.size)=z.toArray:=by simpa using hr
  have hlt:¬ 16777216<i.size:=aA
  simp [execOp,Instr.buildSlice,ha.eval hx,run_underlying F.und,sizeOf,typeInfo,hi,zeroValue,hz,U,F.len,X,O,hf,newRow,if_neg hlt]
theorem o_sliceN {T E sz F len:Nat} {z:List Value} {parts:List (Nat×Operand)} {vs:List (Nat×Value)} {cs:List Value} (J:ElT P T E sz F z) (U:len*sz≤16777216∧0<len) (hx:evi env parts=some vs)
  (hf:Instr.fill (fun i=>some (i*sz,sz)) (List.replicate len z).flatten.toArray vs=some cs.toArray)
  (k:∀ b,K (.slice (some ⟨b,0,none⟩) len len) ([(b,blk cs E)]::segs)):Does P n S w0 env segs ⟨d,.buildSlice T len parts.toArray,ty,pos,af,g⟩ K:=
 gP fun a w ha hp=>by
  obtain ⟨i,u,hi,hz,O,rfl,rfl⟩:=J.i
  refine ⟨_,_,w.alloc (blk cs E),.inl ?_,by simpa using hp.alloc (blk cs E),k w.heap.size⟩;have X:len*i.size≠0:=by have:=Nat.mul_pos U.2 J.pos;omega
  have hlt:¬ 16777216<len*i.size:=aA
  have hr:=kU z len (by rw [J.len];exact J.pos)
  unfold madeCells at hr
  rw [J.len] at hr;have hv:=ha.evi hx
  rw [← hr] at hf;simp only [execOp,Instr.buildSlice,Sem.run_bind,run_underlying J.und,Result.andThen_ok,sizeOf,typeInfo,run_program,hi,Sem.run_pure];rw [if_neg (by simpa using hlt)];simp only [if_neg X,zeroValue,typeInfo,Sem.run_bind,run_program,hi,hz,Result.andThen_ok,Sem.run_pure,O]
  have hm:(Array.map (fun x=>match x with|(i,x)=>(i,a.eval x)) parts.toArray).toList=vs:=by
   rw [← hv];simp
  rw [hm];simp only [List.size_toArray] at hf ⊢;rw [hf];simp [newRow]
theorem dE {T E sz X:Nat} {z:List Value} {s x:Operand} {v:Value} {len m b off c:Nat} {cs ys:List Value} {ms:Seg} (hT:ElT P T E sz X z) (hs:ev env s=some v) (hx:ev env x=some (.slice (some ⟨b,off,none⟩) m c))
  (F:Own E sz v len cs ms) [pk:Pick segs ms segs'] (hr:Rds S w0 segs b off ys) (hy:ys.length=m*sz) (hone:ys.all (·.oneCell')=true) (hb:(len+m)*X≤140737488355328) (ag:len+m≤9223372036854775807)
  (k:∀ v' ms',Own E sz v' (len+m) (cs++ys) ms'→K v' (ms' ::segs')):Does P n S w0 env segs ⟨d,.call ⟨.builtin .append,#[s,x],#[T,T]⟩,ty,pos,af,g⟩ K:=
 gP fun a w ha hp=>by
  obtain ⟨i,u,hi,hz,ak,rfl,rfl⟩:=hT.i
  have J:∀ j v,ys[j]? =some v→w.cell? ((⟨b,off,none⟩:Addr).add j)=some v:=fun j v hj=>by rw [dG];exact hr.cells hp j v hj
  have Z:∀ u∈ys,u.oneCell' =true:=by simpa using hone
  have U:Hp S w0 (ms++segs'.flatten) w:=hp.perm pk.perm
  have hlen:(cs++ys).length=(len+m)*i.size:=by rw [List.length_append,F.1,hy,Nat.add_mul]
  have ab:∀ (q old:Nat),q≤grownCap w q old E:=fun q old=>grownCap_ge w q old E
  have ac:∀ (q old:Nat),q≤9223372036854775807→grownCap w q old E≤9223372036854775807:=fun q old hq=>grownCap_le_maxLen w q old E hq
  have ae:u.cells.size=i.size:=by rw [ak];simp [hT.len]
  rcases F.2 with ⟨rfl,rfl,rfl⟩|⟨b0,cap,sp,rfl,rfl,h1,h2,h3⟩
  ·have aj:cs=[]:=List.eq_nil_of_length_eq_zero (by simpa using F.1)
   subst aj
   by_cases hm:m=0
   ·subst hm
    have ai:ys=[]:=List.eq_nil_of_length_eq_zero (by simpa using hy)
    subst ai;refine ⟨.slice none 0 0,[]::segs',w,.inl ?_,by simpa using U,k _ _ (Own.nil E i.size)⟩;simp [execOp,resolve,invoke,builtin,Builtin.append_,run_underlying hT.und,sizeOf,typeInfo,hi,Builtin.lenOf,Builtin.firstCells,loadCells,loadCellsFrom,ha.eval hs,ha.eval hx]
   ·have O:=run_append_nil (P:=P) w T ty E i u hT.und hi hz ⟨b,off,none⟩ m c ys hy J aA aA (by simp only [Nat.zero_add] at hb;omega)
    refine ⟨.slice (some ⟨w.heap.size,0,none⟩) m (grownCap w m 0 E),[(w.heap.size,blk (ys++(Builtin.zeroCells u.cells (grownCap w m 0 E - m)).toList) E)]::segs',w.drew.alloc (.cells (ys.toArray++Builtin.zeroCells u.cells (grownCap w m 0 E - m)) E),.inl ?_,?_,k _ _ ⟨by simpa using hlen,.inr ⟨w.heap.size,grownCap w m 0 E,_,aN,rfl,by simpa using ab m 0,ac m 0 aA,?_⟩⟩⟩
    ·simp [execOp,resolve,invoke,builtin,ha.eval hs,ha.eval hx,O]
    ·have h4:=(U.drew (w.drawn+1) (Nat.le_succ _)).alloc (blk (ys++(Builtin.zeroCells u.cells (grownCap w m 0 E - m)).toList) E)
     have e:ys.toArray++Builtin.zeroCells u.cells (grownCap w m 0 E - m)=(ys++(Builtin.zeroCells u.cells (grownCap w m 0 E - m)).toList).toArray:=aN
     rw [e];exact h4
    ·simp [size_zeroCells,ae]
  ·by_cases Y:len+m≤cap
   ·have aa:=U.own b0 _ (by simp:(b0,blk (cs++sp) E)∈_)
    have al:ys.length≤sp.length:=by rw [hy,h3];exact Nat.mul_le_mul_right _ aA
    have O:=run_append_room (P:=P) w T ty E i hT.und hi b0 len cap (cs++sp).toArray aa ⟨b,off,none⟩ m c ys hy J Z Y (by rw [List.size_toArray,List.length_append,F.1];omega)
    refine ⟨.slice (some ⟨b0,0,none⟩) (len+m) cap,[(b0,blk ((cs++ys)++sp.drop ys.length) E)]::segs',w.setRow b0 ((cs++sp).toArray.toList.take (len*i.size)++ys++(cs++sp).toArray.toList.drop (len*i.size+ys.length)).toArray,.inl ?_,?_,k _ _ ⟨hlen,.inr ⟨b0,cap,_,rfl,rfl,Y,h2,?_⟩⟩⟩
    ·simp [execOp,resolve,invoke,builtin,ha.eval hs,ha.eval hx,O]
    ·have hl:((cs++sp).toArray.toList.take (len*i.size)++ys++(cs++sp).toArray.toList.drop (len*i.size+ys.length))=(cs++ys)++sp.drop ys.length:=by
      rw [← F.1];simp [List.drop_append]
     have h4:=run_setRow_Hp (cs' :=(cs++ys)++sp.drop ys.length) (r:=segs'.flatten) (by simpa using U)
     rw [hl]
     simpa using h4
    ·rw [List.length_drop,h3,hy,← Nat.sub_mul];congr 1;omega
   ·have ad:∀ j v,cs[j]? =some v→w.cell? ((⟨b0,0,none⟩:Addr).add j)=some v:=fun j v hj=>by
     rw [dG,U.cell (by simp:(b0,blk (cs++sp) E)∈_)];simp only [Nat.zero_add];rw [List.getElem?_append_left (List.getElem?_eq_some_iff.1 hj).1];exact hj
    have O:=run_append_grow (P:=P) w T ty E i u hT.und hi hz ⟨b0,0,none⟩ len cap cs F.1 ad ⟨b,off,none⟩ m c ys hy J aA aA (growslice_fits aA hb)
    refine ⟨.slice (some ⟨w.heap.size,0,none⟩) (len+m) (grownCap w (len+m) cap E),[(w.heap.size,blk ((cs++ys)++(Builtin.zeroCells u.cells (grownCap w (len+m) cap E - (len+m))).toList) E)]::segs',w.drew.alloc (.cells (cs.toArray++ys.toArray++Builtin.zeroCells u.cells (grownCap w (len+m) cap E - (len+m))) E),.inl ?_,?_,k _ _ ⟨hlen,.inr ⟨w.heap.size,grownCap w (len+m) cap E,_,rfl,rfl,ab _ _,ac _ _ ag,?_⟩⟩⟩
    ·simp [execOp,resolve,invoke,builtin,ha.eval hs,ha.eval hx,O]
    ·have ah:Hp S w0 segs'.flatten w:=by
      have h5:Hp S w0 (segs'.flatten++[(b0,blk (cs++sp) E)]) w:=U.perm (List.perm_append_comm)
      exact h5.left
     have h4:=(ah.drew (w.drawn+1) (Nat.le_succ _)).alloc (blk ((cs++ys)++(Builtin.zeroCells u.cells (grownCap w (len+m) cap E - (len+m))).toList) E)
     have e:cs.toArray++ys.toArray++Builtin.zeroCells u.cells (grownCap w (len+m) cap E - (len+m))=((cs++ys)++(Builtin.zeroCells u.cells (grownCap w (len+m) cap E - (len+m))).toList).toArray:=aN
     rw [e];exact h4
    ·simp [size_zeroCells,ae]
theorem dL {t:TypeId} {F:List (Nat×Nat)} {J cs:List Value} {parts:List (Nat×Operand)} {vs:List (Nat×Value)} (O:StT P t F J) (hv:evi env parts=some vs)
  (hf:Instr.fill (F.toArray[·]?) J.toArray vs=some cs.toArray):Pure P n S w0 env segs ⟨d,.build t parts.toArray,ty,pos,af,g⟩ (.agg cs.toArray):=
 fun a w ha _=>by
  have:=O vs cs.toArray w hf
  rw [← ha.evi hv] at this;simp only [execOp,List.map_toArray];simp [this]
end
end Go.Proofs.YthpkelafioikaaaGreat.Fly
