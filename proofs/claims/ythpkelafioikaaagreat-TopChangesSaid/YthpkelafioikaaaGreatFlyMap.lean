import Derived.Test.YthpkelafioikaaaGreatFlyMem
import Derived.MapKept
import Derived.ChangeKeysEq
import Derived.Laws.Strings
import Derived.Laws.Pointers
import Derived.Laws.Cover3
namespace Go.Proofs.YthpkelafioikaaaGreat.Fly
open Go Go.RowKit
set_option linter.unusedVariables false
set_option linter.unusedSectionVars false
set_option linter.unusedSimpArgs false
theorem eraseIdx_map' {α F:Type} (f:α→F):∀ (l:List α) (j:Nat),(l.map f).eraseIdx j=(l.eraseIdx j).map f
 |[],j=>aN
 |x::l,0=>rfl
 |x::l,j+1=>by simp [eraseIdx_map' f l j]
section
variable {α:Type} [DecidableEq α]
abbrev e7 (enc:α→Value) (l:List (α×Value×Nat)) (c:Nat):Obj:= .map (l.map fun x=>(⟨enc x.1,x.2.1,x.2.2⟩:MapEntry)).toArray c
def eR (l:List (α×Value×Nat)) (x:α):Option Value:=match l with
 |[]=>none
 |e::r=>if x=e.1 then some e.2.1 else eR r x
def fS (l:List (α×Value×Nat)) (x:α) (v:Value) (c:Nat):List (α×Value×Nat):=match l with
 |[]=>[(x,v,c)]
 |e::r=>if x=e.1 then (x,v,e.2.2)::r else e::fS r x v c
def mdel (l:List (α×Value×Nat)) (x:α):List (α×Value×Nat):=match l with
 |[]=>[]
 |e::r=>if x=e.1 then r else e::mdel r x
def fK (l:List (α×Value×Nat)) (x:α) (c:Nat):Nat:=if (eR l x).isSome then c else c+1
def jO (l:List (α×Value×Nat)) (x:α) (c:Nat):Nat:=match l with
 |[]=>c
 |e::r=>if x=e.1 then e.2.2 else jO r x c
def iB (l:List (α×Value×Nat)) (x:α) (i:Nat):Option (Nat×Value):=match l with
 |[]=>none
 |e::r=>if x=e.1 then some (i,e.2.1) else iB r x (i+1)
structure MOk (l:List (α×Value×Nat)) (c:Nat):Prop where
 old:∀ e∈l,e.2.2<c
 born:(l.map (·.2.2)).Nodup
 keys:(l.map (·.1)).Nodup
theorem MOk.nil:MOk ([]:List (α×Value×Nat)) 0:=⟨aN,aN,aN⟩
theorem jA (l:List (α×Value×Nat)) (x y:α) (v:Value) (c:Nat):eR (fS l x v c) y=if y=x then some v else eR l y:=by
 induction l with
 |nil=>simp [fS,eR]
 |cons e r ih=>
  simp only [fS]
  by_cases h:x=e.1
  ·rw [if_pos h]
   simp only [eR]
   by_cases hy:y=x
   ·rw [if_pos hy,if_pos hy]
   ·rw [if_neg hy,if_neg hy,if_neg (fun q=>hy (q.trans h.symm))]
  ·rw [if_neg h]
   simp only [eR,ih]
   by_cases hy:y=e.1
   ·have:¬ y=x:=fun q=>h (q.symm.trans hy)
    rw [if_pos hy,if_neg this,if_pos hy]
   ·rw [if_neg hy,if_neg hy]
theorem mget_none_of {l:List (α×Value×Nat)} {x:α} (h:x∉l.map (·.1)):eR l x=none:=by
 induction l with
 |nil=>rfl
 |cons e r ih=>
  simp only [List.map_cons,List.mem_cons,not_or] at h;simp only [eR,if_neg h.1];exact ih h.2
theorem mget_none {l:List (α×Value×Nat)} {x:α}:eR l x=none↔x∉l.map (·.1):=by
 refine ⟨fun h=>?_,mget_none_of⟩
 induction l with
 |nil=>simp
 |cons e r ih=>
  simp only [eR] at h
  by_cases hx:x=e.1
  ·rw [if_pos hx] at h;cases h
  ·rw [if_neg hx] at h;simp only [List.map_cons,List.mem_cons,not_or];exact ⟨hx,ih h⟩
theorem mget_del {l:List (α×Value×Nat)} (hn:(l.map (·.1)).Nodup) (x y:α):eR (mdel l x) y=if y=x then none else eR l y:=by
 induction l with
 |nil=>simp [mdel,eR]
 |cons e r ih=>
  simp only [List.map_cons,List.nodup_cons] at hn;simp only [mdel]
  by_cases h:x=e.1
  ·rw [if_pos h]
   by_cases hy:y=x
   ·rw [if_pos hy,hy,h];exact mget_none_of hn.1
   ·rw [if_neg hy];simp only [eR];rw [if_neg (fun q=>hy (q.trans h.symm))]
  ·rw [if_neg h]
   simp only [eR,ih hn.2]
   by_cases hy:y=e.1
   ·rw [if_pos hy,if_neg (fun q=>h (q.symm.trans hy)),if_pos hy]
   ·rw [if_neg hy,if_neg hy]
theorem mdel_sub {l:List (α×Value×Nat)} {x:α}:(mdel l x).Sublist l:=by
 induction l with
 |nil=>simp [mdel]
 |cons e r ih=>
  simp only [mdel];split
  ·exact List.sublist_cons_self _ _
  ·exact ih.cons_cons _
theorem mput_keys {l:List (α×Value×Nat)} {x:α} {v:Value} {c:Nat}:(fS l x v c).map (·.1)=if (eR l x).isSome then l.map (·.1) else l.map (·.1)++[x]:=by
 induction l with
 |nil=>simp [fS,eR]
 |cons e r ih=>
  by_cases h:x=e.1
  ·simp [fS,eR,h]
  ·simp only [fS,eR,if_neg h,List.map_cons,ih]
   split<;>simp
theorem mput_borns {l:List (α×Value×Nat)} {x:α} {v:Value} {c:Nat}:(fS l x v c).map (·.2.2)=if (eR l x).isSome then l.map (·.2.2) else l.map (·.2.2)++[c]:=by
 induction l with
 |nil=>simp [fS,eR]
 |cons e r ih=>
  by_cases h:x=e.1
  ·simp [fS,eR,h]
  ·simp only [fS,eR,if_neg h,List.map_cons,ih]
   split<;>simp
theorem MOk.put {l:List (α×Value×Nat)} {c:Nat} (h:MOk l c) (x:α) (v:Value):MOk (fS l x v c) (fK l x c):=by
 have hb:=mput_borns (l:=l) (x:=x) (v:=v) (c:=c)
 have hk:=mput_keys (l:=l) (x:=x) (v:=v) (c:=c)
 have F:∀ b∈l.map (·.2.2),b<c:=fun b hb=>by obtain ⟨e,he,rfl⟩:=List.mem_map.1 hb;exact h.old e he
 cases hg:eR l x with
 |some u=>
  simp only [hg,Option.isSome_some,if_true] at hb hk;refine ⟨fun e he=>?_,hb▸h.born,hk▸h.keys⟩;have:e.2.2∈(fS l x v c).map (·.2.2):=List.mem_map.2 ⟨e,he,rfl⟩
  rw [hb] at this;simp only [fK,hg,Option.isSome_some,if_true];exact F _ this
 |none=>
  simp only [hg,Option.isSome_none,Bool.false_eq_true,if_false] at hb hk;refine ⟨fun e he=>?_,?_,?_⟩
  ·have:e.2.2∈(fS l x v c).map (·.2.2):=List.mem_map.2 ⟨e,he,rfl⟩
   rw [hb] at this;simp only [fK,hg,Option.isSome_none,Bool.false_eq_true,if_false]
   rcases List.mem_append.1 this with q|q
   ·have:=F _ q;omega
   ·simp at q;omega
  ·rw [hb,List.nodup_append]
   exact ⟨h.born,aN,fun a ha b J e=>by simp at J;have:=F a ha;omega⟩
  ·rw [hk,List.nodup_append]
   exact ⟨h.keys,aN,fun a ha b J e=>by simp at J;subst J;subst e;exact mget_none.1 hg ha⟩
theorem MOk.del {l:List (α×Value×Nat)} {c:Nat} (h:MOk l c) (x:α):MOk (mdel l x) c:=
 ⟨fun e he=>h.old e (mdel_sub.subset he),(mdel_sub.map _).nodup h.born,(mdel_sub.map _).nodup h.keys⟩
structure KeyT (P:Program) (M k E:TypeId) (enc:α→Value):Prop where
 und:P.underlying M=some (.map k E)
 check:∀ e x w,(Instr.checkKey e 10000 k (enc x)).run P w= .ok () w
 equal:∀ x y w,(Op.equal k (enc x) (enc y)).run P w= .ok (decide (x=y)) w
 kind:∃ d,P.underlying k=some d∧∀ x y,Instr.sameNow d (enc x) (enc y)=none∨Instr.sameNow d (enc x) (enc y)=some (decide (x=y))
 bits:∀ x,Instr.sameBits 10000 (enc x) (enc x)=true
section
variable {P:Program} {M k E:TypeId} {enc:α→Value}
theorem run_findAsking (K:KeyT P M k E enc) (x:α) (w:World):∀ (l:List (α×Value×Nat)) (i:Nat),
  (Instr.findAsking k (enc x) (l.map fun x=>(⟨enc x.1,x.2.1,x.2.2⟩:MapEntry)) i).run P w= .ok (iB l x i) w
 |[],i=>by simp [Instr.findAsking,iB]
 |e::r,i=>by
  simp only [List.map_cons,Instr.findAsking,Sem.run_bind,K.equal,Result.andThen_ok,iB]
  by_cases h:x=e.1
  ·simp [h]
  ·simp [h,run_findAsking K x w r (i+1)]
theorem findNow_eq {d:TypeDesc} {x:α} (hd:∀ y:α,Instr.sameNow d (enc x) (enc y)=none∨Instr.sameNow d (enc x) (enc y)=some (decide (x=y))):∀ (l:List (α×Value×Nat)) (i:Nat),
  Instr.findNow d (enc x) (l.map fun x=>(⟨enc x.1,x.2.1,x.2.2⟩:MapEntry)) i=none∨Instr.findNow d (enc x) (l.map fun x=>(⟨enc x.1,x.2.1,x.2.2⟩:MapEntry)) i=some (iB l x i)
 |[],i=> .inr rfl
 |e::r,i=>by
  simp only [List.map_cons,Instr.findNow,iB]
  rcases hd e.1 with h|h
  ·left;rw [h]
  ·rw [h]
   by_cases hx:x=e.1
   ·right;simp [hx]
   ·simp only [hx,decide_false,if_false]
    exact findNow_eq hd r (i+1)
theorem lY (K:KeyT P M k E enc) (x:α) (l:List (α×Value×Nat)) (w:World):
  (Instr.findKey k (enc x) (l.map fun x=>(⟨enc x.1,x.2.1,x.2.2⟩:MapEntry))).run P w= .ok (iB l x 0) w:=by
 obtain ⟨d,hd,hs⟩:=K.kind
 simp only [Instr.findKey,Sem.run_bind,run_underlying hd,Result.andThen_ok]
 rcases findNow_eq (hs x) l 0 with h|h
 ·rw [h];exact run_findAsking K x w l 0
 ·rw [h];simp
theorem mfind_get (l:List (α×Value×Nat)) (x:α):∀ i,(iB l x i).map (·.2)=eR l x:=by
 induction l with
 |nil=>intro i;rfl
 |cons e r ih=>intro i;simp only [iB,eR];split<;>simp [ih]
theorem mfind_at {l:List (α×Value×Nat)} {x:α}:∀ {i j:Nat} {v:Value},iB l x i=some (j,v)→∃ q,j=i+q∧∃ b,l[q]? =some (x,v,b)∧jO l x 0=b∧∀ c,jO l x c=b:=by
 induction l with
 |nil=>intro i j v h;cases h
 |cons e r ih=>
  intro i j v h;simp only [iB] at h
  by_cases hx:x=e.1
  ·rw [if_pos hx] at h;cases h
   refine ⟨0,rfl,e.2.2,by simp [hx],?_,fun c=>?_⟩<;>simp [jO,hx]
  ·rw [if_neg hx] at h
   obtain ⟨q,rfl,b,h1,h2,h3⟩:=ih h
   exact ⟨q+1,aA,b,by simpa using h1,by simp [jO,hx,h2],fun c=>by simp [jO,hx,h3]⟩
theorem mput_modify {l:List (α×Value×Nat)} {x:α} {u:Value} (v:Value) (c:Nat):∀ {i j:Nat},iB l x i=some (j,u)→(l.map fun x=>(⟨enc x.1,x.2.1,x.2.2⟩:MapEntry)).modify (j - i) (fun e=>{ e with key:=enc x,val:=v })=(fS l x v c).map fun x=>(⟨enc x.1,x.2.1,x.2.2⟩:MapEntry):=by
 induction l with
 |nil=>intro i j h;cases h
 |cons e r ih=>
  intro i j h;simp only [iB] at h
  by_cases hx:x=e.1
  ·rw [if_pos hx] at h;cases h;simp [fS,hx]
  ·rw [if_neg hx] at h
   have ⟨q,hq,_⟩:=mfind_at h
   have:=ih h
   simp only [fS,if_neg hx,List.map_cons];rw [show j - i=(j - (i+1))+1 from by omega]
   simpa using this
theorem mput_push {l:List (α×Value×Nat)} {x:α} (v:Value) (c:Nat):∀ {i:Nat},iB l x i=none→fS l x v c=l++[(x,v,c)]:=by
 induction l with
 |nil=>intro i _;rfl
 |cons e r ih=>
  intro i h;simp only [iB] at h
  by_cases hx:x=e.1
  ·rw [if_pos hx] at h;cases h
  ·rw [if_neg hx] at h;simp [fS,hx,ih h]
theorem mdel_erase {l:List (α×Value×Nat)} {x:α} {u:Value}:∀ {i j:Nat},iB l x i=some (j,u)→l.eraseIdx (j - i)=mdel l x:=by
 induction l with
 |nil=>intro i j h;cases h
 |cons e r ih=>
  intro i j h;simp only [iB] at h
  by_cases hx:x=e.1
  ·rw [if_pos hx] at h;cases h;simp [mdel,hx]
  ·rw [if_neg hx] at h
   have ⟨q,hq,_⟩:=mfind_at h
   have:=ih h
   simp only [mdel,if_neg hx];rw [show j - i=(j - (i+1))+1 from by omega]
   simpa using this
theorem mdel_none {l:List (α×Value×Nat)} {x:α}:∀ {i:Nat},iB l x i=none→mdel l x=l:=by
 induction l with
 |nil=>intro i _;rfl
 |cons e r ih=>
  intro i h;simp only [iB] at h
  by_cases hx:x=e.1
  ·rw [if_pos hx] at h;cases h
  ·rw [if_neg hx] at h;simp [mdel,hx,ih h]
theorem mfind_isSome (l:List (α×Value×Nat)) (x:α) (i:Nat):(iB l x i).isSome=(eR l x).isSome:=by
 have:=mfind_get l x i
 rw [← this];cases iB l x i<;>rfl
end
end
theorem Hp.putMap {S:Nat→Prop} {w0 w:World} {l r:Seg} {b:Nat} {o o' :Obj} (h:Hp S w0 (l++(b,o)::r) w):Hp S w0 (l++(b,o')::r) { w with heap:=w.heap.setIfInBounds b o' }:=by
 have hlt:=h.key_lt (b:=b) (o:=o) aN
 refine h.put rfl rfl rfl aN (Nat.le_refl _) ?_ (fun k hk=>?_)
 ·simp [hlt]
 ·simp only;rw [Array.getElem?_setIfInBounds_ne (fun e=>hk e.symm)]
section
variable {P:Program} {n:Nat} {S:Nat→Prop} {w0:World} {env:Env} {segs segs' :List Seg} {K:Value→List Seg→Prop} {d:Option Tmp} {ty:TypeId} {pos:String} {af:Array Edge} {g:Option (Nat×Bool)}
variable {α:Type} [DecidableEq α] {M k E:TypeId} {enc:α→Value}
theorem iU {T:TypeId} (F:∀ b,K (.map (some b)) ([(b,.map #[] 0)]::segs)):Does P n S w0 env segs ⟨d,.makeMap T none,ty,pos,af,g⟩ K:=
 gP fun a w ha hp=>⟨_,_,w.alloc (.map #[] 0),.inl (by simp [execOp,Instr.makeMap]),by simpa using hp.alloc (.map #[] 0),F w.heap.size⟩
theorem iK {w:World} {b:Nat} {es:Array MapEntry} {c:Nat} (h:w.heap[b]? =some (.map es c)):(getObj b).run P w= .ok (.map es c) w:=by simp [getObj,Sem.run,h]
theorem gX {w:World} {b:Nat} {es:Array MapEntry} {c:Nat} (o:Obj) (h:w.heap[b]? =some (.map es c)):(setObj b o).run P w= .ok () { w with heap:=w.heap.setIfInBounds b o }:=by simp [setObj,Sem.run,h]
theorem fD {x y:Operand} {b:Nat} {u z:Value} {key:α} {l:List (α×Value×Nat)} {c:Nat} {f:Seg→List Seg} (F:KeyT P M k E enc) (hz:∀ w,(zeroValue E).run P w= .ok z w) (hx:ev env x=some (.map (some b)))
  (hy:ev env y=some u) (J:u=enc key) [hA:At segs b (e7 enc l c) f] (v:Value) (hv:(eR l key).getD z=v):Pure P n S w0 env segs ⟨d,.lookup M x y false,ty,pos,af,g⟩ v:=
 fun a w ha hp=>by
  subst J;have hb:=hp.own b _ hA.mem
  simp only [execOp,Instr.lookup,Sem.run_bind,run_underlying F.und,Result.andThen_ok,ha.eval hx,ha.eval hy,iK hb,F.check,lY F,Sem.run_pure];have:=mfind_get l key 0
  cases hf:iB l key 0 with
  |none=>rw [hf] at this;simp only [Option.map_none] at this;rw [← this] at hv;simp at hv;subst hv;simp [hz]
  |some p=>rw [hf] at this;simp only [Option.map_some] at this;rw [← this] at hv;simp at hv;subst hv;simp
theorem o_lookup2 {x y:Operand} {b:Nat} {u z:Value} {key:α} {l:List (α×Value×Nat)} {c:Nat} {f:Seg→List Seg} (F:KeyT P M k E enc) (hz:∀ w,(zeroValue E).run P w= .ok z w) (hx:ev env x=some (.map (some b)))
  (hy:ev env y=some u) (J:u=enc key) [hA:At segs b (e7 enc l c) f] (v:Value) (hv:(eR l key).getD z=v) (ok:Bool) (hok:(eR l key).isSome=ok):Pure P n S w0 env segs ⟨d,.lookup M x y true,ty,pos,af,g⟩ (.tuple #[v,.bool ok]):=
 fun a w ha hp=>by
  subst J;have hb:=hp.own b _ hA.mem
  simp only [execOp,Instr.lookup,Sem.run_bind,run_underlying F.und,Result.andThen_ok,ha.eval hx,ha.eval hy,iK hb,F.check,lY F,Sem.run_pure];have:=mfind_get l key 0
  cases hf:iB l key 0 with
  |none=>rw [hf] at this;simp only [Option.map_none] at this;rw [← this] at hv hok;simp at hv hok;subst hv;subst hok;simp [hz]
  |some p=>rw [hf] at this;simp only [Option.map_some] at this;rw [← this] at hv hok;simp at hv hok;subst hv;subst hok;simp
theorem run_stays (F:KeyT P M k E enc) {l:List (α×Value×Nat)} {key:α} {j:Nat} {u:Value} (h:iB l key 0=some (j,u)) (w:World):
  (Instr.keyThatStays ((((l.map fun x=>(⟨enc x.1,x.2.1,x.2.2⟩:MapEntry)).toArray[j]?).map (·.key)).getD (enc key)) (enc key)).run P w= .ok (enc key) w:=by
 obtain ⟨q,hq,b,h1,_⟩:=mfind_at h
 obtain rfl:j=q:=aA
 have:(l.map fun x=>(⟨enc x.1,x.2.1,x.2.2⟩:MapEntry)).toArray[j]? =some ⟨enc key,u,b⟩:=by simp [h1]
 rw [this];simp [Instr.keyThatStays,F.bits]
theorem mapUpdate_run (F:KeyT P M k E enc) {b:Nat} {key:α} {v:Value} {l:List (α×Value×Nat)} {c:Nat} {w:World} (hb:w.heap[b]? =some (e7 enc l c)):
  (Instr.mapUpdate M (.map (some b)) (enc key) v).run P w= .ok () { w with heap:=w.heap.setIfInBounds b (e7 enc (fS l key v c) (fK l key c)) }:=by
 simp only [Instr.mapUpdate,Sem.run_bind,run_underlying F.und,Result.andThen_ok,iK hb,F.check,lY F]
 cases hf:iB l key 0 with
 |none=>
  have h1:(eR l key).isSome=false:=by rw [← mfind_isSome l key 0,hf];rfl
  simp only [gX _ hb,mput_push v c hf,fK,h1];simp [e7]
 |some p=>
  obtain ⟨j,u⟩:=p
  have h1:(eR l key).isSome=true:=by rw [← mfind_isSome l key 0,hf];rfl
  simp only [Sem.run_bind,run_stays F hf,Result.andThen_ok,gX _ hb,fK,h1,if_true];have:=mput_modify (enc:=enc) v c hf
  simp only [Nat.sub_zero] at this;simp [e7,← this]
theorem e8 {x y q:Operand} {b:Nat} {u v:Value} {key:α} {l:List (α×Value×Nat)} {c:Nat} {f:Seg→List Seg} (J:KeyT P M k E enc) (hx:ev env x=some (.map (some b))) (hy:ev env y=some u) (hq:ev env q=some v)
  (F:u=enc key) [hA:At segs b (e7 enc l c) f] (O:K undef (f [(b,e7 enc (fS l key v c) (fK l key c))])):Does P n S w0 env segs ⟨d,.mapUpdate M x y q,ty,pos,af,g⟩ K:=
 gP fun a w ha hp=>by
  subst F;have hb:=hp.own b _ hA.mem
  obtain ⟨L,R,e1,e2⟩:=hA.flat
  refine ⟨undef,_,{ w with heap:=w.heap.setIfInBounds b (e7 enc (fS l key v c) (fK l key c)) },.inr ⟨rfl,?_⟩,?_,O⟩
  ·simp only [execOp,ha.eval hx,ha.eval hy,ha.eval hq,Sem.run_bind,mapUpdate_run J hb,Result.andThen_ok,Sem.run_pure]
  ·rw [e2];rw [e1] at hp;exact hp.putMap
def nX (l:List (α×Value×Nat)) (x:α) (z:Value) (c:Nat):List (α×Value×Nat):=if (eR l x).isSome then l else l++[(x,z,c)]
theorem qJ {x y:Operand} {b:Nat} {u z:Value} {key:α} {l:List (α×Value×Nat)} {c:Nat} {f:Seg→List Seg} (F:KeyT P M k E enc) (hz:∀ w,(zeroValue E).run P w= .ok z w) (hx:ev env x=some (.map (some b)))
  (hy:ev env y=some u) (U:u=enc key) [hA:At segs b (e7 enc l c) f] (v:Value) (hv:(eR l key).getD z=v)
  (X:K (.tuple #[v,.int .i64 (jO l key c:Int)]) (f [(b,e7 enc (nX l key z c) (fK l key c))])):Does P n S w0 env segs ⟨d,.mapEntry M x y,ty,pos,af,g⟩ K:=
 gP fun a w ha hp=>by
  subst U;have hb:=hp.own b _ hA.mem
  obtain ⟨L,R,e1,e2⟩:=hA.flat
  refine ⟨_,_,{ w with heap:=w.heap.setIfInBounds b (e7 enc (nX l key z c) (fK l key c)) },.inl ?_,?_,X⟩
  ·simp only [execOp,Instr.mapEntry,Sem.run_bind,run_underlying F.und,Result.andThen_ok,ha.eval hx,ha.eval hy,iK hb,F.check,lY F]
   have hg:=mfind_get l key 0
   have J:∀ (l:List (α×Value×Nat)) (i:Nat),iB l key i=none→jO l key c=c:=by
    intro l
    induction l with
    |nil=>intro i _;rfl
    |cons e r ih=>intro i h;simp only [iB] at h;split at h;cases h;rename_i hne;simp only [jO,if_neg hne];exact ih _ h
   cases hf:iB l key 0 with
   |none=>
    rw [hf] at hg;simp only [Option.map_none] at hg;have h1:(eR l key).isSome=false:=by rw [← hg];rfl
    rw [← hg] at hv;simp at hv;subst hv;simp only [hz,Sem.run_bind,Result.andThen_ok,gX _ hb,fK,nX,h1,J l 0 hf];simp [goInt,e7]
   |some p=>
    obtain ⟨j,u⟩:=p
    rw [hf] at hg;simp only [Option.map_some] at hg;have h1:(eR l key).isSome=true:=by rw [← hg];rfl
    rw [← hg] at hv;simp at hv;subst hv;obtain ⟨q,hq,bb,h2,_,h3⟩:=mfind_at hf
    obtain rfl:j=q:=aA
    simp only [Sem.run_bind,run_stays F hf,Result.andThen_ok,gX _ hb,fK,nX,h1,if_true,h3]
    have e:(l.map fun x=>(⟨enc x.1,x.2.1,x.2.2⟩:MapEntry)).toArray.modify j (fun e=>{ e with key:=enc key })=(l.map fun x=>(⟨enc x.1,x.2.1,x.2.2⟩:MapEntry)).toArray:=by
     apply Array.ext_getElem?;intro i;rw [Array.getElem?_modify]
     split
     ·rename_i O;subst O;simp [h2]
     ·rfl
    rw [e];simp [goInt,h2]
  ·rw [e2];rw [e1] at hp;exact hp.putMap
theorem mput_entry {l:List (α×Value×Nat)} {c:Nat} (ho:MOk l c) (x:α) (z v:Value):
  (((nX l x z c).map fun x=>(⟨enc x.1,x.2.1,x.2.2⟩:MapEntry)).toArray.findIdx? (fun e=>(e.born:Int)==(jO l x c:Int))).map (fun i=>((nX l x z c).map fun x=>(⟨enc x.1,x.2.1,x.2.2⟩:MapEntry)).toArray.modify i fun e=>{ e with val:=v })=
   some ((fS l x v c).map fun x=>(⟨enc x.1,x.2.1,x.2.2⟩:MapEntry)).toArray:=by
 have O:∀ u,eR l x=some u→∀ j w,iB l x 0=some (j,w)→True:=fun _ _ _ _ _=>trivial
 have key:∀ (r:List (α×Value×Nat)),(∀ e∈r,e.2.2<c)→(r.map (·.2.2)).Nodup→
   (((nX r x z c).map fun x=>(⟨enc x.1,x.2.1,x.2.2⟩:MapEntry)).findIdx? (fun e=>(e.born:Int)==(jO r x c:Int))).map (fun i=>((nX r x z c).map fun x=>(⟨enc x.1,x.2.1,x.2.2⟩:MapEntry)).modify i fun e=>{ e with val:=v })=
   some ((fS r x v c).map fun x=>(⟨enc x.1,x.2.1,x.2.2⟩:MapEntry)):=by
  intro r
  induction r with
  |nil=>intro _ _;simp [nX,eR,jO,fS]
  |cons e r ih=>
   intro h1 h2;simp only [List.map_cons,List.nodup_cons] at h2;have F:=ih (fun e he=>h1 e (by simp [he])) h2.2
   by_cases hx:x=e.1
   ·have hm:nX (e::r) x z c=e::r:=by simp [nX,eR,hx]
    rw [hm];simp [jO,fS,hx,List.findIdx?_cons]
   ·have hm:nX (e::r) x z c=e::nX r x z c:=by simp only [nX,eR,if_neg hx];split<;>simp
    have J:jO r x c=c∨jO r x c∈r.map (·.2.2):=by
     clear ih F h1 h2 hm
     induction r with
     |nil=>exact .inl rfl
     |cons e' r ih=>
      simp only [jO]
      split
      ·right;simp
      ·rcases ih with h|h
       ·exact .inl h
       ·right;simp only [List.map_cons,List.mem_cons];exact .inr h
    have hne:¬ ((e.2.2:Int)==(jO r x c:Int))=true:=by
     intro he;have U:e.2.2=jO r x c:=by simp at he;omega
     have:=h1 e aN
     rcases J with h|h
     ·omega
     ·exact h2.1 (U▸h)
    rw [hm];simp only [List.map_cons,jO,if_neg hx,fS,List.findIdx?_cons,hne];have:((false:Bool)=true)=False:=aN
    simp only [Bool.false_eq_true,if_false,Option.map_map]
    revert F
    cases List.findIdx? (fun e=>(e.born:Int)==(jO r x c:Int)) ((nX r x z c).map fun x=>(⟨enc x.1,x.2.1,x.2.2⟩:MapEntry)) with
    |none=>intro F;simp at F
    |some i=>intro F;simp at F ⊢;exact F
 have:=key l ho.old ho.born
 simp only [List.findIdx?_toArray,List.modify_toArray]
 revert this
 cases List.findIdx? (fun e=>(e.born:Int)==(jO l x c:Int)) ((nX l x z c).map fun x=>(⟨enc x.1,x.2.1,x.2.2⟩:MapEntry)) with
 |none=>intro h;simp at h
 |some i=>intro h;simp at h ⊢;exact h
theorem entryStore_run {es:Array MapEntry} {c b:Nat} {w:World} {F:Int} {v:Value} {i:Nat} (hb:w.heap[b]? =some (.map es c)) (hf:es.findIdx? (fun e=>(e.born:Int)==F)=some i):
  (Instr.entryStore M (.map (some b)) (.int .i64 F) v).run P w= .ok () { w with heap:=w.heap.setIfInBounds b (.map (es.modify i fun e=>{ e with val:=v }) c) }:=by
 simp [Instr.entryStore,iK hb,asInt,asIntOf,hf,gX _ hb]
theorem mT {x y q:Operand} {b:Nat} {v z:Value} {key:α} {l:List (α×Value×Nat)} {c c' :Nat} {f:Seg→List Seg} (ho:MOk l c) (hx:ev env x=some (.map (some b))) (hy:ev env y=some (.int .i64 (jO l key c:Int))) (hq:ev env q=some v)
  [hA:At segs b (e7 enc (nX l key z c) c') f] (F:K undef (f [(b,e7 enc (fS l key v c) c')])):Does P n S w0 env segs ⟨d,.entryStore M x y q,ty,pos,af,g⟩ K:=
 gP fun a w ha hp=>by
  have hb:=hp.own b _ hA.mem
  obtain ⟨L,R,e1,e2⟩:=hA.flat
  refine ⟨undef,_,{ w with heap:=w.heap.setIfInBounds b (e7 enc (fS l key v c) c') },.inr ⟨rfl,?_⟩,?_,F⟩
  ·have h:=mput_entry (enc:=enc) ho key z v
   cases hf:((nX l key z c).map fun x=>(⟨enc x.1,x.2.1,x.2.2⟩:MapEntry)).toArray.findIdx? (fun e=>(e.born:Int)==(jO l key c:Int)) with
   |none=>rw [hf] at h;simp at h
   |some i=>
    rw [hf] at h;simp only [Option.map_some,Option.some.injEq] at h;simp only [execOp,ha.eval hx,ha.eval hy,ha.eval hq,Sem.run_bind,entryStore_run hb hf,h,Result.andThen_ok,Sem.run_pure]
  ·rw [e2];rw [e1] at hp;exact hp.putMap
theorem o_delete {x y:Operand} {b:Nat} {u:Value} {key:α} {l:List (α×Value×Nat)} {c:Nat} {f:Seg→List Seg} (F:KeyT P M k E enc) (hx:ev env x=some (.map (some b))) (hy:ev env y=some u) (J:u=enc key)
  [hA:At segs b (e7 enc l c) f] (O:K (.tuple #[]) (f [(b,e7 enc (mdel l key) c)])):Does P n S w0 env segs ⟨d,.call ⟨.builtin .delete,#[x,y],#[M,k]⟩,ty,pos,af,g⟩ K:=
 gP fun a w ha hp=>by
  subst J;have hb:=hp.own b _ hA.mem
  obtain ⟨L,R,e1,e2⟩:=hA.flat
  refine ⟨.tuple #[],_,{ w with heap:=w.heap.setIfInBounds b (e7 enc (mdel l key) c) },.inl ?_,?_,O⟩
  ·simp only [execOp,resolve,invoke,builtin,Builtin.delete_,Sem.run_bind,Sem.run_pure,Result.andThen_ok,List.map_toArray,List.map_cons,List.map_nil,ha.eval hx,ha.eval hy]
   simp only [List.getElem?_toArray,List.getElem?_cons_zero,List.getElem?_cons_succ,Sem.run_bind,run_underlying F.und,Result.andThen_ok,iK hb,F.check,lY F]
   cases hf:iB l key 0 with
   |none=>simp [gX _ hb,mdel_none hf]
   |some p=>
    obtain ⟨j,u⟩:=p
    have h:=mdel_erase hf
    obtain ⟨q,hq,bb,h2,_⟩:=mfind_at hf
    obtain rfl:j=q:=aA
    have hlt:j<l.length:=(List.getElem?_eq_some_iff.1 h2).1
    simp only [Nat.sub_zero] at h
    have e:(l.map fun x=>(⟨enc x.1,x.2.1,x.2.2⟩:MapEntry)).toArray.eraseIdxIfInBounds j=((mdel l key).map fun x=>(⟨enc x.1,x.2.1,x.2.2⟩:MapEntry)).toArray:=by
     rw [← h,Array.eraseIdxIfInBounds];simp [hlt,eraseIdx_map']
    simp only [gX _ hb,e,Sem.run_bind,Result.andThen_ok];simp
  ·rw [e2];rw [e1] at hp;exact hp.putMap
theorem o_lenM {T k E:TypeId} {x:Operand} {b:Nat} {l:List (α×Value×Nat)} {c:Nat} {f:Seg→List Seg} (F:P.underlying T=some (.map k E)) (hx:ev env x=some (.map (some b))) [hA:At segs b (e7 enc l c) f]:
  Pure P n S w0 env segs ⟨d,.call ⟨.builtin .len,#[x],#[T]⟩,ty,pos,af,g⟩ (.int .i64 l.length):=
 fun a w ha hp=>by
  have hb:=hp.own b _ hA.mem
  simp [execOp,resolve,invoke,builtin,Builtin.len_,ha.eval hx,run_underlying F,goInt,iK hb]
end
structure ArT (P:Program) (T len E sz:Nat) (zs:List Value):Prop where
 und:∀ w,(underlying T).run P w= .ok (.array len E) w
 size:∀ w,(sizeOf E).run P w= .ok sz w
 zero:∃ v,(∀ w,(zeroValue T).run P w= .ok v w)∧v.cells=zs.toArray
section
variable {P:Program} {n:Nat} {S:Nat→Prop} {w0:World} {env:Env} {segs segs' :List Seg} {K:Value→List Seg→Prop} {d:Option Tmp} {ty:TypeId} {pos:String} {af:Array Edge} {g:Option (Nat×Bool)}
theorem o_buildA {t len E sz:Nat} {J cs:List Value} {parts:List (Nat×Operand)} {vs:List (Nat×Value)} (F:ArT P t len E sz J) (hv:evi env parts=some vs)
  (hf:Instr.fill (fun i=>some (i*sz,sz)) J.toArray vs=some cs.toArray):Pure P n S w0 env segs ⟨d,.build t parts.toArray,ty,pos,af,g⟩ (.agg cs.toArray):=
 fun a w ha _=>by
  obtain ⟨z,hz,hc⟩:=F.zero
  have hm:(Array.map (fun x=>match x with|(i,x)=>(i,a.eval x)) parts.toArray).toList=vs:=by
   rw [← ha.evi hv];simp
  simp only [execOp,Instr.build,Sem.run_bind,hz,Result.andThen_ok,F.und,F.size,hc,hm,hf,Sem.run_pure]
theorem o_idxA {T len E sz:Nat} {J:List Value} {x y:Operand} {b off:Nat} {U:IntKind} {j:Int} (F:ArT P T len E sz J) (hx:ev env x=some (.pointer (some ⟨b,off,none⟩))) (hy:ev env y=some (.int U j))
  (i:Nat) (hj:0≤j∧j<len∧off+j.toNat*sz=i):Pure P n S w0 env segs ⟨d,.indexAddr T x y,ty,pos,af,g⟩ (.pointer (some ⟨b,i,none⟩)):=
 fun a w ha _=>by
  obtain ⟨O,h1,rfl⟩:=hj
  simp [execOp,Instr.indexAt,Instr.sureAddr,ha.eval hx,ha.eval hy,F.und,F.size,asIntOf,O,h1,dG]
theorem o_eqlSl {T F e:TypeId} {x y:Operand} {A:Option Addr} {len cap:Nat} (J:P.underlying T=some (.slice e)) (hx:ev env x=some (.slice A len cap)) (hy:ev env y=some (.slice none 0 0)):
  Pure P n S w0 env segs ⟨d,.binOp .eql T x y F,ty,pos,af,g⟩ (.bool A.isNone):=
 fun a w ha _=>by simp [execOp,eqGuard,binOp,ha.eval hx,ha.eval hy,run_equal_slice_nil w T e A len cap J]
end
theorem bits1' (n:Nat) (x:Int):Instr.sameBits (n+1) (.int .i64 x) (.int .i64 x)=true:=by simp [Instr.sameBits]
theorem keyInt {P:Program} {M k E:TypeId} (F:P.underlying M=some (.map k E)) (hk:P.underlying k=some (.int .i64)):KeyT P M k E (fun x:Int=> .int .i64 x) where
 und:=F
 check:=fun e x w=>by
  have key:∀ n,(Instr.checkKey e (n+1) k (.int .i64 x)).run P w= .ok () w:=fun n=>by simp [Instr.checkKey,run_underlying hk]
  exact key 9999
 equal:=fun x y w=>by
  have:=run_equalIn_int (P:=P) w 9999 k .i64 .i64 x y hk
  simp only [Op.equal,Op.maxDepth];rw [this];by_cases h:x=y<;>simp [h]
 kind:=⟨_,hk,fun x y=> .inr (by by_cases h:x=y<;>simp [Instr.sameNow,h])⟩
 bits:=fun x=>bits1' 9999 x
def oS (x:Int×Int):Value:= .agg #[.int .i64 x.1,.int .i64 x.2]
theorem bits2' (n:Nat) (x:Int×Int):Instr.sameBits (n+2) (oS x) (oS x)=true:=by simp [Instr.sameBits,oS]
theorem bits2 (x:Int×Int):Instr.sameBits 10000 (oS x) (oS x)=true:=bits2' 9998 x
theorem keyArr2 {P:Program} {M k E e:TypeId} {i:TypeInfo} (J:P.underlying M=some (.map k E)) (hk:P.underlying k=some (.array 2 e)) (he:P.underlying e=some (.int .i64)) (hi:P.info? e=some i) (hc:P.cellsOf e=1):
  KeyT P M k E oS where
 und:=J
 check:=fun F x w=>by
  have hs:∀ w,(sizeOf e).run P w= .ok 1 w:=fun w=>by rw [run_sizeOf w hi,hc]
  have ha:∀ w,(isAgg e).run P w= .ok false w:=fun w=>by simp [isAgg,run_underlying he]
  have key:∀ n,(Instr.checkKey F (n+2) k (oS x)).run P w= .ok () w:=fun n=>by
   simp [Instr.checkKey,oS,run_underlying hk,run_underlying he,Std.Legacy.Range.forIn_eq_forIn_range',Std.Legacy.Range.size,List.range',hs,part,ha]
  exact key 9998
 equal:=fun x y w=>by
  have ha:∀ w,(isAgg e).run P w= .ok false w:=fun w=>by simp [isAgg,run_underlying he]
  have:=fun (p q:Int) w=>run_equalIn_int (P:=P) w 9998 e .i64 .i64 p q he
  simp only [Op.equal,Op.maxDepth,oS];rw [run_equalIn_array (P:=P) (w:=w) 9999 _ _ hk hi,hc];simp only [show List.range 2=[0,1] from rfl,Op.eqItems,part,Sem.run_bind,ha,Result.andThen_ok,this];obtain ⟨a,b⟩:=x
  obtain ⟨c,d⟩:=y
  by_cases h1:a=c<;>by_cases h2:b=d<;>simp [h1,h2,part,ha,this]
 kind:=⟨_,hk,fun x y=> .inl (by simp [Instr.sameNow,oS])⟩
 bits:=bits2
theorem keyStr2 {P : Program} {M k E : TypeId} {f0 f1 : Field} (hM : P.underlying M = some (.map k E)) (hk : P.underlying k = some (.struct #[f0, f1])) (hp : P.stoodInHeld k = false) (n0 : f0.name ≠ "_") (n1 : f1.name ≠ "_") (o0 : f0.offset = 0) (o1 : f1.offset = 1)
  (h0:P.underlying f0.type=some (.int .i64)) (h1:P.underlying f1.type=some (.int .i64)):KeyT P M k E oS where
 und:=hM
 check:=fun em x w=>by
  have ha:∀ w,(isAgg f0.type).run P w= .ok false w:=fun w=>by simp [isAgg,run_underlying h0]
  have hb:∀ w,(isAgg f1.type).run P w= .ok false w:=fun w=>by simp [isAgg,run_underlying h1]
  have key:∀ n,(Instr.checkKey em (n+2) k (oS x)).run P w= .ok () w:=fun n=>by
   simp [Instr.checkKey,oS,run_underlying hk,n0,n1,o0,o1,part,ha,hb,run_underlying h0,run_underlying h1]
  exact key 9998
 equal:=fun x y w=>by
  have ha:∀ w,(isAgg f0.type).run P w= .ok false w:=fun w=>by simp [isAgg,run_underlying h0]
  have hb:∀ w,(isAgg f1.type).run P w= .ok false w:=fun w=>by simp [isAgg,run_underlying h1]
  have e0:=fun (p q:Int) w=>run_equalIn_int (P:=P) w 9998 f0.type .i64 .i64 p q h0
  have e1:=fun (p q:Int) w=>run_equalIn_int (P:=P) w 9998 f1.type .i64 .i64 p q h1
  have hf:P.fieldsOf k= #[f0,f1]:=by simp [Program.fieldsOf,hk]
  simp only [Op.equal,Op.maxDepth,oS];rw [run_equalIn_struct (P:=P) w 9999 k _ _ (by rw [hf];exact hk) hp,hf];obtain ⟨a,b⟩:=x
  obtain ⟨c,d⟩:=y
  simp only [Op.eqFields,part,Sem.run_bind,Sem.run_ite,ha,hb,n0,n1,o0,o1,Result.andThen_ok,Sem.run_pure,ne_eq,Bool.false_eq_true,if_false,not_false_eq_true,if_true]
  by_cases h1:a=c<;>by_cases h2:b=d<;>simp [h1,h2,e0,e1,part,n1,ha,hb]
 kind:=⟨_,hk,fun x y=> .inl (by simp [Instr.sameNow,oS])⟩
 bits:=bits2
end Go.Proofs.YthpkelafioikaaaGreat.Fly
