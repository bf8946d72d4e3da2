import Derived.Test.YthpkelafioikaaaGreatFlyMem
import Derived.MapKept
import Derived.ChangeKeysEq
import Derived.Laws.Strings
import Derived.Laws.Pointers
import Derived.Laws.Cover3
namespace Go.Proofs.YthpkelafioikaaaGreat.Fly
open Go Go.RowKit
set_option linter.unusedVariables false
set_option linter.unusedSectionVars false
set_option linter.unusedSimpArgs false
theorem eraseIdx_map' {α F:Type} (f:α→F):∀ (l:List α) (j:Nat),(l.map f).eraseIdx j=(l.eraseIdx j).map f
 |[],j=>aO
 |x::l,0=>rfl
 |x::l,j+1=>by simp [eraseIdx_map' f l j]
section
variable {α:Type} [DecidableEq α]
abbrev e9 (enc:α→Value) (l:List (α×Value×Nat)) (c:Nat):Obj:= .map (l.map fun x=>(⟨enc x.1,x.2.1,x.2.2⟩:MapEntry)).toArray c
def eS (l:List (α×Value×Nat)) (x:α):Option Value:=match l with
 |[]=>none
 |e::r=>if x=e.1 then some e.2.1 else eS r x
def fW (l:List (α×Value×Nat)) (x:α) (v:Value) (c:Nat):List (α×Value×Nat):=match l with
 |[]=>[(x,v,c)]
 |e::r=>if x=e.1 then (x,v,e.2.2)::r else e::fW r x v c
def mdel (l:List (α×Value×Nat)) (x:α):List (α×Value×Nat):=match l with
 |[]=>[]
 |e::r=>if x=e.1 then r else e::mdel r x
def fM (l:List (α×Value×Nat)) (x:α) (c:Nat):Nat:=if (eS l x).isSome then c else c+1
def jU (l:List (α×Value×Nat)) (x:α) (c:Nat):Nat:=match l with
 |[]=>c
 |e::r=>if x=e.1 then e.2.2 else jU r x c
def iF (l:List (α×Value×Nat)) (x:α) (i:Nat):Option (Nat×Value):=match l with
 |[]=>none
 |e::r=>if x=e.1 then some (i,e.2.1) else iF r x (i+1)
structure MOk (l:List (α×Value×Nat)) (c:Nat):Prop where
 old:∀ e∈l,e.2.2<c
 born:(l.map (·.2.2)).Nodup
 keys:(l.map (·.1)).Nodup
theorem MOk.nil:MOk ([]:List (α×Value×Nat)) 0:=⟨aO,aO,aO⟩
theorem jI (l:List (α×Value×Nat)) (x y:α) (v:Value) (c:Nat):eS (fW l x v c) y=if y=x then some v else eS l y:=by
 induction l with
 |nil=>simp [fW,eS]
 |cons e r ih=>
  simp only [fW]
  by_cases h:x=e.1
  ·rw [if_pos h]
   simp only [eS]
   by_cases hy:y=x
   ·rw [if_pos hy,if_pos hy]
   ·rw [if_neg hy,if_neg hy,if_neg (fun q=>hy (q.trans h.symm))]
  ·rw [if_neg h]
   simp only [eS,ih]
   by_cases hy:y=e.1
   ·have:¬ y=x:=fun q=>h (q.symm.trans hy)
    rw [if_pos hy,if_neg this,if_pos hy]
   ·rw [if_neg hy,if_neg hy]
theorem mget_none_of {l:List (α×Value×Nat)} {x:α} (h:x∉l.map (·.1)):eS l x=none:=by
 induction l with
 |nil=>rfl
 |cons e r ih=>
  simp only [List.map_cons,List.mem_cons,not_or] at h;simp only [eS,if_neg h.1];exact ih h.2
theorem mget_none {l:List (α×Value×Nat)} {x:α}:eS l x=none↔x∉l.map (·.1):=by
 refine ⟨fun h=>?_,mget_none_of⟩
 induction l with
 |nil=>simp
 |cons e r ih=>
  simp only [eS] at h
  by_cases hx:x=e.1
  ·rw [if_pos hx] at h;cases h
  ·rw [if_neg hx] at h;simp only [List.map_cons,List.mem_cons,not_or];exact ⟨hx,ih h⟩
theorem mget_del {l:List (α×Value×Nat)} (hn:(l.map (·.1)).Nodup) (x y:α):eS (mdel l x) y=if y=x then none else eS l y:=by
 induction l with
 |nil=>simp [mdel,eS]
 |cons e r ih=>
  simp only [List.map_cons,List.nodup_cons] at hn;simp only [mdel]
  by_cases h:x=e.1
  ·rw [if_pos h]
   by_cases hy:y=x
   ·rw [if_pos hy,hy,h];exact mget_none_of hn.1
   ·rw [if_neg hy];simp only [eS];rw [if_neg (fun q=>hy (q.trans h.symm))]
  ·rw [if_neg h]
   simp only [eS,ih hn.2]
   by_cases hy:y=e.1
   ·rw [if_pos hy,if_neg (fun q=>h (q.symm.trans hy)),if_pos hy]
   ·rw [if_neg hy,if_neg hy]
theorem mdel_sub {l:List (α×Value×Nat)} {x:α}:(mdel l x).Sublist l:=by
 induction l with
 |nil=>simp [mdel]
 |cons e r ih=>
  simp only [mdel];split
  ·exact List.sublist_cons_self _ _
  ·exact ih.cons_cons _
theorem mput_keys {l:List (α×Value×Nat)} {x:α} {v:Value} {c:Nat}:(fW l x v c).map (·.1)=if (eS l x).isSome then l.map (·.1) else l.map (·.1)++[x]:=by
 induction l with
 |nil=>simp [fW,eS]
 |cons e r ih=>
  by_cases h:x=e.1
  ·simp [fW,eS,h]
  ·simp only [fW,eS,if_neg h,List.map_cons,ih]
   split<;>simp
theorem mput_borns {l:List (α×Value×Nat)} {x:α} {v:Value} {c:Nat}:(fW l x v c).map (·.2.2)=if (eS l x).isSome then l.map (·.2.2) else l.map (·.2.2)++[c]:=by
 induction l with
 |nil=>simp [fW,eS]
 |cons e r ih=>
  by_cases h:x=e.1
  ·simp [fW,eS,h]
  ·simp only [fW,eS,if_neg h,List.map_cons,ih]
   split<;>simp
theorem MOk.put {l:List (α×Value×Nat)} {c:Nat} (h:MOk l c) (x:α) (v:Value):MOk (fW l x v c) (fM l x c):=by
 have hb:=mput_borns (l:=l) (x:=x) (v:=v) (c:=c)
 have hk:=mput_keys (l:=l) (x:=x) (v:=v) (c:=c)
 have F:∀ b∈l.map (·.2.2),b<c:=fun b hb=>by obtain ⟨e,he,rfl⟩:=List.mem_map.1 hb;exact h.old e he
 cases hg:eS l x with
 |some u=>
  simp only [hg,Option.isSome_some,if_true] at hb hk;refine ⟨fun e he=>?_,hb▸h.born,hk▸h.keys⟩;have:e.2.2∈(fW l x v c).map (·.2.2):=List.mem_map.2 ⟨e,he,rfl⟩
  rw [hb] at this;simp only [fM,hg,Option.isSome_some,if_true];exact F _ this
 |none=>
  simp only [hg,Option.isSome_none,Bool.false_eq_true,if_false] at hb hk;refine ⟨fun e he=>?_,?_,?_⟩
  ·have:e.2.2∈(fW l x v c).map (·.2.2):=List.mem_map.2 ⟨e,he,rfl⟩
   rw [hb] at this;simp only [fM,hg,Option.isSome_none,Bool.false_eq_true,if_false]
   rcases List.mem_append.1 this with q|q
   ·have:=F _ q;omega
   ·simp at q;omega
  ·rw [hb,List.nodup_append]
   exact ⟨h.born,aO,fun a ha b J e=>by simp at J;have:=F a ha;omega⟩
  ·rw [hk,List.nodup_append]
   exact ⟨h.keys,aO,fun a ha b J e=>by simp at J;subst J;subst e;exact mget_none.1 hg ha⟩
theorem MOk.del {l:List (α×Value×Nat)} {c:Nat} (h:MOk l c) (x:α):MOk (mdel l x) c:=
 ⟨fun e he=>h.old e (mdel_sub.subset he),(mdel_sub.map _).nodup h.born,(mdel_sub.map _).nodup h.keys⟩
structure KeyT (P:Program) (M k E:TypeId) (enc:α→Value):Prop where
 und:P.underlying M=some (.map k E)
 check:∀ e x w,(Instr.checkKey e 10000 k (enc x)).run P w= .ok () w
 equal:∀ x y w,(Op.equal k (enc x) (enc y)).run P w= .ok (decide (x=y)) w
 kind:∃ d,P.underlying k=some d∧∀ x y,Instr.sameNow d (enc x) (enc y)=none∨Instr.sameNow d (enc x) (enc y)=some (decide (x=y))
 bits:∀ x,Instr.sameBits 10000 (enc x) (enc x)=true
section
variable {P:Program} {M k E:TypeId} {enc:α→Value}
theorem run_findAsking (K:KeyT P M k E enc) (x:α) (w:World):∀ (l:List (α×Value×Nat)) (i:Nat),
  (Instr.findAsking k (enc x) (l.map fun x=>(⟨enc x.1,x.2.1,x.2.2⟩:MapEntry)) i).run P w= .ok (iF l x i) w
 |[],i=>by simp [Instr.findAsking,iF]
 |e::r,i=>by
  simp only [List.map_cons,Instr.findAsking,Sem.run_bind,K.equal,Result.andThen_ok,iF]
  by_cases h:x=e.1
  ·simp [h]
  ·simp [h,run_findAsking K x w r (i+1)]
theorem findNow_eq {d:TypeDesc} {x:α} (hd:∀ y:α,Instr.sameNow d (enc x) (enc y)=none∨Instr.sameNow d (enc x) (enc y)=some (decide (x=y))):∀ (l:List (α×Value×Nat)) (i:Nat),
  Instr.findNow d (enc x) (l.map fun x=>(⟨enc x.1,x.2.1,x.2.2⟩:MapEntry)) i=none∨Instr.findNow d (enc x) (l.map fun x=>(⟨enc x.1,x.2.1,x.2.2⟩:MapEntry)) i=some (iF l x i)
 |[],i=> .inr rfl
 |e::r,i=>by
  simp only [List.map_cons,Instr.findNow,iF]
  rcases hd e.1 with h|h
  ·left;rw [h]
  ·rw [h]
   by_cases hx:x=e.1
   ·right;simp [hx]
   ·simp only [hx,decide_false,if_false]
    exact findNow_eq hd r (i+1)
theorem l4 (K:KeyT P M k E enc) (x:α) (l:List (α×Value×Nat)) (w:World):
  (Instr.findKey k (enc x) (l.map fun x=>(⟨enc x.1,x.2.1,x.2.2⟩:MapEntry))).run P w= .ok (iF l x 0) w:=by
 obtain ⟨d,hd,hs⟩:=K.kind
 simp only [Instr.findKey,Sem.run_bind,run_underlying hd,Result.andThen_ok]
 rcases findNow_eq (hs x) l 0 with h|h
 ·rw [h];exact run_findAsking K x w l 0
 ·rw [h];simp
theorem mfind_get (l:List (α×Value×Nat)) (x:α):∀ i,(iF l x i).map (·.2)=eS l x:=by
 induction l with
 |nil=>intro i;rfl
 |cons e r ih=>intro i;simp only [iF,eS];split<;>simp [ih]
theorem mfind_at {l:List (α×Value×Nat)} {x:α}:∀ {i j:Nat} {v:Value},iF l x i=some (j,v)→∃ q,j=i+q∧∃ b,l[q]? =some (x,v,b)∧jU l x 0=b∧∀ c,jU l x c=b:=by
 induction l with
 |nil=>intro i j v h;cases h
 |cons e r ih=>
  intro i j v h;simp only [iF] at h
  by_cases hx:x=e.1
  ·rw [if_pos hx] at h;cases h
   refine ⟨0,rfl,e.2.2,by simp [hx],?_,fun c=>?_⟩<;>simp [jU,hx]
  ·rw [if_neg hx] at h
   obtain ⟨q,rfl,b,h1,h2,h3⟩:=ih h
   exact ⟨q+1,aA,b,by simpa using h1,by simp [jU,hx,h2],fun c=>by simp [jU,hx,h3]⟩
theorem mput_modify {l:List (α×Value×Nat)} {x:α} {u:Value} (v:Value) (c:Nat):∀ {i j:Nat},iF l x i=some (j,u)→(l.map fun x=>(⟨enc x.1,x.2.1,x.2.2⟩:MapEntry)).modify (j - i) (fun e=>{ e with key:=enc x,val:=v })=(fW l x v c).map fun x=>(⟨enc x.1,x.2.1,x.2.2⟩:MapEntry):=by
 induction l with
 |nil=>intro i j h;cases h
 |cons e r ih=>
  intro i j h;simp only [iF] at h
  by_cases hx:x=e.1
  ·rw [if_pos hx] at h;cases h;simp [fW,hx]
  ·rw [if_neg hx] at h
   have ⟨q,hq,_⟩:=mfind_at h
   have:=ih h
   simp only [fW,if_neg hx,List.map_cons];rw [show j - i=(j - (i+1))+1 from by omega]
   simpa using this
theorem mput_push {l:List (α×Value×Nat)} {x:α} (v:Value) (c:Nat):∀ {i:Nat},iF l x i=none→fW l x v c=l++[(x,v,c)]:=by
 induction l with
 |nil=>intro i _;rfl
 |cons e r ih=>
  intro i h;simp only [iF] at h
  by_cases hx:x=e.1
  ·rw [if_pos hx] at h;cases h
  ·rw [if_neg hx] at h;simp [fW,hx,ih h]
theorem mdel_erase {l:List (α×Value×Nat)} {x:α} {u:Value}:∀ {i j:Nat},iF l x i=some (j,u)→l.eraseIdx (j - i)=mdel l x:=by
 induction l with
 |nil=>intro i j h;cases h
 |cons e r ih=>
  intro i j h;simp only [iF] at h
  by_cases hx:x=e.1
  ·rw [if_pos hx] at h;cases h;simp [mdel,hx]
  ·rw [if_neg hx] at h
   have ⟨q,hq,_⟩:=mfind_at h
   have:=ih h
   simp only [mdel,if_neg hx];rw [show j - i=(j - (i+1))+1 from by omega]
   simpa using this
theorem mdel_none {l:List (α×Value×Nat)} {x:α}:∀ {i:Nat},iF l x i=none→mdel l x=l:=by
 induction l with
 |nil=>intro i _;rfl
 |cons e r ih=>
  intro i h;simp only [iF] at h
  by_cases hx:x=e.1
  ·rw [if_pos hx] at h;cases h
  ·rw [if_neg hx] at h;simp [mdel,hx,ih h]
theorem mfind_isSome (l:List (α×Value×Nat)) (x:α) (i:Nat):(iF l x i).isSome=(eS l x).isSome:=by
 have:=mfind_get l x i
 rw [← this];cases iF l x i<;>rfl
end
end
theorem Hp.putMap {S:Nat→Prop} {w0 w:World} {l r:Seg} {b:Nat} {o o' :Obj} (h:Hp S w0 (l++(b,o)::r) w):Hp S w0 (l++(b,o')::r) { w with heap:=w.heap.setIfInBounds b o' }:=by
 have hlt:=h.key_lt (b:=b) (o:=o) aO
 refine h.put rfl rfl rfl aO (Nat.le_refl _) ?_ (fun k hk=>?_)
 ·simp [hlt]
 ·simp only;rw [Array.getElem?_setIfInBounds_ne (fun e=>hk e.symm)]
section
variable {P:Program} {n:Nat} {S:Nat→Prop} {w0:World} {env:Env} {segs segs' :List Seg} {K:Value→List Seg→Prop} {d:Option Tmp} {ty:TypeId} {pos:String} {af:Array Edge} {g:Option (Nat×Bool)}
variable {α:Type} [DecidableEq α] {M k E:TypeId} {enc:α→Value}
theorem iY {T:TypeId} (F:∀ b,K (.map (some b)) ([(b,.map #[] 0)]::segs)):Does P n S w0 env segs ⟨d,.makeMap T none,ty,pos,af,g⟩ K:=
 gP fun a w ha hp=>⟨_,_,w.alloc (.map #[] 0),.inl (by simp [execOp,Instr.makeMap]),by simpa using hp.alloc (.map #[] 0),F w.heap.size⟩
theorem iN {w:World} {b:Nat} {es:Array MapEntry} {c:Nat} (h:w.heap[b]? =some (.map es c)):(getObj b).run P w= .ok (.map es c) w:=by simp [getObj,Sem.run,h]
theorem gU {w:World} {b:Nat} {es:Array MapEntry} {c:Nat} (o:Obj) (h:w.heap[b]? =some (.map es c)):(setObj b o).run P w= .ok () { w with heap:=w.heap.setIfInBounds b o }:=by simp [setObj,Sem.run,h]
theorem fG {x y:Operand} {b:Nat} {u z:Value} {key:α} {l:List (α×Value×Nat)} {c:Nat} {f:Seg→List Seg} (F:KeyT P M k E enc) (hz:∀ w,(zeroValue E).run P w= .ok z w) (hx:ev env x=some (.map (some b)))
  (hy:ev env y=some u) (J:u=enc key) [hA:At segs b (e9 enc l c) f] (v:Value) (hv:(eS l key).getD z=v):Pure P n S w0 env segs ⟨d,.lookup M x y false,ty,pos,af,g⟩ v:=
 fun a w ha hp=>by
  subst J;have hb:=hp.own b _ hA.mem
  simp only [execOp,Instr.lookup,Sem.run_bind,run_underlying F.und,Result.andThen_ok,ha.eval hx,ha.eval hy,iN hb,F.check,l4 F,Sem.run_pure];have:=mfind_get l key 0
  cases hf:iF l key 0 with
  |none=>rw [hf] at this;simp only [Option.map_none] at this;rw [← this] at hv;simp at hv;subst hv;simp [hz]
  |some p=>rw [hf] at this;simp only [Option.map_some] at this;rw [← this] at hv;simp at hv;subst hv;simp
theorem o_lookup2 {x y:Operand} {b:Nat} {u z:Value} {key:α} {l:List (α×Value×Nat)} {c:Nat} {f:Seg→List Seg} (F:KeyT P M k E enc) (hz:∀ w,(zeroValue E).run P w= .ok z w) (hx:ev env x=some (.map (some b)))
  (hy:ev env y=some u) (J:u=enc key) [hA:At segs b (e9 enc l c) f] (v:Value) (hv:(eS l key).getD z=v) (ok:Bool) (hok:(eS l key).isSome=ok):Pure P n S w0 env segs ⟨d,.lookup M x y true,ty,pos,af,g⟩ (.tuple #[v,.bool ok]):=
 fun a w ha hp=>by
  subst J;have hb:=hp.own b _ hA.mem
  simp only [execOp,Instr.lookup,Sem.run_bind,run_underlying F.und,Result.andThen_ok,ha.eval hx,ha.eval hy,iN hb,F.check,l4 F,Sem.run_pure];have:=mfind_get l key 0
  cases hf:iF l key 0 with
  |none=>rw [hf] at this;simp only [Option.map_none] at this;rw [← this] at hv hok;simp at hv hok;subst hv;subst hok;simp [hz]
  |some p=>rw [hf] at this;simp only [Option.map_some] at this;rw [← this] at hv hok;simp at hv hok;subst hv;subst hok;simp
theorem run_stays (F:KeyT P M k E enc) {l:List (α×Value×Nat)} {key:α} {j:Nat} {u:Value} (h:iF l key 0=some (j,u)) (w:World):
  (Instr.keyThatStays ((((l.map fun x=>(⟨enc x.1,x.2.1,x.2.2⟩:MapEntry)).toArray[j]?).map (·.key)).getD (enc key)) (enc key)).run P w= .ok (enc key) w:=by
 obtain ⟨q,hq,b,h1,_⟩:=mfind_at h
 obtain rfl:j=q:=aA
 have:(l.map fun x=>(⟨enc x.1,x.2.1,x.2.2⟩:MapEntry)).toArray[j]? =some ⟨enc key,u,b⟩:=by simp [h1]
 rw [this];simp [Instr.keyThatStays,F.bits]
theorem mapUpdate_run (F:KeyT P M k E enc) {b:Nat} {key:α} {v:Value} {l:List (α×Value×Nat)} {c:Nat} {w:World} (hb:w.heap[b]? =some (e9 enc l c)):
  (Instr.mapUpdate M (.map (some b)) (enc key) v).run P w= .ok () { w with heap:=w.heap.setIfInBounds b (e9 enc (fW l key v c) (fM l key c)) }:=by
 simp only [Instr.mapUpdate,Sem.run_bind,run_underlying F.und,Result.andThen_ok,iN hb,F.check,l4 F]
 cases hf:iF l key 0 with
 |none=>
  have h1:(eS l key).isSome=false:=by rw [← mfind_isSome l key 0,hf];rfl
  simp only [gU _ hb,mput_push v c hf,fM,h1];simp [e9]
 |some p=>
  obtain ⟨j,u⟩:=p
  have h1:(eS l key).isSome=true:=by rw [← mfind_isSome l key 0,hf];rfl
  simp only [Sem.run_bind,run_stays F hf,Result.andThen_ok,gU _ hb,fM,h1,if_true];have:=mput_modify (enc:=enc) v c hf
  simp only [Nat.sub_zero] at this;simp [e9,← this]
theorem fB {x y q:Operand} {b:Nat} {u v:Value} {key:α} {l:List (α×Value×Nat)} {c:Nat} {f:Seg→List Seg} (F:KeyT P M k E enc) (hx:ev env x=some (.map (some b))) (hy:ev env y=some u) (hq:ev env q=some v)
  (O:u=enc key) [hA:At segs b (e9 enc l c) f] (J:K undef (f [(b,e9 enc (fW l key v c) (fM l key c))])):Does P n S w0 env segs ⟨d,.mapUpdate M x y q,ty,pos,af,g⟩ K:=
 gP fun a w ha hp=>by
  subst O;have hb:=hp.own b _ hA.mem
  obtain ⟨L,R,e1,e2⟩:=hA.flat
  refine ⟨undef,_,{ w with heap:=w.heap.setIfInBounds b (e9 enc (fW l key v c) (fM l key c)) },.inr ⟨rfl,?_⟩,?_,J⟩
  ·simp only [execOp,ha.eval hx,ha.eval hy,ha.eval hq,Sem.run_bind,mapUpdate_run F hb,Result.andThen_ok,Sem.run_pure]
  ·rw [e2];rw [e1] at hp;exact hp.putMap
def n5 (l:List (α×Value×Nat)) (x:α) (z:Value) (c:Nat):List (α×Value×Nat):=if (eS l x).isSome then l else l++[(x,z,c)]
theorem qH {x y:Operand} {b:Nat} {u z:Value} {key:α} {l:List (α×Value×Nat)} {c:Nat} {f:Seg→List Seg} (F:KeyT P M k E enc) (hz:∀ w,(zeroValue E).run P w= .ok z w) (hx:ev env x=some (.map (some b)))
  (hy:ev env y=some u) (Y:u=enc key) [hA:At segs b (e9 enc l c) f] (v:Value) (hv:(eS l key).getD z=v)
  (X:K (.tuple #[v,.int .i64 (jU l key c:Int)]) (f [(b,e9 enc (n5 l key z c) (fM l key c))])):Does P n S w0 env segs ⟨d,.mapEntry M x y,ty,pos,af,g⟩ K:=
 gP fun a w ha hp=>by
  subst Y;have hb:=hp.own b _ hA.mem
  obtain ⟨L,R,e1,e2⟩:=hA.flat
  refine ⟨_,_,{ w with heap:=w.heap.setIfInBounds b (e9 enc (n5 l key z c) (fM l key c)) },.inl ?_,?_,X⟩
  ·simp only [execOp,Instr.mapEntry,Sem.run_bind,run_underlying F.und,Result.andThen_ok,ha.eval hx,ha.eval hy,iN hb,F.check,l4 F]
   have hg:=mfind_get l key 0
   have J:∀ (l:List (α×Value×Nat)) (i:Nat),iF l key i=none→jU l key c=c:=by
    intro l
    induction l with
    |nil=>intro i _;rfl
    |cons e r ih=>intro i h;simp only [iF] at h;split at h;cases h;rename_i U;simp only [jU,if_neg U];exact ih _ h
   cases hf:iF l key 0 with
   |none=>
    rw [hf] at hg;simp only [Option.map_none] at hg;have h1:(eS l key).isSome=false:=by rw [← hg];rfl
    rw [← hg] at hv;simp at hv;subst hv;simp only [hz,Sem.run_bind,Result.andThen_ok,gU _ hb,fM,n5,h1,J l 0 hf];simp [goInt,e9]
   |some p=>
    obtain ⟨j,u⟩:=p
    rw [hf] at hg;simp only [Option.map_some] at hg;have h1:(eS l key).isSome=true:=by rw [← hg];rfl
    rw [← hg] at hv;simp at hv;subst hv;obtain ⟨q,hq,bb,h2,_,h3⟩:=mfind_at hf
    obtain rfl:j=q:=aA
    simp only [Sem.run_bind,run_stays F hf,Result.andThen_ok,gU _ hb,fM,n5,h1,if_true,h3]
    have e:(l.map fun x=>(⟨enc x.1,x.2.1,x.2.2⟩:MapEntry)).toArray.modify j (fun e=>{ e with key:=enc key })=(l.map fun x=>(⟨enc x.1,x.2.1,x.2.2⟩:MapEntry)).toArray:=by
     apply Array.ext_getElem?;intro i;rw [Array.getElem?_modify]
     split
     ·rename_i O;subst O;simp [h2]
     ·rfl
    rw [e];simp [goInt,h2]
  ·rw [e2];rw [e1] at hp;exact hp.putMap
theorem mput_entry {l:List (α×Value×Nat)} {c:Nat} (ho:MOk l c) (x:α) (z v:Value):
  (((n5 l x z c).map fun x=>(⟨enc x.1,x.2.1,x.2.2⟩:MapEntry)).toArray.findIdx? (fun e=>(e.born:Int)==(jU l x c:Int))).map (fun i=>((n5 l x z c).map fun x=>(⟨enc x.1,x.2.1,x.2.2⟩:MapEntry)).toArray.modify i fun e=>{ e with val:=v })=
   some ((fW l x v c).map fun x=>(⟨enc x.1,x.2.1,x.2.2⟩:MapEntry)).toArray:=by
 have O:∀ u,eS l x=some u→∀ j w,iF l x 0=some (j,w)→True:=fun _ _ _ _ _=>trivial
 have key:∀ (r:List (α×Value×Nat)),(∀ e∈r,e.2.2<c)→(r.map (·.2.2)).Nodup→
   (((n5 r x z c).map fun x=>(⟨enc x.1,x.2.1,x.2.2⟩:MapEntry)).findIdx? (fun e=>(e.born:Int)==(jU r x c:Int))).map (fun i=>((n5 r x z c).map fun x=>(⟨enc x.1,x.2.1,x.2.2⟩:MapEntry)).modify i fun e=>{ e with val:=v })=
   some ((fW r x v c).map fun x=>(⟨enc x.1,x.2.1,x.2.2⟩:MapEntry)):=by
  intro r
  induction r with
  |nil=>intro _ _;simp [n5,eS,jU,fW]
  |cons e r ih=>
   intro h1 h2;simp only [List.map_cons,List.nodup_cons] at h2;have F:=ih (fun e he=>h1 e (by simp [he])) h2.2
   by_cases hx:x=e.1
   ·have hm:n5 (e::r) x z c=e::r:=by simp [n5,eS,hx]
    rw [hm];simp [jU,fW,hx,List.findIdx?_cons]
   ·have hm:n5 (e::r) x z c=e::n5 r x z c:=by simp only [n5,eS,if_neg hx];split<;>simp
    have J:jU r x c=c∨jU r x c∈r.map (·.2.2):=by
     clear ih F h1 h2 hm
     induction r with
     |nil=>exact .inl rfl
     |cons e' r ih=>
      simp only [jU]
      split
      ·right;simp
      ·rcases ih with h|h
       ·exact .inl h
       ·right;simp only [List.map_cons,List.mem_cons];exact .inr h
    have X:¬ ((e.2.2:Int)==(jU r x c:Int))=true:=by
     intro he;have U:e.2.2=jU r x c:=by simp at he;omega
     have:=h1 e aO
     rcases J with h|h
     ·omega
     ·exact h2.1 (U▸h)
    rw [hm];simp only [List.map_cons,jU,if_neg hx,fW,List.findIdx?_cons,X];have:((false:Bool)=true)=False:=aO
    simp only [Bool.false_eq_true,if_false,Option.map_map]
    revert F
    cases List.findIdx? (fun e=>(e.born:Int)==(jU r x c:Int)) ((n5 r x z c).map fun x=>(⟨enc x.1,x.2.1,x.2.2⟩:MapEntry)) with
    |none=>intro F;simp at F
    |some i=>intro F;simp at F ⊢;exact F
 have:=key l ho.old ho.born
 simp only [List.findIdx?_toArray,List.modify_toArray]
 revert this
 cases List.findIdx? (fun e=>(e.born:Int)==(jU l x c:Int)) ((n5 l x z c).map fun x=>(⟨enc x.1,x.2.1,x.2.2⟩:MapEntry)) with
 |none=>intro h;simp at h
 |some i=>intro h;simp at h ⊢;exact h
theorem entryStore_run {es:Array MapEntry} {c b:Nat} {w:World} {F:Int} {v:Value} {i:Nat} (hb:w.heap[b]? =some (.map es c)) (hf:es.findIdx? (fun e=>(e.born:Int)==F)=some i):
  (Instr.entryStore M (.map (some b)) (.int .i64 F) v).run P w= .ok () { w with heap:=w.heap.setIfInBounds b (.map (es.modify i fun e=>{ e with val:=v }) c) }:=by
 simp [Instr.entryStore,iN hb,asInt,asIntOf,hf,gU _ hb]
theorem mS {x y q:Operand} {b:Nat} {v z:Value} {key:α} {l:List (α×Value×Nat)} {c c' :Nat} {f:Seg→List Seg} (ho:MOk l c) (hx:ev env x=some (.map (some b))) (hy:ev env y=some (.int .i64 (jU l key c:Int))) (hq:ev env q=some v)
  [hA:At segs b (e9 enc (n5 l key z c) c') f] (F:K undef (f [(b,e9 enc (fW l key v c) c')])):Does P n S w0 env segs ⟨d,.entryStore M x y q,ty,pos,af,g⟩ K:=
 gP fun a w ha hp=>by
  have hb:=hp.own b _ hA.mem
  obtain ⟨L,R,e1,e2⟩:=hA.flat
  refine ⟨undef,_,{ w with heap:=w.heap.setIfInBounds b (e9 enc (fW l key v c) c') },.inr ⟨rfl,?_⟩,?_,F⟩
  ·have h:=mput_entry (enc:=enc) ho key z v
   cases hf:((n5 l key z c).map fun x=>(⟨enc x.1,x.2.1,x.2.2⟩:MapEntry)).toArray.findIdx? (fun e=>(e.born:Int)==(jU l key c:Int)) with
   |none=>rw [hf] at h;simp at h
   |some i=>
    rw [hf] at h;simp only [Option.map_some,Option.some.injEq] at h;simp only [execOp,ha.eval hx,ha.eval hy,ha.eval hq,Sem.run_bind,entryStore_run hb hf,h,Result.andThen_ok,Sem.run_pure]
  ·rw [e2];rw [e1] at hp;exact hp.putMap
theorem o_delete {x y:Operand} {b:Nat} {u:Value} {key:α} {l:List (α×Value×Nat)} {c:Nat} {f:Seg→List Seg} (F:KeyT P M k E enc) (hx:ev env x=some (.map (some b))) (hy:ev env y=some u) (O:u=enc key)
  [hA:At segs b (e9 enc l c) f] (J:K (.tuple #[]) (f [(b,e9 enc (mdel l key) c)])):Does P n S w0 env segs ⟨d,.call ⟨.builtin .delete,#[x,y],#[M,k]⟩,ty,pos,af,g⟩ K:=
 gP fun a w ha hp=>by
  subst O;have hb:=hp.own b _ hA.mem
  obtain ⟨L,R,e1,e2⟩:=hA.flat
  refine ⟨.tuple #[],_,{ w with heap:=w.heap.setIfInBounds b (e9 enc (mdel l key) c) },.inl ?_,?_,J⟩
  ·simp only [execOp,resolve,invoke,builtin,Builtin.delete_,Sem.run_bind,Sem.run_pure,Result.andThen_ok,List.map_toArray,List.map_cons,List.map_nil,ha.eval hx,ha.eval hy]
   simp only [List.getElem?_toArray,List.getElem?_cons_zero,List.getElem?_cons_succ,Sem.run_bind,run_underlying F.und,Result.andThen_ok,iN hb,F.check,l4 F]
   cases hf:iF l key 0 with
   |none=>simp [gU _ hb,mdel_none hf]
   |some p=>
    obtain ⟨j,u⟩:=p
    have h:=mdel_erase hf
    obtain ⟨q,hq,bb,h2,_⟩:=mfind_at hf
    obtain rfl:j=q:=aA
    have hlt:j<l.length:=(List.getElem?_eq_some_iff.1 h2).1
    simp only [Nat.sub_zero] at h
    have e:(l.map fun x=>(⟨enc x.1,x.2.1,x.2.2⟩:MapEntry)).toArray.eraseIdxIfInBounds j=((mdel l key).map fun x=>(⟨enc x.1,x.2.1,x.2.2⟩:MapEntry)).toArray:=by
     rw [← h,Array.eraseIdxIfInBounds];simp [hlt,eraseIdx_map']
    simp only [gU _ hb,e,Sem.run_bind,Result.andThen_ok];simp
  ·rw [e2];rw [e1] at hp;exact hp.putMap
theorem o_lenM {T k E:TypeId} {x:Operand} {b:Nat} {l:List (α×Value×Nat)} {c:Nat} {f:Seg→List Seg} (F:P.underlying T=some (.map k E)) (hx:ev env x=some (.map (some b))) [hA:At segs b (e9 enc l c) f]:
  Pure P n S w0 env segs ⟨d,.call ⟨.builtin .len,#[x],#[T]⟩,ty,pos,af,g⟩ (.int .i64 l.length):=
 fun a w ha hp=>by
  have hb:=hp.own b _ hA.mem
  simp [execOp,resolve,invoke,builtin,Builtin.len_,ha.eval hx,run_underlying F,goInt,iN hb]
end
structure ArT (P:Program) (T len E sz:Nat) (zs:List Value):Prop where
 und:∀ w,(underlying T).run P w= .ok (.array len E) w
 size:∀ w,(sizeOf E).run P w= .ok sz w
 zero:∃ v,(∀ w,(zeroValue T).run P w= .ok v w)∧v.cells=zs.toArray
section
variable {P:Program} {n:Nat} {S:Nat→Prop} {w0:World} {env:Env} {segs segs' :List Seg} {K:Value→List Seg→Prop} {d:Option Tmp} {ty:TypeId} {pos:String} {af:Array Edge} {g:Option (Nat×Bool)}
theorem o_buildA {t len E sz:Nat} {J cs:List Value} {parts:List (Nat×Operand)} {vs:List (Nat×Value)} (F:ArT P t len E sz J) (hv:evi env parts=some vs)
  (hf:Instr.fill (fun i=>some (i*sz,sz)) J.toArray vs=some cs.toArray):Pure P n S w0 env segs ⟨d,.build t parts.toArray,ty,pos,af,g⟩ (.agg cs.toArray):=
 fun a w ha _=>by
  obtain ⟨z,hz,hc⟩:=F.zero
  have hm:(Array.map (fun x=>match x with|(i,x)=>(i,a.eval x)) parts.toArray).toList=vs:=by
   rw [← ha.evi hv];simp
  simp only [execOp,Instr.build,Sem.run_bind,hz,Result.andThen_ok,F.und,F.size,hc,hm,hf,Sem.run_pure]
theorem o_idxA {T len E sz:Nat} {O:List Value} {x y:Operand} {b off:Nat} {U:IntKind} {j:Int} (F:ArT P T len E sz O) (hx:ev env x=some (.pointer (some ⟨b,off,none⟩))) (hy:ev env y=some (.int U j))
  (i:Nat) (hj:0≤j∧j<len∧off+j.toNat*sz=i):Pure P n S w0 env segs ⟨d,.indexAddr T x y,ty,pos,af,g⟩ (.pointer (some ⟨b,i,none⟩)):=
 fun a w ha _=>by
  obtain ⟨J,h1,rfl⟩:=hj
  simp [execOp,Instr.indexAt,Instr.sureAddr,ha.eval hx,ha.eval hy,F.und,F.size,asIntOf,J,h1,dH]
theorem o_eqlSl {T F e:TypeId} {x y:Operand} {A:Option Addr} {len cap:Nat} (J:P.underlying T=some (.slice e)) (hx:ev env x=some (.slice A len cap)) (hy:ev env y=some (.slice none 0 0)):
  Pure P n S w0 env segs ⟨d,.binOp .eql T x y F,ty,pos,af,g⟩ (.bool A.isNone):=
 fun a w ha _=>by simp [execOp,eqGuard,binOp,ha.eval hx,ha.eval hy,run_equal_slice_nil w T e A len cap J]
end
theorem bits1' (n:Nat) (x:Int):Instr.sameBits (n+1) (.int .i64 x) (.int .i64 x)=true:=by simp [Instr.sameBits]
theorem keyInt {P:Program} {M k E:TypeId} (F:P.underlying M=some (.map k E)) (hk:P.underlying k=some (.int .i64)):KeyT P M k E (fun x:Int=> .int .i64 x) where
 und:=F
 check:=fun e x w=>by
  have key:∀ n,(Instr.checkKey e (n+1) k (.int .i64 x)).run P w= .ok () w:=fun n=>by simp [Instr.checkKey,run_underlying hk]
  exact key 9999
 equal:=fun x y w=>by
  have:=run_equalIn_int (P:=P) w 9999 k .i64 .i64 x y hk
  simp only [Op.equal,Op.maxDepth];rw [this];by_cases h:x=y<;>simp [h]
 kind:=⟨_,hk,fun x y=> .inr (by by_cases h:x=y<;>simp [Instr.sameNow,h])⟩
 bits:=fun x=>bits1' 9999 x
def oV (x:Int×Int):Value:= .agg #[.int .i64 x.1,.int .i64 x.2]
theorem bits2' (n:Nat) (x:Int×Int):Instr.sameBits (n+2) (oV x) (oV x)=true:=by simp [Instr.sameBits,oV]
theorem bits2 (x:Int×Int):Instr.sameBits 10000 (oV x) (oV x)=true:=bits2' 9998 x
theorem keyArr2 {P:Program} {M k E e:TypeId} {i:TypeInfo} (J:P.underlying M=some (.map k E)) (hk:P.underlying k=some (.array 2 e)) (he:P.underlying e=some (.int .i64)) (hi:P.info? e=some i) (hc:P.cellsOf e=1):
  KeyT P M k E oV where
 und:=J
 check:=fun F x w=>by
  have hs:∀ w,(sizeOf e).run P w= .ok 1 w:=fun w=>by rw [run_sizeOf w hi,hc]
  have ha:∀ w,(isAgg e).run P w= .ok false w:=fun w=>by simp [isAgg,run_underlying he]
  have key:∀ n,(Instr.checkKey F (n+2) k (oV x)).run P w= .ok () w:=fun n=>by
   simp [Instr.checkKey,oV,run_underlying hk,run_underlying he,Std.Legacy.Range.forIn_eq_forIn_range',Std.Legacy.Range.size,List.range',hs,part,ha]
  exact key 9998
 equal:=fun x y w=>by
  have ha:∀ w,(isAgg e).run P w= .ok false w:=fun w=>by simp [isAgg,run_underlying he]
  have:=fun (p q:Int) w=>run_equalIn_int (P:=P) w 9998 e .i64 .i64 p q he
  simp only [Op.equal,Op.maxDepth,oV];rw [run_equalIn_array (P:=P) (w:=w) 9999 _ _ hk hi,hc];simp only [show List.range 2=[0,1] from rfl,Op.eqItems,part,Sem.run_bind,ha,Result.andThen_ok,this];obtain ⟨a,b⟩:=x
  obtain ⟨c,d⟩:=y
  by_cases h1:a=c<;>by_cases h2:b=d<;>simp [h1,h2,part,ha,this]
 kind:=⟨_,hk,fun x y=> .inl (by simp [Instr.sameNow,oV])⟩
 bits:=bits2
theorem keyStr2 {P : Program} {M k E : TypeId} {f0 f1 : Field} (hM : P.underlying M = some (.map k E)) (hk : P.underlying k = some (.struct #[f0, f1])) (hp : P.stoodInHeld k = false) (n0 : f0.name ≠ "_") (n1 : f1.name ≠ "_") (o0 : f0.offset = 0) (o1 : f1.offset = 1)
  (h0:P.underlying f0.type=some (.int .i64)) (h1:P.underlying f1.type=some (.int .i64)):KeyT P M k E oV where
 und:=hM
 check:=fun em x w=>by
  have ha:∀ w,(isAgg f0.type).run P w= .ok false w:=fun w=>by simp [isAgg,run_underlying h0]
  have hb:∀ w,(isAgg f1.type).run P w= .ok false w:=fun w=>by simp [isAgg,run_underlying h1]
  have key:∀ n,(Instr.checkKey em (n+2) k (oV x)).run P w= .ok () w:=fun n=>by
   simp [Instr.checkKey,oV,run_underlying hk,n0,n1,o0,o1,part,ha,hb,run_underlying h0,run_underlying h1]
  exact key 9998
 equal:=fun x y w=>by
  have ha:∀ w,(isAgg f0.type).run P w= .ok false w:=fun w=>by simp [isAgg,run_underlying h0]
  have hb:∀ w,(isAgg f1.type).run P w= .ok false w:=fun w=>by simp [isAgg,run_underlying h1]
  have e0:=fun (p q:Int) w=>run_equalIn_int (P:=P) w 9998 f0.type .i64 .i64 p q h0
  have e1:=fun (p q:Int) w=>run_equalIn_int (P:=P) w 9998 f1.type .i64 .i64 p q h1
  have hf:P.fieldsOf k= #[f0,f1]:=by simp [Program.fieldsOf,hk]
  simp only [Op.equal,Op.maxDepth,oV];rw [run_equalIn_struct (P:=P) w 9999 k _ _ (by rw [hf];exact hk) hp,hf];obtain ⟨a,b⟩:=x
  obtain ⟨c,d⟩:=y
  simp only [Op.eqFields,part,Sem.run_bind,Sem.run_ite,ha,hb,n0,n1,o0,o1,Result.andThen_ok,Sem.run_pure,ne_eq,Bool.false_eq_true,if_false,not_false_eq_true,if_true]
  by_cases h1:a=c<;>by_cases h2:b=d<;>simp [h1,h2,e0,e1,part,n1,ha,hb]
 kind:=⟨_,hk,fun x y=> .inl (by simp [Instr.sameNow,oV])⟩
 bits:=bits2
end Go.Proofs.YthpkelafioikaaaGreat.Fly
