import Derived.Tactics
import Derived.Deep.LoopGhost
import Derived.Below
import Derived.Laws.AppendOwn
import Derived.Laws.MakeOwn
import Derived.Laws.Slices
import Derived.StillTail
import Derived.OrdersHeld
import Derived.WalkKit
namespace Go.Proofs.YthpkelafioikaaaGreat.Fly
open Go Go.RowKit
set_option linter.unusedVariables false
theorem aA {p:Prop} (h:p:=by omega):p:=h
theorem aN {p:Prop} (h:p:=by simp):p:=h
theorem aW {p:Prop} (h:p:=by decide+kernel):p:=h
theorem cF {p:Prop} (h:p:=by first|exact Nat.le_of_ble_eq_true rfl|(simp;done)|(simp;omega)):p:=h
theorem mac_fo {p:Prop} (h:p:=by first|omega|(simp;done)|(simp;omega)):p:=h
theorem aF {p:Prop} (h:p:=by repeat constructor):p:=h
theorem aK {α:Type} (a:α) (l m:List α):a::l++m=a::(l++m):=rfl
theorem aJ {α:Type} (l:List α):[]++l=l:=rfl
abbrev Seg:=List (Nat×Obj)
abbrev Env:=List (Nat×Value)
def look:Env→Nat→Option Value
 |[],_=>none
 |(k,v)::r,t=>match Nat.beq k t with
  |true=>some v
  |false=>look r t
def ev (env:Env):Operand→Option Value
 | .tmp t=>look env t
 | .const v=>some v
 | .global g=>some (.pointer (some ⟨g,0,none⟩))
 | .func f=>some (.func (.func f) #[] #[])
def evs (env:Env):List Operand→Option (List Value)
 |[]=>some []
 |x::r=>match ev env x with
  |some v=>match evs env r with
   |some vs=>some (v::vs)
   |none=>none
  |none=>none
abbrev blk (cs:List Value) (T:TypeId):Obj:= .cells cs.toArray T (0,0)
structure En (n:Nat) (env:Env) (a:Act):Prop where
 size:a.tmps.size=n
 defers:a.defers=[]
 get:∀ t v,look env t=some v→a.tmps[t]? =some v
structure Hp (S:Nat→Prop) (w0:World) (m:Seg) (w:World):Prop where
 os:w.os=w0.os
 tape:w.tape=w0.tape
 output:w.output=w0.output
 size:w0.heap.size≤w.heap.size
 drawn:w0.drawn≤w.drawn
 lt:∀ b,S b→b<w0.heap.size
 same:∀ b,S b→w.heap[b]? =w0.heap[b]?
 own:∀ b o,(b,o)∈m→w.heap[b]? =some o
 out:∀ b o,(b,o)∈m→¬ S b
 nodup:(m.map (·.1)).Nodup
theorem En.eval {n:Nat} {env:Env} {a:Act} (h:En n env a) {x:Operand} {v:Value} (hx:ev env x=some v):a.eval x=v:=by
 cases x with
 |tmp t=>have:=h.get t v hx;simp [Act.eval,Array.getD_eq_getD_getElem?,this]
 |const u=>simpa [ev,Act.eval] using hx
 |global g=>simpa [ev,Act.eval] using hx
 |func f=>simpa [ev,Act.eval] using hx
theorem En.evals {n:Nat} {env:Env} {a:Act} (h:En n env a):∀ {l:List Operand} {vs:List Value},evs env l=some vs→l.map a.eval=vs
 |[],vs,hx=>by simp [evs] at hx;simp [hx]
 |x::r,vs,hx=>by
  simp only [evs] at hx
  split at hx
  ·rename_i v hv
   split at hx
   ·rename_i J F
    cases hx
    simp [h.eval hv,h.evals F]
   ·cases hx
  ·cases hx
theorem look_cons (d:Nat) (v:Value) (env:Env) (t:Nat):look ((d,v)::env) t=if d=t then some v else look env t:=by
 by_cases h:d=t
 ·subst h;simp [look]
 ·have:Nat.beq d t=false:=by
   cases hb:Nat.beq d t with
   |false=>rfl
   |true=>exact absurd (Nat.eq_of_beq_eq_true hb) h
  simp [look,this,h]
theorem En.put {n:Nat} {env:Env} {a:Act} (h:En n env a) {d:Nat} (hd:Nat.blt d n=true) (v:Value):En n ((d,v)::env) (a.put (some d) v):=by
 have F:d<n:=by simpa [Nat.blt_eq] using hd
 refine ⟨by simp [Act.put,h.size],by simp [Act.put,h.defers],fun t u hl=>?_⟩;rw [look_cons] at hl
 by_cases e:d=t
 ·subst e
  simp at hl;simp [Act.put,h.size,F,hl]
 ·rw [if_neg e] at hl
  have:=h.get t u hl
  simp only [Act.put];rw [Array.getElem?_setIfInBounds_ne e];exact this
theorem En.none {n:Nat} {env:Env} {a:Act} (h:En n env a) (v:Value):En n env (a.put none v):=by
 simpa [Act.put] using h
theorem En.also {n:Nat} {env:Env} {a:Act} (h:En n env a) {t:Nat} {v:Value} (hl:look env t=some v):En n ((t,v)::env) a:=
 ⟨h.size,h.defers,fun u x hx=>by
  rw [look_cons] at hx
  by_cases e:t=u
  ·subst e;rw [if_pos rfl] at hx;cases hx;exact h.get _ _ hl
  ·rw [if_neg e] at hx;exact h.get _ _ hx⟩
theorem Hp.perm {S:Nat→Prop} {w0 w:World} {m m' :Seg} (h:Hp S w0 m w) (hp:m.Perm m'):Hp S w0 m' w:=
 { h with
  own:=fun b o hm=>h.own b o (hp.mem_iff.2 hm)
  out:=fun b o hm=>h.out b o (hp.mem_iff.2 hm)
  nodup:=(hp.map _).nodup_iff.1 h.nodup }
theorem Hp.left {S:Nat→Prop} {w0 w:World} {m m' :Seg} (h:Hp S w0 (m++m') w):Hp S w0 m w:=
 { h with
  own:=fun b o hm=>h.own b o (by simp [hm])
  out:=fun b o hm=>h.out b o (by simp [hm])
  nodup:=by have:=h.nodup;rw [List.map_append] at this;exact (List.nodup_append.1 this).1 }
theorem Hp.key_lt {S:Nat→Prop} {w0 w:World} {m:Seg} (h:Hp S w0 m w) {b:Nat} {o:Obj} (hm:(b,o)∈m):b<w.heap.size:=by
 have:=h.own b o hm
 rcases Nat.lt_or_ge b w.heap.size with h' |h'
 ·exact h'
 ·simp [Array.getElem?_eq_none h'] at this
theorem Hp.drew {S:Nat→Prop} {w0 w:World} {m:Seg} (h:Hp S w0 m w) (k:Nat) (hk:w.drawn≤k):Hp S w0 m { w with drawn:=k }:=
 ⟨h.os,h.tape,h.output,h.size,Nat.le_trans h.drawn hk,h.lt,h.same,h.own,h.out,h.nodup⟩
theorem Hp.alloc {S:Nat→Prop} {w0 w:World} {m:Seg} (h:Hp S w0 m w) (o:Obj):Hp S w0 ((w.heap.size,o)::m) (w.alloc o):=by
 refine ⟨h.os,h.tape,h.output,by have:=h.size;have:=World.size_alloc w o;omega,h.drawn,h.lt,fun b hb=>?_,fun b o' hm=>?_,fun b o' hm=>?_,?_⟩
 ·have:=h.lt b hb
  have:=h.size
  rw [← h.same b hb];exact Below.heap_alloc w o b aA
 ·simp only [List.mem_cons,Prod.mk.injEq] at hm
  rcases hm with ⟨rfl,rfl⟩|hm
  ·show (w.heap.push o')[w.heap.size]? =some o'
   simp
  ·have:=h.own b o' hm
   have hlt:=h.key_lt hm
   rw [Below.heap_alloc w o b hlt];exact this
 ·simp only [List.mem_cons,Prod.mk.injEq] at hm
  rcases hm with ⟨rfl,rfl⟩|hm
  ·intro hs;have:=h.lt _ hs;have:=h.size;omega
  ·exact h.out b o' hm
 ·simp only [List.map_cons,List.nodup_cons,List.mem_map,not_exists,not_and]
  refine ⟨fun x hx e=>?_,h.nodup⟩;have:=h.key_lt (b:=x.1) (o:=x.2) hx
  omega
theorem Hp.put {S:Nat→Prop} {w0 w w' :World} {l r:Seg} {b:Nat} {o o' :Obj} (h:Hp S w0 (l++(b,o)::r) w)
  (ab:w'.os=w.os) (O:w'.tape=w.tape) (Z:w'.output=w.output) (X:w'.heap.size=w.heap.size) (aa:w.drawn≤w'.drawn)
  (hb:w'.heap[b]? =some o') (hne:∀ k,k≠b→w'.heap[k]? =w.heap[k]?):Hp S w0 (l++(b,o')::r) w' :=by
 have Y:¬ S b:=h.out b o aN
 have U:=h.nodup
 simp only [List.map_append,List.map_cons] at U;have J:=List.nodup_append.1 U
 have hl:∀ F,(b,F)∉l:=fun F hm=>J.2.2 b (List.mem_map.2 ⟨_,hm,rfl⟩) b aN rfl
 have hr:∀ F,(b,F)∉r:=fun F hm=>(List.nodup_cons.1 J.2.1).1 (List.mem_map.2 ⟨_,hm,rfl⟩)
 refine ⟨ab.trans h.os,O.trans h.tape,Z.trans h.output,by rw [X];exact h.size,Nat.le_trans h.drawn aa,h.lt,fun k hk=>?_,fun k F hm=>?_,fun k F hm=>?_,?_⟩
 ·rw [hne k (fun e=>Y (e▸hk))];exact h.same k hk
 ·simp only [List.mem_append,List.mem_cons,Prod.mk.injEq] at hm
  rcases hm with hm|⟨rfl,rfl⟩|hm
  ·rw [hne k (fun e=>hl F (e▸hm))];exact h.own k F (by simp [hm])
  ·exact hb
  ·rw [hne k (fun e=>hr F (e▸hm))];exact h.own k F (by simp [hm])
 ·simp only [List.mem_append,List.mem_cons,Prod.mk.injEq] at hm
  rcases hm with hm|⟨rfl,rfl⟩|hm
  ·exact h.out k F (by simp [hm])
  ·exact Y
  ·exact h.out k F (by simp [hm])
 ·simpa using U
theorem Hp.setCell {S:Nat→Prop} {w0 w:World} {l r:Seg} {b:Nat} {cs:List Value} {T:TypeId} (h:Hp S w0 (l++(b,blk cs T)::r) w) (i:Nat) (v:Value):
  Hp S w0 (l++(b,blk (cs.set i v) T)::r) (w.setCell ⟨b,i,none⟩ v):=by
 have hb:=h.own b (blk cs T) aN
 refine h.put rfl rfl rfl (by simp [World.setCell]) (Nat.le_refl _) ?_ (fun k hk=>Below.heap_setCell w _ v k hk);simp [World.setCell,Array.getElem?_modify,hb]
theorem Hp.cell {S:Nat→Prop} {w0 w:World} {m:Seg} (h:Hp S w0 m w) {b:Nat} {cs:List Value} {T:TypeId} (hm:(b,blk cs T)∈m) (i:Nat):w.cell? ⟨b,i,none⟩=cs[i]? :=by
 have hb:=h.own b _ hm
 simp [World.cell?,hb]
theorem Hp.frozen {S:Nat→Prop} {w0 w:World} {m:Seg} (h:Hp S w0 m w) {b:Nat} {cs:List Value} {T:TypeId} (hm:(b,blk cs T)∈m) (i:Nat):w.frozen? ⟨b,i,none⟩=false:=by
 have hb:=h.own b _ hm
 simp [World.frozen?,hb]
theorem Hp.cellS {S:Nat→Prop} {w0 w:World} {m:Seg} (h:Hp S w0 m w) {b:Nat} (F:S b) (i:Nat):w.cell? ⟨b,i,none⟩=w0.cell? ⟨b,i,none⟩:=
 World.cell?_of_block (a:=⟨b,i,none⟩) (h.same b F)
class At (segs:List Seg) (b:Nat) (o:outParam Obj) (f:outParam (Seg→List Seg)):Prop where
 eq:∃ l r,segs=l++[(b,o)]::r∧f=fun x=>l++x::r
instance (priority:=high) At.here {b:Nat} {o:Obj} {tl:List Seg}:At ([(b,o)]::tl) b o (fun x=>x::tl):=⟨⟨[],tl,rfl,rfl⟩⟩
instance At.there {b:Nat} {o:Obj} {s:Seg} {tl:List Seg} {f:Seg→List Seg} [h:At tl b o f]:At (s::tl) b o (fun x=>s::f x):=
 let ⟨l,r,e,e'⟩:=h.eq
 ⟨⟨s::l,r,by rw [e];rfl,by rw [e'];rfl⟩⟩
theorem At.flat {segs:List Seg} {b:Nat} {o:Obj} {f:Seg→List Seg} (h:At segs b o f):
  ∃ l r:Seg,segs.flatten=l++(b,o)::r∧∀ o',(f [(b,o')]).flatten=l++(b,o')::r:=by
 obtain ⟨l,r,rfl,rfl⟩:=h.eq
 exact ⟨l.flatten,r.flatten,aN,fun o' =>aN⟩
theorem At.mem {segs:List Seg} {b:Nat} {o:Obj} {f:Seg→List Seg} (h:At segs b o f):(b,o)∈segs.flatten:=by
 obtain ⟨l,r,e,_⟩:=h.flat
 rw [e];simp
def Sub (segs out:List Seg):Prop:=∃ rest,segs.flatten.Perm (out.flatten++rest)
theorem aP {segs:List Seg}:Sub segs []:=⟨segs.flatten,aN⟩
theorem Sub.empty {segs:List Seg}:Sub segs [[]]:=⟨segs.flatten,aN⟩
theorem Sub.addNil {segs:List Seg}:Sub segs ([]::segs):=⟨[],aN⟩
theorem Sub.refl {segs:List Seg}:Sub segs segs:=⟨[],aN⟩
theorem Sub.p0 {s:Seg} {F r:List Seg} (h:Sub F r):Sub (s::F) (s::r):=by
 obtain ⟨rest,h⟩:=h
 refine ⟨rest,?_⟩;simp only [List.flatten_cons,List.append_assoc];exact h.append_left s
class Pick (segs:List Seg) (s:Seg) (out:outParam (List Seg)):Prop where
 perm:segs.flatten.Perm (s++out.flatten)
instance (priority:=high) Pick.here {s:Seg} {tl:List Seg}:Pick (s::tl) s tl:=⟨aN⟩
instance Pick.there {s h:Seg} {tl tl' :List Seg} [p:Pick tl s tl']:Pick (h::tl) s (h::tl'):=
 ⟨by
  simp only [List.flatten_cons];refine (p.perm.append_left h).trans ?_;rw [← List.append_assoc,← List.append_assoc]
  exact (List.perm_append_comm).append_right _⟩
theorem aM {segs segs' :List Seg} {s:Seg} {r:List Seg} [p:Pick segs s segs'] (h:Sub segs' r):Sub segs (s::r):=by
 obtain ⟨rest,h⟩:=h
 refine ⟨rest,p.perm.trans ?_⟩;simp only [List.flatten_cons,List.append_assoc];exact h.append_left s
class PickB (segs:List Seg) (b:Nat) (o:outParam Obj) (out:outParam (List Seg)):Prop where
 perm:segs.flatten.Perm ((b,o)::out.flatten)
instance (priority:=high) PickB.here {b:Nat} {o:Obj} {tl:List Seg}:PickB ([(b,o)]::tl) b o tl:=⟨aN⟩
instance PickB.there {b:Nat} {o:Obj} {h:Seg} {tl tl' :List Seg} [p:PickB tl b o tl']:PickB (h::tl) b o (h::tl'):=
 ⟨by
  simp only [List.flatten_cons];refine (p.perm.append_left h).trans ?_;rw [show (b,o)::(h++tl'.flatten)=[(b,o)]++(h++tl'.flatten) from rfl,show h++(b,o)::tl'.flatten=h++([(b,o)]++tl'.flatten) from rfl,← List.append_assoc,← List.append_assoc]
  exact (List.perm_append_comm).append_right _⟩
theorem Sub.cast {segs segs' :List Seg} {b:Nat} {cs cs' :List Value} {E:TypeId} {r:List Seg} [p:PickB segs b (blk cs E) segs'] (e:cs=cs') (h:Sub segs' r):Sub segs ([(b,blk cs' E)]::r):=by
 subst e;obtain ⟨rest,h⟩:=h
 refine ⟨rest,p.perm.trans ?_⟩;simp only [List.flatten_cons,List.append_assoc];exact h.append_left [(b,blk cs E)]
theorem fU {segs r:List Seg} (h:Sub segs r):Sub segs ([]::r):=by obtain ⟨rest,h⟩:=h;exact ⟨rest,by simpa using h⟩
theorem cE {segs segs' :List Seg} {b:Nat} {o o' :Obj} {r:List Seg} [p:PickB segs b o segs'] (e:o=o') (h:Sub segs' r):Sub segs ([(b,o')]::r):=by
 subst e;obtain ⟨rest,h⟩:=h
 refine ⟨rest,p.perm.trans ?_⟩;simp only [List.flatten_cons,List.append_assoc];exact h.append_left [(b,o)]
theorem Sub.flat2 {segs out:List Seg} {x:Seg} (h:Sub segs (x::out)):Sub segs [out.flatten,x]:=by
 obtain ⟨rest,h⟩:=h
 exact ⟨rest,by simp only [List.flatten_cons,List.flatten_nil,List.append_nil] at h ⊢;exact h.trans (List.perm_append_comm.append_right _)⟩
theorem Hp.sub {S:Nat→Prop} {w0 w:World} {segs out:List Seg} (h:Hp S w0 segs.flatten w) (hs:Sub segs out):Hp S w0 out.flatten w:=by
 obtain ⟨rest,hp⟩:=hs
 exact (h.perm hp).left
def Fr (w:World) (own:List Seg) (b:Nat):Prop:=b<w.heap.size∧b∉own.flatten.map (·.1)
structure Owns (w:World) (own:List Seg):Prop where
 there:∀ b o,(b,o)∈own.flatten→w.heap[b]? =some o
 nodup:(own.flatten.map (·.1)).Nodup
def fV (w:World) (own:List Seg) (Φ:Value→List Seg→Prop) (e:Ending) (w' :World):Prop:=
 ∃ v own',e= .returned v∧Hp (Fr w own) w own'.flatten w'∧Φ v own'
def Meets (P:Program) (f:FuncId) (args:List Value) (w:World) (own:List Seg) (Φ:Value→List Seg→Prop):Prop:=
 Calls P f args.toArray w (fV w own Φ)
theorem Meets.mono {P:Program} {f:FuncId} {args:List Value} {w:World} {own:List Seg} {Φ F:Value→List Seg→Prop}
  (h:Meets P f args w own Φ) (hi:∀ v m,Φ v m→F v m):Meets P f args w own F:=
 Calls.mono h fun _ _ ⟨v,m,he,hp,hf⟩=>⟨v,m,he,hp,hi v m hf⟩
theorem Owns.nil {w:World}:Owns w []:=⟨aN,aN⟩
theorem Hp.owns {S:Nat→Prop} {w0 w:World} {own fr:List Seg} (h:Hp S w0 (own++fr).flatten w):Owns w own:=by
 rw [List.flatten_append] at h;exact ⟨h.left.own,h.left.nodup⟩
theorem Hp.start {w:World} {own:List Seg} (h:Owns w own):Hp (Fr w own) w own.flatten w:=
 ⟨rfl,rfl,rfl,Nat.le_refl _,Nat.le_refl _,fun _ hb=>hb.1,fun _ _=>rfl,h.there,fun b o hm hb=>hb.2 (List.mem_map.2 ⟨_,hm,rfl⟩),h.nodup⟩
theorem Hp.called {S:Nat→Prop} {w0 w w' :World} {own own' fr:List Seg} (h:Hp S w0 (own++fr).flatten w) (k:Hp (Fr w own) w own'.flatten w'):
  Hp S w0 (own' ++fr).flatten w' :=by
 rw [List.flatten_append] at h ⊢
 have O:∀ b,S b→Fr w own b:=fun b hb=>⟨Nat.lt_of_lt_of_le (h.lt b hb) h.size,fun hm=>by
  obtain ⟨⟨b',o⟩,hx,rfl⟩:=List.mem_map.1 hm
  exact h.out b' o (by simp only [List.mem_append];exact .inl hx) hb⟩
 have U:=h.nodup
 rw [List.map_append] at U;have F:=List.nodup_append.1 U
 have X:∀ b o,(b,o)∈fr.flatten→Fr w own b:=fun b o hm=>⟨h.key_lt (o:=o) (by simp only [List.mem_append];exact .inr hm),fun J=>
  F.2.2 b J b (List.mem_map.2 ⟨_,hm,rfl⟩) rfl⟩
 refine ⟨k.os.trans h.os,k.tape.trans h.tape,k.output.trans h.output,Nat.le_trans h.size k.size,Nat.le_trans h.drawn k.drawn,h.lt,fun b hb=>?_,fun b o hm=>?_,fun b o hm=>?_,?_⟩
 ·rw [k.same b (O b hb)];exact h.same b hb
 ·rcases List.mem_append.1 hm with hm|hm
  ·exact k.own b o hm
  ·rw [k.same b (X b o hm)];exact h.own b o (by simp only [List.mem_append];exact .inr hm)
 ·rcases List.mem_append.1 hm with hm|hm
  ·exact fun hb=>k.out b o hm (O b hb)
  ·exact h.out b o (by simp only [List.mem_append];exact .inr hm)
 ·rw [List.map_append,List.nodup_append]
  refine ⟨k.nodup,F.2.1,fun x hx y hy e=>?_⟩;subst e;obtain ⟨⟨b,o⟩,hm,rfl⟩:=List.mem_map.1 hx
  obtain ⟨⟨b',o'⟩,J,e'⟩:=List.mem_map.1 hy
  simp only at e';subst e';exact k.out _ o hm (X _ o' J)
theorem Meets.below {P:Program} {f:FuncId} {args:List Value} {w:World} {Φ:Value→List Seg→Prop} (h:Meets P f args w [] Φ):
  Calls P f args.toArray w fun e w' =>∃ v m,e= .returned v∧Below w.heap.size w w'∧Φ v m:=
 Calls.mono h fun _ _ ⟨v,m,he,hp,hf⟩=>⟨v,m,he,⟨hp.os,hp.tape,hp.output,hp.size,fun k hk=>hp.same k ⟨hk,aN⟩⟩,hf⟩
def nU (Q:Exit→Act→World→Prop):Exit→Act→World→Prop
 | .panic _,_,_=>False
 |e,a,w=>Q e a w
section
variable (P:Program) (n:Nat) (S:Nat→Prop) (w0:World)
def Wq (R:Act→World→Prop) (env:Env) (segs:List Seg):Prop:=∀ a w,En n env a→Hp S w0 segs.flatten w→R a w
def Wc (Q:Exit→Act→World→Prop) (env:Env) (segs:List Seg) (c:Code):Prop:=∀ a w,En n env a→Hp S w0 segs.flatten w→c.wp P Q a w
def Wl (ops:Array Oper) (Q:Exit→Act→World→Prop) (env:Env) (segs:List Seg) (l:List Oper):Prop:=
 ∀ a w,En n env a→Hp S w0 segs.flatten w→wpList P ops Q l a w
def Ws (ops:Array Oper) (R:Act→World→Prop) (env:Env) (segs:List Seg) (l:List Oper):Prop:=
 ∀ a w,En n env a→Hp S w0 segs.flatten w→wpStill P ops w (fun F=>R F w) l a
def Wh (ops:Array Oper) (Q:Exit→Act→World→Prop) (base:List Seg) (fuel:Nat) (F:Array Bool) (env:Env) (segs:List Seg):Prop:=
 ∀ a w,En n env a→Hp S w0 segs.flatten w→wpAnyH P .any ops (nU Q) (fun w=>Hp S w0 base.flatten w) fuel F a w
def Pure (env:Env) (segs:List Seg) (o:Oper) (v:Value):Prop:=∀ a w,En n env a→Hp S w0 segs.flatten w→(execOp a.eval o).run P w= .ok (.value v) w
def Does (env:Env) (segs:List Seg) (o:Oper) (K:Value→List Seg→Prop):Prop:=
 ∀ a w (next:Act→World→Prop) (Q:Exit→Act→World→Prop),En n env a→Hp S w0 segs.flatten w→
  (∀ v segs' w',K v segs'→Hp S w0 segs'.flatten w'→next (a.put o.dst v) w')→o.wp P a w next Q
end
section
variable {P:Program} {n:Nat} {S:Nat→Prop} {w0:World} {env:Env} {segs:List Seg} {Q:Exit→Act→World→Prop} {ops:Array Oper} {rest:List Oper} {o:Oper}
theorem f_step {d:Nat} (hg:o.guard=none) (hd:o.dst=some d) (hn:Nat.blt d n=true)
  (h:Does P n S w0 env segs o fun v segs' =>Wl P n S w0 ops Q ((d,v)::env) segs' rest):Wl P n S w0 ops Q env segs (o::rest):=by
 intro a w ha hp;refine wpList_plain hg fun K J=>h a w K Q ha hp fun v segs' w' hk F=>J _ _ (hk _ _ ?_ F);rw [hd];exact ha.put hn v
theorem f_step0 (hg:o.guard=none) (hd:o.dst=none)
  (h:Does P n S w0 env segs o fun _ segs' =>Wl P n S w0 ops Q env segs' rest):Wl P n S w0 ops Q env segs (o::rest):=by
 intro a w ha hp;refine wpList_plain hg fun K J=>h a w K Q ha hp fun v segs' w' hk F=>J _ _ (hk _ _ ?_ F);rw [hd];exact ha.none v
theorem jY {d j t:Nat} {b:Bool} (hg:o.guard=some (j,b)) (hj:(ops[j]?).bind (·.dst)=some t) (hl:look env t=some (.bool b)) (hd:o.dst=some d) (hn:Nat.blt d n=true)
  (h:Does P n S w0 env segs o fun v segs' =>Wl P n S w0 ops Q ((d,v)::env) segs' rest):Wl P n S w0 ops Q env segs (o::rest):=by
 intro a w ha hp;refine wpList_step fun K J=>?_;rw [if_pos (by simp [Region.wanted,hg,yielded,hj,ha.get _ _ hl])];refine h a w K Q ha hp fun v segs' w' hk F=>J _ _ (hk _ _ ?_ F);rw [hd];exact ha.put hn v
theorem f_stepN {d j t:Nat} {b c:Bool} (hg:o.guard=some (j,b)) (hj:(ops[j]?).bind (·.dst)=some t) (hl:look env t=some (.bool c)) (hc:(c==b)=false) (hd:o.dst=some d) (hn:Nat.blt d n=true)
  (h:Wl P n S w0 ops Q ((d,undef)::env) segs rest):Wl P n S w0 ops Q env segs (o::rest):=by
 intro a w ha hp;refine wpList_step fun K F=>?_;have hne:c≠b:=by simpa using hc
 rw [if_neg (by simp [Region.wanted,hg,yielded,hj,ha.get _ _ hl,hne])];refine F _ _ (h _ _ ?_ hp);rw [hd];exact ha.put hn undef
theorem k5 {d j t:Nat} {b:Bool} (hg:o.guard=some (j,b)) (hj:(ops[j]?).bind (·.dst)=some t) (hl:look env t=some undef) (hd:o.dst=some d) (hn:Nat.blt d n=true)
  (h:Wl P n S w0 ops Q ((d,undef)::env) segs rest):Wl P n S w0 ops Q env segs (o::rest):=by
 intro a w ha hp;refine wpList_step fun K F=>?_;rw [if_neg (by simp [Region.wanted,hg,yielded,hj,ha.get _ _ hl,undef])];refine F _ _ (h _ _ ?_ hp);rw [hd];exact ha.put hn undef
theorem aZ (h:Wq n S w0 (Q .normal) env segs):Wl P n S w0 ops Q env segs []:=fun a w ha hp=>wpList_nil (h a w ha hp)
theorem aI {id:Nat} {l:List Oper} (h:Wl P n S w0 l.toArray Q env segs l):Wc P n S w0 Q env segs (.region id l.toArray false):=
 fun a w ha hp=>wp_region_lit (h a w ha hp)
theorem d8 (t:Nat) {F:Prop} [Decidable F] {l:List Oper} (hl:look env t=some (.bool (decide F)))
  (hy:F→Wl P n S w0 ops Q ((t,.bool true)::env) segs l) (hn:¬ F→Wl P n S w0 ops Q ((t,.bool false)::env) segs l):Wl P n S w0 ops Q env segs l:=by
 intro a w ha hp
 by_cases h:F
 ·refine hy h a w (ha.also ?_) hp
  rw [hl,decide_eq_true h]
 ·refine hn h a w (ha.also ?_) hp
  rw [hl,decide_eq_false h]
theorem m4 (t:Nat) {b:Bool} {l:List Oper} (hl:look env t=some (.bool b))
  (hy:b=true→Wl P n S w0 ops Q ((t,.bool true)::env) segs l) (hn:b=false→Wl P n S w0 ops Q ((t,.bool false)::env) segs l):Wl P n S w0 ops Q env segs l:=by
 intro a w ha hp;cases b
 ·exact hn rfl a w (ha.also hl) hp
 ·exact hy rfl a w (ha.also hl) hp
theorem f_trueL (t:Nat) {F:Prop} [Decidable F] {l:List Oper} (hl:look env t=some (.bool (decide F))) (h:F) (k:Wl P n S w0 ops Q ((t,.bool true)::env) segs l):Wl P n S w0 ops Q env segs l:=
 fun a w ha hp=>k a w (ha.also (by rw [hl,decide_eq_true h])) hp
theorem iY (t:Nat) {F:Prop} [Decidable F] {l:List Oper} (hl:look env t=some (.bool (decide F))) (h:¬ F) (k:Wl P n S w0 ops Q ((t,.bool false)::env) segs l):Wl P n S w0 ops Q env segs l:=
 fun a w ha hp=>k a w (ha.also (by rw [hl,decide_eq_false h])) hp
theorem f_falseS (t:Nat) {F:Prop} [Decidable F] {l:List Oper} {R:Act→World→Prop} (hl:look env t=some (.bool (decide F))) (h:¬ F) (k:Ws P n S w0 ops R ((t,.bool false)::env) segs l):Ws P n S w0 ops R env segs l:=
 fun a w ha hp=>k a w (ha.also (by rw [hl,decide_eq_false h])) hp
theorem f_reC (t:Nat) {u v:Value} {c:Code} (hl:look env t=some u) (e:u=v) (h:Wc P n S w0 Q ((t,v)::env) segs c):Wc P n S w0 Q env segs c:=
 fun a w ha hp=>h a w (ha.also (e▸hl)) hp
theorem f_reQ (t:Nat) {u v:Value} {R:Act→World→Prop} (hl:look env t=some u) (e:u=v) (h:Wq n S w0 R ((t,v)::env) segs):Wq n S w0 R env segs:=
 fun a w ha hp=>h a w (ha.also (e▸hl)) hp
theorem eP {out:List Seg} {c:Code} (hs:Sub segs out) (h:Wc P n S w0 Q env out c):Wc P n S w0 Q env segs c:=fun a w ha hp=>h a w ha (hp.sub hs)
theorem f9 {out:List Seg} {R:Act→World→Prop} (hs:Sub segs out) (h:Wq n S w0 R env out):Wq n S w0 R env segs:=fun a w ha hp=>h a w ha (hp.sub hs)
theorem f_seq {x y:Code} (h:∀ K:Act→World→Prop,(∀ env segs,Wc P n S w0 Q env segs y→Wq n S w0 K env segs)→Wc P n S w0 (Exit.then K Q) env segs x):
  Wc P n S w0 Q env segs (.seq x y):=
 fun a w ha hp=>wp_seq (h (y.wp P Q) (fun _ _ hy O w' F J=>hy O w' F J) a w ha hp)
theorem aX {c:Operand} {x y:Code} {F:Prop} [Decidable F] (hc:ev env c=some (.bool (decide F))) (J:F→Wc P n S w0 Q env segs x) (hf:¬ F→Wc P n S w0 Q env segs y):
  Wc P n S w0 Q env segs (.cond c x y):=by
 intro a w ha hp;have he:=ha.eval hc
 by_cases h:F
 ·exact wp_cond_true (by rw [he,decide_eq_true h]) (J h a w ha hp)
 ·exact wp_cond_false (by rw [he,decide_eq_false h]) (hf h a w ha hp)
theorem f_condY {c:Operand} {x y:Code} {F:Prop} [Decidable F] (hc:ev env c=some (.bool (decide F))) (h:F) (J:Wc P n S w0 Q env segs x):Wc P n S w0 Q env segs (.cond c x y):=
 fun a w ha hp=>wp_cond_true ((ha.eval hc).trans (by rw [decide_eq_true h])) (J a w ha hp)
theorem dX {c:Operand} {x y:Code} {F:Prop} [Decidable F] (hc:ev env c=some (.bool (decide F))) (h:¬ F) (hf:Wc P n S w0 Q env segs y):Wc P n S w0 Q env segs (.cond c x y):=
 fun a w ha hp=>wp_cond_false ((ha.eval hc).trans (by rw [decide_eq_false h])) (hf a w ha hp)
theorem fI {c:Operand} {x y:Code} (hc:ev env c=some (.bool true)) (F:Wc P n S w0 Q env segs x):Wc P n S w0 Q env segs (.cond c x y):=
 fun a w ha hp=>wp_cond_true (ha.eval hc) (F a w ha hp)
theorem iJ {c:Operand} {x y:Code} (hc:ev env c=some (.bool false)) (hf:Wc P n S w0 Q env segs y):Wc P n S w0 Q env segs (.cond c x y):=
 fun a w ha hp=>wp_cond_false (ha.eval hc) (hf a w ha hp)
theorem eO {c:Operand} {x y:Code} {b:Bool} (hc:ev env c=some (.bool b)) (F:b=true→Wc P n S w0 Q env segs x) (hf:b=false→Wc P n S w0 Q env segs y):
  Wc P n S w0 Q env segs (.cond c x y):=by
 intro a w ha hp;have he:=ha.eval hc
 cases b
 ·exact wp_cond_false he (hf rfl a w ha hp)
 ·exact wp_cond_true he (F rfl a w ha hp)
theorem aR {id:Nat} {c:Code} (h:Wc P n S w0 (Exit.inBlock id Q) env segs c):Wc P n S w0 Q env segs (.block id c):=fun a w ha hp=>wp_block (h a w ha hp)
theorem dY (h:Wq n S w0 (Q .normal) env segs):Wc P n S w0 Q env segs .skip:=fun a w ha hp=>wp_skip (h a w ha hp)
theorem aY (h:Wq n S w0 (Q .ret) env segs):Wc P n S w0 Q env segs .ret:=fun a w ha hp=>wp_ret (h a w ha hp)
theorem cN {id:Nat} (h:Wq n S w0 (Q (.exit id)) env segs):Wc P n S w0 Q env segs (.exit id):=fun a w ha hp=>wp_exit (h a w ha hp)
theorem f_stepP {d:Nat} {v:Value} (hg:o.guard=none) (hd:o.dst=some d) (hn:Nat.blt d n=true) (hp:Pure P n S w0 env segs o v)
  (h:Wl P n S w0 ops Q ((d,v)::env) segs rest):Wl P n S w0 ops Q env segs (o::rest):=by
 intro a w ha hh;refine wpList_plain hg fun K F=>?_
 unfold Oper.wp
 rw [hp a w ha hh];refine F _ _ (h _ _ ?_ hh);rw [hd];exact ha.put hn v
theorem f_stepPY {d j t:Nat} {b:Bool} {v:Value} (hg:o.guard=some (j,b)) (hj:(ops[j]?).bind (·.dst)=some t) (hl:look env t=some (.bool b)) (hd:o.dst=some d) (hn:Nat.blt d n=true) (hp:Pure P n S w0 env segs o v)
  (h:Wl P n S w0 ops Q ((d,v)::env) segs rest):Wl P n S w0 ops Q env segs (o::rest):=by
 intro a w ha hh;refine wpList_step fun K F=>?_;rw [if_pos (by simp [Region.wanted,hg,yielded,hj,ha.get _ _ hl])]
 unfold Oper.wp
 rw [hp a w ha hh];refine F _ _ (h _ _ ?_ hh);rw [hd];exact ha.put hn v
theorem f_stillP {d:Nat} {v:Value} {R:Act→World→Prop} (hg:o.guard=none) (hd:o.dst=some d) (hn:Nat.blt d n=true) (hp:Pure P n S w0 env segs o v)
  (h:Ws P n S w0 ops R ((d,v)::env) segs rest):Ws P n S w0 ops R env segs (o::rest):=by
 intro a w ha hh;refine wpStill_step fun K F=>?_;rw [if_pos (by simp [Region.wanted,hg])]
 unfold Oper.still
 rw [hp a w ha hh,Oper.stillUpon_value];refine F _ (h _ _ ?_ hh);rw [hd];exact ha.put hn v
theorem dQ {d j t:Nat} {b:Bool} {v:Value} {R:Act→World→Prop} (hg:o.guard=some (j,b)) (hj:(ops[j]?).bind (·.dst)=some t) (hl:look env t=some (.bool b)) (hd:o.dst=some d) (hn:Nat.blt d n=true) (hp:Pure P n S w0 env segs o v)
  (h:Ws P n S w0 ops R ((d,v)::env) segs rest):Ws P n S w0 ops R env segs (o::rest):=by
 intro a w ha hh;refine wpStill_step fun K F=>?_;rw [if_pos (by simp [Region.wanted,hg,yielded,hj,ha.get _ _ hl])]
 unfold Oper.still
 rw [hp a w ha hh,Oper.stillUpon_value];refine F _ (h _ _ ?_ hh);rw [hd];exact ha.put hn v
theorem f_stillN {d j t:Nat} {b c:Bool} {R:Act→World→Prop} (hg:o.guard=some (j,b)) (hj:(ops[j]?).bind (·.dst)=some t) (hl:look env t=some (.bool c)) (hc:(c==b)=false) (hd:o.dst=some d) (hn:Nat.blt d n=true)
  (h:Ws P n S w0 ops R ((d,undef)::env) segs rest):Ws P n S w0 ops R env segs (o::rest):=by
 intro a w ha hh;refine wpStill_step fun K F=>?_;have hne:c≠b:=by simpa using hc
 rw [if_neg (by simp [Region.wanted,hg,yielded,hj,ha.get _ _ hl,hne])];refine F _ (h _ _ ?_ hh);rw [hd];exact ha.put hn undef
theorem eI {R:Act→World→Prop} (h:Wq n S w0 R env segs):Ws P n S w0 ops R env segs []:=fun a w ha hp=>wpStill_nil (h a w ha hp)
theorem f_splitS (t:Nat) {F:Prop} [Decidable F] {l:List Oper} {R:Act→World→Prop} (hl:look env t=some (.bool (decide F)))
  (hy:F→Ws P n S w0 ops R ((t,.bool true)::env) segs l) (hn:¬ F→Ws P n S w0 ops R ((t,.bool false)::env) segs l):Ws P n S w0 ops R env segs l:=by
 intro a w ha hp
 by_cases h:F
 ·refine hy h a w (ha.also ?_) hp
  rw [hl,decide_eq_true h]
 ·refine hn h a w (ha.also ?_) hp
  rw [hl,decide_eq_false h]
theorem gV {id:Nat} {l:List Oper} (hm:P.follows .mixedOrders=true) (hB:Region.lexB .any l.toArray=true)
  (h:Ws P n S w0 l.toArray (Q .normal) env segs l):Wc P n S w0 Q env segs (.region id l.toArray true):=
 fun a w ha hp=>wp_region_still_lit hm hB (h a _ ha (hp.drew _ (Nat.le_succ _)))
theorem gG {id:Nat} {l:List Oper} (k:Nat) (hm:P.follows .mixedOrders=true) (hB:Region.lexTailB .any l.toArray k=true)
  (h:Ws P n S w0 l.toArray (fun a w=>wpList P l.toArray Q (l.drop k) a w) env segs (l.take k)):Wc P n S w0 Q env segs (.region id l.toArray true):=
 fun a w ha hp=>wp_region_still_tail k hm hB (h a _ ha (hp.drew _ (Nat.le_succ _)))
theorem iX {l:List Oper} (h:Wl P n S w0 ops Q env segs l):Wq n S w0 (fun a w=>wpList P ops Q l a w) env segs:=h
theorem c7 {id:Nat} {l:List Oper} (base:List Seg) (hm:P.follows .mixedOrders=true)
  (h:Wh P n S w0 l.toArray Q base l.length (Array.replicate l.length false) env segs):Wc P n S w0 Q env segs (.region id l.toArray true):=
 fun a w ha hp=>wp_mono (Q:=nU Q) (wp_region_held (S:=fun w=>Hp S w0 base.flatten w) hm (by
  have:=h a _ ha (hp.drew (w.drawn+1) (Nat.le_succ _))
  simpa using this)) fun e a w q=>by cases e<;>first|exact q|exact q.elim
theorem f_take {base:List Seg} (i:Nat) {d fuel:Nat} {v:Value} {F:Array Bool} (hi:ops[i]? =some o) (hc:(Region.noSelect ops&&Region.free .any ops F i&&(Region.ready .any ops F).contains i)=true)
  (hg:o.guard=none) (hd:o.dst=some d) (hn:Nat.blt d n=true) (hb:Sub segs base) (hp:Pure P n S w0 env base o v)
  (h:Wh P n S w0 ops Q base fuel (F.setIfInBounds i true) ((d,v)::env) segs):Wh P n S w0 ops Q base (fuel+1) F env segs:=by
 intro a w ha hh;simp only [Bool.and_eq_true] at hc;refine wpAnyH_take hi hc.1.1 hc.1.2 hc.2 (fun _ _ _ hf=>hf.elim) (.inl ⟨by simp [Region.wanted,hg],fun w' J=>hp a w' ha J⟩) (hh.sub hb) ?_;rw [hd];exact h _ _ (ha.put hn v) hh
theorem f_only {base:List Seg} (i:Nat) {d fuel:Nat} {F:Array Bool} (hi:ops[i]? =some o) (hr:Region.ready .any ops F=[i]) (hg:o.guard=none) (hd:o.dst=some d) (hn:Nat.blt d n=true)
  (h:Does P n S w0 env segs o fun v segs' =>Sub segs' base∧Wh P n S w0 ops Q base fuel (F.setIfInBounds i true) ((d,v)::env) segs'):Wh P n S w0 ops Q base (fuel+1) F env segs:=by
 intro a w ha hh;refine wpAnyH_all hr aN fun j hj=>?_;obtain rfl:j=i:=by simpa using hj
 unfold wpOp
 simp only [hi,Region.wanted,hg,if_true];refine .inl (h a w _ _ ha hh fun v segs' w' ⟨hb,hk⟩ J=>⟨J.sub hb,hk _ _ ?_ J⟩);rw [hd];exact ha.put hn v
theorem f_only0 {base:List Seg} (i:Nat) {fuel:Nat} {F:Array Bool} (hi:ops[i]? =some o) (hr:Region.ready .any ops F=[i]) (hg:o.guard=none) (hd:o.dst=none)
  (h:Does P n S w0 env segs o fun _ segs' =>Sub segs' base∧Wh P n S w0 ops Q base fuel (F.setIfInBounds i true) env segs'):Wh P n S w0 ops Q base (fuel+1) F env segs:=by
 intro a w ha hh;refine wpAnyH_all hr aN fun j hj=>?_;obtain rfl:j=i:=by simpa using hj
 unfold wpOp
 simp only [hi,Region.wanted,hg,if_true];refine .inl (h a w _ _ ha hh fun v segs' w' ⟨hb,hk⟩ J=>⟨J.sub hb,hk _ _ ?_ J⟩);rw [hd];exact ha.none v
theorem f_takeY {base:List Seg} (i:Nat) {d j t fuel:Nat} {b:Bool} {v:Value} {F:Array Bool} (hi:ops[i]? =some o) (hc:(Region.noSelect ops&&Region.free .any ops F i&&(Region.ready .any ops F).contains i)=true)
  (hg:o.guard=some (j,b)) (hj:(ops[j]?).bind (·.dst)=some t) (hl:look env t=some (.bool b)) (hd:o.dst=some d) (hn:Nat.blt d n=true) (hb:Sub segs base) (hp:Pure P n S w0 env base o v)
  (h:Wh P n S w0 ops Q base fuel (F.setIfInBounds i true) ((d,v)::env) segs):Wh P n S w0 ops Q base (fuel+1) F env segs:=by
 intro a w ha hh;simp only [Bool.and_eq_true] at hc;refine wpAnyH_take hi hc.1.1 hc.1.2 hc.2 (fun _ _ _ hf=>hf.elim) (.inl ⟨by simp [Region.wanted,hg,yielded,hj,ha.get _ _ hl],fun w' J=>hp a w' ha J⟩) (hh.sub hb) ?_;rw [hd];exact h _ _ (ha.put hn v) hh
theorem dR {base:List Seg} (i:Nat) {d j t fuel:Nat} {b c:Bool} {F:Array Bool} (hi:ops[i]? =some o) (hc:(Region.noSelect ops&&Region.free .any ops F i&&(Region.ready .any ops F).contains i)=true)
  (hg:o.guard=some (j,b)) (hj:(ops[j]?).bind (·.dst)=some t) (hl:look env t=some (.bool c)) (J:(c==b)=false) (hd:o.dst=some d) (hn:Nat.blt d n=true) (hb:Sub segs base)
  (h:Wh P n S w0 ops Q base fuel (F.setIfInBounds i true) ((d,undef)::env) segs):Wh P n S w0 ops Q base (fuel+1) F env segs:=by
 intro a w ha hh;simp only [Bool.and_eq_true] at hc;have hne:c≠b:=by simpa using J
 refine wpAnyH_take hi hc.1.1 hc.1.2 hc.2 (fun _ _ _ hf=>hf.elim) (.inr ⟨by simp [Region.wanted,hg,yielded,hj,ha.get _ _ hl,hne],rfl⟩) (hh.sub hb) ?_;rw [hd];exact h _ _ (ha.put hn undef) hh
theorem f_onlyY {base:List Seg} (i:Nat) {d j t fuel:Nat} {b:Bool} {F:Array Bool} (hi:ops[i]? =some o) (hr:Region.ready .any ops F=[i]) (hg:o.guard=some (j,b)) (hj:(ops[j]?).bind (·.dst)=some t) (hl:look env t=some (.bool b)) (hd:o.dst=some d) (hn:Nat.blt d n=true)
  (h:Does P n S w0 env segs o fun v segs' =>Sub segs' base∧Wh P n S w0 ops Q base fuel (F.setIfInBounds i true) ((d,v)::env) segs'):Wh P n S w0 ops Q base (fuel+1) F env segs:=by
 intro a w ha hh;refine wpAnyH_all hr aN fun k hk=>?_;obtain rfl:k=i:=by simpa using hk
 unfold wpOp
 simp only [hi];rw [if_pos (by simp [Region.wanted,hg,yielded,hj,ha.get _ _ hl])];refine .inl (h a w _ _ ha hh fun v segs' w' ⟨hb,hk⟩ J=>⟨J.sub hb,hk _ _ ?_ J⟩);rw [hd];exact ha.put hn v
theorem f_splitH {base:List Seg} {fuel:Nat} {F:Array Bool} (t:Nat) {J:Prop} [Decidable J] (hl:look env t=some (.bool (decide J)))
  (hy:J→Wh P n S w0 ops Q base fuel F ((t,.bool true)::env) segs) (hn:¬ J→Wh P n S w0 ops Q base fuel F ((t,.bool false)::env) segs):Wh P n S w0 ops Q base fuel F env segs:=by
 intro a w ha hp
 by_cases h:J
 ·refine hy h a w (ha.also ?_) hp
  rw [hl,decide_eq_true h]
 ·refine hn h a w (ha.also ?_) hp
  rw [hl,decide_eq_false h]
theorem gH {base:List Seg} (i O:Nat) {o' :Oper} {d Y fuel:Nat} {F:Array Bool} (hi:ops[i]? =some o) (hi' :ops[O]? =some o') (hr:Region.ready .any ops F=[i,O]) (hg:o.guard=none) (Z:o'.guard=none)
  (hd:o.dst=some d) (aa:o'.dst=some Y) (hn:Nat.blt d n=true) (U:Nat.blt Y n=true)
  (h:Does P n S w0 env segs o fun v segs' =>Sub segs' base∧Wh P n S w0 ops Q base fuel (F.setIfInBounds i true) ((d,v)::env) segs')
  (h' :Does P n S w0 env segs o' fun v segs' =>Sub segs' base∧Wh P n S w0 ops Q base fuel (F.setIfInBounds O true) ((Y,v)::env) segs'):Wh P n S w0 ops Q base (fuel+1) F env segs:=by
 intro a w ha hh;refine wpAnyH_all hr aN fun j hj=>?_;have X:j=i∨j=O:=by simpa using hj
 rcases X with rfl|rfl
 ·unfold wpOp
  simp only [hi,Region.wanted,hg,if_true];refine .inl (h a w _ _ ha hh fun v segs' w' ⟨hb,hk⟩ J=>⟨J.sub hb,hk _ _ ?_ J⟩);rw [hd];exact ha.put hn v
 ·unfold wpOp
  simp only [hi',Region.wanted,Z,if_true];refine .inl (h' a w _ _ ha hh fun v segs' w' ⟨hb,hk⟩ J=>⟨J.sub hb,hk _ _ ?_ J⟩);rw [aa];exact ha.put U v
theorem f_three {base:List Seg} (i i' O:Nat) {o' U:Oper} {d d' X fuel:Nat} {F:Array Bool} (hi:ops[i]? =some o) (hi' :ops[i']? =some o') (Y:ops[O]? =some U) (hr:Region.ready .any ops F=[i,i',O]) (hg:o.guard=none) (ae:o'.guard=none) (Z:U.guard=none)
  (hd:o.dst=some d) (ag:o'.dst=some d') (aa:U.dst=some X) (hn:Nat.blt d n=true) (ad:Nat.blt d' n=true) (ab:Nat.blt X n=true)
  (h:Does P n S w0 env segs o fun v segs' =>Sub segs' base∧Wh P n S w0 ops Q base fuel (F.setIfInBounds i true) ((d,v)::env) segs')
  (h' :Does P n S w0 env segs o' fun v segs' =>Sub segs' base∧Wh P n S w0 ops Q base fuel (F.setIfInBounds i' true) ((d',v)::env) segs')
  (ah:Does P n S w0 env segs U fun v segs' =>Sub segs' base∧Wh P n S w0 ops Q base fuel (F.setIfInBounds O true) ((X,v)::env) segs'):Wh P n S w0 ops Q base (fuel+1) F env segs:=by
 intro a w ha hh;refine wpAnyH_all hr aN fun j hj=>?_;have ac:j=i∨j=i'∨j=O:=by simpa using hj
 rcases ac with rfl|rfl|rfl
 ·unfold wpOp
  simp only [hi,Region.wanted,hg,if_true];refine .inl (h a w _ _ ha hh fun v segs' w' ⟨hb,hk⟩ J=>⟨J.sub hb,hk _ _ ?_ J⟩);rw [hd];exact ha.put hn v
 ·unfold wpOp
  simp only [hi',Region.wanted,ae,if_true];refine .inl (h' a w _ _ ha hh fun v segs' w' ⟨hb,hk⟩ J=>⟨J.sub hb,hk _ _ ?_ J⟩);rw [ag];exact ha.put ad v
 ·unfold wpOp
  simp only [Y,Region.wanted,Z,if_true];refine .inl (ah a w _ _ ha hh fun v segs' w' ⟨hb,hk⟩ J=>⟨J.sub hb,hk _ _ ?_ J⟩);rw [aa];exact ha.put ab v
theorem cU {base:List Seg} {fuel:Nat} {F:Array Bool} (hr:Region.ready .any ops F=[]) (h:Wq n S w0 (Q .normal) env segs):Wh P n S w0 ops Q base fuel F env segs:=
 fun a w ha hh=>wpAnyH_done (Q:=nU Q) hr (show nU Q .normal a w from h a w ha hh) fuel
theorem Hp.respell {w:World} {b:Nat} {cs cs' :List Value} {E:TypeId} {f:Seg→List Seg} [hA:At segs b (blk cs E) f] (e:cs=cs') (hp:Hp S w0 segs.flatten w):Hp S w0 (f [(b,blk cs' E)]).flatten w:=by
 subst e;obtain ⟨l,r,e1,e2⟩:=hA.flat
 rw [e2,← e1];exact hp
theorem cS {K:Act→World→Prop} (h:Wq n S w0 K env segs):Wq n S w0 (Exit.then K Q .normal) env segs:=h
theorem cV {K:Act→World→Prop} (h:Wq n S w0 (Q .ret) env segs):Wq n S w0 (Exit.then K Q .ret) env segs:=h
theorem cO {K:Act→World→Prop} {id:Nat} (h:Wq n S w0 (Q (.exit id)) env segs):Wq n S w0 (Exit.then K Q (.exit id)) env segs:=h
theorem dF {id:Nat} (h:Wq n S w0 (Q .normal) env segs):Wq n S w0 (Exit.inBlock id Q .normal) env segs:=h
theorem fA {id:Nat} (h:Wq n S w0 (Q .ret) env segs):Wq n S w0 (Exit.inBlock id Q .ret) env segs:=h
theorem eC {id:Nat} (h:Wq n S w0 (Q .normal) env segs):Wq n S w0 (Exit.inBlock id Q (.exit id)) env segs:=by
 intro a w ha hp;simpa [Exit.inBlock] using h a w ha hp
theorem f_bo {id F:Nat} (hne:Nat.beq F id=false) (h:Wq n S w0 (Q (.exit F)) env segs):Wq n S w0 (Exit.inBlock id Q (.exit F)) env segs:=by
 intro a w ha hp;have:F≠id:=fun e=>by subst e;simp at hne
 simpa [Exit.inBlock,this] using h a w ha hp
def keep (ts:List Nat) (env:Env):Env:=match ts with
 |[]=>[]
 |t::r=>match look env t with
  |some v=>(t,v)::keep r env
  |none=>keep r env
theorem En.nil {n:Nat} {env:Env} {a:Act} (h:En n env a):En n [] a:=⟨h.size,h.defers,fun t v hx=>by simp [look] at hx⟩
theorem En.cons {n:Nat} {env env' :Env} {a:Act} {t:Nat} {v:Value} (h:En n env a) (hl:look env t=some v) (h' :En n env' a):En n ((t,v)::env') a:=
 ⟨h.size,h.defers,fun u x hx=>by
  rw [look_cons] at hx
  by_cases e:t=u
  ·subst e;rw [if_pos rfl] at hx;cases hx;exact h.get _ _ hl
  ·rw [if_neg e] at hx;exact h'.get _ _ hx⟩
theorem En.keep {n:Nat} {env:Env} {a:Act} (h:En n env a):∀ ts,En n (keep ts env) a
 |[]=>h.nil
 |t::r=>by
  simp only [Fly.keep]
  split
  ·rename_i v hv;exact h.cons hv (h.keep r)
  ·exact h.keep r
def Agree (ts:List Nat) (e e' :Env):Prop:=match ts with
 |[]=>True
 |t::r=>look e t=look e' t∧Agree r e e'
theorem En.agree {n:Nat} {e e' :Env} {a:Act} (h:En n e a):∀ {ts:List Nat},Agree ts e e'→En n (Fly.keep ts e') a
 |[],_=>h.nil
 |t::r,⟨h1,h2⟩=>by
  simp only [Fly.keep]
  split
  ·rename_i v hv;exact h.cons (h1.trans hv) (h.agree h2)
  ·exact h.agree h2
def Has (e:Env) (l:Env):Prop:=match l with
 |[]=>True
 |(t,v)::r=>look e t=some v∧Has e r
theorem En.has {n:Nat} {e b:Env} {a:Act} (h:En n e a) (hb:En n b a):∀ {l:Env},Has e l→En n (l++b) a
 |[],_=>hb
 |(_,_)::_,⟨h1,h2⟩=>h.cons h1 (h.has hb h2)
def Again {α:Type} (n:Nat) (S:Nat→Prop) (w0:World) (base:Env) (J:α→Env) (O:α→List Seg) (F:α→Prop) (U:α→Nat) (m:Nat) (a:Act) (w:World):Prop:=
 ∃ x,U x<m∧F x∧En n (J x++base) a∧Hp S w0 (O x).flatten w
theorem dA {α:Type} (ts:List Nat) (F:α→Env) (X:α→List Seg) (J:α→Prop) (O:α→Nat) (U:α) {c:Code}
  (he:Has env (F U)) (hs:Sub segs (X U)) (hi:J U)
  (round:∀ x,J x→Wc P n S w0 (Exit.then (Again n S w0 (keep ts env) F X J O (O x)) Q) (F x++keep ts env) (X x) c):
  Wc P n S w0 Q env segs (.loop c):=by
 intro a w ha hp
 refine wp_loop_ghost (fun m a w=>∃ x,O x=m∧J x∧En n (F x++keep ts env) a∧Hp S w0 (X x).flatten w) (O U)
  ⟨U,rfl,hi,ha.has (ha.keep ts) he,hp.sub hs⟩ ?_
 rintro m a' w' ⟨x,rfl,Y,aa,Z⟩;refine wp_mono (round x Y a' w' aa Z) ?_;intro e ab ac hq
 cases e with
 |normal=>
  obtain ⟨x',h1,h2,h3,h4⟩:=hq
  exact ⟨O x',h1,x',rfl,h2,h3,h4⟩
 |exit id=>exact hq
 |goto l=>exact hq
 |ret=>exact hq
 |panic ch=>exact hq
 |outgrown=>exact hq
theorem lU {α:Type} (ts:List Nat) (J:α→Env) (F:α→Prop) (O:α→Nat) (U:α) {c:Code}
  (he:Has env (J U)) (hi:F U)
  (round:∀ x,F x→Wc P n S w0 (Exit.then (Again n S w0 (keep ts env) J (fun _=>segs) F O (O x)) Q) (J x++keep ts env) segs c):
  Wc P n S w0 Q env segs (.loop c):=dA ts J (fun _=>segs) F O U he Sub.refl hi round
theorem a6 {α:Type} {ts:List Nat} {F:Env} {J:α→Env} {U:α→List Seg} {O:α→Prop} {X:α→Nat} {m:Nat} (x:α)
  (hm:X x<m) (hi:O x) (he:Has env (J x)) (hk:Agree ts env F) (hs:Sub segs (U x)):
  Wq n S w0 (Again n S w0 (keep ts F) J U O X m) env segs:=
 fun _ _ ha hp=>⟨x,hm,hi,ha.has (ha.agree hk) he,hp.sub hs⟩
theorem qZ {α:Type} (ts:List Nat) (J:α→Env) (X:α→List Seg) (O:α→Prop) {x y:Code}
  (h1:∀ K:Act→World→Prop,(∀ env' segs' z,O z→Has env' (J z)→Agree ts env' env→Sub segs' (X z)→Wq n S w0 K env' segs')→Wc P n S w0 (Exit.then K Q) env segs x)
  (h2:∀ z,O z→Wc P n S w0 Q (J z++keep ts env) (X z) y):Wc P n S w0 Q env segs (.seq x y):=
 fun a w ha hp=>wp_seq (h1 (y.wp P Q) (fun _ _ z hz he hk hs Y w' F U=>h2 z hz Y w' (F.has (F.agree hk) he) (U.sub hs)) a w ha hp)
end
def initEnv:Nat→List Value→Env
 |_,[]=>[]
 |i,v::r=>(i,v)::initEnv (i+1) r
theorem qN:∀ (l:List Value) (i t:Nat) (v:Value),look (initEnv i l) t=some v→i≤t∧l[t - i]? =some v
 |[],_,_,_,h=>by simp [initEnv,look] at h
 |x::r,i,t,v,h=>by
  rw [initEnv,look_cons] at h
  by_cases e:i=t
  ·subst e;rw [if_pos rfl] at h;cases h;simp
  ·rw [if_neg e] at h
   have ⟨h1,h2⟩:=qN r (i+1) t v h
   refine ⟨aA,?_⟩;obtain ⟨k,hk⟩:∃ k,t - i=k+1:=⟨t - i - 1,aA⟩
   have F:t - (i+1)=k:=aA
   rw [hk];rw [F] at h2
   simpa using h2
theorem bE {P:Program} {f:FuncId} {fn:Func} {n:Nat} {args:List Value} {w:World} {own:List Seg} {Φ:Value→List Seg→Prop} {c:Code}
  (hf:P.funcs[f]? =some fn) (hb:fn.body=some c) (hn:fn.ntmps=n) (hl:Nat.ble args.length n=true) (ho:Owns w own)
  (h:Wc P n (Fr w own) w (bodyPost P fn (fV w own Φ)) (initEnv 0 args) own c):Meets P f args w own Φ:=by
 have J:args.length≤n:=Nat.le_of_ble_eq_true hl
 refine calls_of_wp hf hb (h _ _ ⟨?_,rfl,fun t v F=>?_⟩ (Hp.start ho))
 ·simp [hn];omega
 ·have ⟨_,h2⟩:=qN args 0 t v F
  simp only [Nat.sub_zero] at h2;have hlt:t<args.length:=(List.getElem?_eq_some_iff.1 h2).1
  rw [Array.getElem?_append_left (by simpa using hlt)]
  simpa using h2
section
variable {P:Program} {fn:Func} {n:Nat} {w:World} {own:List Seg} {Φ:Value→List Seg→Prop} {env:Env} {segs:List Seg}
theorem iP (own' :List Seg) (hr:fn.results= #[]) (hs:Sub segs own') (F:Φ (.tuple #[]) own'):Wq n (Fr w own) w (bodyPost P fn (fV w own Φ) .normal) env segs:=
 fun a w' ha hp=>⟨ha.defers,_,results_none hr _ _ _,_,own',rfl,hp.sub hs,F⟩
theorem bJ (own' :List Seg) {r:Tmp} {v:Value} (hr:fn.results= #[.tmp r]) (hv:look env r=some v) (hs:Sub segs own') (F:Φ v own'):
  Wq n (Fr w own) w (bodyPost P fn (fV w own Φ) .ret) env segs:=
 fun a w' ha hp=>⟨ha.defers,_,results_tmp hr _ _ _,_,own',rfl,hp.sub hs,by rw [Array.getD_eq_getD_getElem?,ha.get _ _ hv];exact F⟩
theorem cZ (own' :List Seg) {r s:Tmp} {v u:Value} (hr:fn.results= #[.tmp r,.tmp s]) (hv:look env r=some v) (J:look env s=some u) (hs:Sub segs own') (F:Φ (.tuple #[v,u]) own'):
  Wq n (Fr w own) w (bodyPost P fn (fV w own Φ) .ret) env segs:=
 fun a w' ha hp=>⟨ha.defers,_,results_tmp2 hr _ _ _,_,own',rfl,hp.sub hs,by simp only [Array.getD_eq_getD_getElem?,ha.get _ _ hv,ha.get _ _ J];exact F⟩
theorem kH (own' :List Seg) {r s t:Tmp} {v u x:Value} (hr:fn.results= #[.tmp r,.tmp s,.tmp t]) (hv:look env r=some v) (J:look env s=some u) (hx:look env t=some x) (hs:Sub segs own')
  (F:Φ (.tuple #[v,u,x]) own'):Wq n (Fr w own) w (bodyPost P fn (fV w own Φ) .ret) env segs:=
 fun a w' ha hp=>⟨ha.defers,.tuple #[v,u,x],by simp [results,hr,Array.getD_eq_getD_getElem?,ha.get _ _ hv,ha.get _ _ J,ha.get _ _ hx],_,own',rfl,hp.sub hs,F⟩
theorem f_fin4 (own' :List Seg) {r s t q:Tmp} {v u x y:Value} (hr:fn.results= #[.tmp r,.tmp s,.tmp t,.tmp q]) (hv:look env r=some v) (J:look env s=some u) (hx:look env t=some x) (hy:look env q=some y)
  (hs:Sub segs own') (F:Φ (.tuple #[v,u,x,y]) own'):Wq n (Fr w own) w (bodyPost P fn (fV w own Φ) .ret) env segs:=
 fun a w' ha hp=>⟨ha.defers,.tuple #[v,u,x,y],by simp [results,hr,Array.getD_eq_getD_getElem?,ha.get _ _ hv,ha.get _ _ J,ha.get _ _ hx,ha.get _ _ hy],_,own',rfl,hp.sub hs,F⟩
end
end Go.Proofs.YthpkelafioikaaaGreat.Fly
