import Derived.Test.YthpkelafioikaaaGreatFlyOps
namespace Go.Proofs.YthpkelafioikaaaGreat.Fly
open Go Go.RowKit
set_option linter.unusedVariables false
def Ro (S:Nat→Prop) (w:World) (A:Option Addr) (cs:List Value):Prop:=cs≠[]→∃ b off,A=some ⟨b,off,none⟩∧S b∧CellsAre w b off cs
theorem CellsAre.same {w w' :World} {b off:Nat} {cs:List Value} (h:CellsAre w b off cs) (hb:w'.heap[b]? =w.heap[b]?):CellsAre w' b off cs:=
 fun j v hj=>by rw [World.cell?_of_block (a:=⟨b,off+j,none⟩) hb];exact h j v hj
theorem Ro.up {S:Nat→Prop} {w0 w:World} {own fr:List Seg} {A:Option Addr} {cs:List Value} (h:Ro S w0 A cs) (hp:Hp S w0 (own++fr).flatten w):Ro (Fr w own) w A cs:=by
 intro hne;obtain ⟨b,off,rfl,F,hc⟩:=h hne
 refine ⟨b,off,rfl,⟨Nat.lt_of_lt_of_le (hp.lt b F) hp.size,fun hm=>?_⟩,hc.same (hp.same b F)⟩;obtain ⟨⟨b',o⟩,hx,rfl⟩:=List.mem_map.1 hm
 exact hp.out b' o (by rw [List.flatten_append,List.mem_append];exact .inl hx) F
theorem Ro.up0 {S:Nat→Prop} {w0 w:World} {m:Seg} {A:Option Addr} {cs:List Value} (h:Ro S w0 A cs) (hp:Hp S w0 m w):Ro (Fr w []) w A cs:=
 h.up (own:=[]) (fr:=[m]) (by simpa using hp)
theorem Ro.nil {S:Nat→Prop} {w0:World} {A:Option Addr}:Ro S w0 A []:=fun h=>absurd rfl h
theorem iV {α:Type} (enc:α→List Value) {sz:Nat} (hs:∀ x,(enc x).length=sz):∀ (l:List α) (i j:Nat) (hi:i<l.length),j<sz→(l.flatMap enc)[i*sz+j]? =(enc l[i])[j]?
 |x::l,0,j,_,hj=>by
  simp only [List.flatMap_cons,Nat.zero_mul,Nat.zero_add,List.getElem_cons_zero];rw [List.getElem?_append_left (by rw [hs];exact hj)]
 |x::l,i+1,j,hi,hj=>by
  simp only [List.flatMap_cons,List.getElem_cons_succ];rw [List.getElem?_append_right (by rw [hs,Nat.add_mul];omega),hs,show (i+1)*sz+j - sz=i*sz+j from by rw [Nat.add_mul];omega];exact iV enc hs l i j (by simpa using hi) hj
theorem dO {α:Type} (enc:α→List Value) {sz:Nat} (hs:∀ x,(enc x).length=sz) (l:List α):(l.flatMap enc).length=l.length*sz:=by
 induction l with
 |nil=>simp
 |cons x l ih=>simp only [List.flatMap_cons,List.length_append,hs,ih,List.length_cons,Nat.add_mul];omega
theorem oO {S:Nat→Prop} {w0:World} {segs:List Seg} {b:Nat}:∀ (vs:List Value) (i:Nat),(∀ j v,vs[j]? =some v→Rd S w0 segs b (i+j) v)→Rds S w0 segs b i vs
 |[],_,_=>trivial
 |v::r,i,h=>⟨h 0 v rfl,oO r (i+1) fun j u hj=>by rw [show i+1+j=i+(j+1) from by omega];exact h (j+1) u (by simpa using hj)⟩
theorem f8 {α:Type} {enc:α→List Value} {sz:Nat} (hs:∀ x,(enc x).length=sz) {S:Nat→Prop} {w0:World} {segs:List Seg} {b off:Nat} {l:List α} (F:S b) (hc:CellsAre w0 b off (l.flatMap enc))
  {k:Nat} (h:k<l.length):Rds S w0 segs b (off+k*sz) (enc l[k]):=
 oO _ _ fun j v hj=>by
  have hlt:j<sz:=by have:=(List.getElem?_eq_some_iff.1 hj).1;rwa [hs] at this
  rw [Nat.add_assoc];exact rdS F (hc _ _ (by rw [iV enc hs l k j h hlt];exact hj))
theorem d3 {α:Type} {enc:α→Value} {S:Nat→Prop} {w0:World} {segs:List Seg} {b off:Nat} {l:List α} (F:S b) (hc:CellsAre w0 b off (l.map enc)) {k:Nat} (h:k<l.length):Rd S w0 segs b (off+k) (enc l[k]):=
 rdS F (hc _ _ (by simp [h]))
theorem eX {α:Type} (enc:α→List Value) {sz:Nat} (hs:∀ x,(enc x).length=sz) (hz:0<sz) {l:List α} {k:Nat} (h:k<l.length):l.flatMap enc≠[]:=by
 intro e;have:=dO enc hs l
 rw [e,List.length_nil] at this;have:=Nat.mul_pos (Nat.lt_of_le_of_lt (Nat.zero_le k) h) hz
 omega
theorem fX {α:Type} {f:α→Value} {l:List α} {k:Nat} (h:k<l.length):l.map f≠[]:=by intro e;rw [List.map_eq_nil_iff] at e;subst e;simp at h
theorem heldCell {S:Nat→Prop} {w0 w w' :World} {segs:List Seg} {b i:Nat} {cs:List Value} {T:TypeId} {v:Value} {f:Seg→List Seg} [h:At segs b (blk cs T) f] (hp:Hp S w0 segs.flatten w) (hc:cs[i]? =some v)
  (hs:∀ k,Fr w [] k→w'.heap[k]? =w.heap[k]?):w'.cell? ⟨b,i,none⟩=some v∧Fr w' [] b:=by
 have hb:=hp.own b _ h.mem
 have hlt:=hp.key_lt h.mem
 have F:=hs b ⟨hlt,aN⟩
 refine ⟨?_,?_,aN⟩
 ·rw [World.cell?_of_block (a:=⟨b,i,none⟩) F,hp.cell h.mem i];exact hc
 ·rcases Nat.lt_or_ge b w'.heap.size with h' |h'
  ·exact h'
  ·rw [Array.getElem?_eq_none h',hb] at F;cases F
theorem fP {S:Nat→Prop} {w0 w:World} {segs:List Seg} {b:Nat} {cs F:List Value} {T:TypeId} {f:Seg→List Seg} [h:At segs b (blk F T) f] (hp:Hp S w0 segs.flatten w) (hc:∀ (j:Nat) (v:Value),cs[j]? =some v→F[j]? =some v):
  Ro (Fr w []) w (some ⟨b,0,none⟩) cs:=fun _=>
 ⟨b,0,rfl,⟨hp.key_lt h.mem,aN⟩,fun j v hj=>by rw [hp.cell h.mem];exact hc _ _ (by simpa using hj)⟩
theorem Hp.chain {S:Nat→Prop} {w0 w w' :World} {own fr:List Seg} (hp:Hp S w0 (own++fr).flatten w) (h:∀ k,Fr w own k→w'.heap[k]? =w.heap[k]?):∀ k,S k→w'.heap[k]? =w0.heap[k]? :=
 fun k hk=>by
  rw [← hp.same k hk];refine h k ⟨Nat.lt_of_lt_of_le (hp.lt k hk) hp.size,fun hm=>?_⟩;obtain ⟨⟨b',o⟩,hx,rfl⟩:=List.mem_map.1 hm
  exact hp.out b' o (by rw [List.flatten_append,List.mem_append];exact .inl hx) hk
structure Arc where
 src:Int
 dst:Int
 wt:Int
 deriving DecidableEq
def bZ (x:Arc):List Value:=[.int .i64 x.src,.int .i64 x.dst,.int .u32 x.wt]
theorem dD (x:Arc):(bZ x).length=3:=rfl
abbrev I64 (x:Int):Prop:= -9223372036854775808≤x∧x≤9223372036854775807
structure eK (x:Arc):Prop where
 src:I64 x.src
 dst:I64 x.dst
 wt:0≤x.wt∧x.wt≤4294967295
def bF (l:List Int):List Value:=l.map (.int .i64 ·)
theorem eJ (l r:List Int):bF (l++r)=bF l++bF r:=by simp [bF]
theorem a7 (l:List Int):(bF l).length=l.length:=by simp [bF]
theorem eG {l:List Int} {i:Nat} (h:i<l.length):(bF l)[i]? =some (.int .i64 l[i]):=by simp [bF,h]
theorem kQ (ys:List Value):∀ (F cs J:List Value) (i:Nat),i=F.length→cs.length=ys.length→jF (F++(cs++J)) i ys=F++(ys++J):=by
 induction ys with
 |nil=>intro F cs J i _ hl;have:cs=[]:=List.eq_nil_of_length_eq_zero (by simpa using hl);subst this;rfl
 |cons y ys ih=>
  intro F cs J i hi hl
  match cs,hl with
  |c::cs,hl=>
   simp only [jF]
   have h1:(F++(c::cs++J)).set i y=(F++[y])++(cs++J):=by
    subst hi;simp
   rw [h1,ih (F++[y]) cs J (i+1) (by simp [hi]) (by simpa using hl)];simp
theorem jU {α:Type} {enc:α→List Value} {sz:Nat} (hs:∀ x,(enc x).length=sz) (sp:List Value):∀ (l:List α) (k:Nat) (x:α),k<l.length→jF (l.flatMap enc++sp) (k*sz) (enc x)=(l.set k x).flatMap enc++sp:=by
 intro l k x hk;have e:l=l.take k++l[k]::l.drop (k+1):=by rw [List.getElem_cons_drop hk];exact (List.take_append_drop k l).symm
 have hl:(l.take k).length=k:=by simp;omega
 have e2:l.set k x=l.take k++x::l.drop (k+1):=List.set_eq_take_append_cons_drop.trans (if_pos hk)
 rw [e2]
 conv=>lhs;rw [e]
 simp only [List.flatMap_append,List.flatMap_cons,List.append_assoc];exact kQ (enc x) _ _ _ _ (by rw [dO enc hs,hl]) (by rw [hs,hs])
end Go.Proofs.YthpkelafioikaaaGreat.Fly
