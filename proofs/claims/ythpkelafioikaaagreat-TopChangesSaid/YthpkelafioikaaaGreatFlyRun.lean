import Derived.Test.YthpkelafioikaaaGreatFlyOps
namespace Go.Proofs.YthpkelafioikaaaGreat.Fly
open Go Go.RowKit
set_option linter.unusedVariables false
def runVB (o:BinOp) (p q:Int):Option Value:=match o with
 | .lss=>some (.bool (decide (p<q)))
 | .leq=>some (.bool (decide (p≤q)))
 | .gtr=>some (.bool (decide (q<p)))
 | .geq=>some (.bool (decide (q≤p)))
 | .eql=>some (.bool (decide (p=q)))
 | .neq=>some (.bool (decide (p≠q)))
 |_=>none
def runV (env:Env) (o:Op):Option Value:=match o with
 | .move x=>ev env x
 | .assign x=>ev env x
 | .extract x i=>match ev env x with
  |some (.tuple vs)=>vs.toList[i]?
  |_=>none
 | .pick c x y=>match ev env c with
  |some (.bool true)=>ev env x
  |some (.bool false)=>ev env y
  |_=>none
 | .unOp .not _ x=>match ev env x with
  |some (.bool b)=>some (.bool (!b))
  |_=>none
 | .binOp o _ x y _=>match ev env x,ev env y with
  |some (.int k p),some (.int k' q)=>match decide (k=k') with
   |true=>runVB o p q
   |false=>none
  |_,_=>none
 |_=>none
def runS (ops:Array Oper) (n:Nat):Nat→Env→List Oper→Option (Env×List Oper)
 |0,env,l=>some (env,l)
 |_+1,_,[]=>none
 |k+1,env,o::l=>match o.dst with
  |none=>none
  |some d=>match Nat.blt d n with
   |false=>none
   |true=>match o.guard with
    |none=>match runV env o.op with
     |none=>none
     |some v=>runS ops n k ((d,v)::env) l
    |some (j,b)=>match (ops[j]?).bind (·.dst) with
     |none=>none
     |some t=>match look env t with
      |some (.bool c)=>match c==b with
       |true=>match runV env o.op with
        |none=>none
        |some v=>runS ops n k ((d,v)::env) l
       |false=>runS ops n k ((d,undef)::env) l
      |_=>none
section
variable {P:Program} {n:Nat} {S:Nat→Prop} {w0:World} {env env' :Env} {segs:List Seg}
theorem runV_ok {o:Oper} {v:Value} (h:runV env o.op=some v):Pure P n S w0 env segs o v:=by
 obtain ⟨d,op,ty,pos,af,g⟩:=o
 dsimp only at h
 unfold runV at h
 split at h
 ·exact aU h
 ·exact bI h
 ·split at h
  ·rename_i x i vs hx
   exact eU (vs:=vs.toList) (by rw [hx,Array.toArray_toList]) h
  ·cases h
 ·split at h
  ·rename_i hc;exact qI hc h
  ·rename_i hc;exact o_pickF hc h
  ·cases h
 ·split at h
  ·rename_i hx;cases h;exact o_not hx
  ·cases h
 ·split at h
  ·rename_i k p k' q hx hy
   split at h
   ·rename_i hk
    obtain rfl:k=k' :=of_decide_eq_true hk
    unfold runVB at h
    split at h<;>first|(cases h;first|exact o_lss hx hy|exact o_leq hx hy|exact o_gtr hx hy|exact o_geq hx hy|exact o_eql hx hy|exact o_neq hx hy)|cases h
   ·cases h
  ·cases h
 ·cases h
theorem runS_ok {ops:Array Oper} {Q:Exit→Act→World→Prop} {l' :List Oper}:∀ (k:Nat) (env:Env) (l:List Oper),runS ops n k env l=some (env',l')→Wl P n S w0 ops Q env' segs l'→Wl P n S w0 ops Q env segs l
 |0,env,l,h,hw=>by simp only [runS,Option.some.injEq,Prod.mk.injEq] at h;obtain ⟨rfl,rfl⟩:=h;exact hw
 |k+1,env,[],h,hw=>by simp [runS] at h
 |k+1,env,o::l,h,hw=>by
  unfold runS at h
  split at h
  ·cases h
  ·rename_i d hd
   split at h
   ·cases h
   ·rename_i hn
    split at h
    ·rename_i hg
     split at h
     ·cases h
     ·rename_i v hv
      exact f_stepP hg hd hn (runV_ok hv) (runS_ok k _ l h hw)
    ·rename_i j b hg
     split at h
     ·cases h
     ·rename_i t J
      split at h
      ·rename_i c hc
       split at h
       ·rename_i F
        split at h
        ·cases h
        ·rename_i v hv
         have e:c=b:=by simpa using F
         subst e;exact f_stepPY hg J hc hd hn (runV_ok hv) (runS_ok k _ l h hw)
       ·rename_i F
        exact f_stepN hg J hc F hd hn (runS_ok k _ l h hw)
      ·cases h
theorem aB {ops:Array Oper} {Q:Exit→Act→World→Prop} {l l' :List Oper} (k:Nat) (h:runS ops n k env l=some (env',l')) (hw:Wl P n S w0 ops Q env' segs l'):Wl P n S w0 ops Q env segs l:=runS_ok k env l h hw
theorem qC {ops:Array Oper} {R:Act→World→Prop} {l' :List Oper}:∀ (k:Nat) (env:Env) (l:List Oper),runS ops n k env l=some (env',l')→Ws P n S w0 ops R env' segs l'→Ws P n S w0 ops R env segs l
 |0,env,l,h,hw=>by simp only [runS,Option.some.injEq,Prod.mk.injEq] at h;obtain ⟨rfl,rfl⟩:=h;exact hw
 |k+1,env,[],h,hw=>by simp [runS] at h
 |k+1,env,o::l,h,hw=>by
  unfold runS at h
  split at h
  ·cases h
  ·rename_i d hd
   split at h
   ·cases h
   ·rename_i hn
    split at h
    ·rename_i hg
     split at h
     ·cases h
     ·rename_i v hv
      exact f_stillP hg hd hn (runV_ok hv) (qC k _ l h hw)
    ·rename_i j b hg
     split at h
     ·cases h
     ·rename_i t J
      split at h
      ·rename_i c hc
       split at h
       ·rename_i F
        split at h
        ·cases h
        ·rename_i v hv
         have e:c=b:=by simpa using F
         subst e;exact dQ hg J hc hd hn (runV_ok hv) (qC k _ l h hw)
       ·rename_i F
        exact f_stillN hg J hc F hd hn (qC k _ l h hw)
      ·cases h
theorem dI {ops:Array Oper} {R:Act→World→Prop} {l l' :List Oper} (k:Nat) (h:runS ops n k env l=some (env',l')) (hw:Ws P n S w0 ops R env' segs l'):Ws P n S w0 ops R env segs l:=qC k env l h hw
end
section
variable {P:Program} {n:Nat} {S:Nat→Prop} {w0:World} {env:Env} {segs:List Seg} {Q:Exit→Act→World→Prop}
theorem aG {id:Nat} {l:List Oper} {y:Code} (h:∀ {K:Act→World→Prop},(∀ {env segs},Wc P n S w0 Q env segs y→Wq n S w0 K env segs)→Wl P n S w0 l.toArray (Exit.then K Q) env segs l):Wc P n S w0 Q env segs (.seq (.region id l.toArray false) y):=
 f_seq fun K F=>aI (h fun {env segs} hc=>F env segs hc)
theorem aD {F:Exit→Act→World→Prop} {K:Act→World→Prop} {ops:Array Oper} {y:Code} (J:∀ {env segs},Wc P n S w0 Q env segs y→Wq n S w0 K env segs) (h:Wc P n S w0 Q env segs y):Wl P n S w0 ops (Exit.then K F) env segs []:=aZ (cS (J h))
theorem f_P {ops:Array Oper} {d:Nat} {v:Value} {op:Op} {ty:TypeId} {pos:String} {af:Array Edge} {rest:List Oper} (hn:Nat.blt d n=true) (hp:Pure P n S w0 env segs ⟨some d,op,ty,pos,af,none⟩ v)
  (h:Wl P n S w0 ops Q ((d,v)::env) segs rest):Wl P n S w0 ops Q env segs (⟨some d,op,ty,pos,af,none⟩::rest):=f_stepP rfl rfl hn hp h
end
theorem aC {l m:List Seg} (h:Sub l m:=by repeat first|exact aP|refine aM ?_|refine cE rfl ?_|refine fU ?_):Sub l m:=h
section
variable {P:Program} {n:Nat} {S:Nat→Prop} {w0:World} {env:Env} {segs:List Seg} {Q:Exit→Act→World→Prop} {ops:Array Oper} {rest:List Oper} {d:Nat} {v:Value} {op:Op} {ty:TypeId} {pos:String} {af:Array Edge} {R:Act→World→Prop}
theorem aS {x y:Code} (h:∀ {K:Act→World→Prop},(∀ {env segs},Wc P n S w0 Q env segs y→Wq n S w0 K env segs)→Wc P n S w0 (Exit.then K Q) env segs x):Wc P n S w0 Q env segs (.seq x y):=f_seq fun K F=>h fun {env segs} hc=>F env segs hc
theorem bO {F:Exit→Act→World→Prop} {K:Act→World→Prop} {y:Code} (J:∀ {env segs},Wc P n S w0 Q env segs y→Wq n S w0 K env segs) (h:Wc P n S w0 Q env segs y):Wq n S w0 (Exit.then K F .normal) env segs:=cS (J h)
theorem bV {F:Exit→Act→World→Prop} {K:Act→World→Prop} {y:Code} (J:∀ {env segs},Wc P n S w0 Q env segs y→Wq n S w0 K env segs) (h:Wc P n S w0 Q env segs y):Wc P n S w0 (Exit.then K F) env segs .skip:=dY (cS (J h))
theorem f_Q (hp:Pure P n S w0 env segs ⟨some d,op,ty,pos,af,none⟩ v) (h:Wl P n S w0 ops Q ((d,v)::env) segs rest) (hn:Nat.blt d n=true:=by exact rfl):Wl P n S w0 ops Q env segs (⟨some d,op,ty,pos,af,none⟩::rest):=f_stepP rfl rfl hn hp h
theorem f_S (h:Does P n S w0 env segs ⟨some d,op,ty,pos,af,none⟩ fun v segs' =>Wl P n S w0 ops Q ((d,v)::env) segs' rest) (hn:Nat.blt d n=true:=by exact rfl):Wl P n S w0 ops Q env segs (⟨some d,op,ty,pos,af,none⟩::rest):=f_step rfl rfl hn h
theorem f_Z (h:Does P n S w0 env segs ⟨none,op,ty,pos,af,none⟩ fun _ segs' =>Wl P n S w0 ops Q env segs' rest):Wl P n S w0 ops Q env segs (⟨none,op,ty,pos,af,none⟩::rest):=f_step0 rfl rfl h
theorem eA {j t:Nat} {b:Bool} (hj:(ops[j]?).bind (·.dst)=some t) (hl:look env t=some (.bool b)) (hp:Pure P n S w0 env segs ⟨some d,op,ty,pos,af,some (j,b)⟩ v) (h:Wl P n S w0 ops Q ((d,v)::env) segs rest) (hn:Nat.blt d n=true:=by exact rfl):Wl P n S w0 ops Q env segs (⟨some d,op,ty,pos,af,some (j,b)⟩::rest):=f_stepPY rfl hj hl rfl hn hp h
theorem dB (hp:Pure P n S w0 env segs ⟨some d,op,ty,pos,af,none⟩ v) (h:Ws P n S w0 ops R ((d,v)::env) segs rest) (hn:Nat.blt d n=true:=by exact rfl):Ws P n S w0 ops R env segs (⟨some d,op,ty,pos,af,none⟩::rest):=f_stillP rfl rfl hn hp h
theorem f_T {base:List Seg} (i:Nat) {fuel:Nat} {F:Array Bool} (hi:ops[i]? =some ⟨some d,op,ty,pos,af,none⟩) (hp:Pure P n S w0 env base ⟨some d,op,ty,pos,af,none⟩ v) (h:Wh P n S w0 ops Q base fuel (F.setIfInBounds i true) ((d,v)::env) segs)
  (hc:(Region.noSelect ops&&Region.free .any ops F i&&(Region.ready .any ops F).contains i)=true:=by decide+kernel) (hn:Nat.blt d n=true:=by exact rfl) (hb:Sub segs base:=by repeat first|exact aP|refine aM ?_|refine cE rfl ?_|refine fU ?_):Wh P n S w0 ops Q base (fuel+1) F env segs:=f_take i hi hc rfl rfl hn hb hp h
theorem iL {base:List Seg} (i:Nat) {j t fuel:Nat} {b:Bool} {F:Array Bool} (hi:ops[i]? =some ⟨some d,op,ty,pos,af,some (j,b)⟩) (hj:(ops[j]?).bind (·.dst)=some t) (hl:look env t=some (.bool b)) (hp:Pure P n S w0 env base ⟨some d,op,ty,pos,af,some (j,b)⟩ v) (h:Wh P n S w0 ops Q base fuel (F.setIfInBounds i true) ((d,v)::env) segs)
  (hc:(Region.noSelect ops&&Region.free .any ops F i&&(Region.ready .any ops F).contains i)=true:=by decide+kernel) (hn:Nat.blt d n=true:=by exact rfl) (hb:Sub segs base:=by repeat first|exact aP|refine aM ?_|refine cE rfl ?_|refine fU ?_):Wh P n S w0 ops Q base (fuel+1) F env segs:=f_takeY i hi hc rfl hj hl rfl hn hb hp h
theorem f_O {base:List Seg} (i:Nat) {fuel:Nat} {F:Array Bool} (hi:ops[i]? =some ⟨some d,op,ty,pos,af,none⟩) (h:Does P n S w0 env segs ⟨some d,op,ty,pos,af,none⟩ fun v segs' =>Sub segs' base∧Wh P n S w0 ops Q base fuel (F.setIfInBounds i true) ((d,v)::env) segs')
  (hr:Region.ready .any ops F=[i]:=by decide+kernel) (hn:Nat.blt d n=true:=by exact rfl):Wh P n S w0 ops Q base (fuel+1) F env segs:=f_only i hi hr rfl rfl hn h
theorem fZ {base:List Seg} (i:Nat) {fuel:Nat} {F:Array Bool} (hi:ops[i]? =some ⟨none,op,ty,pos,af,none⟩) (h:Does P n S w0 env segs ⟨none,op,ty,pos,af,none⟩ fun _ segs' =>Sub segs' base∧Wh P n S w0 ops Q base fuel (F.setIfInBounds i true) env segs')
  (hr:Region.ready .any ops F=[i]:=by decide+kernel):Wh P n S w0 ops Q base (fuel+1) F env segs:=f_only0 i hi hr rfl rfl h
theorem cX {T:TypeId} {x:Operand} {b i:Nat} (F:∀ w,(isAgg T).run P w= .ok false w) (hx:ev env x=some (.pointer (some ⟨b,i,none⟩))) (hr:Rd S w0 segs b i v)
  (h:Wl P n S w0 ops Q ((d,v)::env) segs rest) (hn:Nat.blt d n=true:=by exact rfl):Wl P n S w0 ops Q env segs (⟨some d,.load T x,ty,pos,af,none⟩::rest):=f_Q (aH F hx hr) h hn
theorem gC {T:TypeId} {x:Operand} {b i:Nat} (F:∀ w,(isAgg T).run P w= .ok false w) (hx:ev env x=some (.pointer (some ⟨b,i,none⟩))) (hr:Rd S w0 segs b i v)
  (h:Ws P n S w0 ops R ((d,v)::env) segs rest) (hn:Nat.blt d n=true:=by exact rfl):Ws P n S w0 ops R env segs (⟨some d,.load T x,ty,pos,af,none⟩::rest):=dB (aH F hx hr) h hn
theorem cL {s:TypeId} {x:Operand} {f o b i:Nat} (hf:dN P s f o) (hx:ev env x=some (.pointer (some ⟨b,i,none⟩))) (h:Wl P n S w0 ops Q ((d,.pointer (some ⟨b,i+o,none⟩))::env) segs rest) (hn:Nat.blt d n=true:=by exact rfl):
  Wl P n S w0 ops Q env segs (⟨some d,.fieldAddr s x f,ty,pos,af,none⟩::rest):=f_Q (aT hf hx) h hn
theorem dU {T E sz:Nat} {x:Operand} {A:Option Addr} {len cap:Nat} (F:SlT P T E sz) (hx:ev env x=some (.slice A len cap)) (h:Wl P n S w0 ops Q ((d,.int .i64 len)::env) segs rest) (hn:Nat.blt d n=true:=by exact rfl):
  Wl P n S w0 ops Q env segs (⟨some d,.call ⟨.builtin .len,#[x],#[T]⟩,ty,pos,af,none⟩::rest):=f_Q (iH F hx) h hn
end
section
variable {P:Program} {n:Nat} {S:Nat→Prop} {w0:World} {env:Env} {segs:List Seg} {d:Option Tmp} {ty:TypeId} {pos:String} {af:Array Edge} {g:Option (Nat×Bool)}
theorem a8 {T F:TypeId} {x y:Operand} {p q:Int} (hx:ev env x=some (.int .i64 p)) (hy:ev env y=some (.int .i64 q)) (hc: -9223372036854775808≤p+q∧p+q≤9223372036854775807:=by omega):Pure P n S w0 env segs ⟨d,.binOp .add T x y F,ty,pos,af,g⟩ (.int .i64 (p+q)):=lA hx hy _ (d7 hc)
theorem jC {T F:TypeId} {x y:Operand} {p q:Int} (hx:ev env x=some (.int .i64 p)) (hy:ev env y=some (.int .i64 q)) (hc: -9223372036854775808≤p - q∧p - q≤9223372036854775807:=by omega):Pure P n S w0 env segs ⟨d,.binOp .sub T x y F,ty,pos,af,g⟩ (.int .i64 (p - q)):=kM hx hy _ (d7 hc)
theorem aL {T E sz:Nat} {x y:Operand} {b off len cap:Nat} {J:IntKind} {j:Int} (F:SlT P T E sz) (hx:ev env x=some (.slice (some ⟨b,off,none⟩) len cap)) (hy:ev env y=some (.int J j)) (i:Nat)
  (O:0≤j:=by omega) (h1:j<len:=by omega) (h2:off+j.toNat*sz=i:=by first|omega|(simp;done)|(simp;omega)):Pure P n S w0 env segs ⟨d,.indexAddr T x y,ty,pos,af,g⟩ (.pointer (some ⟨b,i,none⟩)):=o_idx F hx hy i ⟨O,h1,h2⟩
end
end Go.Proofs.YthpkelafioikaaaGreat.Fly
