import Derived.Test.YthpkelafioikaaaGreatFlyRun
import Derived.Test.YthpkelafioikaaaGreatFlyT
import Derived.Test.YthpkelafioikaaaGreatAll0
namespace Go.Proofs.YthpkelafioikaaaGreat
open Go Go.RowKit Fly
set_option maxRecDepth 100000
set_option maxHeartbeats 4000000
set_option linter.all false
theorem add64_run (a b:Int) (ha:0≤a) (hb:0≤b) (w:World):(callFunc 66 [Value.int .u64 a,.int .u64 b,.int .u64 0].toArray).run Tryz.prog w= .ok (.value (.tuple #[.int .u64 ((a+b+0) % 18446744073709551616),.int .u64 ((a+b+0) / 18446744073709551616)])) w:=by
 show (callFunc 66 #[Value.int .u64 a,.int .u64 b,.int .u64 0]).run Tryz.prog w=_
 rw [run_callFunc_extern (fn:=Tryz.f66) (e:=add64Entry) Tryz.func66 (by kernel_rfl) (by kernel_rfl) (by kernel_rfl) (by kernel_rfl),run_add64 a b 0 ha hb (by decide) (by decide)]
 rfl
theorem and32 {y:Nat} (h:y<4294967296):IntKind.u64.wrap ((BitVec.ofInt IntKind.u64.bits (y:Int)&&& BitVec.ofInt IntKind.u64.bits 4294967295).toNat)=(y:Int):=by
 have:=and_mask (k:=32) (y:=y) aA aA
 rw [Nat.mod_eq_of_lt aA] at this;exact this
theorem shr32 {y:Nat} (h:y<4294967296):(y:Int).fdiv (2 ^ (min ((32:Int).toNat) IntKind.u64.bits))=0:=by
 show (y:Int).fdiv 4294967296=0
 rw [Int.fdiv_eq_ediv_of_nonneg _ (by decide)];exact Int.ediv_eq_zero_of_lt aA aA
def i2 (N n:Nat) (z x:Value):List Value:=List.replicate n x++List.replicate (N - n) z
theorem qQ {N n:Nat} (h:n≤N) (z x:Value):(i2 N n z x).length=N:=by simp [i2];omega
theorem oK {N n m:Nat} (h:n+m≤N) (z x:Value):(i2 N n z x).take n++List.replicate m x++(i2 N n z x).drop (n+m)=i2 N (n+m) z x:=by
 unfold i2
 rw [List.take_left' aO,List.drop_append,List.drop_of_length_le aO,List.nil_append,List.length_replicate,List.drop_replicate,List.append_assoc,← List.append_assoc,List.replicate_append_replicate]
 congr 2;omega
theorem fillTo_all {N n:Nat} (h:n=N) (z x:Value):i2 N n z x=List.replicate N x:=by subst h;simp [i2]
theorem fillTo_get {N n j:Nat} {v z x:Value} (h:(List.replicate n x)[j]? =some v):(i2 N n z x)[j]? =some v:=by
 unfold i2;exact d7 h
theorem rep_one {m:Nat} {x:Value} (h:x.oneCell' =true):(List.replicate m x).all (·.oneCell')=true:=by
 rw [List.all_eq_true];intro y hy;rw [(List.mem_replicate.1 hy).2];exact h
theorem rep_take {n m j:Nat} {x v:Value} (h:(List.replicate (min n m) x)[j]? =some v):(List.replicate n x)[j]? =some v:=by
 rw [List.getElem?_replicate] at h ⊢
 split at h
 ·rw [if_pos aA];exact h
 ·cases h
theorem rep_flat (n:Nat) (z:Value):(List.replicate n [z]).flatten=List.replicate n z:=by
 induction n with
 |zero=>rfl
 |succ n ih=>simp only [List.replicate_succ,List.flatten_cons,ih];rfl
theorem i9 (a b:Int) (w:World) (ha:0≤a∧a≤INF) (hb:0≤b∧b≤INF):Meets Tryz.prog 31 [.int .u64 a,.int .u64 b] w [] (fun u m=>u= .int .u64 (fU a b)∧m=[]):=by
 unfold INF at ha hb
 refine bG Tryz.func31 rfl Tryz.ntmps31 rfl Owns.nil<|aG fun kh1=>aB 1 rfl<|aD kh1<|aG fun kh2=>aB 2 rfl<|f_Q (o_ext rfl (fun w=>add64_run a b ha.1 hb.1 w))<|aB 5 rfl<|aD kh2<|aV fun kh3=>?_
 refine aG fun kh4=>aB 2 rfl<|aD kh4<|aX rfl (fun c14=>?_) (fun c14=>?_)
 ·refine aG fun F=>aB 1 rfl<|aD F<|aZ<|dA ?_
  exact bO [] Tryz.results31 rfl aP ⟨by unfold fU INF;rw [if_pos aA],rfl⟩
 ·refine bZ kh3<|aG fun kh6=>aB 2 rfl<|aD kh6<|aZ ?_
  exact bO [] Tryz.results31 rfl aP ⟨by unfold fU INF;rw [if_neg aA];congr 1;omega,rfl⟩
theorem Mul64_spec (y:Nat) (w:World) (hy:y<4294967296):Meets Tryz.prog 108 [.int .u64 1,.int .u64 (y:Int)] w [] (fun u m=>u= .tuple #[.int .u64 0,.int .u64 (y:Int)]∧m=[]):=by
 refine bG Tryz.func108 rfl Tryz.ntmps108 rfl Owns.nil<|aG fun kh1=>aB 2 rfl<|aD kh1<|aG fun kh2=>aB 1 rfl<|f_Q (o_and rfl rfl 1 (by decide)) ?_
 refine aB 1 rfl<|aD kh2<|aG fun kh3=>aB 1 rfl<|f_Q (o_shr rfl rfl (by decide) 0 (by decide)) ?_
 refine aB 1 rfl<|aD kh3<|aG fun kh4=>aB 1 rfl<|f_Q (o_and rfl rfl (y:Int) (and32 hy))<|aB 1 rfl<|aD kh4<|aG fun kh5=>aB 1 rfl<|f_Q (o_shr rfl rfl (by decide) 0 (shr32 hy)) ?_
 refine aB 1 rfl<|aD kh5<|aG fun kh6=>aB 2 rfl<|f_Q (o_mul rfl rfl _ (show IntKind.u64.wrap (1*(y:Int))=(y:Int) from by rw [Int.one_mul];exact iS aA)) ?_
 refine aB 1 rfl<|aD kh6<|aG fun kh7=>aB 2 rfl<|f_Q (o_mul rfl rfl _ (show IntKind.u64.wrap (0*(y:Int))=0 from by rw [Int.zero_mul];rfl)) ?_
 refine aB 1 rfl<|f_Q (o_shr rfl rfl (by decide) 0 (shr32 hy)) ?_
 refine f_Q (kY rfl rfl _ (show IntKind.u64.wrap (0+0)=0 from rfl))<|aB 1 rfl<|aD kh7<|aG fun kh8=>aB 1 rfl<|f_Q (o_and rfl rfl 0 (by decide)) ?_;refine aB 1 rfl<|aD kh8<|aG fun kh9=>aB 1 rfl<|f_Q (o_shr rfl rfl (by decide) 0 (by decide)) ?_
 refine aB 1 rfl<|aD kh9<|aG fun kh10=>aB 3 rfl<|f_Q (o_mul rfl rfl _ (show IntKind.u64.wrap (1*0)=0 from rfl))<|f_Q (kY rfl rfl _ (show IntKind.u64.wrap (0+0)=0 from rfl))<|aB 1 rfl<|aD kh10<|aG fun kh11=>aB 2 rfl ?_
 refine f_Q (o_mul rfl rfl _ (show IntKind.u64.wrap (0*0)=0 from rfl))<|aB 1 rfl<|f_Q (kY rfl rfl _ (show IntKind.u64.wrap (0+0)=0 from rfl))<|aB 1 rfl<|f_Q (o_shr rfl rfl (by decide) 0 (by decide)) ?_;refine f_Q (kY rfl rfl _ (show IntKind.u64.wrap (0+0)=0 from rfl))<|aB 1 rfl<|aD kh11<|aG fun kh12=>aB 2 rfl<|f_Q (o_mul rfl rfl _ (show IntKind.u64.wrap (1*(y:Int))=(y:Int) from by rw [Int.one_mul];exact iS aA)) ?_;refine aB 1 rfl<|aD kh12<|aZ ?_
 exact dB [] Tryz.results108 rfl rfl aP ⟨rfl,rfl⟩
theorem Mul_spec (y:Nat) (w:World) (hy:y<4294967296):Meets Tryz.prog 61 [.int .u64 1,.int .u64 (y:Int)] w [] (fun u m=>u= .tuple #[.int .u64 0,.int .u64 (y:Int)]∧m=[]):=by
 refine bG Tryz.func61 rfl Tryz.ntmps61 rfl Owns.nil<|aG fun kh1=>aB 2 rfl<|aD kh1<|aV fun kh2=>h7 rfl<|bZ kh2<|aG fun kh3=>aB 2 rfl ?_
 refine f_S (aW Tryz.call108 rfl (fun F J=>Mul64_spec y F hy) ?_);rintro _ _ ⟨rfl,rfl⟩;dsimp only [aK,aJ];refine aB 5 rfl<|aD kh3<|aG fun kh4=>aB 4 rfl<|aD kh4<|aZ ?_
 exact dB [] Tryz.results61 rfl rfl aP ⟨rfl,rfl⟩
theorem i7 (b off cx N:Nat) (x:Int) (w:World) (hx:Ro (Fr w []) w (some ⟨b,off,none⟩) [.int .u64 x]) (Y:1≤N∧N≤1000000):Meets Tryz.prog 26 [.slice (some ⟨b,off,none⟩) 1 cx,.int .i64 (N:Int)] w [] (fun u m=>∃ bN,u= .slice (some ⟨bN,0,none⟩) N N∧m=[[(bN,blk (List.replicate N (.int .u64 x)) 46)]]):=by
 obtain ⟨b',o',e',U,O⟩:=hx aO
 obtain ⟨rfl,rfl⟩:b=b'∧off=o' :=by cases e';exact ⟨rfl,rfl⟩
 refine bG Tryz.func26 rfl Tryz.ntmps26 rfl Owns.nil<|aG fun kh1=>aB 1 rfl<|aD kh1<|aV fun kh2=>aG fun kh3=>aB 2 rfl<|aD kh3<|aX rfl (fun c10=>?_) (fun c10=>?_)
 ·omega -- closed
 ·refine bZ kh2<|aG fun kh4=>aB 1 rfl<|dY j6 rfl<|f_Q (iH Tryz.runUnderlying3 Tryz.runUnderlying118 rfl _ (iS aA)) ?_
  refine aB 1 rfl<|f_Q (iH Tryz.runUnderlying3 Tryz.runUnderlying118 rfl _ (iS aA)) ?_
  refine f_S (aW Tryz.call61 rfl (fun w_ X=>Mul_spec N w_ aA) ?_);rintro _ _ ⟨rfl,rfl⟩;dsimp only [aK,aJ];refine aB 5 rfl<|aD kh4<|aV fun kh5=>aG fun kh6=>aB 3 rfl<|i4 23 rfl (by decide) ?_
  refine aB 3 rfl<|aD kh6<|aX rfl (fun c26=>?_) (fun c26=>?_)
  ·omega -- closed
  ·refine bZ kh5<|aG fun kh7=>aB 1 rfl<|f_Q (iH Tryz.runUnderlying118 Tryz.runUnderlying3 rfl _ (d8 aA)) ?_
   refine f_S (e6 qV rfl rfl N rfl aA aA (i2 N 0 (.int .u64 0) (.int .u64 x)) (by rw [rep_flat];simp [i2]) fun F=>?_);refine aB 1 rfl<|aD kh7<|aG fun kh8=>aB 2 rfl<|f_S (o_copy Tryz.underlying41 (by kernel_rfl) rfl rfl (cs:=[.int .u64 x]) (oQ _ _ fun j v hj=>rdS U (O j v hj)) (by simp [Nat.min_def];omega) rfl (by rw [qQ aA];simp;omega) (i2 N 1 (.int .u64 0) (.int .u64 x)) (oK (m:=1) aA _ _) ?_)
   refine aB 1 rfl<|aD kh8<|aV fun kh9=>aS ?_
   refine dF (α:=Nat) [7] (fun n=>[(8,.int .i64 (n:Int))]) (fun n=>[[(F,blk (i2 N n (.int .u64 0) (.int .u64 x)) 46)]]) (fun n=>1≤n∧n≤N) (fun n=>N - n) (1) ?_ ?_ ?_ ?_
   ·exact aF
   ·exact aC
   ·exact ⟨Nat.le_refl _,Y.1⟩
   ·rintro n ⟨Z,aa⟩;refine aV fun J=>aG fun kh11=>aB 2 rfl<|dY j6 rfl<|aB 1 rfl<|aD kh11<|aX rfl (fun c37=>?_) (fun c37=>?_)
    ·refine bZ J<|aS<|cQ [] rfl<|f_T 0 rfl (aR rfl)<|f_T 1 rfl (aR rfl)<|f_T 2 rfl (aR rfl)<|f_T 3 rfl (f7 j6 rfl rfl rfl rfl (fun h=>by cases h) n _ _ (.inr ⟨_,_,rfl,aA⟩) (.inl ⟨rfl,rfl⟩) (.inl ⟨rfl,rfl⟩) ⟨aA,aA,aA⟩ (.slice (some ⟨F,n,none⟩) (N - n) (N - n)) (by rw [if_neg aA];simp [dH])) ?_
     refine f_T 4 rfl (aR rfl)<|f_T 5 rfl (aR rfl)<|f_T 6 rfl (f7 j6 rfl rfl rfl rfl (fun h=>by cases h) 0 n _ (.inl ⟨rfl,rfl⟩) (.inr ⟨_,_,rfl,aA⟩) (.inl ⟨rfl,rfl⟩) ⟨aA,aA,aA⟩ (.slice (some ⟨F,0,none⟩) n N) (by rw [if_neg aA];simp [dH])) ?_
     refine f_O 7 rfl (o_copy Tryz.underlying41 (by kernel_rfl) rfl rfl (cs:=List.replicate (min n (N - n)) (.int .u64 x)) (oQ _ _ fun j v hj=>rdA (by rw [Nat.zero_add];exact fillTo_get (rep_take hj))) (by rw [List.length_replicate]) (rep_one rfl) (by rw [qQ aA,List.length_replicate];omega) (i2 N (n+min n (N - n)) (.int .u64 0) (.int .u64 x)) (by rw [List.length_replicate];exact oK aA _ _) ⟨aC,?_⟩);refine f_T 8 rfl (kY rfl rfl _ (show IntKind.i64.wrap ((n:Int)+((List.replicate (min n (N - n)) (Value.int .u64 x)).length:Int))=((n+min n (N - n):Nat):Int) from by rw [List.length_replicate,d8 aA];omega)) ?_;refine f_O 9 rfl ((bI rfl).does ⟨aC,?_⟩);refine cO aU<|dI ?_
     refine cV (a6 (n+min n (N - n)) aA ⟨aA,aA⟩ ?_ ?_ ?_)
     ·exact aF
     ·exact aF
     ·exact aC
    ·refine cS<|cU<|cU<|eH<|bP kh9<|aG fun kh12=>aB 2 rfl<|aD kh12<|aZ ?_
     exact bO [[(F,blk (List.replicate N (.int .u64 x)) 46)]] Tryz.results26 rfl (by rw [← fillTo_all (show n=N by omega) (.int .u64 0)];exact aL aP) ⟨F,rfl,rfl⟩
theorem j4 (b off cx N:Nat) (x:Int) (w:World) (hx:Ro (Fr w []) w (some ⟨b,off,none⟩) [.int .i64 x]) (Y:1≤N∧N≤1000000):Meets Tryz.prog 63 [.slice (some ⟨b,off,none⟩) 1 cx,.int .i64 (N:Int)] w [] (fun u m=>∃ bN,u= .slice (some ⟨bN,0,none⟩) N N∧m=[[(bN,blk (List.replicate N (.int .i64 x)) 3)]]):=by
 obtain ⟨b',o',e',U,O⟩:=hx aO
 obtain ⟨rfl,rfl⟩:b=b'∧off=o' :=by cases e';exact ⟨rfl,rfl⟩
 refine bG Tryz.func63 rfl Tryz.ntmps63 rfl Owns.nil<|aG fun kh1=>aB 1 rfl<|aD kh1<|aV fun kh2=>aG fun kh3=>aB 2 rfl<|aD kh3<|aX rfl (fun c10=>?_) (fun c10=>?_)
 ·omega -- closed
 ·refine bZ kh2<|aG fun kh4=>aB 1 rfl<|dY bU rfl<|f_Q (iH Tryz.runUnderlying3 Tryz.runUnderlying118 rfl _ (iS aA)) ?_
  refine aB 1 rfl<|f_Q (iH Tryz.runUnderlying3 Tryz.runUnderlying118 rfl _ (iS aA)) ?_
  refine f_S (aW Tryz.call61 rfl (fun w_ X=>Mul_spec N w_ aA) ?_);rintro _ _ ⟨rfl,rfl⟩;dsimp only [aK,aJ];refine aB 5 rfl<|aD kh4<|aV fun kh5=>aG fun kh6=>aB 3 rfl<|i4 23 rfl (by decide) ?_
  refine aB 3 rfl<|aD kh6<|aX rfl (fun c26=>?_) (fun c26=>?_)
  ·omega -- closed
  ·refine bZ kh5<|aG fun kh7=>aB 1 rfl<|f_Q (iH Tryz.runUnderlying118 Tryz.runUnderlying3 rfl _ (d8 aA)) ?_
   refine f_S (e6 eO rfl rfl N rfl aA aA (i2 N 0 (.int .i64 0) (.int .i64 x)) (by rw [rep_flat];simp [i2]) fun F=>?_);refine aB 1 rfl<|aD kh7<|aG fun kh8=>aB 2 rfl<|f_S (o_copy Tryz.underlying25 (by kernel_rfl) rfl rfl (cs:=[.int .i64 x]) (oQ _ _ fun j v hj=>rdS U (O j v hj)) (by simp [Nat.min_def];omega) rfl (by rw [qQ aA];simp;omega) (i2 N 1 (.int .i64 0) (.int .i64 x)) (oK (m:=1) aA _ _) ?_)
   refine aB 1 rfl<|aD kh8<|aV fun kh9=>aS ?_
   refine dF (α:=Nat) [7] (fun n=>[(8,.int .i64 (n:Int))]) (fun n=>[[(F,blk (i2 N n (.int .i64 0) (.int .i64 x)) 3)]]) (fun n=>1≤n∧n≤N) (fun n=>N - n) (1) ?_ ?_ ?_ ?_
   ·exact aF
   ·exact aC
   ·exact ⟨Nat.le_refl _,Y.1⟩
   ·rintro n ⟨Z,aa⟩;refine aV fun J=>aG fun kh11=>aB 2 rfl<|dY bU rfl<|aB 1 rfl<|aD kh11<|aX rfl (fun c37=>?_) (fun c37=>?_)
    ·refine bZ J<|aS<|cQ [] rfl<|f_T 0 rfl (aR rfl)<|f_T 1 rfl (aR rfl)<|f_T 2 rfl (aR rfl)<|f_T 3 rfl (f7 bU rfl rfl rfl rfl (fun h=>by cases h) n _ _ (.inr ⟨_,_,rfl,aA⟩) (.inl ⟨rfl,rfl⟩) (.inl ⟨rfl,rfl⟩) ⟨aA,aA,aA⟩ (.slice (some ⟨F,n,none⟩) (N - n) (N - n)) (by rw [if_neg aA];simp [dH])) ?_
     refine f_T 4 rfl (aR rfl)<|f_T 5 rfl (aR rfl)<|f_T 6 rfl (f7 bU rfl rfl rfl rfl (fun h=>by cases h) 0 n _ (.inl ⟨rfl,rfl⟩) (.inr ⟨_,_,rfl,aA⟩) (.inl ⟨rfl,rfl⟩) ⟨aA,aA,aA⟩ (.slice (some ⟨F,0,none⟩) n N) (by rw [if_neg aA];simp [dH])) ?_
     refine f_O 7 rfl (o_copy Tryz.underlying25 (by kernel_rfl) rfl rfl (cs:=List.replicate (min n (N - n)) (.int .i64 x)) (oQ _ _ fun j v hj=>rdA (by rw [Nat.zero_add];exact fillTo_get (rep_take hj))) (by rw [List.length_replicate]) (rep_one rfl) (by rw [qQ aA,List.length_replicate];omega) (i2 N (n+min n (N - n)) (.int .i64 0) (.int .i64 x)) (by rw [List.length_replicate];exact oK aA _ _) ⟨aC,?_⟩);refine f_T 8 rfl (kY rfl rfl _ (show IntKind.i64.wrap ((n:Int)+((List.replicate (min n (N - n)) (Value.int .i64 x)).length:Int))=((n+min n (N - n):Nat):Int) from by rw [List.length_replicate,d8 aA];omega)) ?_;refine f_O 9 rfl ((bI rfl).does ⟨aC,?_⟩);refine cO aU<|dI ?_
     refine cV (a6 (n+min n (N - n)) aA ⟨aA,aA⟩ ?_ ?_ ?_)
     ·exact aF
     ·exact aF
     ·exact aC
    ·refine cS<|cU<|cU<|eH<|bP kh9<|aG fun kh12=>aB 2 rfl<|aD kh12<|aZ ?_
     exact bO [[(F,blk (List.replicate N (.int .i64 x)) 3)]] Tryz.results63 rfl (by rw [← fillTo_all (show n=N by omega) (.int .i64 0)];exact aL aP) ⟨F,rfl,rfl⟩
abbrev dK (bT bA N:Nat) (sl:Value) (m:Seg) (at_:List Int):List Seg:=[[(bT,blk [sl,.slice (some ⟨bA,0,none⟩) N N,.func (.func 109) #[] #[]] 191)],m,[(bA,blk (a8 at_) 3)]]
theorem inv_Len (p : Option Addr) (args : Array Value) (w : World) : (callMethod (.iface 187 (.pointer p)) "Len" args).run Tryz.prog w = .ok (.enter 217 (#[.pointer p] ++ args)) w := by kernel_rfl
theorem inv_Less (p : Option Addr) (args : Array Value) (w : World) : (callMethod (.iface 187 (.pointer p)) "Less" args).run Tryz.prog w = .ok (.enter 218 (#[.pointer p] ++ args)) w := by kernel_rfl
theorem inv_Swap (p : Option Addr) (args : Array Value) (w : World) : (callMethod (.iface 187 (.pointer p)) "Swap" args).run Tryz.prog w = .ok (.enter 221 (#[.pointer p] ++ args)) w := by kernel_rfl
theorem inv_Push (p : Option Addr) (args : Array Value) (w : World) : (callMethod (.iface 187 (.pointer p)) "Push" args).run Tryz.prog w = .ok (.enter 220 (#[.pointer p] ++ args)) w := by kernel_rfl
theorem inv_Pop (p : Option Addr) (args : Array Value) (w : World) : (callMethod (.iface 187 (.pointer p)) "Pop" args).run Tryz.prog w = .ok (.enter 219 (#[.pointer p] ++ args)) w := by kernel_rfl
theorem l7 (l:List Int) (i:Nat) (x:Int):(a8 l).set i (.int .i64 x)=a8 (l.set i x):=by simp [a8,List.map_set]
theorem ints_at {l:List Int} {i:Nat} {x:Int} (h:l[i]? =some x):(a8 l)[i]? =some (.int .i64 x):=by simp [a8,h]
theorem par_div (j:Nat):((j:Int) - 1).tdiv 2=(par j:Int):=by
 cases j with
 |zero=>rfl
 |succ k=>rw [show (((k+1:Nat):Int) - 1)=(k:Int) from by omega];exact tdiv_nat k 2
theorem wrap_par {j:Nat} (h:j≤1000000):IntKind.i64.wrap (((j:Int) - 1).tdiv 2)=(par j:Int):=by rw [par_div];exact d8 (by unfold par;omega)
theorem wrap_two {i:Nat} (h:i≤1000000):IntKind.i64.wrap (2*(i:Int)+1)=((2*i+1:Nat):Int):=by rw [d8 aA];omega
theorem wrap_two2 {i:Nat} (h:i≤1000000):IntKind.i64.wrap (((2*i+1:Nat):Int)+1)=((2*i+2:Nat):Int):=by rw [d8 aA];omega
theorem pars {c i:Nat} (F:0<c) (h:par c=i):c=2*i+1∨c=2*i+2:=by unfold par at h;omega
def Left (bT bA N:Nat) (sl:Value) (l:List Ent) (n:Nat) (own:List Seg) (G:List Ent→Prop):Prop:=
 ∃ l' m' at',own=dK bT bA N sl m' at'∧Own 193 2 sl l'.length (l'.flatMap eE) m'∧HOk l' at'∧at'.length=N∧l'.Perm l∧l'.drop n=l.drop n∧G l'
theorem Ahead_spec (a b:Ent) (w:World):Meets Tryz.prog 109 [.agg (eE a).toArray,.agg (eE b).toArray] w [] (fun u m=>u= .bool (decide (elt a b))∧m=[]):=by
 refine bG Tryz.func109 rfl Tryz.ntmps109 rfl Owns.nil<|aG fun kh1=>f_S (cZ rfl rfl fun O=>?_)
 refine f_S (cZ rfl rfl fun J=>?_);refine aB 1 rfl<|aD kh1<|aV fun kh2=>aG fun kh3=>cN qT rfl<|c7 Tryz.isAgg46 rfl (rdA rfl)<|cN qT rfl<|c7 Tryz.isAgg46 rfl (rdA rfl)<|aB 1 rfl<|aD kh3<|aX rfl (fun c9=>?_) (fun c9=>?_)
 ·refine aG fun F=>cN qT rfl<|c7 Tryz.isAgg46 rfl (rdA rfl)<|cN qT rfl<|c7 Tryz.isAgg46 rfl (rdA rfl)<|aB 2 rfl<|aD F<|aZ<|dA ?_
  exact bO [] Tryz.results109 rfl aP ⟨by congr 1;exact decide_eq_decide.2 (by unfold elt;omega),rfl⟩
 ·refine bZ kh2<|aG fun kh5=>cN mZ rfl<|c7 Tryz.isAgg3 rfl (rdA rfl)<|cN mZ rfl<|c7 Tryz.isAgg3 rfl (rdA rfl)<|aB 2 rfl<|aD kh5<|aZ ?_
  exact bO [] Tryz.results109 rfl aP ⟨by congr 1;exact decide_eq_decide.2 (by unfold elt;omega),rfl⟩
theorem TLen_spec (bT bA N:Nat) (A:Option Addr) (cap:Nat) (m:Seg) (at_:List Int) (l:List Ent) (w:World) (hw:Owns w (dK bT bA N (.slice A l.length cap) m at_)):Meets Tryz.prog 217 [.pointer (some ⟨bT,0,none⟩)] w (dK bT bA N (.slice A l.length cap) m at_) (fun u own' =>u= .int .i64 (l.length:Int)∧own' =dK bT bA N (.slice A l.length cap) m at_):=by
 refine bG Tryz.func217 rfl Tryz.ntmps217 rfl hw ?_
 unfold dK
 refine aG fun kh1=>aB 1 rfl<|aD kh1<|aG fun kh2=>aB 1 rfl<|f_Q (dD rfl)<|cN fZ rfl<|c7 Tryz.isAgg188 rfl (rdA rfl)<|dY jQ rfl<|aB 1 rfl ?_
 refine aD kh2<|aZ ?_
 exact bO (dK bT bA N (.slice A l.length cap) m at_) Tryz.results217 rfl (by repeat (first|exact aP|refine aL ?_|refine bV rfl ?_)) ⟨rfl,rfl⟩
theorem Less_spec (bT bA N:Nat) (A:Option Addr) (cap:Nat) (m:Seg) (at_:List Int) (l:List Ent) (i j:Nat) (w:World) (ho:Own 193 2 (.slice A l.length cap) l.length (l.flatMap eE) m) (hi:i<l.length) (hj:j<l.length) (hw:Owns w (dK bT bA N (.slice A l.length cap) m at_)):Meets Tryz.prog 218 [.pointer (some ⟨bT,0,none⟩),.int .i64 (i:Int),.int .i64 (j:Int)] w (dK bT bA N (.slice A l.length cap) m at_) (fun u own' =>u= .bool (decide (elt (eg l i) (eg l j)))∧own' =dK bT bA N (.slice A l.length cap) m at_):=by
 obtain ⟨bl,sp,rfl,rfl,O⟩:=ho.upd aA
 refine bG Tryz.func218 rfl Tryz.ntmps218 rfl hw ?_
 unfold dK
 refine aG fun kh1=>aB 1 rfl<|aD kh1<|aV fun kh2=>gG 18 rfl aU<|dN 1 rfl<|dG (dD rfl)<|dG (aT fa191_2 rfl)<|gH Tryz.isAgg189 rfl (rdA rfl)<|dN 1 rfl ?_
 refine dG (dD rfl)<|dG (aT fZ rfl)<|gH Tryz.isAgg188 rfl (rdA rfl)<|dN 1 rfl<|dG (aM jQ rfl rfl (i*2))<|dG (aQ (vs:=eE (eg l i)) Tryz.isAgg193 Tryz.sizeOf193 rfl rfl (by rw [jC hi];exact jR eD hi)) ?_;refine dN 1 rfl<|dG (dD rfl)<|dG (aT fZ rfl)<|gH Tryz.isAgg188 rfl (rdA rfl)<|dN 1 rfl<|dG (aM jQ rfl rfl (j*2))<|dG (aQ (vs:=eE (eg l j)) Tryz.isAgg193 Tryz.sizeOf193 rfl rfl (by rw [jC hj];exact jR eD hj)) ?_
 refine eK (i3 ?_);refine f_S (jE [] _ Tryz.call109 rfl rfl Sub.refl (fun F J=>Ahead_spec (eg l i) (eg l j) F) ?_);rintro _ _ ⟨rfl,rfl⟩;dsimp only [aK,aJ];refine aB 1 rfl<|aD kh2<|aZ ?_
 exact bO (dK bT bA N (.slice (some ⟨bl,0,none⟩) l.length cap) [(bl,blk (l.flatMap eE++sp) 193)] at_) Tryz.results218 rfl (by repeat (first|exact aP|refine aL ?_|refine bV rfl ?_)) ⟨rfl,rfl⟩
theorem Swap_spec (bT bA N:Nat) (A:Option Addr) (cap:Nat) (m:Seg) (at_:List Int) (l:List Ent) (i j:Nat) (w:World) (ho:Own 193 2 (.slice A l.length cap) l.length (l.flatMap eE) m) (Y:HOk l at_) (hN:at_.length=N) (hi:i<l.length) (hj:j<l.length) (hw:Owns w (dK bT bA N (.slice A l.length cap) m at_)):Meets Tryz.prog 221 [.pointer (some ⟨bT,0,none⟩),.int .i64 (i:Int),.int .i64 (j:Int)] w (dK bT bA N (.slice A l.length cap) m at_) (fun u own' =>u= .tuple #[]∧∃ m',own' =dK bT bA N (.slice A l.length cap) m' (swAt l at_ i j)∧Own 193 2 (.slice A l.length cap) l.length ((sw l i j).flatMap eE) m'):=by
 obtain ⟨bl,sp,rfl,rfl,U⟩:=ho.upd aA
 have hai:=Y.lt hi
 have Z:=Y.lt hj
 have X:=sw_len l i j
 have F:eg (sw l i j) i=eg l j:=by rw [eg_sw hi hj];split<;>simp_all
 have O:eg (sw l i j) j=eg l i:=by rw [eg_sw hi hj,if_pos rfl]
 refine bG Tryz.func221 rfl Tryz.ntmps221 rfl hw ?_
 unfold dK
 refine aV fun J=>cQ [[(bT,blk [.slice (some ⟨bl,0,none⟩) l.length cap,.slice (some ⟨bA,0,none⟩) N N,.func (.func 109) #[] #[]] 191)]] rfl<|f_T 0 rfl (aR rfl)<|f_T 1 rfl (dD rfl)<|f_T 2 rfl (aT fZ rfl)<|f_T 3 rfl (aH Tryz.isAgg188 rfl (rdA rfl))<|f_T 4 rfl (aR rfl)<|f_T 5 rfl (aR rfl)<|f_T 6 rfl (dD rfl)<|f_T 7 rfl (aT fZ rfl) ?_
 refine f_T 8 rfl (aH Tryz.isAgg188 rfl (rdA rfl))<|f_T 9 rfl (aR rfl)<|f_T 10 rfl (aR rfl)<|f_T 11 rfl (dD rfl)<|f_T 12 rfl (aT fZ rfl)<|f_T 13 rfl (aH Tryz.isAgg188 rfl (rdA rfl))<|f_T 14 rfl (aR rfl)<|f_T 15 rfl (aM jQ rfl rfl (j*2))<|f_T 17 rfl (aR rfl)<|f_T 18 rfl (dD rfl) ?_
 refine f_T 19 rfl (aT fZ rfl)<|f_T 20 rfl (aH Tryz.isAgg188 rfl (rdA rfl))<|f_T 21 rfl (aR rfl)<|f_T 22 rfl (aM jQ rfl rfl (i*2))<|gD 16 23 rfl rfl aU rfl rfl rfl rfl rfl rfl ?_ ?_
 ·refine (aQ (vs:=eE (eg l j)) Tryz.isAgg193 Tryz.sizeOf193 rfl rfl (by rw [jC hj];exact jR eD hj)).does ⟨aC,?_⟩;refine f_O 23 rfl ((aQ (vs:=eE (eg l i)) Tryz.isAgg193 Tryz.sizeOf193 rfl rfl (by rw [jC hi];exact jR eD hi)).does ⟨aC,?_⟩);refine f_T 24 rfl (aM jQ rfl rfl (i*2))<|fX 25 rfl (bS Tryz.sizeOf193 rfl rfl rfl rfl (by rw [List.length_append,dX eE eD];simp [eE];omega) ((l.set i (eg l j)).flatMap eE++sp) (jZ eD sp l i (eg l j) hi) ⟨aC,?_⟩)
  refine f_T 26 rfl (aM jQ rfl rfl (j*2))<|fX 27 rfl (bS Tryz.sizeOf193 rfl rfl rfl rfl (by rw [List.length_append,dX eE eD,List.length_set];simp [eE];omega) ((sw l i j).flatMap eE++sp) (jZ eD sp (l.set i (eg l j)) j (eg l i) (by simpa using hj)) ⟨aC,?_⟩)
  refine cO aU<|bP J<|cQ [[(bT,blk [.slice (some ⟨bl,0,none⟩) l.length cap,.slice (some ⟨bA,0,none⟩) N N,.func (.func 109) #[] #[]] 191)],[(bl,blk ((sw l i j).flatMap eE++sp) 193)]] rfl<|f_T 0 rfl (aR rfl)<|f_T 1 rfl (dD rfl)<|f_T 2 rfl (aT lY rfl)<|f_T 3 rfl (aH Tryz.isAgg25 rfl (rdA rfl))<|f_T 4 rfl (aR rfl)<|f_T 5 rfl (dD rfl)<|f_T 6 rfl (aT fZ rfl) ?_
  refine f_T 7 rfl (aH Tryz.isAgg188 rfl (rdA rfl))<|f_T 8 rfl (aR rfl)<|f_T 9 rfl (aM jQ rfl rfl (i*2))<|f_T 10 rfl (aT mZ rfl)<|f_T 11 rfl (aH Tryz.isAgg3 rfl (rdOwn (v:= .int .i64 ((eg l j).id:Int)) eD aA (by rw [← jC aA,F];rfl))) ?_
  refine f_T 12 rfl (aR rfl)<|f_T 13 rfl (dD rfl)<|f_T 14 rfl (aT lY rfl)<|f_T 15 rfl (aH Tryz.isAgg25 rfl (rdA rfl))<|f_T 16 rfl (aR rfl)<|f_T 17 rfl (dD rfl)<|f_T 18 rfl (aT fZ rfl)<|f_T 19 rfl (aH Tryz.isAgg188 rfl (rdA rfl))<|f_T 20 rfl (aR rfl)<|f_T 21 rfl (aM jQ rfl rfl (j*2)) ?_
  refine f_T 22 rfl (aT mZ rfl)<|f_T 23 rfl (aH Tryz.isAgg3 rfl (rdOwn (v:= .int .i64 ((eg l i).id:Int)) eD aA (by rw [← jC aA,O];rfl))) ?_
  refine f_T 24 rfl (aR rfl)<|f_T 25 rfl (aR rfl)<|f_T 26 rfl (aM bU rfl rfl ((eg l j).id))<|fX 27 rfl (bQ Tryz.sizeOf3 rfl rfl rfl rfl (by rw [a7];omega) (a8 (at_.set (eg l j).id (i:Int))) (l7 _ _ _) ⟨aC,?_⟩)
  refine f_T 28 rfl (aM bU rfl rfl ((eg l i).id))<|fX 29 rfl (bQ Tryz.sizeOf3 rfl rfl rfl rfl (by rw [a7,List.length_set];omega) (a8 (swAt l at_ i j)) (l7 _ _ _) ⟨aC,?_⟩)
  refine cO aU ?_;exact iR (dK bT bA N (.slice (some ⟨bl,0,none⟩) l.length cap) [(bl,blk ((sw l i j).flatMap eE++sp) 193)] (swAt l at_ i j)) Tryz.results221 (by repeat (first|exact aP|refine aL ?_|refine bV rfl ?_)) ⟨rfl,_,rfl,U _ (by rw [dX eE eD,dX eE eD,X])⟩
 ·refine (aQ (vs:=eE (eg l i)) Tryz.isAgg193 Tryz.sizeOf193 rfl rfl (by rw [jC hi];exact jR eD hi)).does ⟨aC,?_⟩;refine f_O 16 rfl ((aQ (vs:=eE (eg l j)) Tryz.isAgg193 Tryz.sizeOf193 rfl rfl (by rw [jC hj];exact jR eD hj)).does ⟨aC,?_⟩);refine f_T 24 rfl (aM jQ rfl rfl (i*2))<|fX 25 rfl (bS Tryz.sizeOf193 rfl rfl rfl rfl (by rw [List.length_append,dX eE eD];simp [eE];omega) ((l.set i (eg l j)).flatMap eE++sp) (jZ eD sp l i (eg l j) hi) ⟨aC,?_⟩)
  refine f_T 26 rfl (aM jQ rfl rfl (j*2))<|fX 27 rfl (bS Tryz.sizeOf193 rfl rfl rfl rfl (by rw [List.length_append,dX eE eD,List.length_set];simp [eE];omega) ((sw l i j).flatMap eE++sp) (jZ eD sp (l.set i (eg l j)) j (eg l i) (by simpa using hj)) ⟨aC,?_⟩)
  refine cO aU<|bP J<|cQ [[(bT,blk [.slice (some ⟨bl,0,none⟩) l.length cap,.slice (some ⟨bA,0,none⟩) N N,.func (.func 109) #[] #[]] 191)],[(bl,blk ((sw l i j).flatMap eE++sp) 193)]] rfl<|f_T 0 rfl (aR rfl)<|f_T 1 rfl (dD rfl)<|f_T 2 rfl (aT lY rfl)<|f_T 3 rfl (aH Tryz.isAgg25 rfl (rdA rfl))<|f_T 4 rfl (aR rfl)<|f_T 5 rfl (dD rfl)<|f_T 6 rfl (aT fZ rfl) ?_
  refine f_T 7 rfl (aH Tryz.isAgg188 rfl (rdA rfl))<|f_T 8 rfl (aR rfl)<|f_T 9 rfl (aM jQ rfl rfl (i*2))<|f_T 10 rfl (aT mZ rfl)<|f_T 11 rfl (aH Tryz.isAgg3 rfl (rdOwn (v:= .int .i64 ((eg l j).id:Int)) eD aA (by rw [← jC aA,F];rfl))) ?_
  refine f_T 12 rfl (aR rfl)<|f_T 13 rfl (dD rfl)<|f_T 14 rfl (aT lY rfl)<|f_T 15 rfl (aH Tryz.isAgg25 rfl (rdA rfl))<|f_T 16 rfl (aR rfl)<|f_T 17 rfl (dD rfl)<|f_T 18 rfl (aT fZ rfl)<|f_T 19 rfl (aH Tryz.isAgg188 rfl (rdA rfl))<|f_T 20 rfl (aR rfl)<|f_T 21 rfl (aM jQ rfl rfl (j*2)) ?_
  refine f_T 22 rfl (aT mZ rfl)<|f_T 23 rfl (aH Tryz.isAgg3 rfl (rdOwn (v:= .int .i64 ((eg l i).id:Int)) eD aA (by rw [← jC aA,O];rfl))) ?_
  refine f_T 24 rfl (aR rfl)<|f_T 25 rfl (aR rfl)<|f_T 26 rfl (aM bU rfl rfl ((eg l j).id))<|fX 27 rfl (bQ Tryz.sizeOf3 rfl rfl rfl rfl (by rw [a7];omega) (a8 (at_.set (eg l j).id (i:Int))) (l7 _ _ _) ⟨aC,?_⟩)
  refine f_T 28 rfl (aM bU rfl rfl ((eg l i).id))<|fX 29 rfl (bQ Tryz.sizeOf3 rfl rfl rfl rfl (by rw [a7,List.length_set];omega) (a8 (swAt l at_ i j)) (l7 _ _ _) ⟨aC,?_⟩)
  refine cO aU ?_;exact iR (dK bT bA N (.slice (some ⟨bl,0,none⟩) l.length cap) [(bl,blk ((sw l i j).flatMap eE++sp) 193)] (swAt l at_ i j)) Tryz.results221 (by repeat (first|exact aP|refine aL ?_|refine bV rfl ?_)) ⟨rfl,_,rfl,U _ (by rw [dX eE eD,dX eE eD,X])⟩
theorem TPop_spec (bT bA N:Nat) (A:Option Addr) (cap:Nat) (m:Seg) (at_:List Int) (l:List Ent) (n:Nat) (w:World) (ho:Own 193 2 (.slice A l.length cap) l.length (l.flatMap eE) m) (O:HOk l at_) (Y:at_.length=N) (hn:l.length=n+1) (F:l.length≤cap∧cap≤9223372036854775807) (hw:Owns w (dK bT bA N (.slice A l.length cap) m at_)):Meets Tryz.prog 219 [.pointer (some ⟨bT,0,none⟩)] w (dK bT bA N (.slice A l.length cap) m at_) (fun u own' =>own' =dK bT bA N (.slice A n cap) m (at_.set (eg l n).id (-1))):=by
 obtain ⟨bl,sp,rfl,rfl,U⟩:=ho.upd aA
 have J:=O.lt (i:=n) aA
 refine bG Tryz.func219 rfl Tryz.ntmps219 rfl hw ?_
 unfold dK
 refine aG fun kh1=>aB 1 rfl<|aD kh1<|aG fun kh2=>aB 1 rfl<|f_Q (dD rfl)<|cN fZ rfl<|c7 Tryz.isAgg188 rfl (rdA rfl)<|dY jQ rfl<|f_Q (j5 rfl rfl _ (show IntKind.i64.wrap ((l.length:Int) - 1)=(n:Int) from by rw [d8 aA];omega)) ?_
 refine aB 1 rfl<|aD kh2<|aG fun kh3=>aB 1 rfl<|f_Q (dD rfl)<|cN fZ rfl<|c7 Tryz.isAgg188 rfl (rdA rfl)<|aB 1 rfl<|f_Q (aM jQ rfl rfl (n*2))<|f_Q (aQ (vs:=eE (eg l n)) Tryz.isAgg193 Tryz.sizeOf193 rfl rfl (by rw [jC (show n<l.length by omega)];exact jR eD aA)) ?_
 refine f_S (cX Tryz.zeroValue193 rfl fun X=>?_);refine f_Z (bS Tryz.sizeOf193 rfl rfl rfl rfl cG _ rfl ?_);refine aD kh3<|aG fun kh4=>aB 2 rfl<|f_Q (dD rfl)<|cN fZ rfl<|c7 Tryz.isAgg188 rfl (rdA rfl)<|aB 1 rfl<|f_Q (f7 jQ rfl rfl rfl rfl (fun h=>by cases h) 0 n _ (.inl ⟨rfl,rfl⟩) (.inr ⟨_,_,rfl,aA⟩) (.inl ⟨rfl,rfl⟩) ⟨aA,aA,aA⟩ (.slice (some ⟨bl,0,none⟩) n cap) (by rw [if_neg aA];simp [dH])) ?_
 refine f_Q (dD rfl)<|cN fZ rfl<|f_Z (bQ Tryz.sizeOf188 rfl rfl rfl rfl cG _ rfl ?_)
 refine aD kh4<|aV fun kh5=>gG 7 rfl aU<|dN 1 rfl<|dG (dD rfl)<|dG (aT lY rfl)<|gH Tryz.isAgg25 rfl (rdA rfl)<|dG (aT mZ rfl)<|gH Tryz.isAgg3 rfl (rdA rfl)<|dG (aM bU rfl rfl ((eg l n).id))<|eK (i3 ?_)
 refine f_Z (bQ Tryz.sizeOf3 rfl rfl rfl rfl (by rw [a7];omega) (a8 (at_.set (eg l n).id (-1))) (l7 _ _ _) ?_);refine aD kh5<|aG fun kh6=>f_Q (aQ (vs:=[_,_]) Tryz.isAgg193 Tryz.sizeOf193 rfl rfl ⟨(rdA rfl),(rdA rfl),trivial⟩)<|f_Q (qI Tryz.underlying193 rfl rfl)<|aB 1 rfl<|aD kh6<|aZ ?_
 exact bO (dK bT bA N (.slice (some ⟨bl,0,none⟩) n cap) [(bl,blk (l.flatMap eE++sp) 193)] (at_.set (eg l n).id (-1))) Tryz.results219 rfl (by repeat (first|exact aP|refine aL ?_|refine bV rfl ?_)) rfl
theorem TPush_spec (bT bA N:Nat) (A:Option Addr) (cap:Nat) (m:Seg) (at_:List Int) (l:List Ent) (e:Ent) (w:World) (ho:Own 193 2 (.slice A l.length cap) l.length (l.flatMap eE) m) (hN:at_.length=N) (he:e.id<N) (hl:l.length≤1000000) (hw:Owns w (dK bT bA N (.slice A l.length cap) m at_)):Meets Tryz.prog 220 [.pointer (some ⟨bT,0,none⟩),.iface 193 (.agg (eE e).toArray)] w (dK bT bA N (.slice A l.length cap) m at_) (fun u own' =>u= .tuple #[]∧∃ A' cap' m',own' =dK bT bA N (.slice A' (l++[e]).length cap') m' (at_.set e.id (l.length:Int))∧Own 193 2 (.slice A' (l++[e]).length cap') (l++[e]).length ((l++[e]).flatMap eE) m'):=by
 refine bG Tryz.func220 rfl Tryz.ntmps220 rfl hw ?_
 unfold dK
 refine aG fun X=>aB 1 rfl<|f_Q (o_assert Tryz.underlying193 rfl rfl)<|f_S (cX Tryz.zeroValue193 rfl fun b4=>?_)
 refine f_Z (bS Tryz.sizeOf193 rfl rfl rfl rfl cG _ rfl ?_);refine aD X<|aV fun kh2=>gG 12 rfl aU<|dN 1 rfl<|dG (dD rfl)<|dG (aT lY rfl)<|gH Tryz.isAgg25 rfl (rdA rfl)<|dG (aT mZ rfl)<|gH Tryz.isAgg3 rfl (rdA rfl)<|dN 1 rfl ?_
 refine dG (dD rfl)<|dG (aT fZ rfl)<|gH Tryz.isAgg188 rfl (rdA rfl)<|dG (iZ jQ rfl)<|dG (aM bU rfl rfl (e.id))<|eK (i3 ?_)
 refine f_Z (bQ Tryz.sizeOf3 rfl rfl rfl rfl (by rw [a7];omega) (a8 (at_.set e.id (l.length:Int))) (l7 _ _ _) ?_);refine aD kh2<|cQ [[(b4,blk (eE e) 193)]] rfl<|f_T 0 rfl (aR rfl)<|f_T 1 rfl (aR rfl)<|f_T 2 rfl (dD rfl)<|f_T 3 rfl (aT fZ rfl)<|f_T 5 rfl (aQ (vs:=[_,_]) Tryz.isAgg193 Tryz.sizeOf193 rfl rfl ⟨(rdA rfl),(rdA rfl),trivial⟩)<|gD 4 6 rfl rfl aU rfl rfl rfl rfl rfl rfl ?_ ?_
 ·refine (aH Tryz.isAgg188 rfl (rdA rfl)).does ⟨aC,?_⟩;refine f_O 6 rfl (bX el188 aA rfl rfl rfl fun Z=>⟨aC,?_⟩);refine f_O 7 rfl (dJ el188 rfl rfl ho (ys:=eE e) ⟨(rdA rfl),(rdA rfl),trivial⟩ rfl rfl aA aA fun Y O F=>⟨aC,?_⟩);obtain ⟨U,J,rfl,_⟩:=F.val
  refine f_T 8 rfl (dD rfl)<|f_T 9 rfl (aT fZ rfl)<|fX 10 rfl (bQ Tryz.sizeOf188 rfl rfl rfl rfl cG _ rfl ⟨aC,?_⟩)
  refine cO aU ?_;have e1:l.flatMap eE++eE e=(l++[e]).flatMap eE:=aO
  rw [e1] at F;have e2:l.length+1=(l++[e]).length:=aO
  rw [e2] at F;exact iR (dK bT bA N (.slice U (l++[e]).length J) O (at_.set e.id (l.length:Int))) Tryz.results220 (by rw [← e2];repeat (first|exact aP|refine aL ?_|refine bV rfl ?_)) ⟨rfl,_,_,_,rfl,F⟩
 ·refine (bX el188 aA rfl rfl rfl fun Z=>⟨aC,?_⟩);refine f_O 4 rfl ((aH Tryz.isAgg188 rfl (rdA rfl)).does ⟨aC,?_⟩);refine f_O 7 rfl (dJ el188 rfl rfl ho (ys:=eE e) ⟨(rdA rfl),(rdA rfl),trivial⟩ rfl rfl aA aA fun Y O F=>⟨aC,?_⟩);obtain ⟨U,J,rfl,_⟩:=F.val
  refine f_T 8 rfl (dD rfl)<|f_T 9 rfl (aT fZ rfl)<|fX 10 rfl (bQ Tryz.sizeOf188 rfl rfl rfl rfl cG _ rfl ⟨aC,?_⟩)
  refine cO aU ?_;have e1:l.flatMap eE++eE e=(l++[e]).flatMap eE:=aO
  rw [e1] at F;have e2:l.length+1=(l++[e]).length:=aO
  rw [e2] at F;exact iR (dK bT bA N (.slice U (l++[e]).length J) O (at_.set e.id (l.length:Int))) Tryz.results220 (by rw [← e2];repeat (first|exact aP|refine aL ?_|refine bV rfl ?_)) ⟨rfl,_,_,_,rfl,F⟩
theorem up_spec (bT bA N:Nat) (A:Option Addr) (cap:Nat) (m:Seg) (at_:List Int) (l:List Ent) (n j:Nat) (w:World) (ho:Own 193 2 (.slice A l.length cap) l.length (l.flatMap eE) m) (hH:HOk l at_) (hN:at_.length=N) (hU:UpOk l n j) (hj:j<n) (hn:n≤l.length) (hl:l.length≤1000000) (hw:Owns w (dK bT bA N (.slice A l.length cap) m at_)):Meets Tryz.prog 149 [.iface 187 (.pointer (some ⟨bT,0,none⟩)),.int .i64 (j:Int)] w (dK bT bA N (.slice A l.length cap) m at_) (fun u own' =>u= .tuple #[]∧Left bT bA N (.slice A l.length cap) l n own' (fun l' =>n2 l' n)):=by
 refine bG Tryz.func149 rfl Tryz.ntmps149 rfl hw<|aS ?_
 refine dF (α:=Nat×List Ent×Seg×List Int) [0] (fun ⟨F,l',m',at'⟩=>[(1,.int .i64 (F:Int))]) (fun ⟨F,l',m',at'⟩=>[[(bT,blk [.slice A l.length cap,.slice (some ⟨bA,0,none⟩) N N,.func (.func 109) #[] #[]] 191)],m',[(bA,blk (a8 at') 3)]]) (fun ⟨F,l',m',at'⟩=>Own 193 2 (.slice A l'.length cap) l'.length (l'.flatMap eE) m'∧HOk l' at'∧at'.length=N∧UpOk l' n F∧F<n∧l'.Perm l∧l'.drop n=l.drop n) (fun ⟨F,l',m',at'⟩=>F) (j,l,m,at_) ?_ ?_ ?_ ?_
 ·exact aF
 ·exact aC
 ·exact ⟨ho,hH,hN,hU,hj,List.Perm.refl _,rfl⟩
 ·rintro ⟨F,l',m',at'⟩ ⟨O,U,X,Z,ae,Y,ab⟩;have J:=Y.length_eq
  have ai:par F≤F:=by unfold par;omega
  refine aS<|aG fun kh1=>aB 1 rfl<|f_Q (jK rfl rfl)<|f_Q (o_quo rfl rfl (by decide) (par F:Int) (wrap_par aA)) ?_
  refine aB 1 rfl<|aD kh1<|aV fun kh2=>aG fun kh3=>aB 4 rfl<|eA 11 rfl (fun g11=>?_) (fun g11=>?_)
  ·refine aB 6 rfl<|aD kh3<|eW rfl<|cS<|cU<|f_bo rfl<|cU<|eH ?_
   have ac:F=0:=by unfold par at g11;omega
   subst ac;exact iR (dK bT bA N (.slice A l.length cap) m' at') Tryz.results149 (by repeat (first|exact aP|refine aL ?_|refine bV rfl ?_)) ⟨rfl,l',m',at',rfl,by rw [J] at O;rw [J];exact O,U,X,Y,ab,up_zero Z⟩
  ·have ac:0<F:=by unfold par at g11;omega
   have ah:par F<F:=by unfold par;omega
   refine aB 3 rfl ?_;refine k9 rfl rfl rfl rfl rfl (jH (dK bT bA N (.slice A l'.length cap) m' at') _ (inv_Less (some ⟨bT,0,none⟩)) rfl rfl (by rw [J];unfold dK;exact aL (aL (aL Sub.refl))) (fun w_ aa=>Less_spec bT bA N A cap m' at' l' F (par F) w_ O aA aA aa.owns) ?_);rintro _ _ ⟨rfl,rfl⟩
   unfold dK
   rw [J];dsimp only [aK,aJ];refine aB 2 rfl<|aD kh3<|e8 rfl (fun c17=>?_) (fun c17=>?_)
   ·refine cS<|cU<|f_bo rfl<|cU<|eH ?_
    exact iR (dK bT bA N (.slice A l.length cap) m' at') Tryz.results149 (by repeat (first|exact aP|refine aL ?_|refine bV rfl ?_)) ⟨rfl,l',m',at',rfl,by rw [J] at O;rw [J];exact O,U,X,Y,ab,up_stop Z (by simpa using c17)⟩
   ·have c17:elt (eg l' F) (eg l' (par F)):=by simpa using c17
    refine bZ kh2<|aG fun kh4=>aB 3 rfl ?_
    refine f_S (jH (dK bT bA N (.slice A l'.length cap) m' at') _ (inv_Swap (some ⟨bT,0,none⟩)) rfl rfl (by rw [J];unfold dK;exact aL (aL (aL Sub.refl))) (fun w_ aa=>Swap_spec bT bA N A cap m' at' l' (par F) F w_ O U X aA aA aa.owns) ?_);rintro _ _ ⟨rfl,ag,rfl,ad⟩
    unfold dK
    rw [J];dsimp only [aK,aJ];refine aD kh4<|aI<|aB 2 rfl<|aY<|dI ?_
    refine cV (a6 (par F,sw l' (par F) F,ag,swAt l' at' (par F) F) (by first|omega|(dsimp only;omega)|(simp;omega)) ⟨by rw [sw_len];exact ad,U.sw aA aA,by rw [swAt_len];exact X,up_step Z ac ae aA c17,aA,(sw_perm aA aA).trans Y,by rw [sw_drop aA ae];exact ab⟩ ?_ ?_ ?_)
    ·exact aF
    ·exact aF
    ·exact aC
def DnG (n F:Nat) (b:Bool) (l' :List Ent):Prop:=(b=true→n2 l' n)∧(b=false→UpOk l' n F)
theorem dn_kids {l:List Ent} {n i j:Nat} (h:ele (eg l i) (eg l j)) (hb:∀ c,0<c→c<n→par c=i→ele (eg l j) (eg l c)):∀ c,0<c→c<n→par c=i→ele (eg l i) (eg l c):=fun c J F hc=>lM h (hb c J F hc)
theorem kid_one {l:List Ent} {n i:Nat} (h1:2*i+1<n) (h2:¬ 2*i+2<n):∀ c,0<c→c<n→par c=i→ele (eg l (2*i+1)) (eg l c):=fun c F J hc=>by
 rcases pars F hc with rfl|rfl
 ·exact pZ _
 ·omega
theorem kid_right {l:List Ent} {n i:Nat} (h:elt (eg l (2*i+2)) (eg l (2*i+1))):∀ c,0<c→c<n→par c=i→ele (eg l (2*i+2)) (eg l c):=fun c F J hc=>by
 rcases pars F hc with rfl|rfl
 ·exact ele_of h
 ·exact pZ _
theorem kid_left {l:List Ent} {n i:Nat} (h:¬ elt (eg l (2*i+2)) (eg l (2*i+1))):∀ c,0<c→c<n→par c=i→ele (eg l (2*i+1)) (eg l c):=fun c F J hc=>by
 rcases pars F hc with rfl|rfl
 ·exact pZ _
 ·exact h
theorem par_left (i:Nat):par (2*i+1)=i:=by unfold par;omega
theorem par_right (i:Nat):par (2*i+2)=i:=by unfold par;omega
theorem own_cap {E sz len F cap:Nat} {A:Option Addr} {cs:List Value} {m:Seg} (h:Own E sz (.slice A len cap) F cs m):len≤cap∧cap≤9223372036854775807:=by
 rcases h.2 with ⟨e,rfl,_⟩|⟨b,c,sp,e,_,h1,h2,_⟩
 ·obtain ⟨_,rfl,rfl⟩:=Value.slice.inj e;omega
 ·obtain ⟨_,rfl,rfl⟩:=Value.slice.inj e;omega
theorem take_last {l:List Ent} {n:Nat} (h:l.length=n+1):l=l.take n++[eg l n]:=by
 rw [jC aA,← List.take_succ_eq_append_getElem aA,List.take_of_length_le aA]
theorem eg_drop {l l' :List Ent} {n:Nat} (h:l'.drop n=l.drop n):eg l' n=eg l n:=by
 have e:∀ l:List Ent,eg l n=(l.drop n).getD 0 ⟨0,0⟩:=fun l=>by simp [eg,List.getD_eq_getElem?_getD]
 rw [e,e,h]
theorem dn_full {l:List Ent} {n:Nat} {b:Bool} (h:DnG n 0 b l):n2 l n:=by
 cases b
 ·exact up_zero (h.2 rfl)
 ·exact h.1 rfl
def Cut (bT bA N n:Nat) (A:Option Addr) (cap:Nat) (l:List Ent) (e:Ent) (own:List Seg):Prop:=
 ∃ l2 m' at',own=dK bT bA N (.slice A l2.length cap) m' at'∧Own 193 2 (.slice A l2.length cap) l2.length (l2.flatMap eE) m'∧l2.length=n∧HOk l2 at'∧at'.length=N∧n2 l2 l2.length∧(e::l2).Perm l
theorem flat_take {l:List Ent} {n:Nat}:(l.flatMap eE).take (n*2)=(l.take n).flatMap eE:=by
 induction l generalizing n with
 |nil=>simp
 |cons x l ih=>
  cases n with
  |zero=>simp
  |succ n=>
   rw [List.flatMap_cons,List.take_succ_cons,List.flatMap_cons,List.take_append,List.take_of_length_le (by rw [eD];omega),eD,show (n+1)*2 - 2=n*2 from by omega,ih]
theorem cut_mk {bT bA N n cap:Nat} {A:Option Addr} {l l' :List Ent} {e:Ent} {m' :Seg} {at' :List Int} (ho:Own 193 2 (.slice A l'.length cap) l'.length (l'.flatMap eE) m') (hl:l'.length=n+1) (O:HOk l' at') (U:at'.length=N) (J:n2 l' n) (hp:l'.Perm l) (he:eg l' n=e):
  Cut bT bA N n A cap l e (dK bT bA N (.slice A n cap) m' (at'.set (eg l' n).id (-1))):=by
 have h2:(l'.take n).length=n:=by simp;omega
 have F:=ho.head (n:=n) aA
 rw [flat_take] at F
 exact ⟨l'.take n,m',_,by rw [h2],by rw [h2];exact F,h2,O.pop hl,by simpa using U,by rw [h2];exact full_take J,by
  refine List.Perm.trans ?_ hp
  conv=>rhs;rw [take_last hl]
  rw [he]
  exact (List.perm_append_comm (l₁:=[e]))⟩
theorem dn_end {l:List Ent} {n F i:Nat} (h:∀ c,0<c→c<n→(c≠i∨i≠F)→ele (eg l (par c)) (eg l c)) (hd:DnOk l n F i) (J:F≤i):DnG n F (decide ((F:Int)<(i:Int))) l:=by
 refine ⟨fun hb=>dn_moved h (by have:=of_decide_eq_true hb;omega),fun hb=>?_⟩;have:i=F:=by have:=of_decide_eq_false hb;omega
 subst this;exact dn_stays h hd
theorem down_spec (bT bA N:Nat) (A:Option Addr) (cap:Nat) (m:Seg) (at_:List Int) (l:List Ent) (n O:Nat) (w:World) (ho:Own 193 2 (.slice A l.length cap) l.length (l.flatMap eE) m) (hH:HOk l at_) (hN:at_.length=N) (hD:DnOk l n O O) (hi:O≤l.length) (hn:n≤l.length) (hl:l.length≤500000) (hw:Owns w (dK bT bA N (.slice A l.length cap) m at_)):Meets Tryz.prog 150 [.iface 187 (.pointer (some ⟨bT,0,none⟩)),.int .i64 (O:Int),.int .i64 (n:Int)] w (dK bT bA N (.slice A l.length cap) m at_) (fun u own' =>∃ b:Bool,u= .bool b∧Left bT bA N (.slice A l.length cap) l n own' (DnG n O b)):=by
 refine bG Tryz.func150 rfl Tryz.ntmps150 rfl hw<|aG fun kh1=>aB 1 rfl<|aD kh1<|aG fun kh2=>aB 2 rfl<|aD kh2<|aV fun kh3=>aS ?_
 refine dF (α:=Nat×List Ent×Seg×List Int) [0,1,2] (fun ⟨i,l',m',at'⟩=>[(7,.int .i64 (i:Int))]) (fun ⟨i,l',m',at'⟩=>[[(bT,blk [.slice A l.length cap,.slice (some ⟨bA,0,none⟩) N N,.func (.func 109) #[] #[]] 191)],m',[(bA,blk (a8 at') 3)]]) (fun ⟨i,l',m',at'⟩=>Own 193 2 (.slice A l'.length cap) l'.length (l'.flatMap eE) m'∧HOk l' at'∧at'.length=N∧DnOk l' n O i∧O≤i∧i≤l.length∧l'.Perm l∧l'.drop n=l.drop n) (fun ⟨i,l',m',at'⟩=>l.length - i) (O,l,m,at_) ?_ ?_ ?_ ?_
 ·exact aF
 ·exact aC
 ·exact ⟨ho,hH,hN,hD,Nat.le_refl _,hi,List.Perm.refl _,rfl⟩
 ·rintro ⟨i,l',m',at'⟩ ⟨ho',hH',hN',hD',U,ag,hp',hd'⟩;have hll:=hp'.length_eq
  refine aS<|aG fun kh4=>aB 1 rfl<|f_Q (o_mul rfl rfl _ (d8 aA))<|f_Q (kY rfl rfl _ (wrap_two aA))<|aB 1 rfl<|aD kh4<|aV fun kh5=>aG fun kh6=>aB 4 rfl<|eA 18 rfl (fun g18=>?_) (fun g18=>?_)
  ·refine aB 3 rfl<|aD kh6<|eW rfl<|cS<|cU<|f_bo rfl<|cU<|eH<|bP kh3<|aG fun kh7=>?_
   refine aB 4 rfl<|aD kh7<|aZ ?_
   exact bO (dK bT bA N (.slice A l.length cap) m' at') Tryz.results150 rfl (by repeat (first|exact aP|refine aL ?_|refine bV rfl ?_)) ⟨_,rfl,l',m',at',rfl,by rw [hll] at ho';rw [hll];exact ho',hH',hN',hp',hd',dn_end (dn_stop hD' fun c c0 cn hc=>by have:=pars c0 hc;omega) hD' U⟩
  ·refine aB 3 rfl<|aD kh6<|d4 rfl aA<|bZ kh5<|aG fun kh8=>aB 2 rfl<|aD kh8 ?_
   refine oU (α:=Nat) [0,1,2,7] (fun F=>[(9,.int .i64 (F:Int))]) (fun F=>[[(bT,blk [.slice A l.length cap,.slice (some ⟨bA,0,none⟩) N N,.func (.func 109) #[] #[]] 191)],m',[(bA,blk (a8 at') 3)]]) (fun F=>0<F∧par F=i∧F<n∧∀ c,0<c→c<n→par c=i→ele (eg l' F) (eg l' c)) ?_ ?_
   ·intro K9 X;refine aG fun kh10=>aB 1 rfl<|f_Q (kY rfl rfl _ (wrap_two2 aA))<|aB 1 rfl<|aD kh10<|aG fun kh11=>aB 4 rfl<|eA 28 rfl (fun g28=>?_) (fun g28=>?_)
    ·refine aB 3 rfl ?_;refine k9 rfl rfl rfl rfl rfl (jH (dK bT bA N (.slice A l'.length cap) m' at') _ (inv_Less (some ⟨bT,0,none⟩)) rfl rfl (by rw [hll];unfold dK;exact aL (aL (aL Sub.refl))) (fun w_ J=>Less_spec bT bA N A cap m' at' l' (2*i+2) (2*i+1) w_ ho' aA aA J.owns) ?_);rintro _ _ ⟨rfl,rfl⟩
     unfold dK
     rw [hll];dsimp only [aK,aJ];refine aB 1 rfl<|aD kh11<|aX rfl (fun c33=>?_) (fun c33=>?_)
     ·refine aI<|aB 2 rfl<|aY<|cV (X _ _ (2*i+2) ⟨aA,par_right i,aA,kid_right c33⟩ ?_ ?_ ?_)
      ·exact aF
      ·exact aF
      ·exact aC
     ·refine dZ<|cV (X _ _ (2*i+1) ⟨aA,par_left i,aA,kid_left c33⟩ ?_ ?_ ?_)
      ·exact aF
      ·exact aF
      ·exact aC
    ·refine aB 5 rfl<|aD kh11<|h7 rfl<|dZ<|cV (X _ _ (2*i+1) ⟨aA,par_left i,aA,kid_one aA aA⟩ ?_ ?_ ?_)
     ·exact aF
     ·exact aF
     ·exact aC
   ·rintro F ⟨ae,ac,aa,Z⟩;have ah:i<F:=by unfold par at ac;omega
    refine aV fun Y=>aG fun kh13=>aB 3 rfl ?_;refine f_S (jH (dK bT bA N (.slice A l'.length cap) m' at') _ (inv_Less (some ⟨bT,0,none⟩)) rfl rfl (by rw [hll];unfold dK;exact aL (aL (aL Sub.refl))) (fun w_ J=>Less_spec bT bA N A cap m' at' l' (F) (i) w_ ho' aA aA J.owns) ?_);rintro _ _ ⟨rfl,rfl⟩
    unfold dK
    rw [hll];dsimp only [aK,aJ];refine aB 1 rfl<|aD kh13<|e8 rfl (fun c39=>?_) (fun c39=>?_)
    ·refine cS<|cU<|f_bo rfl<|cU<|eH<|bP kh3<|aG fun kh14=>aB 4 rfl<|aD kh14<|aZ ?_
     exact bO (dK bT bA N (.slice A l.length cap) m' at') Tryz.results150 rfl (by repeat (first|exact aP|refine aL ?_|refine bV rfl ?_)) ⟨_,rfl,l',m',at',rfl,by rw [hll] at ho';rw [hll];exact ho',hH',hN',hp',hd',dn_end (dn_stop hD' (dn_kids (show ¬ elt (eg l' F) (eg l' i) from by simpa using c39) Z)) hD' U⟩
    ·have c39:elt (eg l' F) (eg l' i):=by simpa using c39
     refine bZ Y<|aG fun kh15=>aB 3 rfl ?_
     refine f_S (jH (dK bT bA N (.slice A l'.length cap) m' at') _ (inv_Swap (some ⟨bT,0,none⟩)) rfl rfl (by rw [hll];unfold dK;exact aL (aL (aL Sub.refl))) (fun w_ J=>Swap_spec bT bA N A cap m' at' l' (i) (F) w_ ho' hH' hN' aA aA J.owns) ?_);rintro _ _ ⟨rfl,ad,rfl,ab⟩
     unfold dK
     rw [hll];dsimp only [aK,aJ];refine aD kh15<|aI<|aB 2 rfl<|aY<|dI ?_
     refine cV (a6 (F,sw l' i F,ad,swAt l' at' i F) (by dsimp only;omega) ⟨by rw [sw_len];exact ab,hH'.sw aA aA,by rw [swAt_len];exact hN',dn_step hD' U ae ac aa aA c39 Z,aA,aA,(sw_perm aA aA).trans hp',by rw [sw_drop aA aa];exact hd'⟩ ?_ ?_ ?_)
     ·exact aF
     ·exact aF
     ·exact aC
theorem Fix_spec (bT bA N:Nat) (A:Option Addr) (cap:Nat) (m:Seg) (at_:List Int) (l:List Ent) (i:Nat) (w:World) (ho:Own 193 2 (.slice A l.length cap) l.length (l.flatMap eE) m) (hH:HOk l at_) (hN:at_.length=N) (hD:DnOk l l.length i i) (hi:i<l.length) (hl:l.length≤500000) (hw:Owns w (dK bT bA N (.slice A l.length cap) m at_)):Meets Tryz.prog 112 [.iface 187 (.pointer (some ⟨bT,0,none⟩)),.int .i64 (i:Int)] w (dK bT bA N (.slice A l.length cap) m at_) (fun u own' =>Left bT bA N (.slice A l.length cap) l l.length own' (fun l' =>n2 l' l.length)):=by
 refine bG Tryz.func112 rfl Tryz.ntmps112 rfl hw<|aG fun kh1=>aB 3 rfl ?_
 refine f_S (jH (dK bT bA N (.slice A l.length cap) m at_) _ (inv_Len (some ⟨bT,0,none⟩)) rfl rfl (by unfold dK;exact aL (aL (aL Sub.refl))) (fun w_ F=>TLen_spec bT bA N A cap m at_ l w_ F.owns) ?_);rintro _ _ ⟨rfl,rfl⟩
 unfold dK
 dsimp only [aK,aJ];refine f_S (d5 (dK bT bA N (.slice A l.length cap) m at_) _ Tryz.call150 rfl (by unfold dK;exact aL (aL (aL Sub.refl))) (fun w_ F=>down_spec bT bA N A cap m at_ l l.length i w_ ho hH hN hD aA (Nat.le_refl _) hl F.owns) ?_);rintro _ _ ⟨b,rfl,l',m',at',rfl,O,Y,aa,U,X,hG⟩
 unfold dK
 have J:=U.length_eq
 dsimp only [aK,aJ];refine aB 1 rfl<|aD kh1<|e8 rfl (fun c9=>?_) (fun c9=>?_)
 ·refine aI<|aB 2 rfl ?_
  refine f_S (d5 (dK bT bA N (.slice A l'.length cap) m' at') _ Tryz.call149 rfl (by rw [J];unfold dK;exact aL (aL (aL Sub.refl))) (fun w_ F=>up_spec bT bA N A cap m' at' l' l.length i w_ (by rw [← J] at O;exact O) Y aa (hG.2 (by simpa using c9)) aA aA aA F.owns) ?_);rintro _ _ ⟨rfl,l3,m3,Z,rfl,ad,ae,ab,ac,ah,ag⟩
  unfold dK
  rw [J];dsimp only [aK,aJ];refine aY ?_;exact iR (dK bT bA N (.slice A l.length cap) m3 Z) Tryz.results112 (by repeat (first|exact aP|refine aL ?_|refine bV rfl ?_)) ⟨l3,m3,Z,rfl,by rw [← J];exact ad,ae,ab,ac.trans U,ah.trans X,ag⟩
 ·refine dZ ?_;exact iR (dK bT bA N (.slice A l.length cap) m' at') Tryz.results112 (by repeat (first|exact aP|refine aL ?_|refine bV rfl ?_)) ⟨l',m',at',rfl,O,Y,aa,U,X,hG.1 (by simpa using c9)⟩
theorem Push_spec (bT bA N:Nat) (A:Option Addr) (cap:Nat) (m:Seg) (at_:List Int) (l:List Ent) (e:Ent) (w:World) (ho:Own 193 2 (.slice A l.length cap) l.length (l.flatMap eE) m) (hH:HOk l at_) (hN:at_.length=N) (hF:n2 l l.length) (he:at_[e.id]? =some (-1)) (hl:l.length≤100000) (hw:Owns w (dK bT bA N (.slice A l.length cap) m at_)):Meets Tryz.prog 111 [.iface 187 (.pointer (some ⟨bT,0,none⟩)),.iface 193 (.agg (eE e).toArray)] w (dK bT bA N (.slice A l.length cap) m at_) (fun u own' =>∃ A' cap',Left bT bA N (.slice A' (l++[e]).length cap') (l++[e]) (l++[e]).length own' (fun l' =>n2 l' (l++[e]).length)):=by
 have hlt:e.id<N:=by rw [← hN];exact (List.getElem?_eq_some_iff.1 he).1
 have U:(l++[e]).length=l.length+1:=aO
 refine bG Tryz.func111 rfl Tryz.ntmps111 rfl hw<|aG fun kh1=>aB 2 rfl ?_
 refine f_S (jH (dK bT bA N (.slice A l.length cap) m at_) _ (inv_Push (some ⟨bT,0,none⟩)) rfl rfl (by unfold dK;exact aL (aL (aL Sub.refl))) (fun O F=>TPush_spec bT bA N A cap m at_ l e O ho hN hlt aA F.owns) ?_);rintro _ _ ⟨rfl,A',cap',m2,rfl,X⟩
 unfold dK
 dsimp only [aK,aJ];refine aD kh1<|aI<|aB 2 rfl ?_
 refine f_S (jH (dK bT bA N (.slice A' (l++[e]).length cap') m2 (at_.set e.id (l.length:Int))) _ (inv_Len (some ⟨bT,0,none⟩)) rfl rfl (by unfold dK;exact aL (aL (aL Sub.refl))) (fun O F=>TLen_spec bT bA N A' cap' m2 _ (l++[e]) O F.owns) ?_);rintro _ _ ⟨rfl,rfl⟩
 unfold dK
 dsimp only [aK,aJ];refine f_Q (j5 rfl rfl _ (show IntKind.i64.wrap (((l++[e]).length:Int) - 1)=(l.length:Int) from by rw [d8 aA];omega)) ?_;refine f_S (d5 (dK bT bA N (.slice A' (l++[e]).length cap') m2 (at_.set e.id (l.length:Int))) _ Tryz.call149 rfl (by unfold dK;exact aL (aL (aL Sub.refl))) (fun O F=>up_spec bT bA N A' cap' m2 _ (l++[e]) (l++[e]).length l.length O X (hH.push he) (by simpa using hN) (by rw [U];exact up_push hF) aA (Nat.le_refl _) aA F.owns) ?_);rintro _ _ ⟨rfl,l3,m3,J,rfl,Z,ad,aa,ab,ac,Y⟩
 unfold dK
 dsimp only [aK,aJ];refine aY ?_;exact iR (dK bT bA N (.slice A' (l++[e]).length cap') m3 J) Tryz.results111 (by repeat (first|exact aP|refine aL ?_|refine bV rfl ?_)) ⟨A',cap',l3,m3,J,rfl,Z,ad,aa,ab,ac,Y⟩
theorem Pop_spec (bT bA N:Nat) (A:Option Addr) (cap:Nat) (m:Seg) (at_:List Int) (l:List Ent) (n:Nat) (w:World) (ho:Own 193 2 (.slice A l.length cap) l.length (l.flatMap eE) m) (hH:HOk l at_) (hN:at_.length=N) (hF:n2 l l.length) (hn:l.length=n+1) (hl:l.length≤100000) (hw:Owns w (dK bT bA N (.slice A l.length cap) m at_)):Meets Tryz.prog 114 [.iface 187 (.pointer (some ⟨bT,0,none⟩))] w (dK bT bA N (.slice A l.length cap) m at_) (fun u own' =>Cut bT bA N n A cap l (eg l 0) own'):=by
 have X:=sw_len l 0 n
 refine bG Tryz.func114 rfl Tryz.ntmps114 rfl hw<|aG fun kh1=>aB 1 rfl<|aD kh1<|aG fun kh2=>aB 1 rfl ?_
 refine f_S (jH (dK bT bA N (.slice A l.length cap) m at_) _ (inv_Len (some ⟨bT,0,none⟩)) rfl rfl (by unfold dK;exact aL (aL (aL Sub.refl))) (fun U F=>TLen_spec bT bA N A cap m at_ l U F.owns) ?_);rintro _ _ ⟨rfl,rfl⟩
 unfold dK
 dsimp only [aK,aJ];refine f_Q (j5 rfl rfl _ (show IntKind.i64.wrap ((l.length:Int) - 1)=(n:Int) from by rw [d8 aA];omega)) ?_;refine aB 1 rfl<|aD kh2<|aG fun kh3=>aB 2 rfl ?_
 refine f_S (jH (dK bT bA N (.slice A l.length cap) m at_) _ (inv_Swap (some ⟨bT,0,none⟩)) rfl rfl (by unfold dK;exact aL (aL (aL Sub.refl))) (fun U F=>Swap_spec bT bA N A cap m at_ l 0 n U ho hH hN aA aA F.owns) ?_);rintro _ _ ⟨rfl,m2,rfl,ab⟩
 unfold dK
 dsimp only [aK,aJ];refine aD kh3<|aG fun kh4=>aB 2 rfl ?_
 refine f_S (d5 (dK bT bA N (.slice A (sw l 0 n).length cap) m2 (swAt l at_ 0 n)) _ Tryz.call150 rfl (by rw [X];unfold dK;exact aL (aL (aL Sub.refl))) (fun U F=>down_spec bT bA N A cap m2 _ (sw l 0 n) n 0 U (by rw [X];exact ab) (hH.sw aA aA) (by rw [swAt_len];exact hN) (dn_swap hF hn aA) aA aA aA F.owns) ?_);rintro _ _ ⟨b,rfl,l',m',at',rfl,O,Y,Z,aa,ac,hG⟩
 unfold dK
 have J:=aa.length_eq
 rw [X] at J O ⊢;dsimp only [aK,aJ];refine aD kh4<|aG fun kh5=>aB 1 rfl ?_
 refine f_S (jH (dK bT bA N (.slice A l'.length cap) m' at') _ (inv_Pop (some ⟨bT,0,none⟩)) rfl rfl (by rw [J];unfold dK;exact aL (aL (aL Sub.refl))) (fun U F=>TPop_spec bT bA N A cap m' at' l' n U (by rw [J];rwa [J] at O) Y Z aA (by rw [J];exact own_cap O) F.owns) ?_);rintro ad _ rfl
 unfold dK
 dsimp only [aK,aJ];refine aB 1 rfl<|aD kh5<|aZ ?_
 exact bO (dK bT bA N (.slice A n cap) m' (at'.set (eg l' n).id (-1))) Tryz.results114 rfl (by repeat (first|exact aP|refine aL ?_|refine bV rfl ?_)) (cut_mk (by rw [J];rwa [J] at O) aA Y Z (dn_full hG) (aa.trans (sw_perm aA aA)) (by rw [eg_drop ac,eg_sw aA aA,if_pos rfl]))
abbrev jO (bH bT bA N:Nat) (sl:Value) (m:Seg) (at_:List Int):List Seg:=[(bH,blk [.pointer (some ⟨bT,0,none⟩)] 195)]::dK bT bA N sl m at_
structure HAt (T:List (Option Int)) (A:Option Addr) (cap:Nat) (m:Seg) (l:List Ent) (at_:List Int):Prop where
 own:Own 193 2 (.slice A l.length cap) l.length (l.flatMap eE) m
 hok:HOk l at_
 len:at_.length=T.length
 full:n2 l l.length
 tab:HT T l
 max:T.length≤16384
theorem HAt.small {T:List (Option Int)} {A:Option Addr} {cap:Nat} {m:Seg} {l:List Ent} {at_:List Int} (h:HAt T A cap m l at_):l.length≤T.length:=by rw [h.tab.count];exact tcount_le T
def HRep (T:List (Option Int)) (bH:Nat) (hm:Seg):Prop:=∃ bT bA A cap l m at_,hm.Perm (jO bH bT bA T.length (.slice A l.length cap) m at_).flatten∧HAt T A cap m l at_
theorem HRep_mk {T:List (Option Int)} {bH bT bA N cap:Nat} {A:Option Addr} {l:List Ent} {m:Seg} {at_:List Int} (F:N=T.length) (h:HAt T A cap m l at_):HRep T bH (jO bH bT bA N (.slice A l.length cap) m at_).flatten:=by
 subst F;exact ⟨bT,bA,A,cap,l,m,at_,List.Perm.refl _,h⟩
theorem HRep.max {T:List (Option Int)} {bH:Nat} {hm:Seg} (h:HRep T bH hm):T.length≤16384:=by obtain ⟨_,_,_,_,_,_,_,_,h⟩:=h;exact h.max
theorem HAt.init (n:Nat) (hn:n≤16384):HAt (List.replicate n none) none 0 [] [] (List.replicate n (-1)):=
 ⟨Own.nil _ _,⟨fun i h=>absurd h (Nat.not_lt_zero _),fun k h=> .inl (by rw [List.getElem?_replicate,if_pos (by simpa using h)])⟩,aO,fun c _ h=>by simp at h,HT.nil n,by simpa using hn⟩
theorem HAt.pushed {T:List (Option Int)} {A A' :Option Addr} {cap cap' :Nat} {m m' :Seg} {l l' :List Ent} {at_ at' :List Int} {e:Ent} (h:HAt T A cap m l at_) (he:T[e.id]? =some none) (ho:Own 193 2 (.slice A' (l++[e]).length cap') l'.length (l'.flatMap eE) m') (J:HOk l' at') (O:at'.length=T.length)
  (hp:l'.Perm (l++[e])) (F:n2 l' (l++[e]).length):HAt (T.set e.id (some e.key)) A' cap' m' l' at' where
 own:=by rw [hp.length_eq] at ho ⊢;exact ho
 hok:=J
 len:=by rw [O];simp
 full:=by rw [hp.length_eq];exact F
 tab:=(h.tab.add he).perm (hp.trans (List.perm_append_comm (l₂:=[e])))
 max:=by rw [List.length_set];exact h.max
theorem HAt.fixed {T:List (Option Int)} {A:Option Addr} {cap:Nat} {m m' :Seg} {l l' :List Ent} {at_ at' :List Int} {i:Nat} {x:Int} (h:HAt T A cap m l at_) (hi:i<l.length) (ho:Own 193 2 (.slice A (l.set i ⟨(eg l i).id,x⟩).length cap) l'.length (l'.flatMap eE) m') (J:HOk l' at') (O:at'.length=T.length)
  (hp:l'.Perm (l.set i ⟨(eg l i).id,x⟩)) (F:n2 l' (l.set i ⟨(eg l i).id,x⟩).length):HAt (T.set (eg l i).id (some x)) A cap m' l' at' where
 own:=by rw [hp.length_eq] at ho ⊢;exact ho
 hok:=J
 len:=by rw [O];simp
 full:=by rw [hp.length_eq];exact F
 tab:=(h.tab.key hi x).perm hp
 max:=by rw [List.length_set];exact h.max
theorem HAt.cut {T:List (Option Int)} {A:Option Addr} {cap:Nat} {m m' :Seg} {l l2:List Ent} {at_ at' :List Int} {e:Ent} (h:HAt T A cap m l at_) (ho:Own 193 2 (.slice A l2.length cap) l2.length (l2.flatMap eE) m') (J:HOk l2 at') (F:at'.length=T.length)
  (O:n2 l2 l2.length) (hp:(e::l2).Perm l):HAt (T.set e.id none) A cap m' l2 at' where
 own:=ho
 hok:=J
 len:=by rw [F];simp
 full:=O
 tab:=(h.tab.perm hp).cut
 max:=by rw [List.length_set];exact h.max
theorem HAt.top {T:List (Option Int)} {A:Option Addr} {cap:Nat} {m:Seg} {l:List Ent} {at_:List Int} (h:HAt T A cap m l at_) (F:0<l.length):topR T=some ((eg l 0).id,(eg l 0).key):=(h.tab.top h.full F).topR
theorem HAt.none {T:List (Option Int)} {A:Option Addr} {cap:Nat} {m:Seg} {l:List Ent} {at_:List Int} (h:HAt T A cap m l at_) (F:l.length=0):topR T= .none:=topR_none (by rw [← h.tab.count];exact F)
theorem HAt.where_ {T:List (Option Int)} {A:Option Addr} {cap:Nat} {m:Seg} {l:List Ent} {at_:List Int} (h:HAt T A cap m l at_) {k:Nat} (hk:k<T.length):
  ∃ x:Int,at_[k]? =some x∧((x<0→x= -1∧T[k]? =some .none)∧(0≤x→x.toNat<l.length∧(eg l x.toNat).id=k∧T[k]? =some (some (eg l x.toNat).key))):=by
 rcases h.hok.h2 k (by rw [h.len];exact hk) with e|⟨i,hi,e,F⟩
 ·exact ⟨-1,e,fun _=>⟨rfl,h.tab.at_none h.hok h.len e⟩,fun h=>aA⟩
 ·exact ⟨i,e,fun h=>aA,fun _=>⟨aA,by simpa using F,by have:=h.tab.len hi;rw [F] at this;simpa using this⟩⟩
theorem lower_out {T:List (Option Int)} {id key:Int} (h:¬ (0≤id∧id<T.length)):jV T id key=(T,false,5):=if_neg h
theorem lower_new {T:List (Option Int)} {k:Nat} {key:Int} (hk:k<T.length) (h:T[k]? =some .none):jV T (k:Int) key=(T.set k (some key),true,0):=by
 unfold jV;rw [if_pos aA,Int.toNat_natCast,h]
theorem lower_no {T:List (Option Int)} {k:Nat} {key x:Int} (hk:k<T.length) (h:T[k]? =some (some x)) (hx:x≤key):jV T (k:Int) key=(T,false,0):=by
 unfold jV;rw [if_pos aA,Int.toNat_natCast,h];simp [hx]
theorem lower_yes {T:List (Option Int)} {k:Nat} {key x:Int} (hk:k<T.length) (h:T[k]? =some (some x)) (hx:¬ x≤key):jV T (k:Int) key=(T.set k (some key),true,0):=by
 unfold jV;rw [if_pos aA,Int.toNat_natCast,h];simp [hx]
theorem lE {T:List (Option Int)} {k:Nat} {x:Int} (h:topR T=some (k,x)):topA T=((k:Int),x,0):=by unfold topA;rw [h]
theorem topA_none {T:List (Option Int)} (h:topR T= .none):topA T=(0,0,5):=by unfold topA;rw [h]
theorem popT_some {T:List (Option Int)} {k:Nat} {x:Int} (h:topR T=some (k,x)):popT T=T.set k .none:=by unfold popT;rw [h]
theorem popT_none {T:List (Option Int)} (h:topR T= .none):popT T=T:=by unfold popT;rw [h]
theorem has_spec (T:List (Option Int)) (bH:Nat) (hm:Seg) (id:Int) (w:World) (O:HRep T bH hm) (hw:Owns w [hm]):Meets Tryz.prog 110 [.pointer (some ⟨bH,0,none⟩),.int .i64 id] w [hm] (fun u own' =>u= .bool (decide (0≤id∧id<T.length))∧own' =[hm]):=by
 refine bG Tryz.func110 rfl Tryz.ntmps110 rfl hw ?_;obtain ⟨bT,bA,A,cap,l,m,at_,hm',hA⟩:=O
 refine eP (Sub.permF hm') ?_
 unfold jO dK
 have hsm:=hA.small
 have F:=hA.max
 have J:=own_cap hA.own
 refine aG fun kh1=>aB 1 rfl<|aD kh1<|aG fun kh2=>aB 3 rfl<|eA 7 rfl (fun g7=>?_) (fun g7=>?_)
 ·refine aB 2 rfl<|eI rfl rfl (dD rfl)<|eI rfl rfl (aT k7 rfl)<|eI rfl rfl (aH Tryz.isAgg187 rfl (rdA rfl))<|eI rfl rfl (dD rfl)<|eI rfl rfl (aT lY rfl)<|eI rfl rfl (aH Tryz.isAgg25 rfl (rdA rfl))<|eI rfl rfl (iZ bU rfl)<|aB 3 rfl<|aD kh2 ?_
  refine aZ ?_;exact bO [hm] Tryz.results110 rfl (Sub.transF (b:=(jO bH bT bA T.length (.slice A l.length cap) m at_)) (by unfold jO;unfold dK;repeat (first|exact aP|refine aL ?_|refine bV rfl ?_)) ⟨[],by simpa using hm'.symm⟩) ⟨by congr 1;exact decide_eq_decide.2 ⟨fun h=>⟨aA,h⟩,fun h=>h.2⟩,rfl⟩
 ·refine aB 12 rfl<|aD kh2<|aZ ?_
  exact bO [hm] Tryz.results110 rfl (Sub.transF (b:=(jO bH bT bA T.length (.slice A l.length cap) m at_)) (by unfold jO;unfold dK;repeat (first|exact aP|refine aL ?_|refine bV rfl ?_)) ⟨[],by simpa using hm'.symm⟩) ⟨by rw [decide_eq_false aA],rfl⟩
theorem Len_spec (T:List (Option Int)) (bH:Nat) (hm:Seg)  (w:World) (U:HRep T bH hm) (hw:Owns w [hm]):Meets Tryz.prog 175 [.pointer (some ⟨bH,0,none⟩)] w [hm] (fun u own' =>u= .int .i64 (kJ T:Int)∧own' =[hm]):=by
 refine bG Tryz.func175 rfl Tryz.ntmps175 rfl hw ?_;obtain ⟨bT,bA,A,cap,l,m,at_,F,hA⟩:=U
 refine eP (Sub.permF F) ?_
 unfold jO dK
 have hsm:=hA.small
 have J:=hA.max
 have O:=own_cap hA.own
 refine aG fun kh1=>aB 1 rfl<|aD kh1<|aG fun kh2=>aB 1 rfl<|f_Q (dD rfl)<|cN k7 rfl<|c7 Tryz.isAgg187 rfl (rdA rfl)<|f_Q (dD rfl)<|cN fZ rfl ?_
 refine c7 Tryz.isAgg188 rfl (rdA rfl)<|dY jQ rfl<|aB 1 rfl<|aD kh2<|aZ ?_
 exact bO [hm] Tryz.results175 rfl (Sub.transF (b:=(jO bH bT bA T.length (.slice A l.length cap) m at_)) (by unfold jO;unfold dK;repeat (first|exact aP|refine aL ?_|refine bV rfl ?_)) ⟨[],by simpa using F.symm⟩) ⟨by rw [hA.tab.count],rfl⟩
theorem Top_spec (T:List (Option Int)) (bH:Nat) (hm:Seg)  (w:World) (Y:HRep T bH hm) (hw:Owns w [hm]):Meets Tryz.prog 113 [.pointer (some ⟨bH,0,none⟩)] w [hm] (fun u own' =>u= .tuple #[.int .i64 (topA T).1,.int .u64 (topA T).2.1,.int .i64 (topA T).2.2]∧own' =[hm]):=by
 refine bG Tryz.func113 rfl Tryz.ntmps113 rfl hw ?_;obtain ⟨bT,bA,A,cap,l,m,at_,J,hA⟩:=Y
 refine eP (Sub.permF J) ?_
 unfold jO dK
 have hsm:=hA.small
 have U:=hA.max
 have X:=own_cap hA.own
 refine aG fun kh1=>aB 3 rfl<|aD kh1<|aV fun kh2=>aG fun kh3=>aB 1 rfl<|f_Q (dD rfl)<|cN k7 rfl<|c7 Tryz.isAgg187 rfl (rdA rfl)<|f_Q (dD rfl) ?_
 refine cN fZ rfl<|c7 Tryz.isAgg188 rfl (rdA rfl)<|dY jQ rfl<|aB 1 rfl<|aD kh3<|aX rfl (fun c13=>?_) (fun c13=>?_)
 ·refine aG fun O=>aB 3 rfl<|aD O<|aZ<|dA ?_
  exact lA [hm] Tryz.results113 rfl rfl rfl (Sub.transF (b:=(jO bH bT bA T.length (.slice A l.length cap) m at_)) (by unfold jO;unfold dK;repeat (first|exact aP|refine aL ?_|refine bV rfl ?_)) ⟨[],by simpa using J.symm⟩) ⟨by rw [topA_none (hA.none aA)],rfl⟩
 ·obtain ⟨bl,sp,rfl,rfl,Z⟩:=hA.own.upd aA
  have F:0<l.length:=aA
  refine bZ kh2<|aV fun kh5=>cQ [[(bH,blk [.pointer (some ⟨bT,0,none⟩)] 195)],[(bT,blk [.slice (some ⟨bl,0,none⟩) l.length cap,.slice (some ⟨bA,0,none⟩) T.length T.length,.func (.func 109) #[] #[]] 191)],[(bl,blk (l.flatMap eE++sp) 193)]] rfl<|f_T 0 rfl (aR rfl)<|f_T 1 rfl (dD rfl)<|f_T 2 rfl (aT k7 rfl)<|f_T 3 rfl (aH Tryz.isAgg187 rfl (rdA rfl))<|f_T 4 rfl (dD rfl)<|f_T 5 rfl (aT fZ rfl)<|f_T 6 rfl (aH Tryz.isAgg188 rfl (rdA rfl)) ?_
  refine f_T 7 rfl (aM jQ rfl rfl (0*2))<|f_T 8 rfl (aT mZ rfl)<|f_T 9 rfl (aH Tryz.isAgg3 rfl (rdOwn (v:= .int .i64 ((eg l 0).id:Int)) eD F (by rw [← jC F];rfl))) ?_
  refine f_T 10 rfl (aR rfl)<|f_T 11 rfl (dD rfl)<|f_T 12 rfl (aT k7 rfl)<|f_T 13 rfl (aH Tryz.isAgg187 rfl (rdA rfl))<|f_T 14 rfl (dD rfl)<|f_T 15 rfl (aT fZ rfl)<|f_T 16 rfl (aH Tryz.isAgg188 rfl (rdA rfl))<|f_T 17 rfl (aM jQ rfl rfl (0*2))<|f_T 18 rfl (aT qT rfl)<|f_T 19 rfl (aH Tryz.isAgg46 rfl (rdOwn (v:= .int .u64 (eg l 0).key) eD F (by rw [← jC F];rfl))) ?_
  refine f_T 20 rfl (bI rfl)<|f_T 21 rfl (bI rfl)<|f_T 22 rfl (bI rfl)<|cO aU<|bP kh5<|aZ ?_
  exact lA [hm] Tryz.results113 rfl rfl rfl (Sub.transF (b:=(jO bH bT bA T.length (.slice (some ⟨bl,0,none⟩) l.length cap) [(bl,blk (l.flatMap eE++sp) 193)] at_)) (by unfold jO;unfold dK;repeat (first|exact aP|refine aL ?_|refine bV rfl ?_)) ⟨[],by simpa using J.symm⟩) ⟨by rw [lE (hA.top F)],rfl⟩
theorem HPop_spec (T:List (Option Int)) (bH:Nat) (hm:Seg)  (w:World) (hH:HRep T bH hm) (hw:Owns w [hm]):Meets Tryz.prog 67 [.pointer (some ⟨bH,0,none⟩)] w [hm] (fun u own' =>u= .tuple #[.int .i64 (topA T).1,.int .u64 (topA T).2.1,.int .i64 (topA T).2.2]∧∃ hm2,own' =[hm2]∧HRep (popT T) bH hm2):=by
 refine bG Tryz.func67 rfl Tryz.ntmps67 rfl hw<|aG fun kh1=>aB 3 rfl<|aD kh1<|aG fun kh2=>aB 1 rfl ?_
 refine f_S (d5 [hm] _ Tryz.call113 rfl (aL Sub.refl) (fun w_ F=>Top_spec T bH hm w_ hH F.owns) ?_);rintro _ _ ⟨rfl,rfl⟩;dsimp only [aK,aJ];refine aB 7 rfl<|aD kh2<|aV fun kh3=>aG fun kh4=>aB 2 rfl<|aD kh4<|aX rfl (fun c12=>?_) (fun c12=>?_)
 ·obtain ⟨bT,bA,A,cap,l,m,at_,aa,hA⟩:=hH
  refine eP (Sub.openF aa) ?_
  unfold jO dK
  dsimp only [aK,aJ];have hsm:=hA.small
  have ac:=hA.max
  have ag:=own_cap hA.own
  have J:0<l.length:=by
    rcases Nat.eq_zero_or_pos l.length with h0|h0
    ·rw [topA_none (hA.none h0)] at c12;simp at c12
    ·exact h0
  refine aI<|aB 1 rfl<|f_Q (dD rfl)<|cN k7 rfl<|c7 Tryz.isAgg187 rfl (rdA rfl)<|f_Q (qI Tryz.underlying187 rfl rfl) ?_
  refine f_S (d5 (dK bT bA T.length (.slice A l.length cap) m at_) _ Tryz.call114 rfl (by unfold dK;exact aL (aL (aL Sub.refl))) (fun w_ F=>Pop_spec bT bA T.length A cap m at_ l (l.length - 1) w_ hA.own hA.hok hA.len hA.full aA aA F.owns) ?_);rintro ad _ ⟨l2,m2,ab,rfl,Z,ae,U,X,Y,O⟩
  unfold dK
  dsimp only [aK,aJ];refine aD kh3<|aG fun kh5=>aB 6 rfl<|aD kh5<|aZ ?_
  exact lA [(jO bH bT bA T.length (.slice A l2.length cap) m2 ab).flatten] Tryz.results67 rfl rfl rfl (Sub.flatF (by repeat (first|exact aP|refine aL ?_|refine bV rfl ?_))) ⟨rfl,_,rfl,HRep_mk (popT_len T).symm (by rw [popT_some (hA.top J)];exact hA.cut Z U X Y O)⟩
 ·refine bZ kh3<|aG fun kh6=>aB 6 rfl<|aD kh6<|aZ ?_
  exact lA [hm] Tryz.results67 rfl rfl rfl (by repeat (first|exact aP|refine aL ?_|refine bV rfl ?_)) ⟨rfl,hm,rfl,by cases e:topR T with
    |none=>rw [popT_none e];exact hH
    |some p=>obtain ⟨k,x⟩:=p;rw [lE e] at c12;exact absurd rfl c12⟩
theorem lO (T:List (Option Int)) (bH:Nat) (hm:Seg) (id key:Int) (w:World) (hH:HRep T bH hm) (hw:Owns w [hm]):Meets Tryz.prog 65 [.pointer (some ⟨bH,0,none⟩),.int .i64 id,.int .u64 key] w [hm] (fun u own' =>u= .tuple #[.bool (jV T id key).2.1,.int .i64 (jV T id key).2.2]∧∃ hm2,own' =[hm2]∧HRep (jV T id key).1 bH hm2):=by
 refine bG Tryz.func65 rfl Tryz.ntmps65 rfl hw<|aG fun kh1=>aB 2 rfl<|aD kh1<|aV fun kh2=>aG fun kh3=>aB 2 rfl ?_
 refine f_S (d5 [hm] _ Tryz.call110 rfl (aL Sub.refl) (fun w_ J=>has_spec T bH hm id w_ hH J.owns) ?_);rintro _ _ ⟨rfl,rfl⟩;dsimp only [aK,aJ];refine aB 1 rfl<|aD kh3<|e8 rfl (fun c12=>?_) (fun c12=>?_)
 ·have Y:¬ (0≤id∧id<T.length):=by have h' :=c12;simp at h';omega
  refine aG fun al=>aB 2 rfl<|aD al<|aZ<|dA ?_
  exact dB [hm] Tryz.results65 rfl rfl (by repeat (first|exact aP|refine aL ?_|refine bV rfl ?_)) ⟨by rw [lower_out Y],hm,rfl,by rw [lower_out Y];exact hH⟩
 ·have ap:0≤id∧id<T.length:=by simpa using c12
  obtain ⟨k,rfl⟩:∃ k:Nat,id=k:=⟨id.toNat,aA⟩
  have hk:k<T.length:=aA
  obtain ⟨bT,bA,A,cap,l,m,at_,ad,hA⟩:=hH
  refine eP (Sub.openF ad) ?_
  unfold jO dK
  dsimp only [aK,aJ];have hsm:=hA.small
  have ao:=hA.max
  have aq:=own_cap hA.own
  obtain ⟨x,hx,X,ak⟩:=hA.where_ hk
  have ar:=hA.len
  refine bZ kh2<|aG fun kh5=>aB 1 rfl<|f_Q (dD rfl)<|cN k7 rfl<|c7 Tryz.isAgg187 rfl (rdA rfl)<|f_Q (dD rfl)<|cN lY rfl<|c7 Tryz.isAgg25 rfl (rdA rfl)<|aB 1 rfl ?_
  refine f_Q (aM bU rfl rfl (k))<|f_Q (aH Tryz.isAgg3 rfl (rdA (ints_at hx)))<|aB 1 rfl<|aD kh5<|aV fun kh6=>aS<|aG fun kh7=>aB 3 rfl<|aD kh7<|aX rfl (fun c41=>?_) (fun c41=>?_)
  ·refine aI<|aB 1 rfl<|f_Q (dD rfl)<|cN k7 rfl<|c7 Tryz.isAgg187 rfl (rdA rfl)<|f_Q (qI Tryz.underlying187 rfl rfl)<|aB 2 rfl<|f_Q (dU (cs:=eE ⟨k,key⟩) st193 rfl rfl)<|f_Q (qI Tryz.underlying193 rfl rfl) ?_
   refine f_S (d5 (dK bT bA T.length (.slice A l.length cap) m at_) _ Tryz.call111 rfl (by unfold dK;exact aL (aL (aL Sub.refl))) (fun w_ J=>Push_spec bT bA T.length A cap m at_ l ⟨k,key⟩ w_ hA.own hA.hok hA.len hA.full (by rw [hx,(X c41).1]) aA J.owns) ?_);rintro _ _ ⟨A',cap',l2,m2,ae,rfl,ac,Z,aa,F,aj,ab⟩
   unfold dK
   have U:=F.length_eq
   dsimp only [aK,aJ];refine aY<|dI<|bP kh6<|aG fun kh8=>aB 2 rfl<|aD kh8<|aZ ?_
   exact dB [(jO bH bT bA T.length (.slice A' l2.length cap') m2 ae).flatten] Tryz.results65 rfl rfl (Sub.flatF (by rw [U];repeat (first|exact aP|refine aL ?_|refine bV rfl ?_))) ⟨by rw [lower_new hk (X c41).2],_,rfl,HRep_mk (by rw [lowerR_len]) (by rw [lower_new hk (X c41).2];exact hA.pushed (e:=⟨k,key⟩) (X c41).2 ac Z aa F ab)⟩
  ·obtain ⟨hi,am,hT⟩:=ak aA
   have ai:(x.toNat:Int)=x:=aA
   obtain ⟨bl,sp,rfl,rfl,an⟩:=hA.own.upd aA
   have O:(l.set x.toNat ⟨(eg l x.toNat).id,key⟩).length=l.length:=List.length_set
   refine aG fun kh9=>aB 1 rfl<|f_Q (dD rfl)<|cN k7 rfl<|c7 Tryz.isAgg187 rfl (rdA rfl)<|f_Q (dD rfl)<|cN fZ rfl<|c7 Tryz.isAgg188 rfl (rdA rfl)<|aB 1 rfl<|f_Q (aM jQ rfl rfl (x.toNat*2)) ?_
   refine cN qT rfl<|f_Q (aH Tryz.isAgg46 rfl (rdOwn (v:= .int .u64 (eg l x.toNat).key) eD hi (by rw [← jC hi];rfl))) ?_
   refine aB 3 rfl<|aD kh9<|aX rfl (fun c54=>?_) (fun c54=>?_)
   ·refine aG fun ag=>aB 2 rfl<|aD ag<|aZ<|fA<|dA ?_
    exact dB [hm] Tryz.results65 rfl rfl (Sub.transF (b:=(jO bH bT bA T.length (.slice (some ⟨bl,0,none⟩) l.length cap) [(bl,blk (l.flatMap eE++sp) 193)] at_)) (by unfold jO;unfold dK;repeat (first|exact aP|refine aL ?_|refine bV rfl ?_)) ⟨[],by simpa using ad.symm⟩) ⟨by rw [lower_no hk hT c54],hm,rfl,by rw [lower_no hk hT c54];exact ⟨bT,bA,_,cap,l,_,at_,ad,hA⟩⟩
   ·refine aG fun ah=>aB 1 rfl<|f_Q (dD rfl)<|cN k7 rfl<|c7 Tryz.isAgg187 rfl (rdA rfl)<|f_Q (dD rfl)<|cN fZ rfl<|c7 Tryz.isAgg188 rfl (rdA rfl)<|aB 2 rfl<|f_Q (aM jQ rfl rfl (x.toNat*2)) ?_
    refine cN qT rfl<|f_Z (bQ Tryz.sizeOf46 rfl rfl rfl rfl (by rw [List.length_append,dX eE eD];omega) ((l.set x.toNat ⟨(eg l x.toNat).id,key⟩).flatMap eE++sp) (nH eD sp aA l x.toNat _ hi (by rw [← jC hi];rfl)) ?_)
    refine aD ah<|aI<|aB 1 rfl<|f_Q (dD rfl)<|cN k7 rfl<|c7 Tryz.isAgg187 rfl (rdA rfl)<|f_Q (qI Tryz.underlying187 rfl rfl)<|aB 1 rfl ?_
    refine f_S (d5 (dK bT bA T.length (.slice (some ⟨bl,0,none⟩) (l.set x.toNat ⟨(eg l x.toNat).id,key⟩).length cap) [(bl,blk ((l.set x.toNat ⟨(eg l x.toNat).id,key⟩).flatMap eE++sp) 193)] at_) _ Tryz.call112 rfl (by rw [O];unfold dK;exact aL (aL (aL Sub.refl))) (fun w_ J=>(by have h:=Fix_spec bT bA T.length (some ⟨bl,0,none⟩) cap [(bl,blk ((l.set x.toNat ⟨(eg l x.toNat).id,key⟩).flatMap eE++sp) 193)] at_ (l.set x.toNat ⟨(eg l x.toNat).id,key⟩) x.toNat w_ (by rw [O];exact an _ (by rw [dX eE eD,dX eE eD,O])) (hA.hok.key hi key) hA.len (by rw [O];exact dn_key hA.full hi) aA aA J.owns;rw [ai] at h;exact h)) ?_);rintro _ _ ⟨l2,m2,ae,rfl,ac,Z,aa,F,aj,ab⟩
    unfold dK
    have U:=F.length_eq
    dsimp only [aK,aJ];refine aY<|dI<|bP kh6<|aG fun kh12=>aB 2 rfl<|aD kh12<|aZ ?_
    exact dB [(jO bH bT bA T.length (.slice (some ⟨bl,0,none⟩) l2.length cap) m2 ae).flatten] Tryz.results65 rfl rfl (Sub.flatF (by rw [U,O];repeat (first|exact aP|refine aL ?_|refine bV rfl ?_))) ⟨by rw [lower_yes hk hT c54],_,rfl,HRep_mk (by rw [lowerR_len]) (by rw [lower_yes hk hT c54];rw [← am];exact hA.fixed hi ac Z aa F ab)⟩
theorem ints_rep (n:Nat) (x:Int):(List.replicate n [Value.int .i64 x]).flatten=a8 (List.replicate n x):=by
 induction n with
 |zero=>rfl
 |succ n ih=>simp only [List.replicate_succ,List.flatten_cons,ih];rfl
def NewΦ (n:Int) (u:Value) (own:List Seg):Prop:=
 if n<0∨16384<n then u= .tuple #[.pointer none,.int .i64 1]∧own=[] else ∃ bH hm,u= .tuple #[.pointer (some ⟨bH,0,none⟩),.int .i64 0]∧own=[hm]∧HRep (List.replicate n.toNat none) bH hm
theorem New_spec (n:Int) (w:World):Meets Tryz.prog 64 [.int .i64 n] w [] (NewΦ n):=by
 refine bG Tryz.func64 rfl Tryz.ntmps64 rfl Owns.nil<|aG fun kh1=>aB 2 rfl<|aD kh1<|aV fun kh2=>aG fun kh3=>aB 3 rfl<|eA 8 rfl (fun g8=>?_) (fun g8=>?_)
 ·refine aB 3 rfl<|aD kh3<|eW rfl<|aG fun kh4=>aB 2 rfl<|aD kh4<|aZ<|dA ?_
  exact dB [] Tryz.results64 rfl rfl aP (by unfold NewΦ;rw [if_pos aA];exact ⟨rfl,rfl⟩)
 ·refine aB 3 rfl<|aD kh3<|aX rfl (fun c11=>?_) (fun c11=>?_)
  ·refine aG fun U=>aB 2 rfl<|aD U<|aZ<|dA ?_
   exact dB [] Tryz.results64 rfl rfl aP (by unfold NewΦ;rw [if_pos aA];exact ⟨rfl,rfl⟩)
  ·obtain ⟨k,rfl⟩:∃ k:Nat,n=k:=⟨n.toNat,aA⟩
   refine bZ kh2<|aG fun kh6=>aB 1 rfl<|f_S (e6 eO rfl rfl k rfl aA aA (a8 (List.replicate k 0)) (ints_rep k 0) fun b13=>?_)
   refine f_Q (dU st191 rfl rfl)<|f_S (cZ rfl rfl fun b15=>?_)
   refine aB 1 rfl<|aD kh6<|aV fun kh7=>aG fun J=>aB 1 rfl<|f_Q (dD rfl)<|cN lY rfl<|c7 Tryz.isAgg25 rfl (rdA rfl)<|dY bU rfl<|aB 1 rfl ?_
   refine aD J<|aS ?_
   refine dF (α:=Nat×List Int) [4,20] (fun ⟨i,at_⟩=>[(21,.int .i64 (i:Int))]) (fun ⟨i,at_⟩=>[[(b15,blk [.slice none 0 0,.slice (some ⟨b13,0,none⟩) k k,.nilFunc] 191)],[(b13,blk (a8 at_) 3)]]) (fun ⟨i,at_⟩=>i≤k∧at_.length=k∧∀ j (h:j<at_.length),j<i→at_[j]= -1) (fun ⟨i,at_⟩=>k - i) (0,List.replicate k 0) ?_ ?_ ?_ ?_
   ·exact aF
   ·exact aC
   ·exact ⟨aA,aO,fun j _ h=>aA⟩
   ·rintro ⟨i,at_⟩ ⟨X,hal,F⟩;refine aG fun kh9=>aB 1 rfl<|aD kh9<|aV fun kh10=>aX rfl (fun O=>?_) (fun O=>?_)
    ·refine bZ kh10<|aV fun kh11=>aS<|aG fun kh12=>aB 2 rfl<|aD kh12<|aI<|aB 1 rfl<|f_Q (dD rfl)<|cN lY rfl ?_
     refine c7 Tryz.isAgg25 rfl (rdA rfl)<|aB 1 rfl ?_
     have hi:i<k:=aA
     refine f_Q (aM bU rfl rfl (i))<|f_Z (bQ Tryz.sizeOf3 rfl rfl rfl rfl (by rw [a7];omega) (a8 (at_.set i (-1))) (l7 _ _ _) ?_)
     refine aY<|dI<|bP kh11<|aI<|f_Q (bF rfl rfl)<|aB 1 rfl<|aY ?_
     refine cV (a6 (i+1,at_.set i (-1)) (by first|omega|(dsimp only;omega)|(simp;omega)) ⟨aA,by simpa using hal,fun j h hj=>by rw [List.getElem_set];split<;>first|rfl|exact F j (by simpa using h) aA⟩ ?_ ?_ ?_)
     ·exact aF
     ·exact aF
     ·exact aC
    ·refine cS<|cU<|cU<|eH<|bP kh7<|aV fun kh13=>?_
     obtain rfl:at_=List.replicate k (-1):=List.ext_getElem (by simp [hal]) fun j h1 h2=>by rw [F j h1 aA];simp
     refine aI<|aB 1 rfl<|f_Q (dD rfl)<|cN fa191_2 rfl<|f_Z (bQ Tryz.sizeOf189 rfl rfl rfl rfl cG _ rfl ?_)
     refine aD kh13<|aG fun kh14=>aB 1 rfl<|f_Q (dU st195 rfl rfl)<|f_S (cZ rfl rfl fun b36=>?_)
     refine aB 2 rfl<|aD kh14<|aZ ?_
     exact dB [(jO b36 b15 b13 k (.slice none ([]:List Ent).length 0) [] (List.replicate k (-1))).flatten] Tryz.results64 rfl rfl (Sub.flatF (by unfold jO;unfold dK;repeat (first|exact aP|exact Sub.empty|refine aL ?_|refine bV rfl ?_|refine fY ?_))) (by unfold NewΦ;rw [if_neg aA];exact ⟨b36,_,rfl,rfl,HRep_mk aO (HAt.init k aA)⟩)
abbrev gQ (n:Nat) (A:Option Addr) (len cap:Nat) (back:Bool) (bo bd bb:Nat) (h:Value):List Value:=[.int .i64 (n:Int),.slice A len cap,.bool back,.slice (some ⟨bo,0,none⟩) n n,.slice (some ⟨bd,0,none⟩) n n,.slice (some ⟨bb,0,none⟩) n n,h]
abbrev jA (bx bo bd bb bH n:Nat) (A:Option Addr) (len cap:Nat) (back:Bool) (vs:List Value) (G:Seg) (d by_:List Int) (hm:Seg):List Seg:=
 [[(bx,blk (gQ n A len cap back bo bd bb (.pointer (some ⟨bH,0,none⟩))) 81)],[(bo,blk vs 25)],G,[(bd,blk (eT d) 46)],[(bb,blk (a8 by_) 3)],hm]
def SRep (n:Nat) (A:Option Addr) (l:List Arc) (cap:Nat) (back:Bool) (bx bd:Nat) (d by_:List Int) (T:List (Option Int)) (m:Seg):Prop:=
 ∃ bo bb bH vs ms hm,m.Perm (jA bx bo bd bb bH n A l.length cap back vs ms.flatten d by_ hm).flatten∧RowsI 3 (kL n (l.map (trn back))) vs ms∧HRep T bH hm
structure GOk (n:Nat) (l:List Arc):Prop where
 n1:1≤n∧n≤1024
 len:l.length≤8192
 good:∀ k (hk:k<l.length),0≤l[k].src∧l[k].src<(n:Int)∧0≤l[k].dst∧l[k].dst<(n:Int)
 ok:∀ x∈l,eN x
theorem n8 {back:Bool} {l:List Arc} {i:Nat} (h:i<(l.map (trn back)).length) (h' :i<l.length):(l.map (trn back))[i]=trn back l[i]:=List.getElem_map _
theorem trn_wt (back:Bool) (x:Arc):(trn back x).wt=x.wt:=by cases back<;>rfl
theorem GOk.src {n:Nat} {l:List Arc} (h:GOk n l) (back:Bool):∀ i (hi:i<(l.map (trn back)).length),(l.map (trn back))[i].src.toNat<n:=fun i hi=>by
 have hi' :i<l.length:=by simpa using hi
 rw [n8 hi hi'];have:=h.good i hi'
 cases back<;>simp [trn]<;>omega
theorem GOk.dst {n:Nat} {l:List Arc} (h:GOk n l) (back:Bool):∀ i (hi:i<(l.map (trn back)).length),(l.map (trn back))[i].dst.toNat<n:=fun i hi=>by
 have hi' :i<l.length:=by simpa using hi
 rw [n8 hi hi'];have:=h.good i hi'
 cases back<;>simp [trn]<;>omega
theorem GOk.wt {n:Nat} {l:List Arc} (h:GOk n l) (back:Bool):∀ x∈l.map (trn back),0≤x.wt:=fun x hx=>by
 obtain ⟨y,hy,rfl⟩:=List.mem_map.1 hx
 rw [trn_wt];exact (h.ok y hy).wt.1
theorem ints_len1 {E:TypeId} {v:Value} {l:List Int} {x:Int} {m:Seg}:Own E 1 v (l.length+1) (a8 l++[.int .i64 x]) m=Own E 1 v (l++[x]).length (a8 (l++[x])) m:=by rw [eL,List.length_append];rfl
theorem pH (n:Nat) (A:Option Addr) (l:List Arc) (cap:Nat) (back:Bool) (w:World) (hr:Ro (Fr w []) w A (l.flatMap cH)) (hg:GOk n l):
    Meets Tryz.prog 62 [.agg #[.int .i64 (n:Int),.slice A l.length cap],.bool back] w [] (fun u own' =>∃ bo vs ms,u= .slice (some ⟨bo,0,none⟩) n n∧own' =[[(bo,blk vs 25)],ms.flatten]∧RowsI 3 (kL n (l.map (trn back))) vs ms):=by
 have ak:=hg.n1
 have hlen:=hg.len
 refine bG Tryz.func62 rfl Tryz.ntmps62 rfl Owns.nil<|aG fun kh1=>f_S (cZ rfl rfl fun b2=>?_)
 refine aB 1 rfl<|aD kh1<|aG fun kh2=>cN eV rfl<|c7 Tryz.isAgg3 rfl (rdA rfl)<|f_S (e6 el32 rfl rfl n rfl aA aA (List.replicate n (.slice none 0 0)) (rep_flat n _) fun b11=>?_)
 refine aB 1 rfl<|aD kh2<|aV fun kh3=>aG fun ah=>cN gM rfl<|c7 Tryz.isAgg22 rfl (rdA rfl)<|dY j7 rfl<|aB 1 rfl<|aD ah<|aS ?_
 refine dF (α:=Nat×List Value×List Seg) [1,5,13,14] (fun ⟨k,vs,ms⟩=>[(15,.int .i64 (k:Int))]) (fun ⟨k,vs,ms⟩=>[[(b11,blk vs 25)],ms.flatten,[(b2,blk [.int .i64 (n:Int),.slice A l.length cap] 24)]]) (fun ⟨k,vs,ms⟩=>k≤l.length∧RowsI 3 (kL n ((l.map (trn back)).take k)) vs ms) (fun ⟨k,vs,ms⟩=>l.length - k) (0,List.replicate n (.slice none 0 0),List.replicate n []) ?_ ?_ ?_ ?_
 · exact aF
 · dsimp only
   rw [show (List.replicate n ([]:Seg)).flatten=[] from by simp];exact aC
 · exact ⟨aA,by rw [List.take_zero,rowsOf_nil];exact RowsI.start _ n⟩
 ·
  rintro ⟨k,vs,ms⟩ ⟨al,hR⟩;refine aG fun kh5=>aB 1 rfl<|aD kh5<|aV fun kh6=>aX rfl (fun ai=>?_) (fun ai=>?_)
  ·
   refine bZ kh6<|aV fun kh7=>aS<|aG fun kh8=>aB 1 rfl ?_
   have hk:k<l.length:=aA
   obtain ⟨bl,off,rfl,hS,hc⟩:=hr (fH cH dO aA hk)
   have aj:=hg.good k hk
   refine f_Q (aM j7 rfl rfl (off+k*3))<|f_Q (aQ (vs:=cH l[k]) Tryz.isAgg69 Tryz.sizeOf69 rfl rfl (gV dO hS hc hk))<|f_S (cX Tryz.zeroValue69 rfl fun b7=>?_)
   refine aB 1 rfl<|f_Z (bS Tryz.sizeOf69 rfl rfl rfl rfl cG _ rfl ?_)
   refine aD kh8<|aG fun kh9=>cN gC rfl<|c7 Tryz.isAgg3 rfl (rdA rfl)<|aB 1 rfl<|aD kh9<|aV fun kh10=>aG fun kh11=>aB 1 rfl<|aD kh11<|e8 rfl (fun c22=>?_) (fun c22=>?_)
   ·
    subst c22;refine aI<|cN fT rfl<|c7 Tryz.isAgg3 rfl (rdA rfl)<|aB 1 rfl<|aD kh10 ?_
    obtain ⟨v,hv,ac⟩:∃ v:Nat,l[k].dst=(v:Int)∧v<n:=⟨l[k].dst.toNat,aA,aA⟩
    have ab : ((l.map (trn true))[k]'(by simpa using hk)).src.toNat = v := by rw [n8 _ hk]; simp [trn, hv]
    obtain ⟨rv,rm,rG,hrv,J,ad,O⟩:=hR.split (i:=v) (by rw [lF];exact ac)
    rw [kK] at J;have U:=rowOf_len (l.map (trn true)) v k
    obtain ⟨rl,Z⟩:∃ rl,rl=eR ((l.map (trn true)).take k) v:=⟨_,rfl⟩
    rw [← Z] at J U;obtain ⟨Ar,cr,rfl,ae⟩:=J.val
    refine eP (Sub.splitF ad)<|aI<|aB 4 rfl<|f_Q (aM g5 rfl rfl (v))<|f_Q (aH Tryz.isAgg25 rfl (rdA hrv))<|aB 1 rfl<|f_S (bX eO aA rfl rfl rfl fun b32=>?_)
    refine f_S (dJ eO rfl rfl J (ys:=[.int .i64 (k:Int)]) ⟨(rdA rfl),trivial⟩ rfl rfl aA aA fun ag Y X=>?_);obtain ⟨aa,F,rfl,_⟩:=X.val
    refine f_Q (aM g5 rfl rfl (v))<|f_Z (bQ Tryz.sizeOf25 rfl rfl rfl rfl (by have:=hR.lv;rw [lF] at this;omega) (vs.set v (.slice aa (rl.length+1) F)) rfl ?_)
    refine aY<|dI<|bP kh7<|aI<|f_Q (bF rfl rfl)<|aB 1 rfl<|aY<|gN (Sub.joinF (m:=Y) (G' :=rG) (O _ _ _ (by rw [← ints_len1];exact X)).2) ?_
    refine cV (a6 (k+1,vs.set v (.slice aa (rl.length+1) F),ms.set v Y) (by first|omega|(dsimp only;omega)|(simp;omega)) ⟨aA,by have:=(O _ _ _ (by rw [← ints_len1];exact X)).1;rw [show rl++[(k:Int)]=eR ((l.map (trn _)).take k) v++[(k:Int)] from by rw [Z],rowsOf_next (by simpa using hk) ab] at this;exact this⟩ ?_ ?_ ?_)
    · exact aF
    · exact aF
    · exact aC
   ·
    subst c22;refine bZ kh10 ?_;obtain ⟨v,hv,ac⟩:∃ v:Nat,l[k].src=(v:Int)∧v<n:=⟨l[k].src.toNat,aA,aA⟩
    have ab : ((l.map (trn false))[k]'(by simpa using hk)).src.toNat = v := by rw [n8 _ hk]; simp [trn, hv]
    obtain ⟨rv,rm,rG,hrv,J,ad,O⟩:=hR.split (i:=v) (by rw [lF];exact ac)
    rw [kK] at J;have U:=rowOf_len (l.map (trn false)) v k
    obtain ⟨rl,Z⟩:∃ rl,rl=eR ((l.map (trn false)).take k) v:=⟨_,rfl⟩
    rw [← Z] at J U;obtain ⟨Ar,cr,rfl,ae⟩:=J.val
    refine eP (Sub.splitF ad)<|aI<|aB 4 rfl<|f_Q (aM g5 rfl rfl (v))<|f_Q (aH Tryz.isAgg25 rfl (rdA hrv))<|aB 1 rfl<|f_S (bX eO aA rfl rfl rfl fun b32=>?_)
    refine f_S (dJ eO rfl rfl J (ys:=[.int .i64 (k:Int)]) ⟨(rdA rfl),trivial⟩ rfl rfl aA aA fun ag Y X=>?_);obtain ⟨aa,F,rfl,_⟩:=X.val
    refine f_Q (aM g5 rfl rfl (v))<|f_Z (bQ Tryz.sizeOf25 rfl rfl rfl rfl (by have:=hR.lv;rw [lF] at this;omega) (vs.set v (.slice aa (rl.length+1) F)) rfl ?_)
    refine aY<|dI<|bP kh7<|aI<|f_Q (bF rfl rfl)<|aB 1 rfl<|aY<|gN (Sub.joinF (m:=Y) (G' :=rG) (O _ _ _ (by rw [← ints_len1];exact X)).2) ?_
    refine cV (a6 (k+1,vs.set v (.slice aa (rl.length+1) F),ms.set v Y) (by first|omega|(dsimp only;omega)|(simp;omega)) ⟨aA,by have:=(O _ _ _ (by rw [← ints_len1];exact X)).1;rw [show rl++[(k:Int)]=eR ((l.map (trn _)).take k) v++[(k:Int)] from by rw [Z],rowsOf_next (by simpa using hk) ab] at this;exact this⟩ ?_ ?_ ?_)
    · exact aF
    · exact aF
    · exact aC
  ·
   refine cS<|cU<|cU<|eH<|bP kh3<|aG fun kh12=>aB 2 rfl<|aD kh12<|aZ ?_
   have et:(l.map (trn back)).take k=l.map (trn back):=List.take_of_length_le (by simp;omega)
   rw [et] at hR;exact bO [[(b11,blk vs 25)],ms.flatten] Tryz.results62 rfl (by repeat (first|exact aP|refine aL ?_|refine bV rfl ?_)) ⟨b11,vs,ms,rfl,rfl,hR⟩
end Go.Proofs.YthpkelafioikaaaGreat
