/- Parts of the proof. -/
import Derived.Test.YtejpbijeifjdeaaGreatQf01
import Derived.Deep.WholeRow
import Derived.Deep.DeepCutAuto
set_option maxHeartbeats 8000000
set_option maxRecDepth 100000
open Go.Value renaming int→Aa
open Go.IntKind renaming i64→Ab,u64→Ac
open Nat renaming le_refl→Ae,le_succ→Ai
open Go.RowKit.Below renaming refl→Af
open List renaming getElem?_eq_getElem→Ag,length_append→Ah,replicate→Al,append_assoc→Am
open UInt8 renaming ofNat→An
open Int renaming toNat_natCast→Ay
open Go.Proofs.Tryz
open Go.Proofs.Tryz renaming prog→Ad
namespace Go.Proofs.YtejpbijeifjdeaaGreat
variable {w w' W:World}{A:Option Addr}{c g t i a:Nat}{m m' z:List UInt8}{ops:Array Oper}{rest:List Oper}{o:Oper}{Q:Exit→Act→World→Prop}{len tags:Bool}
section
open Go.RowKit Go.Acc
theorem P1:(Ad.info? 5).map (fun i=>(i.zero,i.size,i.bytes))=some (some (.int .u8 0),1,1):=by kernel_rfl
def Tq(w:World)(m:List UInt8)(e:Ending)(w':World):Prop:=
 ∃A n c,e= .returned (.slice A n c)∧I5 w' w.heap.size A n c m∧Below w.heap.size w w'
theorem Sh{w1:World}{n:Nat}{l:List UInt8}(h:I5 w' w.heap.size A n c l)(hl:l=m)(h1:Below w.heap.size w w1){S:Nat→Prop}(hg:Fr S w1 w')(hS:∀k,k<w.heap.size→¬S k):Tq w m (.returned (.slice A n c)) w':=by
 subst hl;exact⟨A,n,c,rfl,h,h1.trans (hg.belowB hS h1.size)⟩
theorem mS(A:Option Addr)(n c:Nat)(l:List UInt8)(w:World)(h:Cv w A n l)(hl:n≤1099511627776):
  Calls Ad 12 #[.slice A n c] w (Tq w l):=by
 have e:=Hd h;clear h;go_enter func12,ntmps12;go_wp2_with (at_builtin;refine Eb _ rfl (.tmp 4) (.tmp 5) _ rfl 5 _ 1 1 underlying22 P1 rfl (by omega) D1 Sc _ _ _ _ _ rfl (Own.nil w w.heap.size) _ _ _ _ rfl e.o (by omega) (Ae _) ?_;intro f i m a b d);go_ret;exact Sh (by simpa using a) rfl (Af _ _) b (by rintro k j ⟨g,h,_⟩;cases h)
theorem Po(A:Option Addr)(n c:Nat)(l:List UInt8)(w:World)(h:Cv w A n l)(hl:n≤1099511627776):
  Calls Ad 52 #[.slice A n c] w (Tq w l):=by
 have f:=fun(w:World) (A:Option Addr) (n c:Nat)=>Lib.run_eql_slice_nil (P:=Ad) w 22 5 A n c 0 0 underlying22
 rcases A with _|a
 ·obtain⟨rfl,rfl⟩:=h.none_ D1 (by omega);clear h hl;go_enter func52,ntmps52;go_wp2_with fail;go_ret;exact⟨none,0,0,rfl,Own.nil _ _,Af _ _⟩
 ·have g:Cv (w.alloc (.cells #[] 5)) (some a) n l:=h.alloc _;have m:I5 (w.alloc (.cells #[] 5)) w.heap.size (some ⟨w.heap.size,0,none⟩) 0 0 []:=⟨rfl,World.ownsRow_lit w #[] 0 (Ae _) (Nat.zero_le _) rfl⟩;have i:=Hd g;clear h g;go_enter func52,ntmps52;go_wp2_with (at_builtin;refine Eb _ rfl (.tmp 5) (.tmp 6) _ rfl 5 _ 1 1 underlying22 P1 rfl (by omega) D1 Sc _ _ _ _ _ rfl m _ _ _ _ rfl i.o (by omega) (by simp) ?_;intro p r t b d e);go_ret;exact Sh (by simpa using b) rfl ((Af _ _).alloc (Ae _) _) d (by rintro k s ⟨q,h,j⟩;injection h with h;subst h;simp at j;omega)
theorem Lb{n:Nat}{l:List UInt8}(h:Cv w A n l):(convert 22 9 (.slice A n c)).run Ad w= .ok (.string ⟨l.toArray⟩) w:=by
 rcases Nat.eq_zero_or_pos n with h0|h0
 ·subst h0;obtain rfl:l=[]:=List.eq_nil_of_length_eq_zero h.1;rw [run_convert_bytes_string w 22 9 5 A 0 c underlying22 underlying5 underlying9];cases A with
  |none=>simp [Conv.bytesToString];rfl
  |some a=>
   have:=run_bytesToString (P:=Ad) w a 0 c [] (by simp [loadCells,loadCellsFrom]);rw [this];rfl
 ·obtain⟨b,d,rfl,_⟩:=h.some_ D1 (by omega) h0;have:=run_convert_bytes_arg (P:=Ad) w 22 5 underlying22 underlying5 b d n c (l.map fun x=>(x.toNat:Int)) (by simp [h.1]) (fun i hi=>by
   obtain⟨o,f,e,k,j⟩:=Je h hi;injection e with e;injection e with e1 e2;subst e1 e2
   rw [j];simp [List.getD,Ag k]) 9 underlying9
  have g:∀m:List UInt8,(m.map fun x:UInt8=>(x.toNat:Int)).map (fun n=>An n.toNat)=m:=by
   intro m
   induction m with
   |nil=>rfl
   |cons x m ih=>rw [List.map_cons,List.map_cons,ih,Ay,UInt8.ofNat_toNat]
  have e:strOfNums (l.map fun x:UInt8=>(x.toNat:Int))=⟨l.toArray⟩:=by
   unfold strOfNums;rw [g]
  rw [this,e]
def qX(l m:List UInt8):Bool:=decide (l=m)
theorem Aas(w:World)(v:Int)(x:UInt8)(h:v=(x.toNat:Int)):Cv (w.alloc (.cells #[.int .u8 v] 5)) (some ⟨w.heap.size,0,none⟩) 1 [x]:=by
 subst h;refine⟨rfl,fun j u hj=>?_⟩;have e:j=0:=by
  have:=(List.getElem?_eq_some_iff.1 hj).1;simp [bc] at this;omega
 subst e;have hu:u= .int .u8 (x.toNat:Int):=by simpa [bc] using hj.symm
 subst hu;exact⟨_,_,rfl,(Bk.new w 5 _).cell 0⟩
theorem kH{B n:Nat}{l:List UInt8}(h:I5 w B (some ⟨g,0,none⟩) n c l):∃cur,Bk w g 5 cur∧n≤cur.size∧
  (∀(w':World) (cur':Array Value) (off k:Nat) (m:List UInt8),Bk w' g 5 cur'→M5 cur off (m.flatMap bc) k cur'→m.length=k→off+k≤n→I5 w' B (some ⟨g,0,none⟩) n c (l.take off++m++l.drop (off+k))):=by
 obtain⟨s,h1,h2⟩:=h;rcases h2 with⟨hv,_⟩|⟨r,i,cur,hv,o,p,e,d,b,a⟩
 ·cases hv
 ·injection hv with e1 _ e3
  injection e1 with e1
  injection e1 with e1
  subst e1 e3;simp only [Nat.mul_one] at b a h1;refine⟨cur,p,by omega,?_⟩;intro w' cur' off k m j f t q;refine⟨by simp;omega,?_,.inr ⟨g,c,cur',rfl,o,j,e,d,by rw [f.1,Nat.mul_one];exact b,?_⟩⟩
  ·rw [Cm D1];simp;omega
  ·rw [Nat.mul_one,f.take (by rw [Cm D1];omega) q (by omega),a,List.flatMap_append,List.flatMap_append,N0 D1,P0 D1,Nat.mul_one,Nat.mul_one]
def Pv(x:Int)(b:Bool):Int:=if Bz x=true then(if b=true then 0 else 10) else 2
def Pu(l:List UInt8)(x:Int)(u:Nat)(b:Bool):List UInt8:=if Bz x=true∧b=true then l++Bn x.toNat u else []
def aW(w:World)(m:List UInt8)(er:Int)(e:Ending)(w':World):Prop:=
 ∃A n c,e= .returned (.tuple #[.slice A n c,Aa Ab er])∧I5 w' w.heap.size A n c m∧Below w.heap.size w w'
theorem gZ(A:Option Addr)(n c u F:Nat)(x:Int)(l:List UInt8)(caps:Array Value)(b:Bool)(w:World)(h:Cv w A n l)(hc:n≤c)(hn:n≤1099511627776)(hu:(u:Int)<18446744073709551616)
  (hF:∀(args:Array Value) (w:World),(callFunc F args).run Ad w= .ok (.enter F args) w)
  (hfit:Bz x=true→Calls Ad F caps w (Afd (.bool b) w)):
  Calls Ad 25 #[.slice A n c,Aa Ab x,Aa Ac u,.func (.func F) #[] caps] w (aW w (Pu l x u b) (Pv x b)):=by
 have I:=Hd h;have X:=Hd hu;have i:=Hd hfit;clear h hu hfit;cases hx:Bz x with
 |false=>
  have v:=Hd (show Pv x b=2 by simp [Pv,hx]);have z:=Hd (show Pu l x u b=[] by simp [Pu,hx]);have m:=Hd hx;clear hx;go_enter func25,ntmps25;go_wp2_with (go_at_call 58;refine(Mj x _).mono ?_;rw [m.o];rintro e J ⟨rfl,rfl⟩);go_ret2;rw [v.o,z.o];exact⟨none,0,0,rfl,Own.nil _ _,Af _ _⟩
 |true=>
  cases b with
  |false=>
   have v:=Hd (show Pv x false=10 by simp [Pv,hx]);have z:=Hd (show Pu l x u false=[] by simp [Pu]);have m:=Hd hx;clear hx;go_enter func25,ntmps25;go_wp2_with (go_at_call 58;refine(Mj x _).mono ?_;rw [m.o];rintro e J ⟨rfl,rfl⟩);refine(i.o m.o).mono ?_;rintro e J ⟨rfl,rfl⟩;clear hF;go_wp2;go_ret2;rw [v.o,z.o];exact⟨none,0,0,rfl,Own.nil _ _,Af _ _⟩
  |true=>
   have R:(1:Int)≤x∧(x:Int)≤8:=by have:=Cr.1 hx;omega
   obtain⟨y,rfl⟩:∃y:Nat,x=y:=⟨x.toNat,by omega⟩;have ab:1≤y:=by omega
   have S:y≤8:=by omega
   have v:=Hd (show Pv y true=0 by simp [Pv,hx]);have z:=Hd (show Pu l y u true=l++Bn y u by simp [Pu,hx]);have m:=Hd hx;clear hx R;go_enter func25,ntmps25;go_wp2_with (go_at_call 58;refine(Mj y _).mono ?_;rw [m.o];rintro e J ⟨rfl,rfl⟩);refine(i.o m.o).mono ?_;rintro e J ⟨rfl,rfl⟩;clear hF;go_wp2_with (first
    |(go_at_call 52;refine(Po A n c l _ I.o hn).mono ?_;rintro e w1 ⟨A1,H,c1,rfl,p,B⟩;obtain rfl:H=n:=(by rw [←p.1,I.o.1]);have r:=Hd p;have q:=Hd B;clear p B)
    |(at_builtin;refine uN _ rfl (.tmp 20) (.tmp 21) _ _ rfl 5 _ 1 1 _ _ underlying22 underlying3 P1 rfl (by omega) D1 Sc (0:UInt8) rfl _ _ _ _ _ rfl r.o y _ rfl rfl (by omega) (by omega) q.o.size ?_;intro W T w2 d j G;have f:=Hd d;have K:=Hd j;clear d j G;have P:=f.o.cap;rcases W with _|s))
   ·exact absurd (f.o.is.none_ D1 (by omega)).2 (by omega)
   ·obtain⟨O,Q,Z⟩:=f.o.addr s rfl;obtain⟨g,rfl⟩:∃g,s=⟨g,0,none⟩:=⟨_,O⟩;obtain⟨N,V,aa,a⟩:=kH f.o;rw [I6,Nat.zero_add];refine(iI g H y (T-H) u N w2 V (by omega) S X.o).mono ?_;rintro e w3 ⟨rfl,t,D,E,C⟩;have M:=Hd (a w3 t H y _ D E (Bo _ _) (Ae _));have L:=Hd C;clear V a D E C;go_wp2;go_ret2;rw [v.o,z.o];refine⟨some ⟨g,0,none⟩,H+y,T,rfl,?_,?_⟩
    ·have U:=M.o;rw [List.take_left' I.o.1,List.drop_eq_nil_of_le (by simp [I.o.1]),List.append_nil] at U;exact U
    ·refine Cq (Cq q.o K.o ?_) L.o ?_
     ·rintro k ⟨Y,h,rfl⟩;exact(r.o.addr Y h).2.1
     ·rintro k rfl;exact Q
theorem tH(a b u:Nat)(x:Int)(w:World)(ha:Bk w a 3 #[Aa Ab x])(hb:Bk w b 26 #[Aa Ac u])(hx:Bz x=true)(hu:(u:Int)<18446744073709551616):
  Calls Ad 26 #[Afh a,Afh b] w (Afd (.bool (Fb x.toNat u)) w):=by
 obtain⟨y,rfl⟩:∃y:Nat,x=y:=⟨x.toNat,by have:=Cr.1 hx;omega⟩;have f:w.cell? ⟨a,0,none⟩=some (Aa Ab y):=ha.cell 0;have g:w.cell? ⟨b,0,none⟩=some (Aa Ac u):=hb.cell 0;have d:=Hd hx;have c:=Hd hu;clear ha hb hx hu;go_enter func26,ntmps26;go_wp2_with (go_at_call 27;refine(rE y u w d.o c.o).mono ?_;rintro e h ⟨rfl,rfl⟩);go_ret;exact⟨rfl,rfl⟩
theorem tJ{er:Int}{e:Ending}(hB:Below w.heap.size w W)(h:aW W m er e w'):aW w m er e w':=by
 obtain⟨A,n,c,he,hO,hB'⟩:=h;exact⟨A,n,c,he,hO.rebase hB.size,C1 hB hB'⟩
theorem zW(m:Int):IntKind.u64.wrap m=(((m % 18446744073709551616).toNat:Nat):Int):=by
 show m % 18446744073709551616=_;omega
theorem Db(w:World)(o:Obj)(t:TypeId)(cs:Array Value):Bk ((w.alloc o).alloc (.cells cs t)) (w.heap.size+1) t cs:=by
 have h:=Bk.new (w.alloc o) t cs;have e:(w.alloc o).heap.size=w.heap.size+1:=by simp
 rw [e] at h;exact h
theorem xV(A:Option Addr)(n c u:Nat)(x:Int)(l:List UInt8)(w:World)(h:Cv w A n l)(hc:n≤c)(hn:n≤1099511627776)(hu:(u:Int)<18446744073709551616):
  Calls Ad 6 #[.slice A n c,Aa Ab x,Aa Ac u] w (aW w (Pu l x u (Fb x.toNat u)) (Pv x (Fb x.toNat u))):=by
 have p:=Hd h;have f:=Hd hu;have q:=f;clear h hu;go_enter func6,ntmps6;go_wp2_with fail
 skip
 have b:=(Bk.new w 3 #[Aa Ab x]).alloc (.cells #[Aa Ac (u:Int)] 26);have d:=Db w (.cells #[Aa Ab x] 3) 26 #[Aa Ac (u:Int)];have a:=fun hx=>tH w.heap.size (w.heap.size+1) u x _ b d hx f.o
 have s:=(p.o.alloc (.cells #[Aa Ab x] 3)).alloc (.cells #[Aa Ac (u:Int)] 26);refine(gZ A n c _ 26 x l _ _ _ s hc hn q.o Tryz.call26 a).mono ?_;intro e y t;obtain⟨j,v,r,rfl,i,g⟩:=t;have m:=Hd i;have k:=Hd g;clear i g;go_wp2;go_ret2;exact tJ (((Af _ _).alloc (Ae _) _).alloc (by simp) _) ⟨j,v,r,rfl,m.o,k.o⟩
theorem yP{i n:Int}(hn:0<n)(h:0≤i.tmod n):i.tmod n=i % n:=by
 have h1:=Int.tmod_lt_of_pos i hn;have h2:(i.tmod n) % n=i % n:=by rw [Int.tmod_def,Int.sub_emod,Int.mul_emod_right];simp
 rw [←h2,Int.emod_eq_of_lt h h1]
theorem gK{i n:Int}(hn:0<n)(h:i.tmod n<0):i.tmod n+n=i % n∧0≤i.tmod n+n:=by
 have h1: -n<i.tmod n:=by
  have:=Int.lt_tmod_of_pos i hn;omega
 have h2:(i.tmod n+n) % n=i % n:=by rw [Int.add_emod_right,Int.tmod_def,Int.sub_emod,Int.mul_emod_right];simp
 exact⟨by rw [←h2,Int.emod_eq_of_lt (by omega) (by omega)],by omega⟩
theorem mF(i n:Int)(w:World)(h0:0<n)(hn:n≤9223372036854775807):
  Calls Ad 18 #[Aa Ab i,Aa Ab n] w (Afd (Aa Ab (i % n)) w):=by
 by_cases h:0≤i.tmod n
 ·have H:=Hd (yP h0 h);go_enter func18,ntmps18;go_wp2;go_ret;exact⟨Hh H.o,rfl⟩
 ·have a:i.tmod n<0:=by omega
  have H:=Hd (gK h0 a).1;have b:=(gK h0 a).2;clear h;go_enter func18,ntmps18;go_wp2;go_ret;exact⟨Hh H.o,rfl⟩
def wd(n:Int):Nat:=2^(n % 4).toNat
theorem kC(w:World)(vs:Array Value)(l:List UInt8)(n:Nat)(hn:l.length=n)(h:vs.toList=l.flatMap bc):Cv (w.alloc (.cells vs 5)) (some ⟨w.heap.size,0,none⟩) n l:=
 ⟨hn,fun j u hj=>⟨_,_,rfl,by rw [(Bk.new w 5 vs).cell,Nat.zero_add,←Array.getElem?_toList,h];exact hj⟩⟩
theorem eM(A:Option Addr)(n c:Nat)(a x:Int)(l:List UInt8)(w:World)(v er:Int)(hl:Cv w A n l)(hc:n≤c)(hn:n≤9223372036854775807)(h1:I9 l a x=v)(h2:Cy n a x=er):
  Calls Ad 168 #[.slice A n c,Aa Ab a,Aa Ab x] w (Afc (.tuple #[Aa Ab v,Aa Ab er]) w):=by
 subst h1 h2;exact nV A n c a x l w hl hc hn
def Lq(F:FuncId):Value:= .func (.func F) #[] #[]
def shZ:List Value:=[Aa Ab 0,.nilFunc,.nilFunc,Aa Ab 0]
def Uq(t:Nat):List Value:=
 if Tn t=true then(if 0<Df t then [Aa Ab 0,Lq 309,Lq 310,Aa Ab 0] else [Aa Ab 1,Lq 311,Lq 310,Aa Ab 0]) else shZ
def Xm(t:Nat):List Value:=
 if t=10 then [Aa Ab 1,Lq 311,Lq 312,Aa Ab 1] else if t=9 then [Aa Ab 3,Lq 311,Lq 312,Aa Ab 1] else Uq t
def Ly(k t:Nat):List Value:=if t<k then Uq t else shZ
theorem Abs(t:Nat):(Uq t).length=4:=by unfold Uq;split <;>(try split) <;>rfl
theorem fS(k t:Nat):(Ly k t).length=4:=by unfold Ly;split;exact Abs t;rfl
def Qe(k:Nat):Array Value:=((List.range 37).flatMap (Ly k)).toArray
def Ma:Array Value:=((List.range 37).flatMap Xm).toArray
def Vr:Array Value:=((List.range 37).flatMap fun _=>shZ).toArray
theorem Ads:(Ad.info? 286).map (fun i=>(i.zero,i.size))=some (some (Value.agg Vr),148):=by kernel_rfl
theorem Ko(k:Nat):(Qe k).size=148:=by
 unfold Qe;rw [List.size_toArray,Cm (fS k),List.length_range]
theorem N2{k:Nat}(ht:t<37)(hi:i<4):(Qe k)[t*4+i]?=(Ly k t)[i]?:=by
 unfold Qe;rw [List.getElem?_toArray,Ip (fS k) (List.range 37) t i (by simpa using ht) hi,List.getElem_range]
theorem yA{k:Nat}(h:Tn k=false):Qe (k+1)=Qe k:=by
 unfold Qe
 congr 1
 have e:Ly (k+1)=Ly k:=by
  funext t
  unfold Ly;by_cases h1:t<k
  ·rw [if_pos h1,if_pos (by omega)]
  ·by_cases h2:t=k
   ·subst h2;rw [if_pos (by omega),if_neg h1];unfold Uq;rw [h];rfl
   ·rw [if_neg (by omega),if_neg h1]
 rw [e]
theorem kY{k:Nat}(hk:k<37){a b c d:Value}(h:Uq k=[a,b,c,d]):((((Qe k).setIfInBounds (k*4) a).setIfInBounds (k*4+1) b).setIfInBounds (k*4+2) c).setIfInBounds (k*4+3) d=Qe (k+1):=by
 apply Array.ext_getElem?;intro j;have m:=Ko k;by_cases n:j<148
 ·have l:j/4<37:=by omega
  have e:j/4*4+j % 4=j:=by omega
  have h1:=N2 (k:=k) l (show j % 4<4 by omega);have h2:=N2 (k:=k+1) l (show j % 4<4 by omega);rw [e] at h1 h2;rw [h2];simp only [Array.getElem?_setIfInBounds,Array.size_setIfInBounds,m];by_cases g:j/4=k
  ·have i:Ly (k+1) (j/4)=[a,b,c,d]:=by rw [g];unfold Ly;rw [if_pos (by omega),h]
   rw [i];have f:j % 4=0∨j % 4=1∨j % 4=2∨j % 4=3:=by omega
   rcases f with f|f|f|f <;>rw [f]
   ·rw [if_neg (by omega),if_neg (by omega),if_neg (by omega),if_pos (by omega),if_pos (by omega)];rfl
   ·rw [if_neg (by omega),if_neg (by omega),if_pos (by omega),if_pos (by omega)];rfl
   ·rw [if_neg (by omega),if_pos (by omega),if_pos (by omega)];rfl
   ·rw [if_pos (by omega),if_pos (by omega)];rfl
  ·rw [if_neg (by omega),if_neg (by omega),if_neg (by omega),if_neg (by omega),h1]
   congr 1
   unfold Ly;by_cases h1:j/4<k
   ·rw [if_pos h1,if_pos (by omega)]
   ·rw [if_neg h1,if_neg (by omega)]
 ·rw [Array.getElem?_eq_none (by simp [m];omega),Array.getElem?_eq_none (by rw [Ko];omega)]
theorem uM{a:Act}(hgd:o.guard=none)(p:Operand)(ty:TypeId)(ho:o.op= .load ty p)(g:Nat)(hp:a.eval p= Afh g)(v:Value)
  (h:(loadVar ty ⟨g,0,none⟩).run Ad w= .ok v w) (hk:wpList Ad ops Q rest (a.put o.dst v) w):wpList Ad ops Q (o::rest) a w:=by
 refine wpList_plain hgd fun K hK=>?_
 unfold Oper.wp;simp only [execOp,ho,hp,Instr.loadAt,Instr.sureAddr,Sem.run_bind,Sem.run_pure,Result.andThen_ok,h];exact hK _ _ hk
theorem pD{a:Act}(hgd:o.guard=none)(p x:Operand)(ty:TypeId)(ho:o.op= .store ty p x)(g:Nat)(hp:a.eval p= Afh g)(v:Value)(hx:a.eval x=v)
  (h:(storeVar ty ⟨g,0,none⟩ v).run Ad w= .ok () w') (hk:wpList Ad ops Q rest (a.put o.dst undef) w'):wpList Ad ops Q (o::rest) a w:=by
 refine wpList_plain hgd fun K hK=>?_
 unfold Oper.wp;simp only [execOp,ho,hp,hx,Instr.storeAt,Instr.sureAddr,Sem.run_bind,Sem.run_pure,Result.andThen_ok,h];exact hK _ _ hk
theorem Iw{t:TypeId}{cs:Array Value}{v:Value}(h:Bk W g t cs)(hi:i<cs.size)(h1:v.oneCell'=true):(store ⟨g,i,none⟩ v).run Ad W= .ok () (W.setCell ⟨g,i,none⟩ v):=by
 rw [run_store Ad W _ v _ h1,h.cell i,Array.getElem?_eq_getElem hi];simp [h.frozen i]
theorem My(w:World):Calls Ad 252 #[] w (Afc (.agg Ma) w):=by
 have hz:=(zero_of_info Ads).1;have S:Vr.size=148:=by kernel_rfl
 go_enter func252,ntmps252;go_wp2_with fail;go_loopw [2,3,4,5,6] (fun _ _ _ _ i wr=>∃k:Nat,k≤37∧i= Aa Ab k∧Bk wr (w.heap.size+1) 286 (Qe k)∧Bk wr w.heap.size 286 Vr∧Below w.heap.size w wr) (fun _ _ _ _ i _=>37-(intOf i).toNat)
 case atStart=>exact⟨0,by omega,rfl,by rw [show Qe 0=Vr by kernel_rfl];exact Bk.new_ (by simp) _ _,(Bk.new w _ _).alloc _,((Af _ _).alloc (Ae _) _).alloc (by simp) _⟩
 case round=>
  obtain⟨k,hk,rfl,Y,Z,X⟩:=hrel;have HK:=Hd Y;have n:=Hd Z;have g:=Hd X;clear Y Z X hz S;by_cases a:k<37
  ·have ad:(0:Int)≤k:=by omega
   have aa:(k:Int)<37:=by omega
   go_wp2_with fail;go_at_call 272;refine(K2 k _).mono ?_;rintro e B ⟨rfl,A⟩;replace HK:=Hd (HK.o.pure A);replace n:=Hd (n.o.pure A);replace g:=Hd (Bi g.o A);clear A;cases hv:Tn k with
   |false=>
    have z:=Hd hv;clear hv;go_wp2;go_roundw
    case rel=>exact⟨k+1,by omega,by go_num,by rw [yA z.o];exact HK.o,n.o,g.o⟩
    case measure=>simp [intOf];omega
   |true=>
    have c0:B.cell? ⟨w.heap.size+1,k*4,none⟩=some (Aa Ab 0):=(HK.o.cell (k*4)).trans (by rw [show k*4=k*4+0 by omega,N2 a (by omega)];unfold Ly;rw [if_neg (by omega)];rfl);have c1:B.cell? ⟨w.heap.size+1,k*4+1,none⟩=some .nilFunc:=(HK.o.cell (k*4+1)).trans (by rw [N2 a (by omega)];unfold Ly;rw [if_neg (by omega)];rfl);have c2:B.cell? ⟨w.heap.size+1,k*4+2,none⟩=some .nilFunc:=(HK.o.cell (k*4+2)).trans (by rw [N2 a (by omega)];unfold Ly;rw [if_neg (by omega)];rfl);have c3:B.cell? ⟨w.heap.size+1,k*4+3,none⟩=some (Aa Ab 0):=(HK.o.cell (k*4+3)).trans (by rw [N2 a (by omega)];unfold Ly;rw [if_neg (by omega)];rfl);have f0:=HK.o.frozen (k*4);have f1:=HK.o.frozen (k*4+1);have f2:=HK.o.frozen (k*4+2);have f3:=HK.o.frozen (k*4+3);by_cases hm:0<Df k
    ·have hvr:Uq k=[Aa Ab 0,.func (.func 309) #[] #[],.func (.func 310) #[] #[],Aa Ab 0]:=by unfold Uq;rw [if_pos hv,if_pos hm];rfl
     have z:=Hd hvr;have P:=Iw (i:=k*4+1) (v:= .func (.func 309) #[] #[]) (HK.o.set_ (k*4) (Aa Ab 0)) (by simp [Ko];omega) rfl;have Q:=Iw (i:=k*4+2) (v:= .func (.func 310) #[] #[]) ((HK.o.set_ (k*4) (Aa Ab 0)).set_ (k*4+1) (.func (.func 309) #[] #[])) (by simp [Ko];omega) rfl;clear hv hvr;go_wp2;go_roundw
     case rel=>exact⟨k+1,by omega,by go_num,by rw [←kY a z.o];exact(((HK.o.set_ _ _).set_ _ _).set_ _ _).set_ _ _,(((n.o.far (by simp) _).far (by simp) _).far (by simp) _).far (by simp) _,(((g.o.setCell (Ai _) _).setCell (Ai _) _).setCell (Ai _) _).setCell (Ai _) _⟩
     case measure=>simp [intOf];omega
    ·have hvr:Uq k=[Aa Ab 1,.func (.func 311) #[] #[],.func (.func 310) #[] #[],Aa Ab 0]:=by unfold Uq;rw [if_pos hv,if_neg hm];rfl
     have z:=Hd hvr;have P:=Iw (i:=k*4+1) (v:= .func (.func 311) #[] #[]) (HK.o.set_ (k*4) (Aa Ab 1)) (by simp [Ko];omega) rfl;have Q:=Iw (i:=k*4+2) (v:= .func (.func 310) #[] #[]) ((HK.o.set_ (k*4) (Aa Ab 1)).set_ (k*4+1) (.func (.func 311) #[] #[])) (by simp [Ko];omega) rfl;clear hv hvr;go_wp2;go_roundw
     case rel=>exact⟨k+1,by omega,by go_num,by rw [←kY a z.o];exact(((HK.o.set_ _ _).set_ _ _).set_ _ _).set_ _ _,(((n.o.far (by simp) _).far (by simp) _).far (by simp) _).far (by simp) _,(((g.o.setCell (Ai _) _).setCell (Ai _) _).setCell (Ai _) _).setCell (Ai _) _⟩
     case measure=>simp [intOf];omega
  ·obtain rfl:k=37:=by omega
   have b:(Qe 37).size=148:=Ko 37;have E:wr.cell? ⟨w.heap.size+1,40,none⟩=some (Aa Ab 0):=(HK.o.cell 40).trans (by kernel_rfl);have F:wr.cell? ⟨w.heap.size+1,43,none⟩=some (Aa Ab 0):=(HK.o.cell 43).trans (by kernel_rfl);have C:wr.cell? ⟨w.heap.size+1,36,none⟩=some (Aa Ab 0):=(HK.o.cell 36).trans (by kernel_rfl);have D:wr.cell? ⟨w.heap.size+1,39,none⟩=some (Aa Ab 0):=(HK.o.cell 39).trans (by kernel_rfl);have K:=HK.o.frozen 40;have L:=HK.o.frozen 41;have M:=HK.o.frozen 42;have N:=HK.o.frozen 43;have G:=HK.o.frozen 36;have H:=HK.o.frozen 37;have I:=HK.o.frozen 38;have J:=HK.o.frozen 39;have q:=HK;have h:=Hd (q.o.set_ 40 (Aa Ab 1));have V:=Iw (i:=41) (v:=(.func (.func 311) #[] #[])) h.o (by simp [b]) rfl;have j:=Hd (h.o.set_ 41 (.func (.func 311) #[] #[]));have W:=Iw (i:=42) (v:=(.func (.func 312) #[] #[])) j.o (by simp [b]) rfl;have r:=Hd (j.o.set_ 42 (.func (.func 312) #[] #[]));have s:=Hd (r.o.set_ 43 (Aa Ab 1));have l:=Hd (s.o.set_ 36 (Aa Ab 3));have T:=Iw (i:=37) (v:=(.func (.func 311) #[] #[])) l.o (by simp [b]) rfl;have m:=Hd (l.o.set_ 37 (.func (.func 311) #[] #[]));have U:=Iw (i:=38) (v:=(.func (.func 312) #[] #[])) m.o (by simp [b]) rfl;have t:=Hd (m.o.set_ 38 (.func (.func 312) #[] #[]));have u:=Hd (t.o.set_ 39 (Aa Ab 1));have d:Bk ((((((((wr.setCell ⟨w.heap.size+1,40,none⟩ (Aa Ab 1)).setCell ⟨w.heap.size+1,41,none⟩ (.func (.func 311) #[] #[])).setCell ⟨w.heap.size+1,42,none⟩ (.func (.func 312) #[] #[])).setCell ⟨w.heap.size+1,43,none⟩ (Aa Ab 1)).setCell ⟨w.heap.size+1,36,none⟩ (Aa Ab 3)).setCell ⟨w.heap.size+1,37,none⟩ (.func (.func 311) #[] #[])).setCell ⟨w.heap.size+1,38,none⟩ (.func (.func 312) #[] #[])).setCell ⟨w.heap.size+1,39,none⟩ (Aa Ab 1)) (w.heap.size+1) 286 Ma:=by
    have:=u.o;rw [show((((((((Qe 37).setIfInBounds 40 (Aa Ab 1)).setIfInBounds 41 (.func (.func 311) #[] #[])).setIfInBounds 42 (.func (.func 312) #[] #[])).setIfInBounds 43 (Aa Ab 1)).setIfInBounds 36 (Aa Ab 3)).setIfInBounds 37 (.func (.func 311) #[] #[])).setIfInBounds 38 (.func (.func 312) #[] #[])).setIfInBounds 39 (Aa Ab 1)=Ma by kernel_rfl] at this;exact this
   have c:=Hd d;clear q h j r s l m t u d b;have p:Hid (Bk ((((((((wr.setCell ⟨w.heap.size+1,40,none⟩ (Aa Ab 1)).setCell ⟨w.heap.size+1,41,none⟩ (.func (.func 311) #[] #[])).setCell ⟨w.heap.size+1,42,none⟩ (.func (.func 312) #[] #[])).setCell ⟨w.heap.size+1,43,none⟩ (Aa Ab 1)).setCell ⟨w.heap.size+1,36,none⟩ (Aa Ab 3)).setCell ⟨w.heap.size+1,37,none⟩ (.func (.func 311) #[] #[])).setCell ⟨w.heap.size+1,38,none⟩ (.func (.func 312) #[] #[])).setCell ⟨w.heap.size+1,39,none⟩ (Aa Ab 1)) w.heap.size 286 Vr):=Hd ((((((((n.o.far (by simp) _).far (by simp) _).far (by simp) _).far (by simp) _).far (by simp) _).far (by simp) _).far (by simp) _).far (by simp) _);have x:Hid (Below w.heap.size w ((((((((wr.setCell ⟨w.heap.size+1,40,none⟩ (Aa Ab 1)).setCell ⟨w.heap.size+1,41,none⟩ (.func (.func 311) #[] #[])).setCell ⟨w.heap.size+1,42,none⟩ (.func (.func 312) #[] #[])).setCell ⟨w.heap.size+1,43,none⟩ (Aa Ab 1)).setCell ⟨w.heap.size+1,36,none⟩ (Aa Ab 3)).setCell ⟨w.heap.size+1,37,none⟩ (.func (.func 311) #[] #[])).setCell ⟨w.heap.size+1,38,none⟩ (.func (.func 312) #[] #[])).setCell ⟨w.heap.size+1,39,none⟩ (Aa Ab 1))):=Hd ((((((((g.o.setCell (Ai _) _).setCell (Ai _) _).setCell (Ai _) _).setCell (Ai _) _).setCell (Ai _) _).setCell (Ai _) _).setCell (Ai _) _).setCell (Ai _) _);clear n g HK;go_upto_region 13 with fail
   generalize ((((((((wr.setCell ⟨w.heap.size+1,40,none⟩ (Aa Ab 1)).setCell ⟨w.heap.size+1,41,none⟩ (.func (.func 311) #[] #[])).setCell ⟨w.heap.size+1,42,none⟩ (.func (.func 312) #[] #[])).setCell ⟨w.heap.size+1,43,none⟩ (Aa Ab 1)).setCell ⟨w.heap.size+1,36,none⟩ (Aa Ab 3)).setCell ⟨w.heap.size+1,37,none⟩ (.func (.func 311) #[] #[])).setCell ⟨w.heap.size+1,38,none⟩ (.func (.func 312) #[] #[])).setCell ⟨w.heap.size+1,39,none⟩ (Aa Ab 1))=wf at c p x⊢;clear E F C D K L M N G H I J V W T U;have O:(loadVar 286 ⟨w.heap.size+1,0,none⟩).run Ad wf= .ok (.agg Ma) wf:=run_loadVar_row wf _ _ _ Ma (0,0) _ c.o underlying286 rfl (by kernel_rfl);have R:(storeVar 286 ⟨w.heap.size,0,none⟩ (.agg Ma)).run Ad wf= .ok () (wf.setRow w.heap.size Ma):=run_storeVar_row wf _ _ _ Vr Ma p.o (by kernel_rfl) (by kernel_rfl) (by kernel_rfl);have f:(wf.setRow w.heap.size Ma).heap[w.heap.size]?=some (.cells Ma 286 (0,0)):=setRow_heap wf _ Vr _ _ _ p.o;have y:=Hd f;clear f;go_wp2_with (first
    |(refine uM rfl (.tmp 1) 286 rfl _ rfl _ O ?_)
    |(refine pD rfl (.tmp 0) (.tmp 32) 286 rfl _ rfl _ rfl R ?_))
   refine bodyPost_ret (v:= .agg Ma) ?_ rfl ⟨rfl,x.o.trans ⟨rfl,rfl,rfl,by simp [World.setRow],fun i hi=>setRow_other wf w.heap.size i _ (by omega)⟩⟩;refine results_cell_row (fn:=Tryz.f252) rfl _ _ w.heap.size 286 Ma (0,0) _ ?_ y.o underlying286 rfl (by kernel_rfl);rfl
end
section
open Go.Acc
inductive Tr where
 |mk (k n:Int) (u:Nat) (s:List UInt8) (ks:List (List UInt8)) (l:List Tr)
namespace Tr
def k:Tr→Int| .mk k _ _ _ _ _=>k
def n:Tr→Int| .mk _ n _ _ _ _=>n
def u:Tr→Nat| .mk _ _ u _ _ _=>u
def s:Tr→List UInt8| .mk _ _ _ s _ _=>s
def ks:Tr→List (List UInt8)| .mk _ _ _ _ ks _=>ks
def l:Tr→List Tr| .mk _ _ _ _ _ l=>l
end Tr
structure Bv where
 t:Nat
 w:Nat
 n:Nat
structure Bd where
 b:List UInt8
 s:List Bv
 keys:List (List UInt8×Nat)
 texts:List (List UInt8×Nat)
 lists:List (List UInt8×Nat)
 names:List (Nat×List UInt8)
 vals:List Bv
def bWidth(u:Nat):Nat:=if u<256 then 1 else if u<65536 then 2 else if u<4294967296 then 4 else 8
def bWidthI(n:Int):Nat:=if -128≤n∧n<128 then 1 else if -32768≤n∧n<32768 then 2 else if -2147483648≤n∧n<2147483648 then 4 else 8
def bits(n:Int):Nat:=(n % 18446744073709551616).toNat
def Kn(w n:Nat):Nat:=(w-n % w) % w
def Bm(w:Nat)(l:List UInt8):List UInt8:=l++Al (Kn w l.length) 0
def inl(t:Nat):Bool:=Bq t
def upN(n w:Nat):Nat:=(n+w-1)/w*w
def Dt(v:Bv)(a i w:Nat):Bool:=if inl v.t=true then decide (v.w≤w) else decide (v.n≤a∧bWidth (upN a w+i*w-v.n)≤w)
def leastW(f:Nat→Bool):Nat:=if f 1=true then 1 else if f 2=true then 2 else if f 4=true then 4 else if f 8=true then 8 else 0
def Es(a w:Nat):Nat→List Bv→Bool
 |_,[]=>true
 |i,v::r=>Dt v a i w&&Es a w (i+1) r
def dI(a w:Nat):Option Bv→Bool
 |none=>true
 |some k=>Dt k a 0 w
def J9(a ahead:Nat)(k:Option Bv)(l:List Bv)(w:Nat):Bool:=(decide (ahead=0)||decide (bWidth l.length≤w))&&dI a w k&&Es a w ahead l
def C3(a ahead:Nat)(k:Option Bv)(l:List Bv):Nat:=leastW (J9 a ahead k l)
def Da(w a:Nat)(v:Bv):Nat:=if inl v.t=true then v.n % 2^(8*w) else a-v.n
def Cu(w:Nat):List UInt8→List Bv→List UInt8
 |l,[]=>l
 |l,v::r=>Cu w (l++Bn w (Da w l.length v)) r
def bCode(w:Nat):Nat:=if w=1 then 0 else if w=2 then 1 else if w=4 then 2 else 3
def Dl(w:Nat)(v:Bv):UInt8:=An (4*v.t+bCode (if inl v.t=true then w else v.w))
def Cd(t:Nat)(len tags:Bool)(l:List Bv)(b:List UInt8):List UInt8×Bv:=
 let w:=C3 b.length (if len=true then 1 else 0) none l
 let c:=Bm w b++(if len=true then Bn w l.length else [])
 (Cu w c l++(if tags=true then l.map (Dl w) else []),⟨t,w,c.length⟩)
def Ef(k:Bv)(l:List Bv)(b:List UInt8):List UInt8×Bv:=
 let w:=C3 b.length 3 (some k) l
 let a:=Bm w b
 let c:=a++Bn w (a.length-k.n)++Bn w k.w++Bn w l.length
 (Cu w c l++l.map (Dl w),⟨9,w,c.length⟩)
def Cf(l:List (List UInt8×Nat))(k:List UInt8):Option Nat:=(l.find? fun x=>x.1==k).map (·.2)
def Fu(l:List (List UInt8×Nat))(k:List UInt8)(a:Nat):List (List UInt8×Nat):=if(Cf l k).isSome=true then l else l++ [(k,a)]
def Fq(f b:Nat):Bool:=decide (f/b % 2=1)
def Bd.push(b:Bd)(v:Bv):Bd:={ b with s:=b.s++ [v]}
def Bd.put(f:Nat)(s:List UInt8)(b:Bd):Bd×Bv:=
 match(if Fq f 1=true then Cf b.keys s else none) with
 |some a=>(b,⟨4,1,a⟩)
 |none=>({ b with b:=b.b++s++ [0],keys:=Fu b.keys s b.b.length,names:=(b.b.length,s)::b.names},⟨4,1,b.b.length⟩)
def Bd.key(f:Nat)(s:List UInt8)(b:Bd):Bd:=let x:=b.put f s;x.1.push x.2
def Bd.puts(f:Nat):List (List UInt8)→Bd→Bd×List Bv
 | [],b=>(b,[])
 |s::r,b=>let x:=b.put f s;let y:=Bd.puts f r x.1;(y.1,x.2::y.2)
def Bd.apart(t:Nat)(w n:Nat)(b:Bd):Bd:=
 let c:=Bm w b.b
 { b with b:=c++Bn w (n % 2^(8*w)),s:=b.s++ [⟨t,w,c.length⟩]}
def Bd.blob(s:List UInt8)(b:Bd):Bd:=
 let w:=bWidth s.length
 let c:=Bm w b.b++Bn w s.length
 { b with b:=c++s,s:=b.s++ [⟨25,w,c.length⟩]}
def Bd.str(f:Nat)(s:List UInt8)(b:Bd):Bd:=
 let w:=bWidth s.length
 match(if Fq f 2=true then Cf b.texts s else none) with
 |some a=>b.push ⟨5,w,a⟩
 |none=>
  let c:=Bm w b.b++Bn w s.length
  { b with b:=c++s++ [0],s:=b.s++ [⟨5,w,c.length⟩],texts:=Fu b.texts s c.length}
def Bd.vec(t:Nat)(len tags:Bool)(l:List Bv)(b:Bd):Bd:=
 let x:=Cd t len tags l b.b
 { b with b:=x.1,s:=b.s++ [x.2]}
def Bd.endVec(start:Nat)(b:Bd):Bd:=Bd.vec 10 true true (b.s.drop start) { b with s:=b.s.take start}
def Lp:List Bv→List Bv
 | []=>[]
 | [v]=>[v]
 |v::_::r=>v::Lp r
def Re(l:List Bv):List Bv:=Lp l.tail
def Bd.endMap(f:Nat)(keys:List (List UInt8))(start:Nat)(b:Bd):Bd:=
 let vs:=b.s.drop start
 let c:={ b with s:=b.s.take start}
 let list:=keys.flatMap fun s=>s++ [0]
 match(if Fq f 4=true then Cf c.lists list else none) with
 |some i=>let x:=Ef (c.vals.getD i ⟨0,0,0⟩) (Re vs) c.b;{ c with b:=x.1,s:=c.s++ [x.2]}
 |none=>
  let y:=Cd 14 true false (Lp vs) c.b
  let x:=Ef y.2 (Re vs) y.1
  { c with b:=x.1,s:=c.s++ [x.2],vals:=c.vals++ [y.2],lists:=Fu c.lists list c.vals.length}
def C5(n:Int):Bv:=⟨1,bWidthI n,bits n⟩
def C9(u:Nat):Bv:=⟨2,bWidth u,u⟩
def Dh(n:Int):Bv:=⟨26,1,if n=1 then 1 else 0⟩
def Bd.leaf(f:Nat)(k n:Int)(u:Nat)(s:List UInt8)(b:Bd):Bd:=
 if k=1 then b.push ⟨0,1,0⟩
 else if k=2 then b.push (Dh n)
 else if k=3 then b.push (C5 n)
 else if k=4 then b.push (C9 u)
 else if k=5 then b.key f s
 else if k=6 then b.str f s
 else if k=7 then b.blob s
 else if k=8 then b.apart 6 (bWidthI n) (bits n)
 else if k=9 then b.apart 7 (bWidth u) u
 else b
def Bd.flat(f:Nat)(k:Int)(l:List Tr)(b:Bd):Bd:=
 if k=11 then b.vec 11 true false (l.map fun t=>C5 t.n)
 else if k=12 then b.vec 12 true false (l.map fun t=>C9 t.u)
 else if k=14 then b.vec 36 true false (l.map fun t=>Dh t.n)
 else if k=13 then let x:=b.puts f (l.map Tr.s);x.1.vec 14 true false x.2
 else if k=15 then b.vec (10+3*l.length) false false (l.map fun t=>C5 t.n)
 else b.vec (11+3*l.length) false false (l.map fun t=>C9 t.u)
mutual
def Bd.calls(f:Nat):Tr→Bd→Bd
 | .mk k n u s ks l,b=>
  if k=10 then(Bd.callsL f l b).endVec b.s.length
  else if k=17 then(Bd.callsM f ks l b).endMap f ks b.s.length
  else if k≤9 then b.leaf f k n u s
  else b.flat f k l
def Bd.callsL(f:Nat):List Tr→Bd→Bd
 | [],b=>b
 |t::r,b=>Bd.callsL f r (Bd.calls f t b)
def Bd.callsM(f:Nat):List (List UInt8)→List Tr→Bd→Bd
 |_,[],b=>b
 |ks,t::r,b=>Bd.callsM f ks.tail r (Bd.calls f t (b.key f (ks.headD [])))
end
def Bd.new:Bd:=⟨[],[],[],[],[],[],[]⟩
def Bd.finish(b:Bd):List UInt8:=
 match b.s with
 | [v]=>
  let w:=leastW (Dt v b.b.length 0)
  let c:=Bm w b.b
  c++Bn w (Da w c.length v)++ [Dl w v,An w]
 |_=>[]
def Ha(f:Nat)(t:Tr):List UInt8:=(Bd.calls f t Bd.new).finish
end
section
open Go.Acc
def At(l:List UInt8)(a:Nat)(m:List UInt8):Prop:=∃p q,l=p++m++q∧p.length=a
theorem At.app{l:List UInt8}(h:At l a m)(x:List UInt8):At (l++x) a m:=by
 obtain⟨p,q,rfl,rfl⟩:=h;exact⟨p,q++x,by simp,rfl⟩
theorem At.ahead{l:List UInt8}(h:At l a m)(x:List UInt8):At (x++l) (x.length+a) m:=by
 obtain⟨p,q,rfl,rfl⟩:=h;exact⟨x++p,q,by simp,by simp⟩
theorem At.last(l m:List UInt8):At (l++m) l.length m:=⟨l,[],by simp,rfl⟩
theorem At.left{l:List UInt8}(h:At l a (m++m')):At l a m:=by
 obtain⟨p,q,rfl,rfl⟩:=h;exact⟨p,m'++q,by simp,rfl⟩
theorem At.right{l:List UInt8}(h:At l a (m++m')):At l (a+m.length) m':=by
 obtain⟨p,q,rfl,rfl⟩:=h;exact⟨p++m,q,by simp,by simp⟩
theorem At.le{l:List UInt8}(h:At l a m):a+m.length≤l.length:=by
 obtain⟨p,q,rfl,rfl⟩:=h;simp
theorem At.take{l:List UInt8}(h:At l a m):(l.drop a).take m.length=m:=by
 obtain⟨p,q,rfl,rfl⟩:=h;simp
theorem At.get{l:List UInt8}(h:At l a m)(hi:i<m.length):l[a+i]?=m[i]?:=by
 obtain⟨p,q,rfl,rfl⟩:=h;rw [Am,List.getElem?_append_right (by omega),List.getElem?_append_left (by omega)]
 congr 1
 omega
theorem At.load{l:List UInt8}{w u:Nat}(h:At l a (Bn w u))(hw:Bz w=true):loadU l a w=Fe (Bn w u):=by
 have h1:=h.le;have h2:=h.take;rw [Bo] at h1 h2;have h3:(0:Int)≤a∧(a:Int)+w≤l.length:=by omega
 simp only [loadU,hw,h3,Ay,h2,and_self,if_true]
theorem Fa(w:Nat):∀(vs:List Bv) (l:List UInt8),∃m,Cu w l vs=l++m∧m.length=w*vs.length
 | [],l=>⟨[],by simp [Cu]⟩
 |v::r,l=>by
  obtain⟨m,e,h⟩:=Fa w r (l++Bn w (Da w l.length v));refine⟨Bn w (Da w l.length v)++m,by rw [Cu,e,Am],?_⟩;rw [Ah,Bo,h,List.length_cons,Nat.mul_add,Nat.mul_one,Nat.add_comm]
theorem Sq(w:Nat):∀(vs:List Bv) (l:List UInt8) (i:Nat) (v:Bv),vs[i]?=some v→At (Cu w l vs) (l.length+i*w) (Bn w (Da w (l.length+i*w) v))
 | [],_,_,_,h=>by simp at h
 |x::r,l,0,v,h=>by
  have e:x=v:=by simpa using h
  subst e;obtain⟨m,e,_⟩:=Fa w r (l++Bn w (Da w l.length x));rw [Cu,e,Nat.zero_mul,Nat.add_zero];exact(At.last _ _).app m
 |x::r,l,i+1,v,h=>by
  have h2:=Sq w r (l++Bn w (Da w l.length x)) i v (by simpa using h);have e:(l++Bn w (Da w l.length x)).length+i*w=l.length+(i+1)*w:=by
   rw [Ah,Bo,Nat.succ_mul];omega
  rw [e] at h2;exact h2
theorem Mt(t:Nat)(len tags:Bool)(l:List Bv)(b:List UInt8):∃m,(Cd t len tags l b).1=b++m:=by
 obtain⟨w,hw⟩:∃w,C3 b.length (if len=true then 1 else 0) none l=w:=⟨_,rfl⟩;simp only [Cd,hw];obtain⟨m,e,_⟩:=Fa w l (Bm w b++(if len=true then Bn w l.length else []));exact⟨_,by rw [e,Bm,Am,Am,Am]⟩
theorem Q9(k:Bv)(l:List Bv)(b:List UInt8):∃m,(Ef k l b).1=b++m:=by
 obtain⟨w,hw⟩:∃w,C3 b.length 3 (some k) l=w:=⟨_,rfl⟩;simp only [Ef,hw];obtain⟨m,e,_⟩:=Fa w l (Bm w b++Bn w ((Bm w b).length-k.n)++Bn w k.w++Bn w l.length);exact⟨Al (Kn w b.length) 0++(Bn w ((Bm w b).length-k.n)++(Bn w k.w++(Bn w l.length++(m++l.map (Dl w))))),by rw [e];simp only [Bm,Am]⟩
def Eu(n:Nat)(v:Bv):Prop:=(inl v.t=true→v.w≤8)∧(inl v.t=false→v.n≤n)
theorem Eu.mono{n n':Nat}{v:Bv}(h:Eu n v)(hn:n≤n'):Eu n' v:=⟨h.1,fun e=>Nat.le_trans (h.2 e) hn⟩
theorem G1(u:Nat):bWidth u≤8:=by unfold bWidth;(repeat' split) <;>omega
theorem Qn(n:Int):bWidthI n≤8:=by unfold bWidthI;(repeat' split) <;>omega
theorem M9(f:Nat→Bool):leastW f≤8:=by unfold leastW;(repeat' split) <;>omega
def Dc(l:List UInt8)(t:Nat)(len tags:Bool)(vs:List Bv)(v:Bv):Prop:=∃b m,l=(Cd t len tags vs b).1++m∧v=(Cd t len tags vs b).2∧∀x∈vs,Eu b.length x
def G5(l:List UInt8)(k:Bv)(vs:List Bv)(v:Bv):Prop:=∃b m,l=(Ef k vs b).1++m∧v=(Ef k vs b).2∧Eu b.length k∧∀x∈vs,Eu b.length x
theorem Dc.app{l:List UInt8}{vs:List Bv}{v:Bv}(h:Dc l t len tags vs v)(x:List UInt8):Dc (l++x) t len tags vs v:=by
 obtain⟨b,m,rfl,rfl,hf⟩:=h;exact⟨b,m++x,by rw [Am],rfl,hf⟩
theorem G5.app{l:List UInt8}{k:Bv}{vs:List Bv}{v:Bv}(h:G5 l k vs v)(x:List UInt8):G5 (l++x) k vs v:=by
 obtain⟨b,m,rfl,rfl,hf⟩:=h;exact⟨b,m++x,by rw [Am],rfl,hf⟩
def Gc(l:List UInt8)(s:List UInt8)(v:Bv):Prop:=v.t=4∧v.w=1∧At l v.n (s++ [0])
def D3(l:List UInt8)(t:Nat)(s z:List UInt8)(v:Bv):Prop:=v.t=t∧v.w=bWidth s.length∧∃c,v.n=c+v.w∧At l c (Bn v.w s.length++s++z)∧c % v.w=0
def Gi(l:List UInt8)(t w n:Nat)(v:Bv):Prop:=v.t=t∧v.w=w∧At l v.n (Bn w (n % 2^(8*w)))∧v.n % w=0
def Dp(l:List UInt8)(ks:List (List UInt8))(vs:List Bv):Prop:=vs.length=ks.length∧∀(i:Nat) s v,ks[i]?=some s→vs[i]?=some v→Gc l s v
theorem Gc.app{l s:List UInt8}{v:Bv}(h:Gc l s v)(x:List UInt8):Gc (l++x) s v:=⟨h.1,h.2.1,h.2.2.app x⟩
theorem D3.app{l:List UInt8}{s:List UInt8}{v:Bv}(h:D3 l t s z v)(x:List UInt8):D3 (l++x) t s z v:=by
 obtain⟨h1,h2,c,h3,h4⟩:=h;exact⟨h1,h2,c,h3,h4.1.app x,h4.2⟩
theorem Gi.app{l:List UInt8}{w n:Nat}{v:Bv}(h:Gi l t w n v)(x:List UInt8):Gi (l++x) t w n v:=⟨h.1,h.2.1,h.2.2.1.app x,h.2.2.2⟩
theorem Dp.app{l:List UInt8}{ks:List (List UInt8)}{vs:List Bv}(h:Dp l ks vs)(x:List UInt8):Dp (l++x) ks vs:=⟨h.1,fun i s v h1 h2=>(h.2 i s v h1 h2).app x⟩
inductive E4(l:List UInt8):Bv→Tr→Prop
 |null (n u s ks c):E4 l ⟨0,1,0⟩ (.mk 1 n u s ks c)
 |truth (n u s ks c):E4 l (Dh n) (.mk 2 n u s ks c)
 |int (n u s ks c):E4 l (C5 n) (.mk 3 n u s ks c)
 |uint (n u s ks c):E4 l (C9 u) (.mk 4 n u s ks c)
 |key {v:Bv} {s:List UInt8} (n u ks c) (h:Gc l s v):E4 l v (.mk 5 n u s ks c)
 |str {v:Bv} {s:List UInt8} (n u ks c) (h:D3 l 5 s [0] v):E4 l v (.mk 6 n u s ks c)
 |blob {v:Bv} {s:List UInt8} (n u ks c) (h:D3 l 25 s [] v):E4 l v (.mk 7 n u s ks c)
 |indInt {v:Bv} {n:Int} (u s ks c) (h:Gi l 6 (bWidthI n) (bits n) v):E4 l v (.mk 8 n u s ks c)
 |indUint {v:Bv} {u:Nat} (n s ks c) (h:Gi l 7 (bWidth u) u v):E4 l v (.mk 9 n u s ks c)
 |ints {v:Bv} {c:List Tr} (n u s ks) (h:Dc l 11 true false (c.map fun t=>C5 t.n) v):E4 l v (.mk 11 n u s ks c)
 |uints {v:Bv} {c:List Tr} (n u s ks) (h:Dc l 12 true false (c.map fun t=>C9 t.u) v):E4 l v (.mk 12 n u s ks c)
 |bools {v:Bv} {c:List Tr} (n u s ks) (h:Dc l 36 true false (c.map fun t=>Dh t.n) v):E4 l v (.mk 14 n u s ks c)
 |keys {v:Bv} {c:List Tr} {vs:List Bv} (n u s ks) (hk:Dp l (c.map Tr.s) vs) (h:Dc l 14 true false vs v):E4 l v (.mk 13 n u s ks c)
 |fixInts {v:Bv} {c:List Tr} (n u s ks) (h:Dc l (10+3*c.length) false false (c.map fun t=>C5 t.n) v):E4 l v (.mk 15 n u s ks c)
 |fixUints {v:Bv} {c:List Tr} (n u s ks) (h:Dc l (11+3*c.length) false false (c.map fun t=>C9 t.u) v):E4 l v (.mk 16 n u s ks c)
 |vec {v:Bv} {c:List Tr} {vs:List Bv} (n u s ks) (hl:vs.length=c.length) (hr:∀(i:Nat) x t,vs[i]?=some x→c[i]?=some t→E4 l x t) (h:Dc l 10 true true vs v):E4 l v (.mk 10 n u s ks c)
 |map {v kv:Bv} {c:List Tr} {ks:List (List UInt8)} {kvs vs:List Bv} (n u s) (hk:Dp l ks kvs) (hv:Dc l 14 true false kvs kv) (hl:vs.length=c.length) (hr:∀(i:Nat) x t,vs[i]?=some x→c[i]?=some t→E4 l x t) (h:G5 l kv vs v):E4 l v (.mk 17 n u s ks c)
theorem E4.app{l:List UInt8}{v:Bv}{t:Tr}(h:E4 l v t)(x:List UInt8):E4 (l++x) v t:=by
 induction h with
 |null=>exact .null _ _ _ _ _
 |truth=>exact .truth _ _ _ _ _
 |int=>exact .int _ _ _ _ _
 |uint=>exact .uint _ _ _ _ _
 |key _ _ _ _ h=>exact .key _ _ _ _ (h.app x)
 |str _ _ _ _ h=>exact .str _ _ _ _ (h.app x)
 |blob _ _ _ _ h=>exact .blob _ _ _ _ (h.app x)
 |indInt _ _ _ _ h=>exact .indInt _ _ _ _ (h.app x)
 |indUint _ _ _ _ h=>exact .indUint _ _ _ _ (h.app x)
 |ints _ _ _ _ h=>exact .ints _ _ _ _ (h.app x)
 |uints _ _ _ _ h=>exact .uints _ _ _ _ (h.app x)
 |bools _ _ _ _ h=>exact .bools _ _ _ _ (h.app x)
 |keys _ _ _ _ hk h=>exact .keys _ _ _ _ (hk.app x) (h.app x)
 |fixInts _ _ _ _ h=>exact .fixInts _ _ _ _ (h.app x)
 |fixUints _ _ _ _ h=>exact .fixUints _ _ _ _ (h.app x)
 |vec _ _ _ _ hl _ h ih=>exact .vec _ _ _ _ hl ih (h.app x)
 |map _ _ _ hk hv hl _ h ih=>exact .map _ _ _ (hk.app x) (hv.app x) hl ih (h.app x)
theorem Rt(t:Nat)(len tags:Bool)(vs:List Bv)(b m:List UInt8):Eu ((Cd t len tags vs b).1++m).length (Cd t len tags vs b).2:=by
 obtain⟨w,a⟩:∃w,C3 b.length (if len=true then 1 else 0) none vs=w:=⟨_,rfl⟩;have d:w≤8:=by rw [←a];exact M9 _
 obtain⟨c,f⟩:∃c,Bm w b++(if len=true then Bn w vs.length else [])=c:=⟨_,rfl⟩;simp only [Cd,a,f];obtain⟨x,e,_⟩:=Fa w vs c;refine⟨fun _=>d,fun _=>?_⟩;rw [e];simp only [Ah];omega
theorem wX(k:Bv)(vs:List Bv)(b m:List UInt8):Eu ((Ef k vs b).1++m).length (Ef k vs b).2:=by
 obtain⟨w,hw⟩:∃w,C3 b.length 3 (some k) vs=w:=⟨_,rfl⟩;have h8:w≤8:=by rw [←hw];exact M9 _
 obtain⟨c,hc⟩:∃c,Bm w b++Bn w ((Bm w b).length-k.n)++Bn w k.w++Bn w vs.length=c:=⟨_,rfl⟩;simp only [Ef,hw,hc];obtain⟨x,e,_⟩:=Fa w vs c;refine⟨fun _=>h8,fun _=>?_⟩;rw [e];simp only [Ah];omega
theorem Dc.fit{l:List UInt8}{vs:List Bv}{v:Bv}(h:Dc l t len tags vs v):Eu l.length v:=by
 obtain⟨b,m,rfl,rfl,_⟩:=h;exact Rt _ _ _ _ _ _
theorem G5.fit{l:List UInt8}{k:Bv}{vs:List Bv}{v:Bv}(h:G5 l k vs v):Eu l.length v:=by
 obtain⟨b,m,rfl,rfl,_⟩:=h;exact wX _ _ _ _
theorem Gc.fit{l s:List UInt8}{v:Bv}(h:Gc l s v):Eu l.length v:=by
 obtain⟨h1,h2,h3⟩:=h;have:=h3.le;exact⟨fun _=>by omega,fun _=>by omega⟩
theorem D3.fit{l:List UInt8}{s:List UInt8}{v:Bv}(h:D3 l t s z v):Eu l.length v:=by
 obtain⟨_,h2,c,h3,h4⟩:=h;have:=h4.1.le;simp only [Ah,Bo] at this;exact⟨fun _=>by rw [h2];exact G1 _,fun _=>by omega⟩
theorem Gi.fit{l:List UInt8}{w n:Nat}{v:Bv}(h:Gi l t w n v)(hw:w≤8):Eu l.length v:=by
 have:=h.2.2.1.le;exact⟨fun _=>by rw [h.2.1];exact hw,fun _=>by omega⟩
theorem Mn(n:Int)(m:Nat):Eu m (C5 n):=⟨fun _=>Qn n,fun h=>absurd h (show ¬inl 1=false by decide)⟩
theorem Ms(u m:Nat):Eu m (C9 u):=⟨fun _=>G1 u,fun h=>absurd h (show ¬inl 2=false by decide)⟩
theorem Rr(n:Int)(m:Nat):Eu m (Dh n):=⟨fun _=>by simp [Dh],fun h=>absurd h (show ¬inl 26=false by decide)⟩
theorem E4.fit{l:List UInt8}{v:Bv}{t:Tr}(h:E4 l v t):Eu l.length v:=by
 cases h with
 |null=>exact⟨fun _=>by simp,fun h=>absurd h (by decide)⟩
 |truth=>exact Rr _ _
 |int=>exact Mn _ _
 |uint=>exact Ms _ _
 |key _ _ _ _ h=>exact h.fit
 |str _ _ _ _ h=>exact h.fit
 |blob _ _ _ _ h=>exact h.fit
 |indInt _ _ _ _ h=>exact h.fit (Qn _)
 |indUint _ _ _ _ h=>exact h.fit (G1 _)
 |ints _ _ _ _ h=>exact h.fit
 |uints _ _ _ _ h=>exact h.fit
 |bools _ _ _ _ h=>exact h.fit
 |keys _ _ _ _ _ h=>exact h.fit
 |fixInts _ _ _ _ h=>exact h.fit
 |fixUints _ _ _ _ h=>exact h.fit
 |vec _ _ _ _ _ _ h=>exact h.fit
 |map _ _ _ _ _ _ _ h=>exact h.fit
theorem Dp.fit{l:List UInt8}{ks:List (List UInt8)}{vs:List Bv}(h:Dp l ks vs):∀x∈vs,Eu l.length x:=by
 intro x hx;obtain⟨i,hi,e⟩:=List.getElem_of_mem hx;have hk:i<ks.length:=by rw [←h.1];exact hi
 exact(h.2 i ks[i] x (Ag hk) (by rw [Ag hi,e])).fit
theorem Ow{l:List UInt8}{c:List Tr}{vs:List Bv}(hl:vs.length=c.length)(h:∀(i:Nat) x t,vs[i]?=some x→c[i]?=some t→E4 l x t):∀x∈vs,Eu l.length x:=by
 intro x hx;obtain⟨i,hi,e⟩:=List.getElem_of_mem hx;have hk:i<c.length:=by rw [←hl];exact hi
 exact(h i x c[i] (by rw [Ag hi,e]) (Ag hk)).fit
def Dg(ks:List (List UInt8)):List UInt8:=ks.flatMap fun s=>s++ [0]
structure Dr(b:Bd):Prop where
 keys:∀s a,Cf b.keys s=some a→At b.b a (s++ [0])
 texts:∀s a,Cf b.texts s=some a→D3 b.b 5 s [0] ⟨5,bWidth s.length,a⟩
 lists:∀ks:List (List UInt8),(∀s∈ks,(0:UInt8)∉s)→∀i,Cf b.lists (Dg ks)=some i→∃kv kvs,b.vals[i]?=some kv∧Dp b.b ks kvs∧Dc b.b 14 true false kvs kv
 vals:∀s i,Cf b.lists s=some i→i<b.vals.length
theorem Oh:Dr Bd.new:=⟨fun _ _ h=>by simp [Bd.new,Cf] at h,fun _ _ h=>by simp [Bd.new,Cf] at h,fun _ _ _ h=>by simp [Bd.new,Cf] at h,fun _ _ h=>by simp [Bd.new,Cf] at h⟩
theorem Dr.app{b b':Bd}(h:Dr b)(x:List UInt8)(hb:b'.b=b.b++x)(hk:b'.keys=b.keys)(ht:b'.texts=b.texts)(hl:b'.lists=b.lists)(hv:b'.vals=b.vals):Dr b':=by
 refine⟨fun s a e=>?_,fun s a e=>?_,fun ks h0 i e=>?_,fun s i e=>?_⟩
 ·rw [hb];rw [hk] at e;exact(h.keys s a e).app x
 ·rw [hb];rw [ht] at e;exact(h.texts s a e).app x
 ·rw [hl] at e;obtain⟨d,c,h1,h2,h3⟩:=h.lists ks h0 i e;rw [hb,hv];exact⟨d,c,h1,h2.app x,h3.app x⟩
 ·rw [hl] at e;rw [hv];exact h.vals s i e
theorem Jw{l:List (List UInt8×Nat)}{k s:List UInt8}(h:Cf (Fu l k a) s=some c):Cf l s=some c∨(s=k∧c=a):=by
 unfold Fu at h;split at h
 ·exact Or.inl h
 ·rw [Cf,List.find?_append] at h;cases hg:l.find? (fun x=>x.1==s) with
  |some y=>
   rw [hg] at h;left;rw [Cf,hg];simpa using h
  |none=>
   rw [hg] at h;right;by_cases hs:k=s
   ·subst hs;simp at h;exact⟨rfl,h.symm⟩
   ·simp [hs] at h
def Hj(b b':Bd):Prop:=(∃m,b'.b=b.b++m)∧Dr b'
theorem Hj.trans{a b c:Bd}(h:Hj a b)(h':Hj b c):Hj a c:=by
 obtain⟨⟨m,e⟩,_⟩:=h;obtain⟨⟨m',e'⟩,g⟩:=h';exact⟨⟨m++m',by rw [e',e,Am]⟩,g⟩
theorem Hj.rep{b b':Bd}(h:Hj b b'){v:Bv}{t:Tr}(r:E4 b.b v t):E4 b'.b v t:=by
 obtain⟨⟨m,e⟩,_⟩:=h;rw [e];exact r.app m
theorem T9(f:Nat)(s:List UInt8)(b:Bd)(h:Dr b):Hj b (b.put f s).1∧Gc (b.put f s).1.b s (b.put f s).2∧(b.put f s).1.s=b.s:=by
 unfold Bd.put;split
 ·next a ha=>
  split at ha
  ·exact⟨⟨⟨[],by simp⟩,h⟩,⟨rfl,rfl,h.keys s a ha⟩,rfl⟩
  ·cases ha
 ·refine⟨⟨⟨s++ [0],by simp⟩,⟨fun k a e=>?_,fun k a e=>?_,fun ks h0 i e=>?_,fun k i e=>h.vals k i e⟩⟩,⟨rfl,rfl,?_⟩,rfl⟩
  ·rcases Jw e with e|⟨rfl,rfl⟩
   ·have:=(h.keys k a e).app (s++ [0])
    rwa [←Am] at this
   ·have:=At.last b.b (k++ [0])
    rwa [←Am] at this
  ·have:=(h.texts k a e).app (s++ [0])
   rwa [←Am] at this
  ·obtain⟨d,c,h1,h2,h3⟩:=h.lists ks h0 i e;have h2:=h2.app (s++ [0]);have h3:=h3.app (s++ [0]);rw [←Am] at h2 h3;exact⟨d,c,h1,h2,h3⟩
  ·have:=At.last b.b (s++ [0])
   rwa [←Am] at this
theorem Sw{b:Bd}(h:Dr b)(v:Bv):Dr (b.push v):=h.app [] (by simp [Bd.push]) rfl rfl rfl rfl
theorem P4(f:Nat)(s:List UInt8)(b:Bd)(h:Dr b):∃v,(b.key f s).s=b.s++ [v]∧Hj b (b.key f s)∧Gc (b.key f s).b s v:=by
 obtain⟨⟨h1,h2⟩,h3,h4⟩:=T9 f s b h;exact⟨(b.put f s).2,by simp [Bd.key,Bd.push,h4],⟨h1,Sw h2 _⟩,h3⟩
theorem Rk(f:Nat):∀(ks:List (List UInt8)) (b:Bd),Dr b→Hj b (b.puts f ks).1∧Dp (b.puts f ks).1.b ks (b.puts f ks).2∧(b.puts f ks).1.s=b.s
 | [],b,h=>⟨⟨⟨[],by simp [Bd.puts]⟩,h⟩,⟨rfl,fun i s v h=>by simp at h⟩,rfl⟩
 |s::r,b,h=>by
  obtain⟨c,k,g⟩:=T9 f s b h;obtain⟨d,a,j⟩:=Rk f r (b.put f s).1 c.2;refine⟨c.trans d,⟨by simp [Bd.puts,a.1],fun i x v hx hv=>?_⟩,j.trans g⟩;cases i with
  |zero=>
   simp only [Bd.puts,List.getElem?_cons_zero,Option.some.injEq] at hx hv;subst hx hv;obtain⟨⟨m,e⟩,_⟩:=d;simp only [Bd.puts,e];exact k.app m
  |succ i=>
   simp only [Bd.puts,List.getElem?_cons_succ] at hx hv;exact a.2 i x v hx hv
theorem Lg(t:Nat)(len tags:Bool)(l:List Bv)(b:Bd)(h:Dr b)(hf:∀x∈l,Eu b.b.length x):∃v,(b.vec t len tags l).s=b.s++ [v]∧Hj b (b.vec t len tags l)∧Dc (b.vec t len tags l).b t len tags l v:=by
 obtain⟨m,e⟩:=Mt t len tags l b.b;exact⟨(Cd t len tags l b.b).2,rfl,⟨⟨m,e⟩,h.app m e rfl rfl rfl rfl⟩,b.b,[],by simp [Bd.vec],rfl,hf⟩
theorem Sb{w:Nat}(hw:w=1∨w=2∨w=4∨w=8)(l:List UInt8):(Bm w l).length % w=0:=by
 simp only [Bm,Ah,List.length_replicate,Kn];rcases hw with rfl|rfl|rfl|rfl <;>omega
theorem M6(u:Nat):bWidth u=1∨bWidth u=2∨bWidth u=4∨bWidth u=8:=by unfold bWidth;(repeat' split) <;>simp
theorem V6(n:Int):bWidthI n=1∨bWidthI n=2∨bWidthI n=4∨bWidthI n=8:=by unfold bWidthI;(repeat' split) <;>simp
theorem Vt(t:Nat)(s z:List UInt8)(l:List UInt8):D3 (Bm (bWidth s.length) l++Bn (bWidth s.length) s.length++s++z) t s z ⟨t,bWidth s.length,(Bm (bWidth s.length) l++Bn (bWidth s.length) s.length).length⟩:=by
 refine⟨rfl,rfl,(Bm (bWidth s.length) l).length,by rw [Ah,Bo],?_,Sb (M6 _) l⟩;have:=At.last (Bm (bWidth s.length) l) (Bn (bWidth s.length) s.length++s++z);simpa only [Am] using this
theorem bD(s:List UInt8)(b:Bd)(h:Dr b):∃v,(b.blob s).s=b.s++ [v]∧Hj b (b.blob s)∧D3 (b.blob s).b 25 s [] v:=by
 have e:(b.blob s).b=b.b++(Al (Kn (bWidth s.length) b.b.length) 0++(Bn (bWidth s.length) s.length++s)):=by simp only [Bd.blob,Bm,Am]
 refine⟨_,rfl,⟨⟨_,e⟩,h.app _ e rfl rfl rfl rfl⟩,?_⟩;have:=Vt 25 s [] b.b;rw [List.append_nil] at this;exact this
theorem lD(f:Nat)(s:List UInt8)(b:Bd)(h:Dr b):∃v,(b.str f s).s=b.s++ [v]∧Hj b (b.str f s)∧D3 (b.str f s).b 5 s [0] v:=by
 unfold Bd.str;simp only [];split
 ·next a ha=>
  split at ha
  ·exact⟨_,rfl,⟨⟨[],by simp [Bd.push]⟩,Sw h _⟩,h.texts s a ha⟩
  ·cases ha
 ·have e:Bm (bWidth s.length) b.b++Bn (bWidth s.length) s.length++s++ [0]=b.b++(Al (Kn (bWidth s.length) b.b.length) 0++(Bn (bWidth s.length) s.length++(s++ [0]))):=by simp only [Bm,Am]
  refine⟨_,rfl,⟨⟨_,e⟩,⟨fun k a i=>?_,fun k a i=>?_,fun ks h0 i j=>?_,fun k i j=>h.vals k i j⟩⟩,Vt 5 s [0] b.b⟩
  ·exact e▸(h.keys k a i).app _
  ·rcases Jw i with i|⟨rfl,rfl⟩
   ·exact e▸(h.texts k a i).app _
   ·exact Vt 5 k [0] b.b
  ·obtain⟨d,c,h1,h2,h3⟩:=h.lists ks h0 i j;exact⟨d,c,h1,e▸h2.app _,e▸h3.app _⟩
theorem Y0(t w n:Nat)(b:Bd)(h:Dr b)(hw:w=1∨w=2∨w=4∨w=8):∃v,(b.apart t w n).s=b.s++ [v]∧Hj b (b.apart t w n)∧Gi (b.apart t w n).b t w n v:=by
 have e:(b.apart t w n).b=b.b++(Al (Kn w b.b.length) 0++Bn w (n % 2^(8*w))):=by simp only [Bd.apart,Bm,Am]
 exact⟨_,rfl,⟨⟨_,e⟩,h.app _ e rfl rfl rfl rfl⟩,rfl,rfl,At.last _ _,Sb hw _⟩
inductive Ok:Tr→Prop
 |leaf {k:Int} (n u s ks c) (h1:1≤k) (h2:k≤9):Ok (.mk k n u s ks c)
 |flat {k:Int} (n u s ks c) (h1:11≤k) (h2:k≤16):Ok (.mk k n u s ks c)
 |vec {c:List Tr} (n u s ks) (h:∀t∈c,Ok t):Ok (.mk 10 n u s ks c)
 |map {c:List Tr} {ks:List (List UInt8)} (n u s) (hl:ks.length=c.length) (h0:∀x∈ks,(0:UInt8)∉x) (h:∀t∈c,Ok t):Ok (.mk 17 n u s ks c)
def Pj(f:Nat)(t:Tr):Prop:=∀b,Dr b→∃v,(Bd.calls f t b).s=b.s++ [v]∧Hj b (Bd.calls f t b)∧E4 (Bd.calls f t b).b v t
theorem eG(f:Nat){k:Int}(n:Int)(u:Nat)(s:List UInt8)(ks:List (List UInt8))(c:List Tr)(h1:1≤k)(h2:k≤9)(b:Bd)(h:Dr b):∃v,(b.leaf f k n u s).s=b.s++ [v]∧Hj b (b.leaf f k n u s)∧E4 (b.leaf f k n u s).b v (.mk k n u s ks c):=by
 have d:∀v,Hj b (b.push v):=fun v=>⟨⟨[],by simp [Bd.push]⟩,Sw h v⟩
 obtain rfl|rfl|rfl|rfl|rfl|rfl|rfl|rfl|rfl:k=1∨k=2∨k=3∨k=4∨k=5∨k=6∨k=7∨k=8∨k=9:=by omega
 ·exact⟨_,rfl,d _,.null _ _ _ _ _⟩
 ·exact⟨_,rfl,d _,.truth _ _ _ _ _⟩
 ·exact⟨_,rfl,d _,.int _ _ _ _ _⟩
 ·exact⟨_,rfl,d _,.uint _ _ _ _ _⟩
 ·obtain⟨v,e,a,k⟩:=P4 f s b h;exact⟨v,e,a,.key _ _ _ _ k⟩
 ·obtain⟨v,e,a,k⟩:=lD f s b h;exact⟨v,e,a,.str _ _ _ _ k⟩
 ·obtain⟨v,e,a,k⟩:=bD s b h;exact⟨v,e,a,.blob _ _ _ _ k⟩
 ·obtain⟨v,e,a,k⟩:=Y0 6 (bWidthI n) (bits n) b h (V6 n);exact⟨v,e,a,.indInt _ _ _ _ k⟩
 ·obtain⟨v,e,a,k⟩:=Y0 7 (bWidth u) u b h (M6 u);exact⟨v,e,a,.indUint _ _ _ _ k⟩
theorem wH(f:Nat){k:Int}(n:Int)(u:Nat)(s:List UInt8)(ks:List (List UInt8))(c:List Tr)(h1:11≤k)(h2:k≤16)(b:Bd)(h:Dr b):∃v,(b.flat f k c).s=b.s++ [v]∧Hj b (b.flat f k c)∧E4 (b.flat f k c).b v (.mk k n u s ks c):=by
 obtain rfl|rfl|rfl|rfl|rfl|rfl:k=11∨k=12∨k=13∨k=14∨k=15∨k=16:=by omega
 ·obtain⟨v,e,a,k⟩:=Lg 11 true false (c.map fun t=>C5 t.n) b h (fun x hx=>by obtain⟨t,_,rfl⟩:=List.mem_map.1 hx;exact Mn _ _);exact⟨v,e,a,.ints _ _ _ _ k⟩
 ·obtain⟨v,e,a,k⟩:=Lg 12 true false (c.map fun t=>C9 t.u) b h (fun x hx=>by obtain⟨t,_,rfl⟩:=List.mem_map.1 hx;exact Ms _ _);exact⟨v,e,a,.uints _ _ _ _ k⟩
 ·obtain⟨g,d,i⟩:=Rk f (c.map Tr.s) b h;obtain⟨v,e,a,k⟩:=Lg 14 true false (b.puts f (c.map Tr.s)).2 (b.puts f (c.map Tr.s)).1 g.2 d.fit;refine⟨v,e.trans (by rw [i]),g.trans a,.keys _ _ _ _ ?_ k⟩;obtain⟨⟨m,j⟩,_⟩:=a;exact j▸d.app m
 ·obtain⟨v,e,a,k⟩:=Lg 36 true false (c.map fun t=>Dh t.n) b h (fun x hx=>by obtain⟨t,_,rfl⟩:=List.mem_map.1 hx;exact Rr _ _);exact⟨v,e,a,.bools _ _ _ _ k⟩
 ·obtain⟨v,e,a,k⟩:=Lg (10+3*c.length) false false (c.map fun t=>C5 t.n) b h (fun x hx=>by obtain⟨t,_,rfl⟩:=List.mem_map.1 hx;exact Mn _ _);exact⟨v,e,a,.fixInts _ _ _ _ k⟩
 ·obtain⟨v,e,a,k⟩:=Lg (11+3*c.length) false false (c.map fun t=>C9 t.u) b h (fun x hx=>by obtain⟨t,_,rfl⟩:=List.mem_map.1 hx;exact Ms _ _);exact⟨v,e,a,.fixUints _ _ _ _ k⟩
theorem Lk(f:Nat):∀(c:List Tr),(∀t∈c,Pj f t)→∀b,Dr b→∃vs,(Bd.callsL f c b).s=b.s++vs∧vs.length=c.length∧Hj b (Bd.callsL f c b)∧∀(i:Nat) x t,vs[i]?=some x→c[i]?=some t→E4 (Bd.callsL f c b).b x t
 | [],_,b,h=>⟨[],by simp [Bd.callsL],rfl,⟨⟨[],by simp [Bd.callsL]⟩,h⟩,fun i x t h=>by simp at h⟩
 |t::r,hd,b,h=>by
  obtain⟨v,e,a,k⟩:=hd t (by simp) b h;obtain⟨vs,g,j,d,l⟩:=Lk f r (fun t ht=>hd t (by simp [ht])) (Bd.calls f t b) a.2;refine⟨v::vs,by rw [Bd.callsL,g,e,Am];rfl,by simp [j],by rw [Bd.callsL];exact a.trans d,fun i x t' hx ht=>?_⟩;rw [Bd.callsL];cases i with
  |zero=>
   simp only [List.getElem?_cons_zero,Option.some.injEq] at hx ht;subst hx ht;exact d.rep k
  |succ i=>
   simp only [List.getElem?_cons_succ] at hx ht;exact l i x t' hx ht
def E6:List Bv→List Bv→List Bv
 |k::r,v::q=>k::v::E6 r q
 |_,_=>[]
theorem I7:∀(ks vs:List Bv),ks.length=vs.length→Lp (E6 ks vs)=ks∧Re (E6 ks vs)=vs
 | [],[],_=>⟨rfl,rfl⟩
 |k::r,v::q,h=>by
  obtain⟨h1,h2⟩:=I7 r q (by simpa using h);refine⟨by simp [E6,Lp,h1],?_⟩;simp only [E6,Re,List.tail_cons];cases r with
  |nil=>
   cases q with
   |nil=>rfl
   |cons _ _=>simp at h
  |cons a r=>
   cases q with
   |nil=>simp at h
   |cons b q=>
    simp only [E6,Re,List.tail_cons] at h2;simp only [E6,Lp,h2]
theorem J4(f:Nat):∀(c:List Tr) (ks:List (List UInt8)),ks.length=c.length→(∀t∈c,Pj f t)→∀b,Dr b→∃kvs vs,(Bd.callsM f ks c b).s=b.s++E6 kvs vs∧vs.length=c.length∧Hj b (Bd.callsM f ks c b)∧Dp (Bd.callsM f ks c b).b ks kvs∧∀(i:Nat) x t,vs[i]?=some x→c[i]?=some t→E4 (Bd.callsM f ks c b).b x t
 | [],ks,hk,_,b,h=>by
  obtain rfl:ks=[]:=List.eq_nil_of_length_eq_zero hk;exact⟨[],[],by simp [Bd.callsM,E6],rfl,⟨⟨[],by simp [Bd.callsM]⟩,h⟩,⟨rfl,fun i x t h=>by simp at h⟩,fun i x t h=>by simp at h⟩
 |t::r,[],hk,_,_,_=>by simp at hk
 |t::r,s::ks,hk,hd,b,h=>by
  obtain⟨q,j,g,p⟩:=P4 f s b h;obtain⟨v,k,a,w⟩:=hd t (by simp) (b.key f s) g.2;obtain⟨kvs,vs,l,u,d,e,y⟩:=J4 f r ks (by simpa using hk) (fun t ht=>hd t (by simp [ht])) (Bd.calls f t (b.key f s)) a.2;have n:Bd.callsM f (s::ks) (t::r) b=Bd.callsM f ks r (Bd.calls f t (b.key f s)):=by rw [Bd.callsM];rfl
  rw [n];refine⟨q::kvs,v::vs,by rw [l,k,j];simp [E6],by simp [u],(g.trans a).trans d,⟨by simp [e.1],fun i x v' hx hv=>?_⟩,fun i x t' hx ht=>?_⟩
  ·cases i with
   |zero=>
    simp only [List.getElem?_cons_zero,Option.some.injEq] at hx hv;subst hx hv;obtain⟨⟨m,o⟩,_⟩:=a.trans d;rw [o];exact p.app m
   |succ i=>
    simp only [List.getElem?_cons_succ] at hx hv;exact e.2 i x v' hx hv
  ·cases i with
   |zero=>
    simp only [List.getElem?_cons_zero,Option.some.injEq] at hx ht;subst hx ht;exact d.rep w
   |succ i=>
    simp only [List.getElem?_cons_succ] at hx ht;exact y i x t' hx ht
end
end Go.Proofs.YtejpbijeifjdeaaGreat
