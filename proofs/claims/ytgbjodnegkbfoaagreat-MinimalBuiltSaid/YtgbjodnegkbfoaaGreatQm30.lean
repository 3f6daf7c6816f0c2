/- Parts of the proof. -/
import Derived.Test.YtgbjodnegkbfoaaGreatQm12
set_option maxHeartbeats 4000000
set_option maxRecDepth 100000
open Go.Value renaming int→Aa
open Go.IntKind renaming i64→Ab,u64→Ac
open Nat renaming le_refl→Asp
open List renaming getElem?_eq_getElem→Asq,length_append→Ass,take_of_length_le→Asy,take_succ_eq_append_getElem→Asz
namespace Go.Proofs.YtgbjodnegkbfoaaGreat
open Go.RowKit Go.Acc
def Ha:Zb:=⟨5,61,60,70,71⟩
def Mn(c d:Nat)(t:Tr):Int:=if 4096<c+1 then 5 else if 64≤d then 61 else if Fi t=false then 60 else Hx 70 71 t
def Hw:List (Nat×Tr)→Nat→Int
 | [],_=>0
 |x::r,c=>if Mn c x.1 x.2≠0 then Mn c x.1 x.2 else Hw r (c+1)
theorem S1:∀(a b:List (Nat×Tr)) (c:Nat),Hw (a++b) c=if Hw a c≠0 then Hw a c else Hw b (c+a.length)
 | [],b,c=>by simp [Hw]
 |x::r,b,c=>by
  rw [List.cons_append,Hw,Hw,S1 r b (c+1),List.length_cons];by_cases h:Mn c x.1 x.2=0
  ·have hn:¬Mn c x.1 x.2≠0:=fun e=>e h
   simp only [if_neg hn];rw [show c+1+r.length=c+(r.length+1) by omega]
  ·have hp:Mn c x.1 x.2≠0:=h;simp only [if_pos hp]
mutual
theorem Adn:∀(t:Tr) (d c:Nat),(Hk Ha d t c).1=Hw (Tr.pre d t) c∧((Hk Ha d t c).1=0→(Hk Ha d t c).2=c+(Tr.pre d t).length)
 | .mk k n u s ks l,d,c=>by
  obtain⟨i1,i2⟩:=Zj l (d+1) (c+1);rw [Hk,Tr.pre,Hw];simp only [];by_cases h1:c+1>4096
  ·have e:Mn c d (.mk k n u s ks l)=5:=if_pos h1;rw [if_pos h1,e,if_pos (by decide)];exact⟨rfl,fun h=>absurd h (show ¬(_:Int)=0 from by simp [Ha])⟩
  rw [if_neg h1];by_cases h2:d≥64
  ·have e:Mn c d (.mk k n u s ks l)=61:=by unfold Mn;rw [if_neg h1,if_pos h2]
   rw [if_pos h2,e,if_pos (by decide)];exact⟨rfl,fun h=>absurd h (show ¬(_:Int)=0 from by simp [Ha])⟩
  rw [if_neg h2];by_cases h3:Fi (.mk k n u s ks l)=false
  ·have e:Mn c d (.mk k n u s ks l)=60:=by unfold Mn;rw [if_neg h1,if_neg h2,if_pos h3]
   rw [if_pos h3,e,if_pos (by decide)];exact⟨rfl,fun h=>absurd h (show ¬(_:Int)=0 from by simp [Ha])⟩
  rw [if_neg h3];have e:Mn c d (.mk k n u s ks l)=Hx 70 71 (.mk k n u s ks l):=by unfold Mn;rw [if_neg h1,if_neg h2,if_neg h3]
  rw [e];by_cases h4:Hx Ha.key Ha.twice (.mk k n u s ks l)≠0
  ·have h4':Hx 70 71 (.mk k n u s ks l)≠0:=h4;rw [if_pos h4,if_pos h4'];exact⟨rfl,fun h=>absurd h h4⟩
  ·have h4':¬Hx 70 71 (.mk k n u s ks l)≠0:=h4;rw [if_neg h4,if_neg h4'];refine⟨i1,fun h=>?_⟩;rw [i2 h,List.length_cons];omega
theorem Zj:∀(l:List Tr) (d c:Nat),(Oi Ha d l c).1=Hw (Tr.pre.Tr.preL d l) c∧((Oi Ha d l c).1=0→(Oi Ha d l c).2=c+(Tr.pre.Tr.preL d l).length)
 | [],d,c=>by rw [Oi,Tr.pre.Tr.preL];exact⟨rfl,fun _=>rfl⟩
 |t::r,d,c=>by
  obtain⟨a1,a2⟩:=Adn t d c;rw [Oi,Tr.pre.Tr.preL,S1,←a1];by_cases h:(Hk Ha d t c).1≠0
  ·rw [if_pos h,if_pos h];exact⟨rfl,fun e=>absurd e h⟩
  ·rw [if_neg h,if_neg h];have a2:=a2 (by simpa using h);rw [a2];obtain⟨b1,b2⟩:=Zj r d (c+(Tr.pre d t).length);refine⟨b1,fun e=>?_⟩;rw [b2 e,Ass];omega
end
theorem Un{f:Nat→Int}{T:List (Nat×Tr)}(h:∀i x,T[i]?=some x→f i=Mn i x.1 x.2):∀m,m≤T.length→Hu f m=Hw (T.take m) 0
 |0,_=>by simp [Hu,Hw]
 |m+1,hm=>by
  rw [Asz (by omega),S1,Hu,Un h m (by omega)];have e:Hw [T[m]] (0+(T.take m).length)=f m:=by
   rw [Hw,Hw,h m T[m] (Asq (by omega)),List.length_take,Nat.min_eq_left (by omega),Nat.zero_add];by_cases h0:Mn m T[m].1 T[m].2=0
   ·rw [if_neg (by simp [h0]),h0]
   ·rw [if_pos h0]
  rw [e]
def K1(w:World)(p:Nat→Prop)(ys:List (Nat×Nv))(T:List (Nat×Tr)):Prop:=ys.length=T.length∧∀(i:Nat) y,ys[i]?=some y→∃t',T[i]?=some (y.1,t')∧Bm w p y.2 t'
theorem K1.app{w:World}{p:Nat→Prop}{ys zs:List (Nat×Nv)}{T U:List (Nat×Tr)}(h:K1 w p ys T)(k:K1 w p zs U):K1 w p (ys++zs) (T++U):=by
 refine⟨by rw [Ass,Ass,h.1,k.1],fun i y hy=>?_⟩;rcases Nat.lt_or_ge i ys.length with hi|hi
 ·rw [List.getElem?_append_left hi] at hy;rw [List.getElem?_append_left (by rw [←h.1];exact hi)];exact h.2 i y hy
 ·rw [List.getElem?_append_right hi] at hy;rw [List.getElem?_append_right (by rw [←h.1];exact hi),←h.1];exact k.2 _ y hy
theorem Sb{w:World}{p:Nat→Prop}{d:Nat}:∀(l:List Tr) (yss:List (List (Nat×Nv))),yss.length=l.length→(∀(i:Nat) t ys,l[i]?=some t→yss[i]?=some ys→K1 w p ys (Tr.pre d t))→K1 w p yss.flatten (Tr.pre.Tr.preL d l)
 | [],[],_,_=>⟨rfl,fun i y h=>by simp at h⟩
 | [],_::_,h,_=>by simp at h
 |_::_,[],h,_=>by simp at h
 |t::r,ys::yss,hl,h=>by
  rw [Tr.pre.Tr.preL,List.flatten_cons];exact(h 0 t ys rfl rfl).app (Sb r yss (by simpa using hl) fun i t' ys' h1 h2=>h (i+1) t' ys' (by simpa using h1) (by simpa using h2))
theorem F4.read{w:World}{p:Nat→Prop}{d:Nat}{x:Nv}{t:Tr}{ys:List (Nat×Nv)}(h:F4 w p d x t ys):Bm w p x t:=by
 induction h with
 | @mk d x ks l vs yss h1 ha hac hx h2 hb hbc hy hl hyl hc ih=>
  refine .mk h1 ha hac hx h2 hb hbc hy hl fun i v t hv ht=>?_
  have hi:i<yss.length:=by rw [hyl];exact(List.getElem?_eq_some_iff.1 ht).1
  exact ih i v t yss[i] hv ht (Asq hi)
theorem F4.nodes{w:World}{p:Nat→Prop}{d:Nat}{x:Nv}{t:Tr}{ys:List (Nat×Nv)}(h:F4 w p d x t ys):K1 w p ys (Tr.pre d t):=by
 induction h with
 | @mk d x ks l vs yss h1 ha hac hx h2 hb hbc hy hl hyl hc ih=>
  have hr:=(F4.mk h1 ha hac hx h2 hb hbc hy hl hyl hc).read;have hf:=Sb l yss hyl fun i t ys ht hys=>by
   have hi:i<vs.length:=by rw [hl];exact(List.getElem?_eq_some_iff.1 ht).1
   exact ih i vs[i] t ys (Asq hi) ht hys
  rw [Tr.pre];exact K1.app (ys:=[(d,x)]) (T:=[(d,.mk x.k x.n x.u x.s ks l)]) ⟨rfl,fun i y hy=>by
   cases i with
   |zero=>simp at hy;subst hy;exact⟨_,rfl,hr⟩
   |succ i=>simp at hy⟩ hf
theorem Alk{Y:List (Nat×Nv)}{T:List (Nat×Tr)}{sb:Nat→Bool}{ke:Nat→Int}(hl:Y.length=T.length)(h:∀(i:Nat) y x,Y[i]?=some y→T[i]?=some x→x.1=y.1∧sb i=Fi x.2∧ke i=Hx 70 71 x.2):Hu (Qb Y sb ke) Y.length=Hw T 0:=by
 rw [Un (T:=T) ?_ Y.length (Nat.le_of_eq hl),Asy (Nat.le_of_eq hl.symm)];intro i x hx;have hi:i<Y.length:=by rw [hl];exact(List.getElem?_eq_some_iff.1 hx).1
 obtain⟨e1,e2,e3⟩:=h i Y[i] x (Asq hi) hx;unfold Qb;rw [dif_pos hi];unfold Sy Mn;simp only [];rw [e1,e2,e3];rfl
def Ey(p k:Int):Bool:=(p != 0)&&(k != p)
theorem Agw(h:Nat)(p:Int)(x:Nv)(w:World)(hb:Ag w h 3 #[Aa Ab p]):
  Calls Tryz.prog 119 #[.agg #[Aa Ab x.k,Aa Ab x.n,Aa Ac (x.u:Int),.string ⟨x.s.toArray⟩,.slice x.A x.an x.ac,.slice x.B x.bn x.bc],.pointer (some ⟨h,0,none⟩)] w fun e w'=>e= .returned (.bool (Ey p x.k))∧Below w.heap.size w w':=by
 have HB:=Hd (show Below w.heap.size w (w.alloc (.cells #[Aa Ab x.k,Aa Ab x.n,Aa Ac (x.u:Int),.string ⟨x.s.toArray⟩,.slice x.A x.an x.ac,.slice x.B x.bn x.bc] 26)) from(Below.refl _ _).alloc (Asp _) _);have p0:=Ar (.cells #[Aa Ab x.k,Aa Ab x.n,Aa Ac (x.u:Int),.string ⟨x.s.toArray⟩,.slice x.A x.an x.ac,.slice x.B x.bn x.bc] 26) (show w.cell? ⟨h,0,none⟩=some (Aa Ab p) from hb.cell 0);obtain⟨r,hr⟩:∃r,Ey p x.k=r:=⟨_,rfl⟩;rw [hr];unfold Ey at hr;obtain⟨b1,h1⟩:∃b,(p != 0)=b:=⟨_,rfl⟩;obtain⟨b2,h2⟩:∃b,(x.k != p)=b:=⟨_,rfl⟩;rw [h1,h2] at hr;have HR:=Hd hr;clear hb hr;cases b1 with
 |true=>
  cases b2 with
  |true=>
   go_enter Tryz.func119,Tryz.ntmps119;go_wp2;go_ret;exact⟨Ct HR.o,HB.o⟩
  |false=>
   go_enter Tryz.func119,Tryz.ntmps119;go_wp2;go_ret;exact⟨Ct HR.o,HB.o⟩
 |false=>
  go_enter Tryz.func119,Tryz.ntmps119;go_wp2;go_ret;exact⟨Ct HR.o,HB.o⟩
theorem Ais(h:Nat)(p:Int)(B:Option Addr)(bn bc:Nat)(vs:List Nv)(w:World)(hI:Fb w B bn vs)(hn:bn≤1099511627776)(hb:Ag w h 3 #[Aa Ab p]):
  Calls Tryz.prog 202 #[.slice B bn bc,.func (.func 119) #[] #[.pointer (some ⟨h,0,none⟩)]] w fun e w'=>∃i:Int,e= .returned (Aa Ab i)∧decide (0≤i)=vs.any (fun v=>Ey p v.k)∧Below w.heap.size w w':=by
 have HI:=Hd hI;have HP:=Hd hb;have HL:=Hd hI.1;clear hI hb;go_enter Tryz.func202,Tryz.ntmps202;go_wp2_with fail;go_loopw [8] (fun u wr=>∃k:Nat,k≤bn∧u= Aa Ab k∧Below w.heap.size w wr∧∀v∈vs.take k,Ey p v.k=false) (fun u _=>bn-(intOf u).toNat)
 case atStart=>exact⟨0,Nat.zero_le _,rfl,Below.refl _ _,fun v h=>by simp at h⟩
 case round=>
  obtain⟨k,hk,rfl,hbr,hall⟩:=hrel;have HBR:=Hd hbr;have HALL:=Hd hall;have hI2:=HI.o.pure hbr;have HP2:=Hd (HP.o.pure hbr);clear hbr hall;by_cases hlt:k<bn
  ·obtain⟨v,hv⟩:∃v,vs[k]?=some v:=⟨_,Asq (by have:=HL.o;omega)⟩;obtain⟨g,off,rfl,v0,v1,v2,v3,v4,v5⟩:=Gt hI2 hv;have HV:=Hd hv;obtain⟨r,hr⟩:∃r,Ey p v.k=r:=⟨_,rfl⟩;have HR:=Hd hr;have hk0:(0:Int)≤(k:Int):=by omega
   have hkn:(k:Int)<(bn:Int):=by omega
   have hcal:=Agw h p v wr HP2.o;rw [hr] at hcal;have HC:=Hd hcal;clear hr hcal hI2 hv;cases r with
   |true=>
    go_wp2_with fail;go_at_call 119;refine HC.o.mono ?_;rintro e w2 ⟨rfl,hb2⟩;have HB2:=Hd (Ad HBR.o hb2);clear hb2 v0 v1 v2 v3 v4 v5;go_wp2_with fail;go_ret;refine⟨k,rfl,?_,HB2.o⟩;rw [decide_eq_true (by omega)];exact(List.any_eq_true.2 ⟨v,List.mem_of_getElem? HV.o,HR.o⟩).symm
   |false=>
    go_wp2_with fail;go_at_call 119;refine HC.o.mono ?_;rintro e w2 ⟨rfl,hb2⟩;have HB2:=Hd (Ad HBR.o hb2);clear hb2 v0 v1 v2 v3 v4 v5;go_wp2_with fail;go_roundw
    case rel=>
     refine⟨k+1,by omega,by go_num,HB2.o,?_⟩;intro x hx;obtain⟨h1,h2⟩:=List.getElem?_eq_some_iff.1 HV.o;rw [Asz h1,h2] at hx;rcases List.mem_append.1 hx with hx|hx
     ·exact HALL.o x hx
     ·rw [List.mem_singleton.1 hx];exact HR.o
    case measure=>simp [intOf];omega
  ·have hd1:decide ((k:Int)<(bn:Int))=false:=decide_eq_false (by omega);have hd2:decide (k<bn)=false:=decide_eq_false (by omega);have HT:=Hd (show vs.take k=vs from Asy (by have:=HL.o;omega));clear hI2;go_wp2_with fail;go_ret;refine⟨-1,rfl,?_,HBR.o⟩;rw [decide_eq_false (by omega)];symm;rw [List.any_eq_false];intro x hx;have:=HALL.o x (by rw [HT.o];exact hx);rw [this];decide
theorem Gd(h:Nat)(p:Int)(B:Option Addr)(bn bc:Nat)(vs:List Nv)(w:World)(hI:Fb w B bn vs)(hn:bn≤1099511627776)(hb:Ag w h 3 #[Aa Ab p]):
  Calls Tryz.prog 120 #[.slice B bn bc,.func (.func 119) #[] #[.pointer (some ⟨h,0,none⟩)]] w fun e w'=>e= .returned (.bool (vs.any (fun v=>Ey p v.k)))∧Below w.heap.size w w':=by
 have HI:=Hd (Ais h p B bn bc vs w hI hn hb);clear hI hb;go_enter Tryz.func120,Tryz.ntmps120;go_wp2_with fail;go_at_call 202;refine HI.o.mono ?_;rintro e w2 ⟨i,rfl,hi,hb2⟩;have HII:=Hd hi;have HB:=Hd hb2;clear hb2 hi;go_wp2_with fail;go_ret;exact⟨Ct HII.o,HB.o⟩
theorem Am5(k n:Int)(u:Nat)(s:List UInt8)(A:Option Addr)(an ac:Nat)(B:Option Addr)(bn bc:Nat)(w:World)(h:¬(1≤k∧k≤17)):Calls Tryz.prog 74 #[.agg #[Aa Ab k,Aa Ab n,Aa Ac (u:Int),.string ⟨s.toArray⟩,.slice A an ac,.slice B bn bc]] w fun e w'=>e= .returned (.bool false)∧Below w.heap.size w w':=by
 have HB:=Hd (show Below w.heap.size w (w.alloc (.cells #[Aa Ab k,Aa Ab n,Aa Ac (u:Int),.string ⟨s.toArray⟩,.slice A an ac,.slice B bn bc] 26)) from(Below.refl _ _).alloc (Asp _) _);by_cases h1:k<1
 ·have d1:decide (k<1)=true:=decide_eq_true h1;clear h h1;go_enter Tryz.func74,Tryz.ntmps74;go_wp2_with fail;go_ret;exact⟨rfl,HB.o⟩
 ·have d1:decide (k<1)=false:=decide_eq_false h1;have d17:decide (17<k)=true:=decide_eq_true (by omega);clear h h1;go_enter Tryz.func74,Tryz.ntmps74;go_wp2_with fail;go_ret;exact⟨rfl,HB.o⟩
theorem Lv(k n:Int)(u:Nat)(s:List UInt8)(A:Option Addr)(an ac:Nat)(B:Option Addr)(bn bc:Nat)(vs:List Nv)(p:Int)(w:World)(hI:Fb w B bn vs)(hbn:bn≤1099511627776)(h1:1≤k)(h17:k≤17)(hU:J8 k=0)(hp:Az k=p)
  (e2:(k==2)=false) (e17:(k==17)=false) (e15:(k==15)=false) (e16:(k==16)=false):
  Calls Tryz.prog 74 #[.agg #[Aa Ab k,Aa Ab n,Aa Ac (u:Int),.string ⟨s.toArray⟩,.slice A an ac,.slice B bn bc]] w fun e w'=>e= .returned (.bool (if(n != 0)=true then false else if((u:Int) != 0)=true then false else if(s== [])=false then false else if decide (0<an)=true then false else !(vs.any fun v=>Ey p v.k)))∧Below w.heap.size w w':=by
 have HB:=Hd (show Below w.heap.size w (w.alloc (.cells #[Aa Ab k,Aa Ab n,Aa Ac (u:Int),.string ⟨s.toArray⟩,.slice A an ac,.slice B bn bc] 26)) from(Below.refl _ _).alloc (Asp _) _);have HX:=Hd (Ag.new w 26 #[Aa Ab k,Aa Ab n,Aa Ac (u:Int),.string ⟨s.toArray⟩,.slice A an ac,.slice B bn bc]);have HI:=Hd hI;have HU:=Hd hU;have HP:=Hd hp;have HK:=Hd (And.intro h1 h17);have d1:decide (k<1)=false:=decide_eq_false (by omega);have d17:decide (17<k)=false:=decide_eq_false (by omega);clear hI hU hp h1 h17;go_enter Tryz.func74,Tryz.ntmps74;go_upto_region 3 with fail
 have hBI:=HI.o.alloc (.cells #[Aa Ab k,Aa Ab n,Aa Ac (u:Int),.string ⟨s.toArray⟩,.slice A an ac,.slice B bn bc] 26);replace HI:=Hd hBI;clear hBI d1 d17;generalize w.alloc (.cells #[Aa Ab k,Aa Ab n,Aa Ac (u:Int),.string ⟨s.toArray⟩,.slice A an ac,.slice B bn bc] 26)=w1 at HB HX HI⊢;generalize w.heap.size=g at HX⊢;have c0:w1.cell? ⟨g,0,none⟩=some (Aa Ab k):=HX.o.cell 0;have hne:=Nat.ne_of_lt (Ao c0);simp only at hne;go_cut [3,4] (fun u3 u4 wx=>∃wy,wy=wx∧u3= Aa Ab 0∧(∃h,u4= .pointer (some ⟨h,0,none⟩)∧Ag wx h 3 #[Aa Ab p])∧Below w1.heap.size w1 wx)
 case first=>
  have eU:(0:Int)=0:=rfl;go_region_held3 (fun w'=>w'.cell? ⟨g,0,none⟩=some (Aa Ab k)) (first|with_reducible exact c0|with_reducible exact Af c0|with_reducible exact C7 _ c0|with_reducible exact Af (Ar _ c0)|with_reducible exact C7 _ (Ar _ c0)) (first|(go_at_call 117;(with_reducible refine(G0 k 0 _ HK.o.1 HK.o.2 HU.o).mono ?_);rintro e w' ⟨rfl,rfl⟩)|(go_at_call 118;(with_reducible refine(Jg k p _ HK.o.1 HK.o.2 HP.o).mono ?_);rintro e w' ⟨rfl,rfl⟩))
  all_goals
   go_wp2_with fail;go_meet;exact⟨_,rfl,rfl,⟨_,rfl,(Ag.new _ _ _).drew⟩,((Below.refl _ _).alloc (Asp _) _).drew⟩
 case rest=>
 obtain⟨w2,rfl,rfl,⟨h,rfl,hbk⟩,hb⟩:=hcut;have HX2:=Hd (HX.o.pure hb);have HI2:=Hd (HI.o.pure hb);have HB2:=Hd (Ad HB.o hb);have HBK:=Hd hbk;obtain ⟨x0,x1,x2,x3,x4,x5⟩:=HX2.o.c6;have hs0:(s== [])=decide (s=[]):=by cases s <;>rfl
 obtain⟨bN,hbN⟩:∃b,(n != 0)=b:=⟨_,rfl⟩;obtain⟨bU,hbU⟩:∃b,((u:Int) != 0)=b:=⟨_,rfl⟩;obtain⟨bS,hbS⟩:∃b,(s== [])=b:=⟨_,rfl⟩;obtain⟨bA,hbA⟩:∃b,decide (0<an)=b:=⟨_,rfl⟩;have hbA2:decide ((0:Int)<(an:Int))=bA:=by rw [←hbA];exact decide_eq_decide.2 (by omega)
 clear hb hbk c0 hne hs0;cases bN with
 |true=>
  go_wp2_with fail;go_ret;exact⟨rfl,HB2.o⟩
 |false=>
 cases bU with
 |true=>
  go_wp2_with fail;go_ret;exact⟨rfl,HB2.o⟩
 |false=>
 cases bS with
 |false=>
  go_wp2_with fail;go_ret;exact⟨rfl,HB2.o⟩
 |true=>
 cases bA with
 |true=>
  go_wp2_with fail;go_ret;exact⟨rfl,HB2.o⟩
 |false=>
  go_wp2_with fail;go_at_call 120;refine(Gd h p B bn bc vs _ HI2.o hbn HBK.o).mono ?_;rintro e w3 ⟨rfl,hb3⟩;have HB3:=Hd (Ad HB2.o hb3);clear hb3 x0 x1 x2 x3 x4 x5;go_wp2_with fail;go_ret;exact⟨rfl,HB3.o⟩
theorem Am6(k n:Int)(u:Nat)(s:List UInt8)(A:Option Addr)(an ac:Nat)(B:Option Addr)(bn bc:Nat)(vs:List Nv)(p:Int)(w:World)(hI:Fb w B bn vs)(hbn:bn≤1099511627776)(h1:1≤k)(h17:k≤17)(hU:J8 k=1)(hp:Az k=p)
  (e2:(k==2)=true) (e17:(k==17)=false) (e15:(k==15)=false) (e16:(k==16)=false):
  Calls Tryz.prog 74 #[.agg #[Aa Ab k,Aa Ab n,Aa Ac (u:Int),.string ⟨s.toArray⟩,.slice A an ac,.slice B bn bc]] w fun e w'=>e= .returned (.bool (if((u:Int) != 0)=true then false else if(s== [])=false then false else if decide (0<an)=true then false else if(n != 0&&n != 1)=true then false else !(vs.any fun v=>Ey p v.k)))∧Below w.heap.size w w':=by
 have HB:=Hd (show Below w.heap.size w (w.alloc (.cells #[Aa Ab k,Aa Ab n,Aa Ac (u:Int),.string ⟨s.toArray⟩,.slice A an ac,.slice B bn bc] 26)) from(Below.refl _ _).alloc (Asp _) _);have HX:=Hd (Ag.new w 26 #[Aa Ab k,Aa Ab n,Aa Ac (u:Int),.string ⟨s.toArray⟩,.slice A an ac,.slice B bn bc]);have HI:=Hd hI;have HU:=Hd hU;have HP:=Hd hp;have HK:=Hd (And.intro h1 h17);have d1:decide (k<1)=false:=decide_eq_false (by omega);have d17:decide (17<k)=false:=decide_eq_false (by omega);clear hI hU hp h1 h17;go_enter Tryz.func74,Tryz.ntmps74;go_upto_region 3 with fail
 have hBI:=HI.o.alloc (.cells #[Aa Ab k,Aa Ab n,Aa Ac (u:Int),.string ⟨s.toArray⟩,.slice A an ac,.slice B bn bc] 26);replace HI:=Hd hBI;clear hBI d1 d17;generalize w.alloc (.cells #[Aa Ab k,Aa Ab n,Aa Ac (u:Int),.string ⟨s.toArray⟩,.slice A an ac,.slice B bn bc] 26)=w1 at HB HX HI⊢;generalize w.heap.size=g at HX⊢;have c0:w1.cell? ⟨g,0,none⟩=some (Aa Ab k):=HX.o.cell 0;have hne:=Nat.ne_of_lt (Ao c0);simp only at hne;go_cut [3,4] (fun u3 u4 wx=>∃wy,wy=wx∧u3= Aa Ab 1∧(∃h,u4= .pointer (some ⟨h,0,none⟩)∧Ag wx h 3 #[Aa Ab p])∧Below w1.heap.size w1 wx)
 case first=>
  have eU:(0:Int)=0:=rfl;go_region_held3 (fun w'=>w'.cell? ⟨g,0,none⟩=some (Aa Ab k)) (first|with_reducible exact c0|with_reducible exact Af c0|with_reducible exact C7 _ c0|with_reducible exact Af (Ar _ c0)|with_reducible exact C7 _ (Ar _ c0)) (first|(go_at_call 117;(with_reducible refine(G0 k 1 _ HK.o.1 HK.o.2 HU.o).mono ?_);rintro e w' ⟨rfl,rfl⟩)|(go_at_call 118;(with_reducible refine(Jg k p _ HK.o.1 HK.o.2 HP.o).mono ?_);rintro e w' ⟨rfl,rfl⟩))
  all_goals
   go_wp2_with fail;go_meet;exact⟨_,rfl,rfl,⟨_,rfl,(Ag.new _ _ _).drew⟩,((Below.refl _ _).alloc (Asp _) _).drew⟩
 case rest=>
 obtain⟨w2,rfl,rfl,⟨h,rfl,hbk⟩,hb⟩:=hcut;have HX2:=Hd (HX.o.pure hb);have HI2:=Hd (HI.o.pure hb);have HB2:=Hd (Ad HB.o hb);have HBK:=Hd hbk;obtain ⟨x0,x1,x2,x3,x4,x5⟩:=HX2.o.c6;have hs0:(s== [])=decide (s=[]):=by cases s <;>rfl
 obtain⟨bN,hbN⟩:∃b,(n != 0)=b:=⟨_,rfl⟩;obtain⟨bU,hbU⟩:∃b,((u:Int) != 0)=b:=⟨_,rfl⟩;obtain⟨bS,hbS⟩:∃b,(s== [])=b:=⟨_,rfl⟩;obtain⟨bA,hbA⟩:∃b,decide (0<an)=b:=⟨_,rfl⟩;have hbA2:decide ((0:Int)<(an:Int))=bA:=by rw [←hbA];exact decide_eq_decide.2 (by omega)
 clear hb hbk c0 hne hs0;obtain⟨b1,hb1⟩:∃b,(n != 1)=b:=⟨_,rfl⟩;cases bU with
 |true=>
  go_wp2_with fail;go_ret;exact⟨rfl,HB2.o⟩
 |false=>
 cases bS with
 |false=>
  go_wp2_with fail;go_ret;exact⟨rfl,HB2.o⟩
 |true=>
 cases bA with
 |true=>
  go_wp2_with fail;go_ret;exact⟨rfl,HB2.o⟩
 |false=>
 cases bN with
 |false=>
  go_wp2_with fail;go_at_call 120;refine(Gd h p B bn bc vs _ HI2.o hbn HBK.o).mono ?_;rintro e w3 ⟨rfl,hb3⟩;have HB3:=Hd (Ad HB2.o hb3);clear hb3 x0 x1 x2 x3 x4 x5;go_wp2_with fail;go_ret;exact⟨rfl,HB3.o⟩
 |true=>
 cases b1 with
 |true=>
  go_wp2_with fail;go_ret;exact⟨rfl,HB2.o⟩
 |false=>
  go_wp2_with fail;go_at_call 120;refine(Gd h p B bn bc vs _ HI2.o hbn HBK.o).mono ?_;rintro e w3 ⟨rfl,hb3⟩;have HB3:=Hd (Ad HB2.o hb3);clear hb3 x0 x1 x2 x3 x4 x5;go_wp2_with fail;go_ret;exact⟨rfl,HB3.o⟩
theorem Aer(k n:Int)(u:Nat)(s:List UInt8)(A:Option Addr)(an ac:Nat)(B:Option Addr)(bn bc:Nat)(vs:List Nv)(p:Int)(w:World)(hI:Fb w B bn vs)(hbn:bn≤1099511627776)(h1:1≤k)(h17:k≤17)(hU:J8 k=1)(hp:Az k=p)
  (e2:(k==2)=false) (e17:(k==17)=false) (e15:(k==15)=false) (e16:(k==16)=false):
  Calls Tryz.prog 74 #[.agg #[Aa Ab k,Aa Ab n,Aa Ac (u:Int),.string ⟨s.toArray⟩,.slice A an ac,.slice B bn bc]] w fun e w'=>e= .returned (.bool (if((u:Int) != 0)=true then false else if(s== [])=false then false else if decide (0<an)=true then false else !(vs.any fun v=>Ey p v.k)))∧Below w.heap.size w w':=by
 have HB:=Hd (show Below w.heap.size w (w.alloc (.cells #[Aa Ab k,Aa Ab n,Aa Ac (u:Int),.string ⟨s.toArray⟩,.slice A an ac,.slice B bn bc] 26)) from(Below.refl _ _).alloc (Asp _) _);have HX:=Hd (Ag.new w 26 #[Aa Ab k,Aa Ab n,Aa Ac (u:Int),.string ⟨s.toArray⟩,.slice A an ac,.slice B bn bc]);have HI:=Hd hI;have HU:=Hd hU;have HP:=Hd hp;have HK:=Hd (And.intro h1 h17);have d1:decide (k<1)=false:=decide_eq_false (by omega);have d17:decide (17<k)=false:=decide_eq_false (by omega);clear hI hU hp h1 h17;go_enter Tryz.func74,Tryz.ntmps74;go_upto_region 3 with fail
 have hBI:=HI.o.alloc (.cells #[Aa Ab k,Aa Ab n,Aa Ac (u:Int),.string ⟨s.toArray⟩,.slice A an ac,.slice B bn bc] 26);replace HI:=Hd hBI;clear hBI d1 d17;generalize w.alloc (.cells #[Aa Ab k,Aa Ab n,Aa Ac (u:Int),.string ⟨s.toArray⟩,.slice A an ac,.slice B bn bc] 26)=w1 at HB HX HI⊢;generalize w.heap.size=g at HX⊢;have c0:w1.cell? ⟨g,0,none⟩=some (Aa Ab k):=HX.o.cell 0;have hne:=Nat.ne_of_lt (Ao c0);simp only at hne;go_cut [3,4] (fun u3 u4 wx=>∃wy,wy=wx∧u3= Aa Ab 1∧(∃h,u4= .pointer (some ⟨h,0,none⟩)∧Ag wx h 3 #[Aa Ab p])∧Below w1.heap.size w1 wx)
 case first=>
  have eU:(0:Int)=0:=rfl;go_region_held3 (fun w'=>w'.cell? ⟨g,0,none⟩=some (Aa Ab k)) (first|with_reducible exact c0|with_reducible exact Af c0|with_reducible exact C7 _ c0|with_reducible exact Af (Ar _ c0)|with_reducible exact C7 _ (Ar _ c0)) (first|(go_at_call 117;(with_reducible refine(G0 k 1 _ HK.o.1 HK.o.2 HU.o).mono ?_);rintro e w' ⟨rfl,rfl⟩)|(go_at_call 118;(with_reducible refine(Jg k p _ HK.o.1 HK.o.2 HP.o).mono ?_);rintro e w' ⟨rfl,rfl⟩))
  all_goals
   go_wp2_with fail;go_meet;exact⟨_,rfl,rfl,⟨_,rfl,(Ag.new _ _ _).drew⟩,((Below.refl _ _).alloc (Asp _) _).drew⟩
 case rest=>
 obtain⟨w2,rfl,rfl,⟨h,rfl,hbk⟩,hb⟩:=hcut;have HX2:=Hd (HX.o.pure hb);have HI2:=Hd (HI.o.pure hb);have HB2:=Hd (Ad HB.o hb);have HBK:=Hd hbk;obtain ⟨x0,x1,x2,x3,x4,x5⟩:=HX2.o.c6;have hs0:(s== [])=decide (s=[]):=by cases s <;>rfl
 obtain⟨bN,hbN⟩:∃b,(n != 0)=b:=⟨_,rfl⟩;obtain⟨bU,hbU⟩:∃b,((u:Int) != 0)=b:=⟨_,rfl⟩;obtain⟨bS,hbS⟩:∃b,(s== [])=b:=⟨_,rfl⟩;obtain⟨bA,hbA⟩:∃b,decide (0<an)=b:=⟨_,rfl⟩;have hbA2:decide ((0:Int)<(an:Int))=bA:=by rw [←hbA];exact decide_eq_decide.2 (by omega)
 clear hb hbk c0 hne hs0;cases bU with
 |true=>
  go_wp2_with fail;go_ret;exact⟨rfl,HB2.o⟩
 |false=>
 cases bS with
 |false=>
  go_wp2_with fail;go_ret;exact⟨rfl,HB2.o⟩
 |true=>
 cases bA with
 |true=>
  go_wp2_with fail;go_ret;exact⟨rfl,HB2.o⟩
 |false=>
 go_wp2_with fail;go_at_call 120;refine(Gd h p B bn bc vs _ HI2.o hbn HBK.o).mono ?_;rintro e w3 ⟨rfl,hb3⟩;have HB3:=Hd (Ad HB2.o hb3);clear hb3 x0 x1 x2 x3 x4 x5;go_wp2_with fail;go_ret;exact⟨rfl,HB3.o⟩
theorem Aes(k n:Int)(u:Nat)(s:List UInt8)(A:Option Addr)(an ac:Nat)(B:Option Addr)(bn bc:Nat)(vs:List Nv)(p:Int)(w:World)(hI:Fb w B bn vs)(hbn:bn≤1099511627776)(h1:1≤k)(h17:k≤17)(hU:J8 k=2)(hp:Az k=p)
  (e2:(k==2)=false) (e17:(k==17)=false) (e15:(k==15)=false) (e16:(k==16)=false):
  Calls Tryz.prog 74 #[.agg #[Aa Ab k,Aa Ab n,Aa Ac (u:Int),.string ⟨s.toArray⟩,.slice A an ac,.slice B bn bc]] w fun e w'=>e= .returned (.bool (if(n != 0)=true then false else if(s== [])=false then false else if decide (0<an)=true then false else !(vs.any fun v=>Ey p v.k)))∧Below w.heap.size w w':=by
 have HB:=Hd (show Below w.heap.size w (w.alloc (.cells #[Aa Ab k,Aa Ab n,Aa Ac (u:Int),.string ⟨s.toArray⟩,.slice A an ac,.slice B bn bc] 26)) from(Below.refl _ _).alloc (Asp _) _);have HX:=Hd (Ag.new w 26 #[Aa Ab k,Aa Ab n,Aa Ac (u:Int),.string ⟨s.toArray⟩,.slice A an ac,.slice B bn bc]);have HI:=Hd hI;have HU:=Hd hU;have HP:=Hd hp;have HK:=Hd (And.intro h1 h17);have d1:decide (k<1)=false:=decide_eq_false (by omega);have d17:decide (17<k)=false:=decide_eq_false (by omega);clear hI hU hp h1 h17;go_enter Tryz.func74,Tryz.ntmps74;go_upto_region 3 with fail
 have hBI:=HI.o.alloc (.cells #[Aa Ab k,Aa Ab n,Aa Ac (u:Int),.string ⟨s.toArray⟩,.slice A an ac,.slice B bn bc] 26);replace HI:=Hd hBI;clear hBI d1 d17;generalize w.alloc (.cells #[Aa Ab k,Aa Ab n,Aa Ac (u:Int),.string ⟨s.toArray⟩,.slice A an ac,.slice B bn bc] 26)=w1 at HB HX HI⊢;generalize w.heap.size=g at HX⊢;have c0:w1.cell? ⟨g,0,none⟩=some (Aa Ab k):=HX.o.cell 0;have hne:=Nat.ne_of_lt (Ao c0);simp only at hne;go_cut [3,4] (fun u3 u4 wx=>∃wy,wy=wx∧u3= Aa Ab 2∧(∃h,u4= .pointer (some ⟨h,0,none⟩)∧Ag wx h 3 #[Aa Ab p])∧Below w1.heap.size w1 wx)
 case first=>
  have eU:(0:Int)=0:=rfl;go_region_held3 (fun w'=>w'.cell? ⟨g,0,none⟩=some (Aa Ab k)) (first|with_reducible exact c0|with_reducible exact Af c0|with_reducible exact C7 _ c0|with_reducible exact Af (Ar _ c0)|with_reducible exact C7 _ (Ar _ c0)) (first|(go_at_call 117;(with_reducible refine(G0 k 2 _ HK.o.1 HK.o.2 HU.o).mono ?_);rintro e w' ⟨rfl,rfl⟩)|(go_at_call 118;(with_reducible refine(Jg k p _ HK.o.1 HK.o.2 HP.o).mono ?_);rintro e w' ⟨rfl,rfl⟩))
  all_goals
   go_wp2_with fail;go_meet;exact⟨_,rfl,rfl,⟨_,rfl,(Ag.new _ _ _).drew⟩,((Below.refl _ _).alloc (Asp _) _).drew⟩
 case rest=>
 obtain⟨w2,rfl,rfl,⟨h,rfl,hbk⟩,hb⟩:=hcut;have HX2:=Hd (HX.o.pure hb);have HI2:=Hd (HI.o.pure hb);have HB2:=Hd (Ad HB.o hb);have HBK:=Hd hbk;obtain ⟨x0,x1,x2,x3,x4,x5⟩:=HX2.o.c6;have hs0:(s== [])=decide (s=[]):=by cases s <;>rfl
 obtain⟨bN,hbN⟩:∃b,(n != 0)=b:=⟨_,rfl⟩;obtain⟨bU,hbU⟩:∃b,((u:Int) != 0)=b:=⟨_,rfl⟩;obtain⟨bS,hbS⟩:∃b,(s== [])=b:=⟨_,rfl⟩;obtain⟨bA,hbA⟩:∃b,decide (0<an)=b:=⟨_,rfl⟩;have hbA2:decide ((0:Int)<(an:Int))=bA:=by rw [←hbA];exact decide_eq_decide.2 (by omega)
 clear hb hbk c0 hne hs0;cases bN with
 |true=>
  go_wp2_with fail;go_ret;exact⟨rfl,HB2.o⟩
 |false=>
 cases bS with
 |false=>
  go_wp2_with fail;go_ret;exact⟨rfl,HB2.o⟩
 |true=>
 cases bA with
 |true=>
  go_wp2_with fail;go_ret;exact⟨rfl,HB2.o⟩
 |false=>
 go_wp2_with fail;go_at_call 120;refine(Gd h p B bn bc vs _ HI2.o hbn HBK.o).mono ?_;rintro e w3 ⟨rfl,hb3⟩;have HB3:=Hd (Ad HB2.o hb3);clear hb3 x0 x1 x2 x3 x4 x5;go_wp2_with fail;go_ret;exact⟨rfl,HB3.o⟩
theorem Ws(k n:Int)(u:Nat)(s:List UInt8)(A:Option Addr)(an ac:Nat)(B:Option Addr)(bn bc:Nat)(vs:List Nv)(p:Int)(w:World)(hI:Fb w B bn vs)(hbn:bn≤1099511627776)(h1:1≤k)(h17:k≤17)(hU:J8 k=4)(hp:Az k=p)
  (e2:(k==2)=false) (e17:(k==17)=false) (e15:(k==15)=false) (e16:(k==16)=false):
  Calls Tryz.prog 74 #[.agg #[Aa Ab k,Aa Ab n,Aa Ac (u:Int),.string ⟨s.toArray⟩,.slice A an ac,.slice B bn bc]] w fun e w'=>e= .returned (.bool (if(n != 0)=true then false else if((u:Int) != 0)=true then false else if decide (0<an)=true then false else !(vs.any fun v=>Ey p v.k)))∧Below w.heap.size w w':=by
 have HB:=Hd (show Below w.heap.size w (w.alloc (.cells #[Aa Ab k,Aa Ab n,Aa Ac (u:Int),.string ⟨s.toArray⟩,.slice A an ac,.slice B bn bc] 26)) from(Below.refl _ _).alloc (Asp _) _);have HX:=Hd (Ag.new w 26 #[Aa Ab k,Aa Ab n,Aa Ac (u:Int),.string ⟨s.toArray⟩,.slice A an ac,.slice B bn bc]);have HI:=Hd hI;have HU:=Hd hU;have HP:=Hd hp;have HK:=Hd (And.intro h1 h17);have d1:decide (k<1)=false:=decide_eq_false (by omega);have d17:decide (17<k)=false:=decide_eq_false (by omega);clear hI hU hp h1 h17;go_enter Tryz.func74,Tryz.ntmps74;go_upto_region 3 with fail
 have hBI:=HI.o.alloc (.cells #[Aa Ab k,Aa Ab n,Aa Ac (u:Int),.string ⟨s.toArray⟩,.slice A an ac,.slice B bn bc] 26);replace HI:=Hd hBI;clear hBI d1 d17;generalize w.alloc (.cells #[Aa Ab k,Aa Ab n,Aa Ac (u:Int),.string ⟨s.toArray⟩,.slice A an ac,.slice B bn bc] 26)=w1 at HB HX HI⊢;generalize w.heap.size=g at HX⊢;have c0:w1.cell? ⟨g,0,none⟩=some (Aa Ab k):=HX.o.cell 0;have hne:=Nat.ne_of_lt (Ao c0);simp only at hne;go_cut [3,4] (fun u3 u4 wx=>∃wy,wy=wx∧u3= Aa Ab 4∧(∃h,u4= .pointer (some ⟨h,0,none⟩)∧Ag wx h 3 #[Aa Ab p])∧Below w1.heap.size w1 wx)
 case first=>
  have eU:(0:Int)=0:=rfl;go_region_held3 (fun w'=>w'.cell? ⟨g,0,none⟩=some (Aa Ab k)) (first|with_reducible exact c0|with_reducible exact Af c0|with_reducible exact C7 _ c0|with_reducible exact Af (Ar _ c0)|with_reducible exact C7 _ (Ar _ c0)) (first|(go_at_call 117;(with_reducible refine(G0 k 4 _ HK.o.1 HK.o.2 HU.o).mono ?_);rintro e w' ⟨rfl,rfl⟩)|(go_at_call 118;(with_reducible refine(Jg k p _ HK.o.1 HK.o.2 HP.o).mono ?_);rintro e w' ⟨rfl,rfl⟩))
  all_goals
   go_wp2_with fail;go_meet;exact⟨_,rfl,rfl,⟨_,rfl,(Ag.new _ _ _).drew⟩,((Below.refl _ _).alloc (Asp _) _).drew⟩
 case rest=>
 obtain⟨w2,rfl,rfl,⟨h,rfl,hbk⟩,hb⟩:=hcut;have HX2:=Hd (HX.o.pure hb);have HI2:=Hd (HI.o.pure hb);have HB2:=Hd (Ad HB.o hb);have HBK:=Hd hbk;obtain ⟨x0,x1,x2,x3,x4,x5⟩:=HX2.o.c6;have hs0:(s== [])=decide (s=[]):=by cases s <;>rfl
 obtain⟨bN,hbN⟩:∃b,(n != 0)=b:=⟨_,rfl⟩;obtain⟨bU,hbU⟩:∃b,((u:Int) != 0)=b:=⟨_,rfl⟩;obtain⟨bS,hbS⟩:∃b,(s== [])=b:=⟨_,rfl⟩;obtain⟨bA,hbA⟩:∃b,decide (0<an)=b:=⟨_,rfl⟩;have hbA2:decide ((0:Int)<(an:Int))=bA:=by rw [←hbA];exact decide_eq_decide.2 (by omega)
 clear hb hbk c0 hne hs0;cases bN with
 |true=>
  go_wp2_with fail;go_ret;exact⟨rfl,HB2.o⟩
 |false=>
 cases bU with
 |true=>
  go_wp2_with fail;go_ret;exact⟨rfl,HB2.o⟩
 |false=>
 cases bA with
 |true=>
  go_wp2_with fail;go_ret;exact⟨rfl,HB2.o⟩
 |false=>
 go_wp2_with fail;go_at_call 120;refine(Gd h p B bn bc vs _ HI2.o hbn HBK.o).mono ?_;rintro e w3 ⟨rfl,hb3⟩;have HB3:=Hd (Ad HB2.o hb3);clear hb3 x0 x1 x2 x3 x4 x5;go_wp2_with fail;go_ret;exact⟨rfl,HB3.o⟩
theorem Apn(k n:Int)(u:Nat)(s:List UInt8)(A:Option Addr)(an ac:Nat)(B:Option Addr)(bn bc:Nat)(vs:List Nv)(p:Int)(w:World)(hI:Fb w B bn vs)(hbn:bn≤1099511627776)(h1:1≤k)(h17:k≤17)(hU:J8 k=8)(hp:Az k=p)
  (e2:(k==2)=false) (e17:(k==17)=true) (e15:(k==15)=false) (e16:(k==16)=false):
  Calls Tryz.prog 74 #[.agg #[Aa Ab k,Aa Ab n,Aa Ac (u:Int),.string ⟨s.toArray⟩,.slice A an ac,.slice B bn bc]] w fun e w'=>e= .returned (.bool (if(n != 0)=true then false else if((u:Int) != 0)=true then false else if(s== [])=false then false else if decide (an=bn)=false then false else !(vs.any fun v=>Ey p v.k)))∧Below w.heap.size w w':=by
 have HB:=Hd (show Below w.heap.size w (w.alloc (.cells #[Aa Ab k,Aa Ab n,Aa Ac (u:Int),.string ⟨s.toArray⟩,.slice A an ac,.slice B bn bc] 26)) from(Below.refl _ _).alloc (Asp _) _);have HX:=Hd (Ag.new w 26 #[Aa Ab k,Aa Ab n,Aa Ac (u:Int),.string ⟨s.toArray⟩,.slice A an ac,.slice B bn bc]);have HI:=Hd hI;have HU:=Hd hU;have HP:=Hd hp;have HK:=Hd (And.intro h1 h17);have d1:decide (k<1)=false:=decide_eq_false (by omega);have d17:decide (17<k)=false:=decide_eq_false (by omega);clear hI hU hp h1 h17;go_enter Tryz.func74,Tryz.ntmps74;go_upto_region 3 with fail
 have hBI:=HI.o.alloc (.cells #[Aa Ab k,Aa Ab n,Aa Ac (u:Int),.string ⟨s.toArray⟩,.slice A an ac,.slice B bn bc] 26);replace HI:=Hd hBI;clear hBI d1 d17;generalize w.alloc (.cells #[Aa Ab k,Aa Ab n,Aa Ac (u:Int),.string ⟨s.toArray⟩,.slice A an ac,.slice B bn bc] 26)=w1 at HB HX HI⊢;generalize w.heap.size=g at HX⊢;have c0:w1.cell? ⟨g,0,none⟩=some (Aa Ab k):=HX.o.cell 0;have hne:=Nat.ne_of_lt (Ao c0);simp only at hne;go_cut [3,4] (fun u3 u4 wx=>∃wy,wy=wx∧u3= Aa Ab 8∧(∃h,u4= .pointer (some ⟨h,0,none⟩)∧Ag wx h 3 #[Aa Ab p])∧Below w1.heap.size w1 wx)
 case first=>
  have eU:(0:Int)=0:=rfl;go_region_held3 (fun w'=>w'.cell? ⟨g,0,none⟩=some (Aa Ab k)) (first|with_reducible exact c0|with_reducible exact Af c0|with_reducible exact C7 _ c0|with_reducible exact Af (Ar _ c0)|with_reducible exact C7 _ (Ar _ c0)) (first|(go_at_call 117;(with_reducible refine(G0 k 8 _ HK.o.1 HK.o.2 HU.o).mono ?_);rintro e w' ⟨rfl,rfl⟩)|(go_at_call 118;(with_reducible refine(Jg k p _ HK.o.1 HK.o.2 HP.o).mono ?_);rintro e w' ⟨rfl,rfl⟩))
  all_goals
   go_wp2_with fail;go_meet;exact⟨_,rfl,rfl,⟨_,rfl,(Ag.new _ _ _).drew⟩,((Below.refl _ _).alloc (Asp _) _).drew⟩
 case rest=>
 obtain⟨w2,rfl,rfl,⟨h,rfl,hbk⟩,hb⟩:=hcut;have HX2:=Hd (HX.o.pure hb);have HI2:=Hd (HI.o.pure hb);have HB2:=Hd (Ad HB.o hb);have HBK:=Hd hbk;obtain ⟨x0,x1,x2,x3,x4,x5⟩:=HX2.o.c6;have hs0:(s== [])=decide (s=[]):=by cases s <;>rfl
 obtain⟨bN,hbN⟩:∃b,(n != 0)=b:=⟨_,rfl⟩;obtain⟨bU,hbU⟩:∃b,((u:Int) != 0)=b:=⟨_,rfl⟩;obtain⟨bS,hbS⟩:∃b,(s== [])=b:=⟨_,rfl⟩;obtain⟨bA,hbA⟩:∃b,decide (0<an)=b:=⟨_,rfl⟩;have hbA2:decide ((0:Int)<(an:Int))=bA:=by rw [←hbA];exact decide_eq_decide.2 (by omega)
 clear hb hbk c0 hne hs0;obtain⟨bE,hbE⟩:∃b,decide (an=bn)=b:=⟨_,rfl⟩;have hbE2:((an:Int) != (bn:Int))=!bE:=by
  rw [←hbE,Bool.eq_iff_iff];simp only [bne_iff_ne,ne_eq,Bool.not_eq_true',decide_eq_false_iff_not];omega
 have hbE3:((an:Int)==(bn:Int))=bE:=by
  rw [←hbE,Bool.eq_iff_iff];simp only [beq_iff_eq,decide_eq_true_eq];omega
 cases bN with
 |true=>
  go_wp2_with fail;go_ret;exact⟨rfl,HB2.o⟩
 |false=>
 cases bU with
 |true=>
  go_wp2_with fail;go_ret;exact⟨rfl,HB2.o⟩
 |false=>
 cases bS with
 |false=>
  go_wp2_with fail;go_ret;exact⟨rfl,HB2.o⟩
 |true=>
 cases bE with
 |false=>
  go_wp2_with fail;go_ret;exact⟨rfl,HB2.o⟩
 |true=>
  go_wp2_with fail;go_at_call 120;refine(Gd h p B bn bc vs _ HI2.o hbn HBK.o).mono ?_;rintro e w3 ⟨rfl,hb3⟩;have HB3:=Hd (Ad HB2.o hb3);clear hb3 x0 x1 x2 x3 x4 x5;go_wp2_with fail;go_ret;exact⟨rfl,HB3.o⟩
theorem Am3(k n:Int)(u:Nat)(s:List UInt8)(A:Option Addr)(an ac:Nat)(B:Option Addr)(bn bc:Nat)(vs:List Nv)(p:Int)(w:World)(hI:Fb w B bn vs)(hbn:bn≤1099511627776)(h1:1≤k)(h17:k≤17)(hU:J8 k=0)(hp:Az k=p)
  (e2:(k==2)=false) (e17:(k==17)=false) (e15:(k==15)=true) (_e16:(k==16)=false):
  Calls Tryz.prog 74 #[.agg #[Aa Ab k,Aa Ab n,Aa Ac (u:Int),.string ⟨s.toArray⟩,.slice A an ac,.slice B bn bc]] w fun e w'=>e= .returned (.bool (if(n != 0)=true then false else if((u:Int) != 0)=true then false else if(s== [])=false then false else if decide (0<an)=true then false else if decide (bn<2)=true then false else if decide (4<bn)=true then false else !(vs.any fun v=>Ey p v.k)))∧Below w.heap.size w w':=by
 have HB:=Hd (show Below w.heap.size w (w.alloc (.cells #[Aa Ab k,Aa Ab n,Aa Ac (u:Int),.string ⟨s.toArray⟩,.slice A an ac,.slice B bn bc] 26)) from(Below.refl _ _).alloc (Asp _) _);have HX:=Hd (Ag.new w 26 #[Aa Ab k,Aa Ab n,Aa Ac (u:Int),.string ⟨s.toArray⟩,.slice A an ac,.slice B bn bc]);have HI:=Hd hI;have HU:=Hd hU;have HP:=Hd hp;have HK:=Hd (And.intro h1 h17);have d1:decide (k<1)=false:=decide_eq_false (by omega);have d17:decide (17<k)=false:=decide_eq_false (by omega);clear hI hU hp h1 h17;go_enter Tryz.func74,Tryz.ntmps74;go_upto_region 3 with fail
 have hBI:=HI.o.alloc (.cells #[Aa Ab k,Aa Ab n,Aa Ac (u:Int),.string ⟨s.toArray⟩,.slice A an ac,.slice B bn bc] 26);replace HI:=Hd hBI;clear hBI d1 d17;generalize w.alloc (.cells #[Aa Ab k,Aa Ab n,Aa Ac (u:Int),.string ⟨s.toArray⟩,.slice A an ac,.slice B bn bc] 26)=w1 at HB HX HI⊢;generalize w.heap.size=g at HX⊢;have c0:w1.cell? ⟨g,0,none⟩=some (Aa Ab k):=HX.o.cell 0;have hne:=Nat.ne_of_lt (Ao c0);simp only at hne;go_cut [3,4] (fun u3 u4 wx=>∃wy,wy=wx∧u3= Aa Ab 0∧(∃h,u4= .pointer (some ⟨h,0,none⟩)∧Ag wx h 3 #[Aa Ab p])∧Below w1.heap.size w1 wx)
 case first=>
  have eU:(0:Int)=0:=rfl;go_region_held3 (fun w'=>w'.cell? ⟨g,0,none⟩=some (Aa Ab k)) (first|with_reducible exact c0|with_reducible exact Af c0|with_reducible exact C7 _ c0|with_reducible exact Af (Ar _ c0)|with_reducible exact C7 _ (Ar _ c0)) (first|(go_at_call 117;(with_reducible refine(G0 k 0 _ HK.o.1 HK.o.2 HU.o).mono ?_);rintro e w' ⟨rfl,rfl⟩)|(go_at_call 118;(with_reducible refine(Jg k p _ HK.o.1 HK.o.2 HP.o).mono ?_);rintro e w' ⟨rfl,rfl⟩))
  all_goals
   go_wp2_with fail;go_meet;exact⟨_,rfl,rfl,⟨_,rfl,(Ag.new _ _ _).drew⟩,((Below.refl _ _).alloc (Asp _) _).drew⟩
 case rest=>
 obtain⟨w2,rfl,rfl,⟨h,rfl,hbk⟩,hb⟩:=hcut;have HX2:=Hd (HX.o.pure hb);have HI2:=Hd (HI.o.pure hb);have HB2:=Hd (Ad HB.o hb);have HBK:=Hd hbk;obtain ⟨x0,x1,x2,x3,x4,x5⟩:=HX2.o.c6;have hs0:(s== [])=decide (s=[]):=by cases s <;>rfl
 obtain⟨bN,hbN⟩:∃b,(n != 0)=b:=⟨_,rfl⟩;obtain⟨bU,hbU⟩:∃b,((u:Int) != 0)=b:=⟨_,rfl⟩;obtain⟨bS,hbS⟩:∃b,(s== [])=b:=⟨_,rfl⟩;obtain⟨bA,hbA⟩:∃b,decide (0<an)=b:=⟨_,rfl⟩;have hbA2:decide ((0:Int)<(an:Int))=bA:=by rw [←hbA];exact decide_eq_decide.2 (by omega)
 clear hb hbk c0 hne hs0;obtain⟨bl,hbl⟩:∃b,decide (bn<2)=b:=⟨_,rfl⟩;obtain⟨bg,hbg⟩:∃b,decide (4<bn)=b:=⟨_,rfl⟩;have hbl2:decide ((bn:Int)<2)=bl:=by rw [←hbl];exact decide_eq_decide.2 (by omega)
 have hbg2:decide (4<(bn:Int))=bg:=by rw [←hbg];exact decide_eq_decide.2 (by omega)
 cases bN with
 |true=>
  go_wp2_with fail;go_ret;exact⟨rfl,HB2.o⟩
 |false=>
 cases bU with
 |true=>
  go_wp2_with fail;go_ret;exact⟨rfl,HB2.o⟩
 |false=>
 cases bS with
 |false=>
  go_wp2_with fail;go_ret;exact⟨rfl,HB2.o⟩
 |true=>
 cases bA with
 |true=>
  go_wp2_with fail;go_ret;exact⟨rfl,HB2.o⟩
 |false=>
 cases bl with
 |true=>
  go_wp2_with fail;go_ret;exact⟨rfl,HB2.o⟩
 |false=>
 cases bg with
 |true=>
  go_wp2_with fail;go_ret;exact⟨rfl,HB2.o⟩
 |false=>
  go_wp2_with fail;go_at_call 120;refine(Gd h p B bn bc vs _ HI2.o hbn HBK.o).mono ?_;rintro e w3 ⟨rfl,hb3⟩;have HB3:=Hd (Ad HB2.o hb3);clear hb3 x0 x1 x2 x3 x4 x5;go_wp2_with fail;go_ret;exact⟨rfl,HB3.o⟩
theorem Am4(k n:Int)(u:Nat)(s:List UInt8)(A:Option Addr)(an ac:Nat)(B:Option Addr)(bn bc:Nat)(vs:List Nv)(p:Int)(w:World)(hI:Fb w B bn vs)(hbn:bn≤1099511627776)(h1:1≤k)(h17:k≤17)(hU:J8 k=0)(hp:Az k=p)
  (e2:(k==2)=false) (e17:(k==17)=false) (e15:(k==15)=false) (e16:(k==16)=true):
  Calls Tryz.prog 74 #[.agg #[Aa Ab k,Aa Ab n,Aa Ac (u:Int),.string ⟨s.toArray⟩,.slice A an ac,.slice B bn bc]] w fun e w'=>e= .returned (.bool (if(n != 0)=true then false else if((u:Int) != 0)=true then false else if(s== [])=false then false else if decide (0<an)=true then false else if decide (bn<2)=true then false else if decide (4<bn)=true then false else !(vs.any fun v=>Ey p v.k)))∧Below w.heap.size w w':=by
 have HB:=Hd (show Below w.heap.size w (w.alloc (.cells #[Aa Ab k,Aa Ab n,Aa Ac (u:Int),.string ⟨s.toArray⟩,.slice A an ac,.slice B bn bc] 26)) from(Below.refl _ _).alloc (Asp _) _);have HX:=Hd (Ag.new w 26 #[Aa Ab k,Aa Ab n,Aa Ac (u:Int),.string ⟨s.toArray⟩,.slice A an ac,.slice B bn bc]);have HI:=Hd hI;have HU:=Hd hU;have HP:=Hd hp;have HK:=Hd (And.intro h1 h17);have d1:decide (k<1)=false:=decide_eq_false (by omega);have d17:decide (17<k)=false:=decide_eq_false (by omega);clear hI hU hp h1 h17;go_enter Tryz.func74,Tryz.ntmps74;go_upto_region 3 with fail
 have hBI:=HI.o.alloc (.cells #[Aa Ab k,Aa Ab n,Aa Ac (u:Int),.string ⟨s.toArray⟩,.slice A an ac,.slice B bn bc] 26);replace HI:=Hd hBI;clear hBI d1 d17;generalize w.alloc (.cells #[Aa Ab k,Aa Ab n,Aa Ac (u:Int),.string ⟨s.toArray⟩,.slice A an ac,.slice B bn bc] 26)=w1 at HB HX HI⊢;generalize w.heap.size=g at HX⊢;have c0:w1.cell? ⟨g,0,none⟩=some (Aa Ab k):=HX.o.cell 0;have hne:=Nat.ne_of_lt (Ao c0);simp only at hne;go_cut [3,4] (fun u3 u4 wx=>∃wy,wy=wx∧u3= Aa Ab 0∧(∃h,u4= .pointer (some ⟨h,0,none⟩)∧Ag wx h 3 #[Aa Ab p])∧Below w1.heap.size w1 wx)
 case first=>
  have eU:(0:Int)=0:=rfl;go_region_held3 (fun w'=>w'.cell? ⟨g,0,none⟩=some (Aa Ab k)) (first|with_reducible exact c0|with_reducible exact Af c0|with_reducible exact C7 _ c0|with_reducible exact Af (Ar _ c0)|with_reducible exact C7 _ (Ar _ c0)) (first|(go_at_call 117;(with_reducible refine(G0 k 0 _ HK.o.1 HK.o.2 HU.o).mono ?_);rintro e w' ⟨rfl,rfl⟩)|(go_at_call 118;(with_reducible refine(Jg k p _ HK.o.1 HK.o.2 HP.o).mono ?_);rintro e w' ⟨rfl,rfl⟩))
  all_goals
   go_wp2_with fail;go_meet;exact⟨_,rfl,rfl,⟨_,rfl,(Ag.new _ _ _).drew⟩,((Below.refl _ _).alloc (Asp _) _).drew⟩
 case rest=>
 obtain⟨w2,rfl,rfl,⟨h,rfl,hbk⟩,hb⟩:=hcut;have HX2:=Hd (HX.o.pure hb);have HI2:=Hd (HI.o.pure hb);have HB2:=Hd (Ad HB.o hb);have HBK:=Hd hbk;obtain ⟨x0,x1,x2,x3,x4,x5⟩:=HX2.o.c6;have hs0:(s== [])=decide (s=[]):=by cases s <;>rfl
 obtain⟨bN,hbN⟩:∃b,(n != 0)=b:=⟨_,rfl⟩;obtain⟨bU,hbU⟩:∃b,((u:Int) != 0)=b:=⟨_,rfl⟩;obtain⟨bS,hbS⟩:∃b,(s== [])=b:=⟨_,rfl⟩;obtain⟨bA,hbA⟩:∃b,decide (0<an)=b:=⟨_,rfl⟩;have hbA2:decide ((0:Int)<(an:Int))=bA:=by rw [←hbA];exact decide_eq_decide.2 (by omega)
 clear hb hbk c0 hne hs0;obtain⟨bl,hbl⟩:∃b,decide (bn<2)=b:=⟨_,rfl⟩;obtain⟨bg,hbg⟩:∃b,decide (4<bn)=b:=⟨_,rfl⟩;have hbl2:decide ((bn:Int)<2)=bl:=by rw [←hbl];exact decide_eq_decide.2 (by omega)
 have hbg2:decide (4<(bn:Int))=bg:=by rw [←hbg];exact decide_eq_decide.2 (by omega)
 cases bN with
 |true=>
  go_wp2_with fail;go_ret;exact⟨rfl,HB2.o⟩
 |false=>
 cases bU with
 |true=>
  go_wp2_with fail;go_ret;exact⟨rfl,HB2.o⟩
 |false=>
 cases bS with
 |false=>
  go_wp2_with fail;go_ret;exact⟨rfl,HB2.o⟩
 |true=>
 cases bA with
 |true=>
  go_wp2_with fail;go_ret;exact⟨rfl,HB2.o⟩
 |false=>
 cases bl with
 |true=>
  go_wp2_with fail;go_ret;exact⟨rfl,HB2.o⟩
 |false=>
 cases bg with
 |true=>
  go_wp2_with fail;go_ret;exact⟨rfl,HB2.o⟩
 |false=>
  go_wp2_with fail;go_at_call 120;refine(Gd h p B bn bc vs _ HI2.o hbn HBK.o).mono ?_;rintro e w3 ⟨rfl,hb3⟩;have HB3:=Hd (Ad HB2.o hb3);clear hb3 x0 x1 x2 x3 x4 x5;go_wp2_with fail;go_ret;exact⟨rfl,HB3.o⟩
end Go.Proofs.YtgbjodnegkbfoaaGreat
