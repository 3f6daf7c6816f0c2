/- Parts of the proof. -/
import Derived.Test.YtejpbijeifjdeaaGreatQv17
import Derived.Deep.RegionHeld3
import Derived.Deep.Strs
import Derived.Deep.DeepCutAuto
set_option maxHeartbeats 8000000
set_option maxRecDepth 100000
open Go.Value renaming int→Aa
open Go.IntKind renaming i64→Ab,u64→Ac
open Nat renaming le_refl→Ae,zero_le→Am,lt_of_lt_of_le→Ar
open Go.RowKit.Below renaming refl→Af
open Go.IntWalk renaming i64_in→Ag
open List renaming getElem?_eq_getElem→Ai,length_take→Au,take_of_length_le→Aw
open Int renaming toNat_natCast→Ao
open Go.Proofs.Tryz
open Go.Proofs.Tryz renaming prog→Ad
namespace Go.Proofs.YtejpbijeifjdeaaGreat
variable {w w' w1:World}{x:Nv}{B k rb c a n:Nat}{ts:List Tr}{A:Option Addr}{vs:List Nv}{o:Obj}{t p q v:Int}{l:List UInt8}{u:Value}
section
open Go.RowKit Go.Acc
mutual
def Hn(m:Nat):Tr→Nat→Tr×Nat
 | .mk k n u s ks l,left=>(.mk k n u (s.take m) ((ks.take 64).map fun x=>x.take m) (Hi m l left).1,(Hi m l left).2)
def Hi(m:Nat):List Tr→Nat→List Tr×Nat
 | [],left=>([],left)
 |t::r,left=>if left=0 then([],0) else((Hn m t (left-1)).1::(Hi m r (Hn m t (left-1)).2).1,(Hi m r (Hn m t (left-1)).2).2)
end
theorem aQ(m:Nat):∀(l:List (List UInt8)),Ci (l.map fun x=>x.take m)≤l.length*(m+20)
 | []=>by simp [Ci]
 |x::r=>by
  have h:=aQ m r;have h1:(x.take m).length≤m:=by rw [Au];omega
  simp only [List.map_cons,Ci,List.length_cons,Nat.add_mul,Nat.one_mul];omega
mutual
theorem X4(m:Nat):∀(t:Tr) (left:Nat),(Hn m t left).2≤left∧(Hn m t left).1.cost≤64+2*m+64*(m+20)+(left-(Hn m t left).2)*(104+2*m+64*(m+20))
 | .mk k n u s ks l,left=>by
  have h:=X3 m l left;rw [Hn];refine⟨h.1,?_⟩;simp only [Tr.cost];have h1:(s.take m).length≤m:=by rw [Au];omega
  have h2:=aQ m (ks.take 64);have h3:(ks.take 64).length≤64:=by rw [Au];omega
  have a:=Nat.mul_le_mul_right (m+20) h3;omega
theorem X3(m:Nat):∀(l:List Tr) (left:Nat),(Hi m l left).2≤left∧Tr.costL (Hi m l left).1≤(left-(Hi m l left).2)*(104+2*m+64*(m+20))
 | [],left=>by simp [Hi,Tr.costL]
 |t::r,left=>by
  rw [Hi];by_cases h0:left=0
  ·rw [if_pos h0];simp [Tr.costL]
  ·rw [if_neg h0];have h1:=X4 m t (left-1);have h2:=X3 m r (Hn m t (left-1)).2;refine⟨by omega,?_⟩;simp only [Tr.costL];generalize (Hn m t (left-1)).2=a at*;generalize (Hi m r a).2=b at*;have e:left-b=(left-1-a)+(a-b)+1:=by omega
   rw [e,Nat.add_mul,Nat.add_mul];omega
end
theorem cZ(s:List UInt8)(m:Nat)(w:World):Calls Ad 140 #[.string ⟨s.toArray⟩,Aa Ab m] w (Ab6 (.string ⟨(s.take m).toArray⟩) w):=by
 have e:(⟨s.toArray⟩:ByteArray).size=s.length:=rfl;by_cases h:m<s.length
 ·have d:(m:Int)≤s.length:=by omega
  have c:decide (m<s.length)=true:=decide_eq_true h;have a:(⟨s.toArray⟩:ByteArray).extract 0 m=⟨(s.take m).toArray⟩:=by
   rw [ByteArray.extract_mk,List.drop_zero,Nat.sub_zero]
  have b:=Hd a;clear a;go_enter func140,ntmps140;go_wp2;go_ret;refine⟨?_,rfl⟩;show Ending.returned (.string (ByteArray.extract ⟨s.toArray⟩ 0 (min (s.length:Int) (m:Int)).toNat))=_;rw [show(min (s.length:Int) (m:Int)).toNat=m by omega,b.o]
 ·have c:decide (m<s.length)=false:=decide_eq_false h;have a:s.take m=s:=Aw (by omega);have b:=Hd a;clear a;go_enter func140,ntmps140;go_wp2;go_ret;refine⟨?_,rfl⟩;show Ending.returned (.string (ByteArray.extract ⟨s.toArray⟩ 0 (min (s.length:Int) (m:Int)).toNat))=_;rw [show(min (s.length:Int) (m:Int)).toNat=s.length by omega,b.o,ByteArray.extract_mk];simp
def uE(w:World)(n:Nat)(l:List (List UInt8))(e:Ending)(w':World):Prop:=∃A c,e= .returned (.slice A n c)∧K5 w' w.heap.size A n c l∧Below w.heap.size w w'
theorem kZ(A:Option Addr)(n c:Nat)(l:List (List UInt8))(many long:Nat)(w:World)(h:Fm w A n l)(hm:many≤1000):
  Calls Ad 141 #[.slice A n c,Aa Ab (many:Int),Aa Ab (long:Int)] w (uE w (min n many) ((l.take many).map fun x=>x.take long)):=by
 have O:=Hd h;have K:l.length=n:=by have:=h.1;simpa using this
 have I:=Hd K;have F:=Hd (fun(s:List UInt8) (w:World)=>cZ s long w);clear h K;go_enter func141,ntmps141;go_wp2_with fail;go_loopw [7,8] (fun s u wr=>∃k:Nat,k≤n∧k≤many∧u= Aa Ab (k:Int)∧∃B d,s= .slice B k d∧K5 wr w.heap.size B k d ((l.take k).map fun x=>x.take long)∧Below w.heap.size w wr) (fun _ u _=>many-(intOf u).toNat)
 case atStart=>exact⟨0,Am _,Am _,rfl,none,0,rfl,Own.nil _ _,Af _ _⟩
 case round=>
  obtain⟨k,W,T,rfl,B,d,rfl,L,G⟩:=hrel;have D:=Hd L;have r:=Hd G;have C:=Hd (O.o.pure G);clear L G;by_cases h1:k<n
  ·by_cases h2:k<many
   ·obtain⟨g,U,e,q,M⟩:=Gc C.o h1;have J:=Hd (show(l.take (k+1)).map (fun x=>x.take long)=(l.take k).map (fun x=>x.take long)++ [l[k].take long] by
     rw [List.take_succ_eq_append_getElem q,List.map_append];rfl)
    generalize l[k]=y at M J;have R:(0:Int)≤(k:Int):=by omega
    have H:(k:Int)<(n:Int):=by omega
    have S:(k:Int)<(many:Int):=by omega
    rw [e];have V:=Hd e;clear e q;go_wp2_with fail;go_at_call 140;refine(F.o _ _).mono ?_;rintro e X ⟨rfl,rfl⟩;have m:=Hd (D.o.pure ((Af wr.heap.size wr).alloc (Ae _) (.cells #[.string ⟨(y.take long).toArray⟩] 9)));have i:=Hd (r.o.alloc r.o.size (.cells #[.string ⟨(y.take long).toArray⟩] 9));have z:=Hd (Sk wr (y.take long));go_wp2_with (at_builtin;refine Fl _ rfl (.tmp 20) (.tmp 27) _ rfl 9 _ 1 16 underlying31 Wt rfl (by omega) D5 O6 _ _ _ _ _ rfl m.o _ _ _ _ rfl z.o (by omega) i.o.size ?_;intro N Q Y b f p);have E:=Hd b;have v:=Hd (Cf i.o f (by rintro j ⟨P,e,rfl⟩;exact(m.o.addr P e).2.1));clear b f p M;go_wp2_with fail;go_roundw
    case rel=>exact⟨k+1,by omega,by omega,by go_num,N,Q,rfl,by rw [J.o];exact E.o,v.o⟩
    case measure=>simp [intOf];omega
   ·obtain rfl:many=k:=by omega
    have H:(many:Int)<(n:Int):=by omega
    have a:min n many=many:=by omega
    have t:=Hd a;clear a;go_wp2_with fail;go_ret;rw [t.o];exact⟨B,d,rfl,D.o,r.o⟩
  ·obtain rfl:n=k:=by omega
   have a:min n many=n:=by omega
   have ht:l.take many=l.take n:=by rw [Aw (by have:=I.o;omega),Aw (by have:=I.o;omega)]
   have t:=Hd (And.intro a ht);clear a ht;go_wp2_with fail;go_ret;rw [t.o.1,t.o.2];exact⟨B,d,rfl,D.o,r.o⟩
inductive Np(w:World):Nv→Tr→Prop
 |mk {x:Nv} {ks:List (List UInt8)} {l:List Tr} {vs:List Nv} (h1:Fm w x.A x.an ks) (h2:It w x.B x.bn vs) (hn:x.bn≤9223372036854775807) (hl:vs.length=l.length)
   (hc:∀(i:Nat) v t,vs[i]?=some v→l[i]?=some t→Np w v t):Np w x (.mk x.k x.n x.u x.s ks l)
theorem Np.pure{t:Tr}(h:Np w x t)(hb:Below w.heap.size w w'):Np w' x t:=by
 induction h with
 |mk h1 h2 hn hl hc ih=>exact .mk (h1.pure hb) (h2.pure hb) hn hl ih
structure Sm(w:World)(B k:Nat)(ts:List Tr)(A:Option Addr)(c:Nat)(vs:List Nv):Prop where
 own:Jj w B A k c vs
 len:ts.length=k
 kids:∀(i:Nat) v t,vs[i]?=some v→ts[i]?=some t→B7 w (fun b=>B≤b∧b<w.heap.size∧∀ad,A=some ad→b≠ad.block) v t
theorem Sm.nil(w:World)(B:Nat):Sm w B 0 [] none 0 []:=⟨Own.nil _ _,rfl,fun i v t hv _=>by simp at hv⟩
theorem Sm.fr(h:Sm w B k ts A c vs)(hf:Fr (fun j=>j=rb) w w')(hr:rb<B):Sm w' B k ts A c vs:=
 ⟨h.own.fr hf (fun ad e=>by have:=(h.own.addr ad e).2.1;omega),h.len,fun i v t hv ht=>((h.kids i v t hv ht).keep fun a u hc hp=>Cq hf hc (by omega)).mono fun b hb=>⟨hb.1,Ar hb.2.1 hf.size,hb.2.2⟩⟩
theorem Sm.step{W7 W8:World}{A1:Option Addr}{c1:Nat}{y:Nv}{t:Tr}(h:Sm w B k ts A c vs)(hf:Fr (fun j=>j=rb) w W7)(hr:rb<B)(hB:B≤w.heap.size)(ha:w.heap.size≤a)
  (hx:B7 W7 (fun b=>a≤b∧b<W7.heap.size) y t) (ho:Jj W8 B A1 (k+1) c1 (vs++ [y])) (hF:Fr (fun b=>∃ad,A=some ad∧b=ad.block) W7 W8)
  (hat:A1.map (·.block)=A.map (·.block)∨A1.map (·.block)=some W7.heap.size):Sm W8 B (k+1) (ts++ [t]) A1 c1 (vs++ [y]):=by
 have m:∀ad,A=some ad→B≤ad.block∧ad.block<w.heap.size:=fun ad e=>(h.own.addr ad e).2
 have o:vs.length=k:=h.own.1;have q:=hf.size;have p:=hF.size;have f:∀ad,A1=some ad→(∃ad0,A=some ad0∧ad.block=ad0.block)∨ad.block=W7.heap.size:=by
  rintro ad rfl;rcases hat with e|e
  ·cases A with
   |none=>simp at e
   |some ad0=>simp at e;exact .inl ⟨ad0,rfl,e⟩
  ·simp at e;exact .inr e
 refine⟨ho,by rw [List.length_append,h.len];rfl,fun i v t' hv ht=>?_⟩;by_cases n:i<k
 ·rw [List.getElem?_append_left (by omega)] at hv;rw [List.getElem?_append_left (by rw [h.len];exact n)] at ht;refine((h.kids i v t' hv ht).keep fun b u hc hp=>Cq hF (Cq hf hc (by omega)) ?_).mono fun b hb=>⟨hb.1,by omega,fun ad e e2=>?_⟩
  ·rintro⟨ad,e,e2⟩;exact hp.2.2 ad e e2
  ·rcases f ad e with⟨ad0,d,l⟩|d
   ·exact hb.2.2 ad0 d (e2.trans l)
   ·omega
 ·have g:i=k:=by
   have:=(List.getElem?_eq_some_iff.1 hv).1;simp at this;omega
  subst g;rw [List.getElem?_append_right (by omega),o,Nat.sub_self] at hv;rw [List.getElem?_append_right (by rw [h.len];exact Ae _),h.len,Nat.sub_self] at ht;simp at hv ht;subst hv ht;refine(hx.keep fun b u hc hp=>Cq hF hc ?_).mono fun b hb=>⟨by omega,by omega,fun ad e e2=>?_⟩
  ·rintro⟨ad,e,e2⟩;have:=m ad e;omega
  ·rcases f ad e with⟨ad0,d,l⟩|d
   ·have:=m ad0 d;omega
   ·omega
def Abe(W:World)(rb m:Nat)(t:Tr)(left:Nat)(e:Ending)(W':World):Prop:=
 ∃y:Nv,e= .returned (.agg (Ab7 y))∧B7 W' (fun b=>W.heap.size≤b∧b<W'.heap.size) y (Hn m t left).1∧Bb W' rb 110 #[Aa Ab ((Hn m t left).2:Int),Aa Ab (m:Int)]∧Fr (fun j=>j=rb) W W'
theorem mH(h:∀ad,A=some ad→(w1.alloc o).drew.heap.size≤ad.block):∀ad,A=some ad→¬ad.block=w1.heap.size:=by
 intro ad e;have h1:(w1.alloc o).heap.size≤ad.block:=h ad e;rw [J3] at h1;omega
theorem Aa1:w1.heap.size≤(w1.alloc o).drew.heap.size:=by
 show w1.heap.size≤(w1.alloc o).heap.size;rw [J3];omega
theorem pC(m:Nat){w0:World}{t:Tr}(h:Np w0 x t):∀(W:World) (rb left:Nat),Below w0.heap.size w0 W→w0.heap.size≤rb→left≤1000→Bb W rb 110 #[Aa Ab (left:Int),Aa Ab (m:Int)]→
  Calls Ad 72 #[Aca rb,.agg (Ab7 x)] W (Abe W rb m t left):=by
 induction h with
 | @mk x ks l vs h1 h2 hn hl hc ih=>
  intro W rb left hW X ej hR;obtain⟨C,D,xu,xs,XA,d,H,XB,xbn,O⟩:=x;have cg:=Hd ih;have HW:=Hd hW;have a8:=Hd (And.intro X hR.lt);replace h1:Fm w0 XA d ks:=h1;replace h2:It w0 XB xbn vs:=h2;replace hn:xbn≤9223372036854775807:=hn;have HI:=Hd h2;have bo:=Hd hl;have a1:=Hd (show vs.length=xbn from h2.1);have ao:=Bq W (.cells (Ab8 C D xu xs XA d H XB xbn O) 34) (.cells #[Aa Ab 0,Aa Ab 0,Aa Ac 0,.string ⟨#[]⟩,.slice none 0 0,.slice none 0 0] 34);have a0:=Hd ao;have aa:=Hd ((Bb.new W 34 (Ab8 C D xu xs XA d H XB xbn O)).alloc (.cells #[Aa Ab 0,Aa Ab 0,Aa Ac 0,.string ⟨#[]⟩,.slice none 0 0,.slice none 0 0] 34));have U:=Hd (Bb.new_ (w:=W.alloc (.cells (Ab8 C D xu xs XA d H XB xbn O) 34)) (g:=W.heap.size+1) (by simp) 34 #[Aa Ab 0,Aa Ab 0,Aa Ac 0,.string ⟨#[]⟩,.slice none 0 0,.slice none 0 0]);have aj:=Hd (hR.pure ao);have a5:=Hd (h1.pure (A6 hW ao));clear ih h1 h2 hl hc hW X hR ao;go_enter func72,ntmps72;go_upto_region 1 with fail
  generalize (W.alloc (.cells (Ab8 C D xu xs XA d H XB xbn O) 34)).alloc (.cells #[Aa Ab 0,Aa Ab 0,Aa Ac 0,.string ⟨#[]⟩,.slice none 0 0,.slice none 0 0] 34)=w1 at a0 aa U aj a5⊢;generalize B:W.heap.size=bt at aa U⊢;generalize b0:bt+1=br at U⊢;have HT:=Hd (show W.heap.size=bt∧bt+1=br∧br<w1.heap.size∧rb<bt from⟨B,b0,U.o.lt,by rw [←B];exact a8.o.2⟩);clear B b0;obtain ⟨x0,x1,x2,x3,x4⟩:=aa.o.c5;have r1:w1.cell? ⟨rb,1,none⟩=some (Aa Ab (m:Int)):=aj.o.cell 1;have a9:=Hd (show ∀W',Below w1.heap.size w1 W'→Calls Ad 141 #[.slice XA d H,Aa Ab 64,Aa Ab (m:Int)] W' (uE W' (min d 64) ((ks.take 64).map fun x=>x.take m)) from fun W' hb=>kZ XA d H ks 64 m W' (a5.o.pure hb) (by omega));have G:bt≠w1.heap.size:=by have:=HT.o;omega
  have da:rb≠w1.heap.size:=by have:=HT.o;omega
  have a2:=Hd (show Below w1.heap.size w1 w1.drew from(Af _ _).drew);have a3:=Hd (show Below w1.heap.size w1 (w1.alloc (.cells #[Aa Ab 0,Aa Ab 0,Aa Ac 0,.string ⟨#[]⟩,.slice none 0 0,.slice none 0 0] 34)).drew from((Af _ _).alloc (Ae _) _).drew);go_cut [5] (fun u5 wx=>∃wy,wy=wx∧∃g A c,u5= Aca g∧Bb wx g 34 #[Aa Ab C,Aa Ab D,Aa Ac (xu:Int),.string ⟨(xs.take m).toArray⟩,.slice A (min d 64) c,.slice none 0 0]∧K5 wx w1.heap.size A (min d 64) c ((ks.take 64).map fun x=>x.take m)∧w1.heap.size≤g∧(∀ad,A=some ad→ad.block≠g)∧Below w1.heap.size w1 wx)
  case first=>
   go_region_held3 (fun w'=>w'.cell? ⟨bt,0,none⟩=some (Aa Ab C)∧w'.cell? ⟨bt,1,none⟩=some (Aa Ab D)∧w'.cell? ⟨bt,2,none⟩=some (Aa Ac (xu:Int))∧w'.cell? ⟨bt,3,none⟩=some (.string ⟨xs.toArray⟩)∧w'.cell? ⟨bt,4,none⟩=some (.slice XA d H)∧w'.cell? ⟨rb,1,none⟩=some (Aa Ab (m:Int)))
    ((with_reducible refine⟨?_,?_,?_,?_,?_,?_⟩) <;>(repeat (first|with_reducible assumption|with_reducible refine Bc ?_|with_reducible refine Bm _ ?_|with_reducible refine uL ?_ ?_)))
    (first
     |(go_at_call 140;(with_reducible refine(cZ xs m _).mono ?_);rintro e w' ⟨rfl,rfl⟩)
     |(go_at_call 141;(with_reducible refine(a9.o _ a2.o).mono ?_);rintro e w5 ⟨A5,c5,rfl,ab,f⟩;have y0:=Ba f (Bc x0);have y1:=Ba f (Bc x1);have y2:=Ba f (Bc x2);have y3:=Ba f (Bc x3);have y4:=Ba f (Bc x4);have y5:=Ba f (Bc r1);have R:=Hd ab;have Y:=Hd (B5 a2.o f);have d3:=Hd f;clear ab f)
     |(go_at_call 141;(with_reducible refine(a9.o _ a3.o).mono ?_);rintro e w5 ⟨A5,c5,rfl,ab,f⟩;have y0:=Ba f (Bc (Bm (.cells #[Aa Ab 0,Aa Ab 0,Aa Ac 0,.string ⟨#[]⟩,.slice none 0 0,.slice none 0 0] 34) x0));have y1:=Ba f (Bc (Bm (.cells #[Aa Ab 0,Aa Ab 0,Aa Ac 0,.string ⟨#[]⟩,.slice none 0 0,.slice none 0 0] 34) x1));have y2:=Ba f (Bc (Bm (.cells #[Aa Ab 0,Aa Ab 0,Aa Ac 0,.string ⟨#[]⟩,.slice none 0 0,.slice none 0 0] 34) x2));have y3:=Ba f (Bc (Bm (.cells #[Aa Ab 0,Aa Ab 0,Aa Ac 0,.string ⟨#[]⟩,.slice none 0 0,.slice none 0 0] 34) x3));have y4:=Ba f (Bc (Bm (.cells #[Aa Ab 0,Aa Ab 0,Aa Ac 0,.string ⟨#[]⟩,.slice none 0 0,.slice none 0 0] 34) x4));have y5:=Ba f (Bc (Bm (.cells #[Aa Ab 0,Aa Ab 0,Aa Ac 0,.string ⟨#[]⟩,.slice none 0 0,.slice none 0 0] 34) r1));have R:=Hd ab;have Y:=Hd (B5 a3.o f);have HQ:=Hd ((Bb.new w1 34 #[Aa Ab 0,Aa Ab 0,Aa Ac 0,.string ⟨#[]⟩,.slice none 0 0,.slice none 0 0]).drew.pure f);have q0:=HQ.o.cell 0;have q1:=HQ.o.cell 1;have q2:=HQ.o.cell 2;have q3:=HQ.o.cell 3;have q4:=HQ.o.cell 4;have q5:=HQ.o.cell 5;obtain ⟨p0,p1,p2,p3,p4,p5⟩:=HQ.o.f6;have d2:=Hd (show(w1.alloc (.cells #[Aa Ab 0,Aa Ab 0,Aa Ac 0,.string ⟨#[]⟩,.slice none 0 0,.slice none 0 0] 34)).heap.size≤w5.heap.size from f.size);clear ab f))
   all_goals
    go_wp2_with fail;go_meet
    first
     |exact⟨_,rfl,_,A5,c5,rfl,(((((HQ.o.set_ 0 _).set_ 1 _).set_ 2 _).set_ 3 _).set_ 4 _).set_ 5 _,(R.o.fr (Ij w5 w1.heap.size _ _ _ _ _ _) (mH (fun ad e=>(R.o.addr ad e).2.1))).rebase Aa1,Ae _,mH (fun ad e=>(R.o.addr ad e).2.1),Cf Y.o (Ij w5 w1.heap.size _ _ _ _ _ _) (by rintro j rfl;exact Ae _)⟩
     |exact⟨_,rfl,_,A5,c5,rfl,Bb.new _ _ _,R.o.pure ((Af w5.heap.size w5).alloc (Ae _) _),Y.o.size,fun ad e=>Nat.ne_of_lt (R.o.addr ad e).2.2,Y.o.alloc Y.o.size _⟩
  case rest=>
  obtain⟨w2,rfl,g,I,P,rfl,hG,ae,b2,bs,V⟩:=hcut;have HG:=Hd hG;have ck:=Hd ae;have ah:=Hd (A6 a0.o V);have cr:=Hd (aa.o.pure V);have cu:=Hd (U.o.pure V);have cl:=Hd (aj.o.pure V);have T:=Hd (show br<w1.heap.size∧w1.heap.size≤w2.heap.size∧w1.heap.size≤g∧g<w2.heap.size from⟨HT.o.2.2.1,V.size,b2,hG.lt⟩);have au:=Hd (show min d 64≤P from ae.cap.1);have E:=Hd (show ∀ad,I=some ad→w1.heap.size≤ad.block∧ad.block<w2.heap.size∧ad.block≠g from fun ad e=>⟨(ae.addr ad e).2.1,(ae.addr ad e).2.2,bs ad e⟩);clear x0 x1 x2 x3 x4 r1 hG ae b2 bs V G da a9 a2 a3 aa U aj a5 a0;go_upto_region 4 with fail
  go_wp2_with fail;go_loopw [6,7] (fun s u wr=>∃(k lf:Nat) (A:Option Addr) (c:Nat) (us:List Nv) (rs:List Tr),k≤xbn∧s= .slice A k c∧u= Aa Ab (k:Int)∧Sm wr w2.heap.size k rs A c us∧k+lf≤1000∧Hi m l left=(rs++(Hi m (l.drop k) lf).1,(Hi m (l.drop k) lf).2)∧
   Bb wr rb 110 #[Aa Ab (lf:Int),Aa Ab (m:Int)]∧Bb wr bt 34 (Ab8 C D xu xs XA d H XB xbn O)∧Bb wr br 34 #[Aa Ab 0,Aa Ab 0,Aa Ac 0,.string ⟨#[]⟩,.slice none 0 0,.slice none 0 0]∧Bb wr g 34 #[Aa Ab C,Aa Ab D,Aa Ac (xu:Int),.string ⟨(xs.take m).toArray⟩,.slice I (min d 64) P,.slice none 0 0]∧
   Fm wr I (min d 64) ((ks.take 64).map fun x=>x.take m)∧w2.heap.size≤wr.heap.size∧Fr (fun j=>j=rb) W wr) (fun _ u _=>1000-(intOf u).toNat)
  case atStart=>exact⟨0,left,none,0,[],[],Am _,rfl,rfl,Sm.nil _ _,by omega,by simp,cl.o,cr.o,cu.o,HG.o,ck.o.is,Ae _,Fr.of_below ah.o _⟩
  case round=>
   obtain⟨k,lf,A,c,us,rs,hk,rfl,rfl,hC,bd,b1,hr,hx,hz,hg,b3,aq,z⟩:=hrel;have J:=Hd hC;have a4:=Hd b1;have HR:=Hd hr;have HX:=Hd hx;have HZ:=Hd hz;have L:=Hd hg;have a6:=Hd b3;have ak:=Hd aq;have ai:=Hd z;have Z:=Hd bd;clear hC b1 hr hx hz hg b3 aq z;have x5:wr.cell? ⟨bt,5,none⟩=some (.slice XB xbn O):=HX.o.cell 5;have r0:wr.cell? ⟨rb,0,none⟩=some (Aa Ab (lf:Int)):=HR.o.cell 0;by_cases h1:k<xbn
   ·have eg:(k:Int)<(xbn:Int):=by omega
    by_cases h2:0<lf
    ·obtain⟨l',rfl⟩:∃l',lf=l'+1:=⟨lf-1,by omega⟩;obtain⟨v,hv⟩:∃v,vs[k]?=some v:=⟨_,Ai (by have:=a1.o;omega)⟩;obtain⟨t',bf⟩:∃t',l[k]?=some t':=⟨_,Ai (by have:=a1.o;have:=bo.o;omega)⟩;have b5:(wr.setCell ⟨rb,0,none⟩ (Aa Ab (l':Int))).heap.size=wr.heap.size:=by simp [World.setCell]
     have ap:=Fr.setCell (S:=fun j=>j=rb) (Fr.refl (fun j=>j=rb) wr) (p:=⟨rb,0,none⟩) (fun _=>rfl) (Aa Ab (l':Int));have f:Below w0.heap.size w0 (wr.setCell ⟨rb,0,none⟩ (Aa Ab (l':Int))):=HW.o.trans ((ai.o.trans ap (fun _ _ e=>e)).belowB (fun i hi e=>by have h:=a8.o.1;omega) HW.o.size);have b4:Bb (wr.setCell ⟨rb,0,none⟩ (Aa Ab (l':Int))) rb 110 #[Aa Ab (l':Int),Aa Ab (m:Int)]:=HR.o.set_ 0 _;have bk:=Hd (cg.o k v t' hv bf _ rb l' f a8.o.1 (by omega) b4);have bp:=Hd (HX.o.fr ap (by have:=HT.o;omega));have bu:It (wr.setCell ⟨rb,0,none⟩ (Aa Ab (l':Int))) XB xbn vs:=HI.o.pure f;obtain⟨gv,ek,e,v0,v1,v2,v3,v4,v5⟩:=Hp bu hv;have bl:=Hd ap;have bn:=Hd b5;have ce:=Hd (show Hi m l left=((rs++ [(Hn m t' l').1])++(Hi m (l.drop (k+1)) (Hn m t' l').2).1,(Hi m (l.drop (k+1)) (Hn m t' l').2).2) by
      obtain⟨q1,q2⟩:=List.getElem?_eq_some_iff.1 bf;rw [a4.o,List.drop_eq_getElem_cons q1,q2,Hi,if_neg (by omega),Nat.add_sub_cancel];simp)
     have ci:=Hd (X4 m t' l').1;have dd:wr.cell? ⟨rb,0,none⟩=some (Aa Ab ((l':Int)+1)):=r0;have rf:wr.frozen? ⟨rb,0,none⟩=false:=HR.o.frozen 0;have eh:(0:Int)<(l':Int)+1:=by omega
     have ei:(l':Int)+1≤1000:=by have:=Z.o;omega
     have ee:(0:Int)≤(k:Int):=by omega
     have ef:(k:Int)≤1000:=by have:=Z.o;omega
     clear r0 ap f b4 bu hv bf b5;go_upto_region 7 with fail
     clear dd rf x5;generalize wr.setCell ⟨rb,0,none⟩ (Aa Ab (l':Int))=w5 at bk bp v0 v1 v2 v3 v4 v5 bl bn⊢;have x5:w5.cell? ⟨bt,5,none⟩=some (.slice XB xbn O):=bp.o.cell 5;rw [e] at x5;have HE:=Hd e;clear e;go_wp2_with fail;go_at_call 72;refine bk.o.mono ?_;rintro e w6 ⟨y,rfl,bv,bw,cx⟩;have cj:=Hd bv;have cm:=Hd bw;have hF:=bl.o.trans cx (fun _ _ e=>e);have bx:=(Af w6.heap.size w6).alloc (Ae _) (.cells (Ab7 y) 34);have an:=hF.trans (Fr.of_below bx (fun _=>False)) (fun _ _ h=>h.elim);have X:rb<w2.heap.size:=by have h1:=HT.o;have h2:=T.o;omega
     have Q:=Hd an;have cd:=Hd (J.o.fr an X);have a7:=cd.o.own;have a7:=Hd a7;have cf:=Hd (bO w6 y);have bm:=Hd (show w2.heap.size≤(w6.alloc (.cells (Ab7 y) 34)).heap.size from Nat.le_trans ak.o an.size);have aw:=Hd X;clear bv bw hF bx an X v0 v1 v2 v3 v4 v5 x5;go_wp2_with (at_builtin;refine Fl _ rfl (.tmp 51) (.tmp 59) _ rfl 34 _ 6 88 underlying32 Sc rfl (by omega) Jh Wv _ _ _ _ _ rfl a7.o _ _ _ _ rfl cf.o (by omega) bm.o ?_;intro A2 c2 w8 ax z bz);have bb:∀ad,A=some ad→w2.heap.size≤ad.block:=fun ad e=>(J.o.own.addr ad e).2.1
     have b6:=J.o.step Q.o aw.o ak.o (a:=w5.heap.size) (by rw [bn.o];exact Ae _) ((cj.o.pure ((Af w6.heap.size w6).alloc (Ae _) _)).mono fun b hb=>⟨hb.1,Ar hb.2 (by simp)⟩) ax z bz;have G:∀b,b<w2.heap.size→¬(∃ad,A=some ad∧b=ad.block):=by
      rintro b hb ⟨ad,e,rfl⟩;have:=bb ad e;omega
     have B:=HT.o;have N:=T.o;have cp:=Hd b6;have cn:=Hd ((cm.o.pure ((Af w6.heap.size w6).alloc (Ae _) _)).fr z (G rb aw.o));have cs:=Hd ((HX.o.fr Q.o (by omega)).fr z (G bt (by omega)));have M:=Hd ((HZ.o.fr Q.o (by omega)).fr z (G br (by omega)));have K:=Hd ((L.o.fr Q.o (by omega)).fr z (G g (by omega)));have ch:=Hd ((a6.o.fr Q.o (fun ad e=>by have:=E.o ad e;omega)).fr z (fun ad e=>G _ (E.o ad e).2.1));have co:=Hd (Nat.le_trans bm.o z.size);have n:=Hd ((ai.o.trans Q.o (fun _ _ e=>e)).trans z (fun i hi h=>by
      obtain⟨ad,e,rfl⟩:=h;have h1:=bb ad e;have h2:=ah.o.size;omega))
     clear ax z bz b6 G bb B N;go_wp2_with fail;go_roundw
     case rel=>exact⟨k+1,_,A2,c2,_,_,by omega,rfl,by go_num,cp.o,by have h1:=ci.o;have h2:=Z.o;omega,ce.o,cn.o,cs.o,M.o,K.o,ch.o,co.o,n.o⟩
     case measure=>simp [intOf];omega
    ·obtain rfl:lf=0:=by omega
     have r0:wr.cell? ⟨rb,0,none⟩=some (Aa Ab 0):=HR.o.cell 0;have F:=Hd (show Hi m l left=(rs,0) by rw [a4.o];cases l.drop k <;>simp [Hi]);have g5:wr.cell? ⟨g,5,none⟩=some (.slice none 0 0):=L.o.cell 5;have gf:wr.frozen? ⟨g,5,none⟩=false:=L.o.frozen 5;go_upto_region 9 with fail
     have n:=Hd (Fr.setCell (S:=fun j=>j=g) (Fr.refl _ wr) (p:=⟨g,5,none⟩) (fun _=>rfl) (.slice A k c));have K:=Hd (show Bb (wr.setCell ⟨g,5,none⟩ (.slice A k c)) g 34 #[Aa Ab C,Aa Ab D,Aa Ac (xu:Int),.string ⟨(xs.take m).toArray⟩,.slice I (min d 64) P,.slice A k c] from L.o.set_ 5 _);generalize wr.setCell ⟨g,5,none⟩ (.slice A k c)=w8 at n K⊢;have B:=HT.o;have N:=T.o;have M:=Hd (HZ.o.fr n.o (by omega));clear g5 gf x5 r0;obtain ⟨c0,c1,c2,c3,c4,c5⟩:=K.o.c6;obtain ⟨q0,q1,q2,q3,q4,q5⟩:=M.o.c6;have r:∀j,w8.frozen? ⟨br,j,none⟩=false:=fun j=>M.o.frozen j
     have f0:=r 0;have f1:=r 1;have f2:=r 2;have f3:=r 3;have f4:=r 4;have f5:=r 5;clear r B N;go_wp2_with fail;refine bodyPost_ret (v:= .agg #[Aa Ab C,Aa Ab D,Aa Ac (xu:Int),.string ⟨(xs.take m).toArray⟩,.slice I (min d 64) P,.slice A k c]) (by simp [results,results72,go_sem,q0,q1,q2,q3,q4,q5]) rfl ?_;have q:=Ij w8 br (Aa Ab C) (Aa Ab D) (Aa Ac (xu:Int)) (.string ⟨(xs.take m).toArray⟩) (.slice I (min d 64) P) (.slice A k c);generalize (((((w8.setCell ⟨br,0,none⟩ (Aa Ab C)).setCell ⟨br,1,none⟩ (Aa Ab D)).setCell ⟨br,2,none⟩ (Aa Ac (xu:Int))).setCell ⟨br,3,none⟩ (.string ⟨(xs.take m).toArray⟩)).setCell ⟨br,4,none⟩ (.slice I (min d 64) P)).setCell ⟨br,5,none⟩ (.slice A k c)=w9 at q⊢;have B:=HT.o;have N:=T.o;have aq:=ak.o;have db:=n.o.size;have dc:=q.size;have c8:=ah.o.size;have bd:=Z.o;have hA:∀ad,A=some ad→w2.heap.size≤ad.block∧ad.block<wr.heap.size:=fun ad e=>(J.o.own.addr ad e).2
     have be:us.length=k:=J.o.own.1;refine⟨⟨C,D,xu,xs.take m,I,min d 64,P,A,k,c⟩,rfl,?_,?_,?_⟩
     ·rw [Hn,F.o];refine B7.mk (x:=⟨C,D,xu,xs.take m,I,min d 64,P,A,k,c⟩) ((a6.o.fr n.o (fun ad e=>(E.o ad e).2.2)).fr q (fun ad e=>by have:=E.o ad e;omega)) (fun ad e=>by have:=E.o ad e;omega) au.o (show min d 64≤1099511627776 by omega) ((J.o.own.is.fr n.o (fun ad e=>by have:=hA ad e;omega)).fr q (fun ad e=>by have:=hA ad e;omega)) (fun ad e=>by have:=hA ad e;omega) J.o.own.cap.1 (show k≤1099511627776 by omega) (by rw [be];exact J.o.len.symm) (fun i v t hv ht=>((J.o.kids i v t hv ht).keep fun a u hc hp=>Cq q (Cq n.o hc (by omega)) (by omega)).mono fun b hb=>by omega)
     ·rw [Hn,F.o];exact(HR.o.fr n.o (by omega)).fr q (by omega)
     ·exact(ai.o.trans n.o (fun i hi e=>by omega)).trans q (fun i hi e=>by omega)
   ·obtain rfl:xbn=k:=by omega
    have F:=Hd (show Hi m l left=(rs,lf) by rw [a4.o,List.drop_of_length_le (by have h1:=a1.o;have h2:=bo.o;omega)];simp [Hi]);have g5:wr.cell? ⟨g,5,none⟩=some (.slice none 0 0):=L.o.cell 5;have gf:wr.frozen? ⟨g,5,none⟩=false:=L.o.frozen 5;go_upto_region 9 with fail
    have n:=Hd (Fr.setCell (S:=fun j=>j=g) (Fr.refl _ wr) (p:=⟨g,5,none⟩) (fun _=>rfl) (.slice A xbn c));have K:=Hd (show Bb (wr.setCell ⟨g,5,none⟩ (.slice A xbn c)) g 34 #[Aa Ab C,Aa Ab D,Aa Ac (xu:Int),.string ⟨(xs.take m).toArray⟩,.slice I (min d 64) P,.slice A xbn c] from L.o.set_ 5 _);generalize wr.setCell ⟨g,5,none⟩ (.slice A xbn c)=w8 at n K⊢;have B:=HT.o;have N:=T.o;have M:=Hd (HZ.o.fr n.o (by omega));clear g5 gf x5 r0;obtain ⟨c0,c1,c2,c3,c4,c5⟩:=K.o.c6;obtain ⟨q0,q1,q2,q3,q4,q5⟩:=M.o.c6;have r:∀j,w8.frozen? ⟨br,j,none⟩=false:=fun j=>M.o.frozen j
    have f0:=r 0;have f1:=r 1;have f2:=r 2;have f3:=r 3;have f4:=r 4;have f5:=r 5;clear r B N;go_wp2_with fail;refine bodyPost_ret (v:= .agg #[Aa Ab C,Aa Ab D,Aa Ac (xu:Int),.string ⟨(xs.take m).toArray⟩,.slice I (min d 64) P,.slice A xbn c]) (by simp [results,results72,go_sem,q0,q1,q2,q3,q4,q5]) rfl ?_;have q:=Ij w8 br (Aa Ab C) (Aa Ab D) (Aa Ac (xu:Int)) (.string ⟨(xs.take m).toArray⟩) (.slice I (min d 64) P) (.slice A xbn c);generalize (((((w8.setCell ⟨br,0,none⟩ (Aa Ab C)).setCell ⟨br,1,none⟩ (Aa Ab D)).setCell ⟨br,2,none⟩ (Aa Ac (xu:Int))).setCell ⟨br,3,none⟩ (.string ⟨(xs.take m).toArray⟩)).setCell ⟨br,4,none⟩ (.slice I (min d 64) P)).setCell ⟨br,5,none⟩ (.slice A xbn c)=w9 at q⊢;have B:=HT.o;have N:=T.o;have aq:=ak.o;have db:=n.o.size;have dc:=q.size;have c8:=ah.o.size;have bd:=Z.o;have hA:∀ad,A=some ad→w2.heap.size≤ad.block∧ad.block<wr.heap.size:=fun ad e=>(J.o.own.addr ad e).2
    have be:us.length=xbn:=J.o.own.1;refine⟨⟨C,D,xu,xs.take m,I,min d 64,P,A,xbn,c⟩,rfl,?_,?_,?_⟩
    ·rw [Hn,F.o];refine B7.mk (x:=⟨C,D,xu,xs.take m,I,min d 64,P,A,xbn,c⟩) ((a6.o.fr n.o (fun ad e=>(E.o ad e).2.2)).fr q (fun ad e=>by have:=E.o ad e;omega)) (fun ad e=>by have:=E.o ad e;omega) au.o (show min d 64≤1099511627776 by omega) ((J.o.own.is.fr n.o (fun ad e=>by have:=hA ad e;omega)).fr q (fun ad e=>by have:=hA ad e;omega)) (fun ad e=>by have:=hA ad e;omega) J.o.own.cap.1 (show xbn≤1099511627776 by omega) (by rw [be];exact J.o.len.symm) (fun i v t hv ht=>((J.o.kids i v t hv ht).keep fun a u hc hp=>Cq q (Cq n.o hc (by omega)) (by omega)).mono fun b hb=>by omega)
    ·rw [Hn,F.o];exact(HR.o.fr n.o (by omega)).fr q (by omega)
    ·exact(ai.o.trans n.o (fun i hi e=>by omega)).trans q (fun i hi e=>by omega)
end
section
open Go.RowKit Go.Acc Go.Deep
def R8(w:World)(t:Tr)(e:Ending)(w':World):Prop:=
 ∃y:Nv,e= .returned (.agg (Ab7 y))∧B7 w' (fun b=>w.heap.size≤b∧b<w'.heap.size) y t∧Below w.heap.size w w'
theorem rH(m nd:Nat){t:Tr}(h:Np w x t)(hd:nd≤1000):Calls Ad 38 #[.agg (Ab7 x),Aa Ab ((nd:Int)+1),Aa Ab (m:Int)] w (R8 w (Hn m t nd).1):=by
 obtain⟨M,N,O,xs,K,q,p,L,y,r⟩:=x;have f:=Hd (Bq w (.cells (Ab8 M N O xs K q p L y r) 34) (.cells #[Aa Ab 0,Aa Ab 0,Aa Ac 0,.string ⟨#[]⟩,.slice none 0 0,.slice none 0 0] 34));have D:=Hd ((Bb.new w 34 (Ab8 M N O xs K q p L y r)).alloc (.cells #[Aa Ab 0,Aa Ab 0,Aa Ac 0,.string ⟨#[]⟩,.slice none 0 0,.slice none 0 0] 34));have d:=Hd (Bb.new_ (w:=w.alloc (.cells (Ab8 M N O xs K q p L y r) 34)) (g:=w.heap.size+1) (by simp) 34 #[Aa Ab 0,Aa Ab 0,Aa Ac 0,.string ⟨#[]⟩,.slice none 0 0,.slice none 0 0]);have Z:=Hd h;have ad:(0:Int)≤(nd:Int):=by omega
 have ae:(nd:Int)≤1000:=by omega
 have Y:=Hd hd;clear h hd;go_enter func38,ntmps38;go_upto_region 1 with fail
 generalize (w.alloc (.cells (Ab8 M N O xs K q p L y r) 34)).alloc (.cells #[Aa Ab 0,Aa Ab 0,Aa Ac 0,.string ⟨#[]⟩,.slice none 0 0,.slice none 0 0] 34)=w1 at f D d⊢;generalize J:w.heap.size=bt at D d⊢;generalize I:bt+1=br at d⊢;have HT:=Hd (And.intro J I);clear J I;go_upto_region 2 with fail
 have l:=(Af w1.heap.size w1).alloc (Ae _) (.cells #[Aa Ab (nd:Int),Aa Ab (m:Int)] 110);have R:=Hd (Bb.new w1 110 #[Aa Ab (nd:Int),Aa Ab (m:Int)]);have F:=Hd (D.o.pure l);have G:=Hd (d.o.pure l);have C:=Hd (A6 f.o l);have E:=Hd (show br<w1.heap.size from d.o.lt);clear l;have V:=Hd (pC m Z.o _ w1.heap.size nd C.o f.o.size Y.o R.o);generalize w1.alloc (.cells #[Aa Ab (nd:Int),Aa Ab (m:Int)] 110)=w2 at R F G C V⊢;obtain ⟨x0,x1,x2,x3,x4,x5⟩:=F.o.c6;go_wp2_with fail;go_at_call 72;refine V.o.mono ?_;rintro e X ⟨z,rfl,W,T,i⟩;have HN:=Hd W;have Q:=Hd i;have H:=Hd (G.o.fr i (by have:=E.o;omega));have S:=Hd (show w1.heap.size<w2.heap.size from R.o.lt);have P:=Hd (Cf C.o i (by rintro j rfl;exact f.o.size));clear W T i x0 x1 x2 x3 x4 x5;obtain ⟨r0,r1,r2,r3,r4,r5⟩:=H.o.c6;have c:∀j,X.frozen? ⟨br,j,none⟩=false:=fun j=>H.o.frozen j
 have f0:=c 0;have f1:=c 1;have f2:=c 2;have f3:=c 3;have f4:=c 4;have f5:=c 5;clear c;go_wp2_with fail;refine bodyPost_ret (v:= .agg (Ab7 z)) (by simp [results,results38,go_sem,r0,r1,r2,r3,r4,r5]) rfl ?_;have U:=Ij X br (Aa Ab z.k) (Aa Ab z.n) (Aa Ac (z.u:Int)) (.string ⟨z.s.toArray⟩) (.slice z.A z.an z.ac) (.slice z.B z.bn z.bc);have hs:=E.o;have ht:=HT.o;have h4:=Q.o.size;have h5:=U.size;have h6:=S.o;exact⟨z,rfl,(HN.o.keep fun a u hc hp=>Cq U hc (by omega)).mono fun b hb=>⟨by omega,by omega⟩,Cf P.o U (by rintro j rfl;omega)⟩
end
section
open Go.RowKit Go.Acc
theorem gO(ht:Ig t=true):∀w,(Instr.index 286 (.agg K2) (Aa Ab t)).run Ad w= .ok (.agg (V1 t.toNat).toArray) w:=by
 have h:∀n:Fin 37,∀w,(Instr.index 286 (.agg K2) (Aa Ab ((n.val:Nat):Int))).run Ad w= .ok (.agg (V1 ((n.val:Nat):Int).toNat).toArray) w:=by
  intro n;rcases n with⟨n,a⟩
  have:n=0∨n=1∨n=2∨n=3∨n=4∨n=5∨n=6∨n=7∨n=8∨n=9∨n=10∨n=11∨n=12∨n=13∨n=14∨n=15∨n=16∨n=17∨n=18∨n=19∨n=20∨n=21∨n=22∨n=23∨n=24∨n=25∨n=26∨n=27∨n=28∨n=29∨n=30∨n=31∨n=32∨n=33∨n=34∨n=35∨n=36:=by omega
  rcases this with rfl|rfl|rfl|rfl|rfl|rfl|rfl|rfl|rfl|rfl|rfl|rfl|rfl|rfl|rfl|rfl|rfl|rfl|rfl|rfl|rfl|rfl|rfl|rfl|rfl|rfl|rfl|rfl|rfl|rfl|rfl|rfl|rfl|rfl|rfl|rfl|rfl
  all_goals
   intro w
   kernel_rfl
 exact Lb (p:=fun t=>∀w,(Instr.index 286 (.agg K2) (Aa Ab t)).run Ad w= .ok (.agg (V1 t.toNat).toArray) w) h ht
def Iq(t:Int):Bool:=decide (t=9∨t=10)||Ib t
def Dk(t:Int):Bool:=decide (t=9∨t=10)
def aheadT(t:Int):Nat:=if t=9 then 3 else if 0<Cr t then 0 else 1
def tgs(t:Int):Nat:=if Dk t=true then 1 else 0
theorem Xe(ht:Ig t=true):
  (Iq t=false∧V1 t.toNat=[Aa Ab 0,.nilFunc,.nilFunc,Aa Ab 0])∨
  (Iq t=true∧0<Cr t∧Cr t≤4∧Dk t=false∧aheadT t=0∧V1 t.toNat=[Aa Ab 0,Lt 309,Lt 310,Aa Ab 0])∨
  (Iq t=true∧Cr t=0∧(aheadT t=1∨aheadT t=3)∧V1 t.toNat=[Aa Ab (aheadT t:Int),Lt 311,(if Dk t=true then Lt 312 else Lt 310),Aa Ab (tgs t:Int)]):=by
 have a:=Ez.1 ht;have:t=0∨t=1∨t=2∨t=3∨t=4∨t=5∨t=6∨t=7∨t=8∨t=9∨t=10∨t=11∨t=12∨t=13∨t=14∨t=15∨t=16∨t=17∨t=18∨t=19∨t=20∨t=21∨t=22∨t=23∨t=24∨t=25∨t=26∨t=27∨t=28∨t=29∨t=30∨t=31∨t=32∨t=33∨t=34∨t=35∨t=36:=by omega
 clear a ht;rcases this with rfl|rfl|rfl|rfl|rfl|rfl|rfl|rfl|rfl|rfl|rfl|rfl|rfl|rfl|rfl|rfl|rfl|rfl|rfl|rfl|rfl|rfl|rfl|rfl|rfl|rfl|rfl|rfl|rfl|rfl|rfl|rfl|rfl|rfl|rfl|rfl|rfl
 all_goals first
  |exact .inl ⟨by decide,rfl⟩
  |exact .inr (.inl ⟨by decide,by decide,by decide,by decide,by decide,rfl⟩)
  |exact .inr (.inr ⟨by decide,by decide,by decide,rfl⟩)
theorem eM(A:Option Addr)(n c:Nat)(p q t v a:Int)(M:Nat)(w:World)(hm:Cr t=M)(hM:M≤4):
  Calls Ad 309 #[.slice A n c,.agg (Ab9 p q t v),Aa Ab a] w (Ab5 (Aa Ac (M:Int)) w):=by
 have b:=Hd ((Af w.heap.size w).alloc (Ae _) (.cells (Ab9 p q t v) 70));have f:=Hd hm;clear hm;go_enter func309,ntmps309;go_wp2_with fail;go_at_call 272;refine(J6 t _).mono ?_;rw [f.o];rintro e h ⟨rfl,d⟩;replace b:=Hd (A6 b.o d);clear d;have g:IntKind.u64.wrap (M:Int)=M:=Ce _ (by omega);go_wp2;go_ret;exact⟨rfl,b.o⟩
theorem eJ(A:Option Addr)(n c:Nat)(p q t:Int)(v a:Nat)(l:List UInt8)(w:World)(h:B4 w A n l)(hc:n≤c)(hn:n≤1099511627776)(ha:a≤1099511627776)(hv:v≤8):
  Calls Ad 311 #[.slice A n c,.agg (Ab9 p q t v),Aa Ab a] w (Ab5 (Aa Ac (loadU l ((a:Int)-v) v:Nat)) w):=by
 have f:=Hd (h.alloc (.cells (Ab9 p q t v) 70));have b:=Hd ((Af w.heap.size w).alloc (Ae _) (.cells (Ab9 p q t v) 70));clear h;go_enter func311,ntmps311;go_wp2_with fail;go_at_call 149;refine(Ka A n c ((a:Int)-v) v l _ f.o hc (by omega)).mono ?_;rintro e g ⟨rfl,d⟩;replace b:=Hd (A6 b.o d);clear d;go_wp2;go_ret;exact⟨rfl,b.o⟩
theorem oD(A:Option Addr)(n c:Nat)(p q t:Int)(v a U:Nat)(l:List UInt8)(w:World)(h:B4 w A n l)(hc:n≤c)(hn:n≤1099511627776)(ha:a≤1099511627776)(hv:v≤8)(hU:loadU l ((a:Int)-v) v=U):
  Calls Ad 311 #[.slice A n c,.agg (Ab9 p q t v),Aa Ab a] w (Ab5 (Aa Ac (U:Int)) w):=by
 subst hU;exact eJ A n c p q t v a l w h hc hn ha hv
theorem O7(h:B8 l p q t v=0):0≤By l p q t v∧By l p q t v≤l.length:=by
 have a:Cc l.length p q t v=0:=by
  by_cases e:Cc l.length p q t v=0
  ·exact e
  ·rw [Ld e] at h;exact absurd h e
 obtain⟨_,h2⟩:=Dy.1 a;obtain⟨h1,_⟩:=Dy.1 a;have h2:=Em.1 h2;have h1:=Cz.1 h1;have c:=B6.1 h1.2.1;unfold B8 at h;rw [if_pos a] at h;unfold By;have b:B8 l p q t v=0:=by unfold B8;rw [if_pos a];exact h
 rw [if_pos b];split at h
 ·cases h
 ·split at h
  ·cases h
  ·omega
theorem M4(h:B4 w A n l):B4 w.drew A n l:=h
theorem Dj{p:Addr}(o:Obj)(h:w.cell? p=some u):(w.alloc o).cell? p=some u:=Ba ((Af _ _).alloc (Ae _) o) h
theorem Bw{p:Addr}(h:w.cell? p=some u):w.drew.cell? p=some u:=h
theorem Tz{p q:Addr}{v:Value}(h:w.cell? q=some v)(hne:q.block≠p.block):(w.setCell p u).cell? q=some v:=
 (World.cell?_of_block (w:=w) (Below.heap_setCell w p u q.block hne)).trans h
def Kt(l:List UInt8)(p q t v:Int):Nat:=if 0<Cr t then(Cr t).toNat else loadU l (By l p q t v-v) v
def Ku(t v:Int):Nat:=v.toNat+tgs t
def Cp(l:List UInt8)(p q t v:Int):Int:=
 if Cc l.length p q t v≠0 then Cc l.length p q t v
 else if Iq t=false then 60
 else if B8 l p q t v≠0 then B8 l p q t v
 else if By l p q t v % v≠0 then 212
 else if(By l p q t v).toNat<aheadT t*v.toNat then 211
 else if l.length<(By l p q t v).toNat+Kt l p q t v*Ku t v then 211 else 0
def lsFrom(l:List UInt8)(p q t v:Int):Nat:=if Cp l p q t v=0 then(By l p q t v).toNat-aheadT t*v.toNat else 0
def lsAt(l:List UInt8)(p q t v:Int):Nat:=if Cp l p q t v=0 then(By l p q t v).toNat else 0
def lsTo(l:List UInt8)(p q t v:Int):Nat:=if Cp l p q t v=0 then(By l p q t v).toNat+Kt l p q t v*Ku t v else 0
def lsLen(l:List UInt8)(p q t v:Int):Nat:=if Cp l p q t v=0 then Kt l p q t v else 0
def Zj(A:Option Addr)(n c:Nat)(l:List UInt8)(p q t v:Int):Value:=
 if Cp l p q t v=0 then .agg #[.slice A n c,Aa Ab p,Aa Ab q,Aa Ab t,Aa Ab v,Aa Ab (lsFrom l p q t v:Nat),Aa Ab (lsAt l p q t v:Nat),Aa Ab (lsTo l p q t v:Nat),Aa Ab (lsLen l p q t v:Nat)]
 else .agg #[.slice none 0 0,Aa Ab 0,Aa Ab 0,Aa Ab 0,Aa Ab 0,Aa Ab 0,Aa Ab 0,Aa Ab 0,Aa Ab 0]
def fF(w:World)(A:Option Addr)(n c:Nat)(l:List UInt8)(p q t v:Int)(e:Ending)(w':World):Prop:=
 e= .returned (.tuple #[Zj A n c l p q t v,Aa Ab (Cp l p q t v)])∧Below w.heap.size w w'
theorem zP{er:Int}(h:Cp l p q t v=er)(hne:er≠0)(hb:Below w.heap.size w w'):
  fF w A n c l p q t v (.returned (.tuple #[.agg #[.slice none 0 0,Aa Ab 0,Aa Ab 0,Aa Ab 0,Aa Ab 0,Aa Ab 0,Aa Ab 0,Aa Ab 0,Aa Ab 0],Aa Ab er])) w':=by
 unfold fF Zj;rw [h,if_neg hne];exact⟨rfl,hb⟩
theorem wJ{f o:Nat}(h:Cp l p q t v=0)(ha:(By l p q t v).toNat=a)(hf:a-aheadT t*v.toNat=f)(hk:Kt l p q t v=k)(ho:a+k*Ku t v=o)(hb:Below w.heap.size w w'):
  fF w A n c l p q t v (.returned (.tuple #[.agg #[.slice A n c,Aa Ab p,Aa Ab q,Aa Ab t,Aa Ab v,Aa Ab f,Aa Ab a,Aa Ab o,Aa Ab k],Aa Ab 0])) w':=by
 unfold fF Zj lsFrom lsAt lsTo lsLen;rw [h,if_pos rfl,if_pos rfl,if_pos rfl,if_pos rfl,if_pos rfl,ha,hf,hk,ho];exact⟨rfl,hb⟩
theorem M8(l:List UInt8)(p q t v:Int):(Cc l.length p q t v≠0∧Cp l p q t v=Cc l.length p q t v)∨(Cc l.length p q t v=0∧
  ((Iq t=false∧Cp l p q t v=60)∨(Iq t=true∧((B8 l p q t v≠0∧Cp l p q t v=B8 l p q t v)∨(B8 l p q t v=0∧
   ((By l p q t v % v≠0∧Cp l p q t v=212)∨(By l p q t v % v=0∧(By l p q t v).toNat<aheadT t*v.toNat∧Cp l p q t v=211)∨
    (By l p q t v % v=0∧aheadT t*v.toNat≤(By l p q t v).toNat∧l.length<(By l p q t v).toNat+Kt l p q t v*Ku t v∧Cp l p q t v=211)∨
    (By l p q t v % v=0∧aheadT t*v.toNat≤(By l p q t v).toNat∧(By l p q t v).toNat+Kt l p q t v*Ku t v≤l.length∧Cp l p q t v=0))))))):=by
 unfold Cp;by_cases h1:Cc l.length p q t v=0
 ·refine .inr ⟨h1,?_⟩;rw [if_neg (by simpa using h1)];cases h2:Iq t with
  |false=>exact .inl ⟨rfl,if_pos rfl⟩
  |true=>
   refine .inr ⟨rfl,?_⟩;rw [if_neg (by decide)];by_cases c:B8 l p q t v=0
   ·refine .inr ⟨c,?_⟩;rw [if_neg (by simpa using c)];by_cases a:By l p q t v % v=0
    ·rw [if_neg (by simpa using a)];by_cases b:(By l p q t v).toNat<aheadT t*v.toNat
     ·rw [if_pos b];exact .inr (.inl ⟨a,b,rfl⟩)
     ·rw [if_neg b];by_cases d:l.length<(By l p q t v).toNat+Kt l p q t v*Ku t v
      ·rw [if_pos d];exact .inr (.inr (.inl ⟨a,Nat.le_of_not_lt b,d,rfl⟩))
      ·rw [if_neg d];exact .inr (.inr (.inr ⟨a,Nat.le_of_not_lt b,Nat.le_of_not_lt d,rfl⟩))
    ·rw [if_pos a];exact .inl ⟨a,rfl⟩
   ·rw [if_pos c];exact .inl ⟨c,rfl⟩
 ·rw [if_pos h1];exact .inl ⟨h1,rfl⟩
theorem Up{a:World}(g:Nat)(h:Below B a w)(hg:B≤g)(v0 v1 v2 v3 v4 v5 v6 v7 v8:Value):
  Below B a (((((((((w.setCell ⟨g,0,none⟩ v0).setCell ⟨g,1,none⟩ v1).setCell ⟨g,2,none⟩ v2).setCell ⟨g,3,none⟩ v3).setCell ⟨g,4,none⟩ v4).setCell ⟨g,5,none⟩ v5).setCell ⟨g,6,none⟩ v6).setCell ⟨g,7,none⟩ v7).setCell ⟨g,8,none⟩ v8):=
 ((((((((h.setCell hg _).setCell hg _).setCell hg _).setCell hg _).setCell hg _).setCell hg _).setCell hg _).setCell hg _).setCell hg _
theorem P0{a b:Int}(h:a=b)(hn:b≠0):∃er:Int,Hid (er=b)∧Hid (a=er∧er≠0):=⟨b,Hd rfl,Hd ⟨h,hn⟩⟩
theorem zB:∀W:World,(binOp .eql 282 .nilFunc .nilFunc).run Ad W= .ok (.bool true) W:=by
 intro W
 kernel_rfl
theorem vP(F:FuncId):∀W:World,(binOp .eql 282 (.func (.func F) #[] #[]) .nilFunc).run Ad W= .ok (.bool false) W:=by
 intro W
 kernel_rfl
theorem Aad(ht:Ig t=true):∃(ah tg:Nat) (F G:Value),V1 t.toNat=[Aa Ab ah,F,G,Aa Ab tg]∧F.oneCell'=true∧G.oneCell'=true∧((Iq t=false∧F= .nilFunc)∨
  (Iq t=true∧aheadT t=ah∧tgs t=tg∧ah≤3∧tg≤1∧∃f,F=Lt f∧(f=309∧0<Cr t∧Cr t≤4∨f=311∧Cr t=0))):=by
 rcases Xe ht with⟨h,e⟩|⟨a,b,c,g,d,e⟩|⟨a,b,d,e⟩
 ·exact⟨0,0,_,_,e,rfl,rfl,.inl ⟨h,rfl⟩⟩
 ·exact⟨0,0,_,_,e,rfl,rfl,.inr ⟨a,d,by unfold tgs;rw [g];rfl,by decide,by decide,_,rfl,.inl ⟨rfl,b,c⟩⟩⟩
 ·exact⟨_,_,_,_,e,rfl,by split <;>rfl,.inr ⟨a,rfl,rfl,by omega,by unfold tgs;split <;>decide,_,rfl,.inr ⟨rfl,b⟩⟩⟩
theorem Vr{b X:Nat}(h:a*b=X)(hX:X≤9223372036854775807):wrap64 ((a:Int)*(b:Int))=(X:Int):=by
 rw [←Int.natCast_mul,h];exact C8 _ (by omega)
theorem P4(A:Option Addr)(n c:Nat)(p q t v:Int)(l:List UInt8)(w:World)(h:B4 w A n l)(hc:n≤c)(hn:n≤1099511627776):
  Calls Ad 251 #[.slice A n c,.agg (Ab9 p q t v)] w (fF w A n c l p q t v):=by
 have av:=h.1;subst av;have K:=Hd ((h.alloc (.cells (Ab9 p q t v) 70)).alloc (.cells #[.slice none 0 0,Aa Ab 0,Aa Ab 0,Aa Ab 0,Aa Ab 0,Aa Ab 0,Aa Ab 0,Aa Ab 0,Aa Ab 0] 279));have J:=Hd (((Af w.heap.size w).alloc (Ae _) (.cells (Ab9 p q t v) 70)).alloc (by simp) (.cells #[.slice none 0 0,Aa Ab 0,Aa Ab 0,Aa Ab 0,Aa Ab 0,Aa Ab 0,Aa Ab 0,Aa Ab 0,Aa Ab 0] 279));have x:=Hd ((Bb.new w 70 (Ab9 p q t v)).alloc (.cells #[.slice none 0 0,Aa Ab 0,Aa Ab 0,Aa Ab 0,Aa Ab 0,Aa Ab 0,Aa Ab 0,Aa Ab 0,Aa Ab 0] 279));have s:=Hd (Bb.new_ (w:=w.alloc (.cells (Ab9 p q t v) 70)) (g:=w.heap.size+1) (by simp) 279 #[.slice none 0 0,Aa Ab 0,Aa Ab 0,Aa Ab 0,Aa Ab 0,Aa Ab 0,Aa Ab 0,Aa Ab 0,Aa Ab 0]);have a:=M8 l p q t v;clear h;go_enter func251,ntmps251;go_wp2_with fail;go_at_call 148;refine(M9 A _ c p q t v _ (by omega)).mono ?_;generalize (w.alloc (.cells (Ab9 p q t v) 70)).alloc (.cells #[.slice none 0 0,Aa Ab 0,Aa Ab 0,Aa Ab 0,Aa Ab 0,Aa Ab 0,Aa Ab 0,Aa Ab 0,Aa Ab 0] 279)=wB at K J x s⊢;obtain ⟨E,H,B,I⟩:=x.o.c4;rintro e S ⟨rfl,m⟩;clear E H B I;replace J:=Hd (A6 J.o m);replace x:=Hd (x.o.pure m);replace s:=Hd (s.o.pure m);replace K:=Hd (K.o.pure m);clear m;obtain ⟨E,H,B,I⟩:=x.o.c4;rcases a with⟨D,k⟩|⟨D,a⟩
 focus
  have bm:(Cc l.length p q t v != 0)=true:=by simpa using D
  obtain⟨er,HE,P⟩:=P0 k D;clear k D
 rotate_left
 focus
  obtain⟨g1,g2⟩:=Dy.1 D;have g2:=Em.1 g2;have g1:=Cz.1 g1;have v1:=B6.1 g1.2.2;have ht:=Hv g1.1;rw [D];obtain⟨V,rfl⟩:∃V:Nat,v=V:=⟨v.toNat,by omega⟩;have cm:1≤V:=by omega
  have ay:V≤8:=by omega
  have cn:(V==0)=false:=beq_eq_false_iff_ne.mpr (by omega);have ak:=Ez.1 ht;have cl:=ak.1;have b5:=ak.2;have r:=Hd a;have y:=gO ht;obtain⟨ah,tg,F,G,Q,an,ao,ax⟩:=Aad ht;clear g1 g2 v1 a D ak ht;have bn:=fun(W:World) (p:Addr)=>run_store Ad W p F .plain an
  have bo:=fun(W:World) (p:Addr)=>run_store Ad W p G .plain ao
  rw [Q] at y;replace y:∀W,(Instr.index 286 (.agg K2) (Aa Ab t)).run Ad W= .ok (.agg #[Aa Ab ah,F,G,Aa Ab tg]) W:=y;have ae:=Hd ax;clear ax Q an ao;go_wp2_with fail;go_upto_region 4 with fail
  go_cut [7] (fun u7 wx=>∃g,u7= Aca g∧Bb wx g 285 #[Aa Ab ah,F,G,Aa Ab tg]∧Below S.heap.size S wx)
  case first=>
   have b4:w.heap.size+1<S.heap.size:=s.o.lt;go_region_held3 (fun w'=>w'.cell? ⟨w.heap.size,2,none⟩=some (Aa Ab t)) (first|with_reducible assumption|(repeat (first|with_reducible assumption|(refine Tz ?_ (by simp;omega))|refine Dj _ ?_|refine Bw ?_)))
    (first|(go_at_call 252;refine(Ll _).mono ?_;rintro e w5 ⟨rfl,z⟩;have T:=Hd z;have bt:=z.size;(try simp at bt);have B:=Ba z (p:=⟨w.heap.size,2,none⟩) (u:= Aa Ab t) (by repeat (first|with_reducible assumption|(refine Tz ?_ (by simp;omega))|refine Dj _ ?_|refine Bw ?_));(first|((first|with_reducible have L:=Hd ((Bb.new S 285 #[Aa Ab 0,.nilFunc,.nilFunc,Aa Ab 0]).drew.pure z)|with_reducible have L:=Hd ((Bb.new S.drew 285 #[Aa Ab 0,.nilFunc,.nilFunc,Aa Ab 0]).pure z));obtain ⟨k0,k1,k2,k3⟩:=L.o.c4;obtain ⟨g0,g1,g2⟩:=L.o.f3;have g3:=L.o.frozen 3)|skip);clear z))
   all_goals
    go_wp2_with fail;go_meet;have bu:S.heap.size≤w5.heap.size:=by have:=T.o.size;(try simp at this);omega
    first
     |with_reducible exact⟨_,rfl,Bb.new _ _ _,(A6 (Af _ _).drew T.o).alloc bu _⟩
     |exact⟨_,rfl,(((L.o.set_ 0 _).set_ 1 F).set_ 2 G).set_ 3 _,((((A6 ((Af S.heap.size S).alloc (Ae _) _).drew T.o).setCell (Ae _) _).setCell (Ae _) _).setCell (Ae _) _).setCell (Ae _) _⟩
  obtain⟨g,rfl,hS,m⟩:=hcut;clear E H B I;replace J:=Hd (A6 J.o m);replace x:=Hd (x.o.pure m);replace s:=Hd (s.o.pure m);replace K:=Hd (K.o.pure m);clear m;obtain ⟨E,H,B,I⟩:=x.o.c4;have C:=Hd hS;clear hS bn bo y;rcases ae.o with⟨hL,rfl⟩|⟨hL,hA,hT,ar,bp,f,rfl,hF⟩
  focus
   have k:Cp l p q t V=60:=by
    rcases r.o with⟨_,e⟩|⟨h,_⟩
    ·exact e
    ·rw [hL] at h;cases h
   obtain⟨er,HE,P⟩:=P0 k (by decide);have O:_=some Value.nilFunc:=C.o.cell 1;have au:=zB;clear k hL r ae
  rotate_left
  focus
   have a:=r.o;obtain⟨Z,hZ⟩:∃Z,ah*V=Z:=⟨_,rfl⟩;obtain⟨Y,hY⟩:∃Y,V+tg=Y:=⟨_,rfl⟩;obtain⟨U,M⟩:∃U,Kt l p q t V=U:=⟨_,rfl⟩;have aj:Ku t V=Y:=by unfold Ku;rw [hT];exact hY
   have b1:Z≤24:=by rw [←hZ];exact Nat.mul_le_mul ar ay
   have bs:=Vr hZ (by omega);have br:IntKind.i64.wrap ((V:Int)+(tg:Int))=(Y:Int):=by rw [←hY];exact Ag _ (by omega)
   have bj:1≤Y∧Y≤9:=by omega
   replace a:=(a.resolve_left fun h=>by rw [hL] at h;cases h.1).2;rw [aj,hA,Ao,hZ,M] at a;have aa:=Hd a;have ad:=Hd M;have a5:=Hd aj;have HA:=Hd (show aheadT t*(V:Int).toNat=Z by rw [hA];exact hZ);have HF:=Hd hF;have au:=vP f;unfold Lt at C;clear a aj hL hA hT ar bp hF r ae hZ hY M;obtain ⟨s0,O⟩:=C.o.c2;have R:_=some _:=C.o.cell 3;go_wp2_with fail;go_at_call 79;refine(Lm A _ c p q t V l _ K.o hc (by omega)).mono ?_;rintro e w3 ⟨rfl,m⟩;clear s0 O R au;replace C:=Hd (C.o.pure m);clear E H B I;replace J:=Hd (A6 J.o m);replace x:=Hd (x.o.pure m);replace s:=Hd (s.o.pure m);replace K:=Hd (K.o.pure m);clear m;obtain ⟨E,H,B,I⟩:=x.o.c4;rcases aa.o with⟨h1,k⟩|⟨h1,a⟩
   focus
    have bm:(B8 l p q t V != 0)=true:=by simpa using h1
    obtain⟨er,HE,P⟩:=P0 k h1;clear h1 k aa
   rotate_left
   focus
    have bq:=O7 h1;rw [h1];obtain⟨b,N⟩:∃b:Nat,By l p q t V=b:=⟨(By l p q t V).toNat,by omega⟩;rw [N,Ao] at a;have cj:b≤l.length:=by omega
    have am:=Hd N;rw [N];clear h1 N bq aa;obtain ⟨s0,O⟩:=C.o.c2;have R:_=some _:=C.o.cell 3;have bk:IntKind.i64.wrap ((b:Int)-(Z:Int))=(b:Int)-Z:=Ag _ (by omega);rcases a with⟨h5,k⟩|⟨h5,h6,k⟩|a
    focus
     have aw:((b:Int) % (V:Int) != 0)=true:=by simpa using h5
     obtain⟨er,HE,P⟩:=P0 k (by decide);clear h5 k
    rotate_left
    focus
     have aw:((b:Int) % (V:Int) != 0)=false:=by simpa using h5
     obtain⟨er,HE,P⟩:=P0 k (by decide);clear h5 k
    rotate_left
    have aw:((b:Int) % (V:Int) != 0)=false:=by
     have h5:(b:Int) % (V:Int)=0:=by omega
     simpa using h5
    have h6:Z≤b:=by omega
    obtain⟨X,hX⟩:∃X,U*Y=X:=⟨_,rfl⟩;have ch:U≤X:=by rw [←hX];exact Nat.le_mul_of_pos_right _ (by omega)
    rw [hX] at a;have r:=Hd a;have af:=Hd hX;clear a hX;rcases HF.o with⟨rfl,D,bl⟩|⟨rfl,D⟩
    focus
     have M:Cr t=U∧U≤4:=by
      have h:=ad.o;unfold Kt at h;rw [if_pos D] at h;omega
     have HU:=Hd M;clear M D bl HF;go_wp2_with fail;go_region_held3 (fun w'=>(w'.cell? ⟨w.heap.size,0,none⟩=some (Aa Ab p)∧w'.cell? ⟨w.heap.size,1,none⟩=some (Aa Ab q)∧w'.cell? ⟨w.heap.size,2,none⟩=some (Aa Ab t)∧w'.cell? ⟨w.heap.size,3,none⟩=some (Aa Ab V))∧w'.cell? ⟨g,1,none⟩=some (.func (.func 309) #[] #[])∧w'.cell? ⟨g,3,none⟩=some (Aa Ab tg)) (first|exact⟨⟨E,H,B,I⟩,O,R⟩|exact⟨⟨Ba d.o E,Ba d.o H,Ba d.o B,Ba d.o I⟩,Ba d.o O,Ba d.o R⟩)
      (first|(go_at_call 309;refine(eM A _ c p q t V b U _ HU.o.1 HU.o.2).mono ?_;rintro e w6 ⟨rfl,j⟩;have d:=Hd j;clear j))
    rotate_left
    focus
     have M:loadU l (b-V) V=U:=by
      have h:=ad.o;unfold Kt at h;rw [if_neg (by omega),am.o] at h;exact h
     have HU:=Hd M;clear M D HF;go_wp2_with fail;go_region_held3 (fun w'=>(w'.cell? ⟨w.heap.size,0,none⟩=some (Aa Ab p)∧w'.cell? ⟨w.heap.size,1,none⟩=some (Aa Ab q)∧w'.cell? ⟨w.heap.size,2,none⟩=some (Aa Ab t)∧w'.cell? ⟨w.heap.size,3,none⟩=some (Aa Ab V))∧w'.cell? ⟨g,1,none⟩=some (.func (.func 311) #[] #[])∧w'.cell? ⟨g,3,none⟩=some (Aa Ab tg)) (first|exact⟨⟨E,H,B,I⟩,O,R⟩|exact⟨⟨Ba d.o E,Ba d.o H,Ba d.o B,Ba d.o I⟩,Ba d.o O,Ba d.o R⟩)
      (first|(go_at_call 311;refine(oD A _ c p q t V b U l _ (M4 K.o) hc hn (by omega) ay HU.o).mono ?_;rintro e w6 ⟨rfl,j⟩;have d:=Hd j;clear j))
    all_goals try
     have j:=d.o;clear s0 O R br bs bk;replace C:=Hd (C.o.drew.pure j);replace J:=Hd (A6 J.o.drew j);replace x:=Hd (x.o.drew.pure j);replace s:=Hd (s.o.drew.pure j);replace K:=Hd ((M4 K.o).pure j);clear j d E H B I;obtain ⟨E,H,B,I⟩:=x.o.c4;obtain ⟨s0,O⟩:=C.o.c2;have R:_=some _:=C.o.cell 3;by_cases hN:l.length<U
     focus
      have hd:decide (l.length<U)=true:=decide_eq_true hN;have k:Cp l p q t V=211:=by
       rcases r.o with h|h
       ·exact h.2.2.2
       ·have:=h.2.2.1;omega
      obtain⟨er,HE,P⟩:=P0 k (by decide);clear k
     rotate_left
     focus
      have hd:decide (l.length<U)=false:=decide_eq_false hN;have ci:X≤9895604649984:=by
       rw [←af.o];exact Nat.le_trans (Nat.mul_le_mul (show U≤1099511627776 by omega) bj.2) (by decide)
      have b3:=Vr af.o (by omega);obtain⟨i,hi⟩:∃i,Gz l.length b X=i:=⟨_,rfl⟩;have HI:=Hd hi;clear hi;go_wp2_with fail;go_at_call 246;refine(Hj A _ c b X _ (by omega)).mono ?_;rw [HI.o];rintro e w7 ⟨rfl,rfl⟩;rcases r.o with⟨_,_,h7,k⟩|⟨_,_,h7,k⟩
      focus
       obtain rfl:false=i:=by rw [←HI.o];exact(decide_eq_false (by omega)).symm
       obtain⟨er,HE,P⟩:=P0 k (by decide);clear k h7
      rotate_left
      focus
       obtain rfl:true=i:=by rw [←HI.o];exact(Em.2 ⟨by omega,by omega,by omega⟩).symm
       obtain ⟨c0,c1,c2,c3,c4,c5,c6,c7,c8⟩:=s.o.c9;obtain ⟨f0,f1,f2,f3,f4,f5,f6,f7,f8⟩:=s.o.f9;go_wp2;refine bodyPost_ret (v:= .tuple #[.agg #[.slice A l.length c,Aa Ab p,Aa Ab q,Aa Ab t,Aa Ab V,Aa Ab ((b:Int)-Z),Aa Ab b,Aa Ab ((b:Int)+X),Aa Ab U],Aa Ab 0]) (by simp [results,results251,go_sem,c0,c1,c2,c3,c4,c5,c6,c7,c8]) rfl ?_;rw [show(b:Int)-Z=((b-Z:Nat):Int) by omega,←Int.natCast_add];exact wJ k (by rw [am.o,Ao]) (by rw [HA.o]) ad.o (by rw [a5.o,af.o]) (Up _ J.o (Nat.le_succ _) _ _ _ _ _ _ _ _ _)
 all_goals
  obtain ⟨c0,c1,c2,c3,c4,c5,c6,c7,c8⟩:=s.o.c9;obtain ⟨f0,f1,f2,f3,f4,f5,f6,f7,f8⟩:=s.o.f9;go_wp2;refine bodyPost_ret (v:= .tuple #[.agg #[.slice none 0 0,Aa Ab 0,Aa Ab 0,Aa Ab 0,Aa Ab 0,Aa Ab 0,Aa Ab 0,Aa Ab 0,Aa Ab 0],Aa Ab er]) (by rw [HE.o];simp [results,results251,go_sem,c0,c1,c2,c3,c4,c5,c6,c7,c8]) rfl ?_;exact zP P.o.1 P.o.2 (Up _ J.o (Nat.le_succ _) _ _ _ _ _ _ _ _ _)
end
end Go.Proofs.YtejpbijeifjdeaaGreat
