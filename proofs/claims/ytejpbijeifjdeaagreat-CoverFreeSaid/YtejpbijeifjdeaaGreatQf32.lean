/- Parts of the proof. -/
import Derived.Test.YtejpbijeifjdeaaGreatQf31
import Derived.Deep.CutBlock
set_option maxHeartbeats 4000000
set_option maxRecDepth 100000
open Go.Value renaming int→Aa
open Go.IntKind renaming i64→Ab,u64→Ac
open Nat renaming le_refl→Ae,zero_add→Av
open Go.RowKit.Below renaming refl→Af
open List renaming getElem?_eq_getElem→Ag,append_assoc→Am,mem_of_getElem?→Aq,getD_eq_getElem?_getD→Be
open UInt8 renaming ofNat→An
open Go.IntWalk renaming i64_in→Ao
open Go.Proofs.Tryz
open Go.Proofs.Tryz renaming prog→Ad
namespace Go.Proofs.YtejpbijeifjdeaaGreat
variable {L s l xs:List UInt8}{z w n c u f xu xan xac xbn xbc:Nat}{v y:Bv}{A XA XB:Option Addr}{lim k xk xn:Int}{W w0:World}{ys:List Bv}{t:Tr}{p:Nat→Prop}{x:Nv}{log:List P3}
section
open Go.RowKit Go.Acc
structure LsF(l:List UInt8)(T k m:Int)(tg:Bool)(a wv N f:Nat)(ty wd:Nat→Int):Prop where
 isl:K5 T=true
 kd:Cs T=k
 mn:Df T=m
 tag:((k==10)||(k==17))=tg
 w8:1≤wv∧wv≤8
 md:a % wv=0
 en:a+N*wv+(if tg=true then N else 0)≤l.length
 m1:m≠0→0<m∧m=N∧f=a∧k≠17
 m0:m=0→wv≤a∧Cy l.length ((a:Int)-(wv:Int)) wv=0∧loadU l ((a:Int)-(wv:Int)) wv=N
 f1:m=0→k≠17→f+wv=a
 f3:k=17→f+3*wv=a
 typ:tg=false→∀i,ty i=E9 T∧wd i=wv
 tgs:tg=true→∀i,i<N→∃c,l[a+N*wv+i]?=some c∧Iv c=0∧Ng c=ty i∧Nh c=wd i
def L9(w:World)(e:Ending)(w':World):Prop:=e= .returned (.bool true)∧Below w.heap.size w w'
theorem Qt(A:Option Addr)(n c:Nat)(l:List UInt8)(p q T k m:Int)(tg:Bool)(a wv N f:Nat)(ty wd:Nat→Int)(XA XB:Option Addr)(xan xac xbc:Nat)(vs:List Nv)(w:World)(hl:Cv w A n l)(hc:n≤c)(hn:n≤4294967295)(F:LsF l T k m tg a wv N f ty wd)(hv:Gj w XB N vs)(han:k≠17→xan=0)
  (hkeys:k=17→xan=N∧∀W,Below w.heap.size w W→Calls Ad 271 #[.slice A n c,Aa Ab (f:Int),Aa Ab (wv:Int),.slice XA xan xac] W (L9 W))
  (hsay:∀i x,i<N→vs[i]?=some x→∀W,Below w.heap.size w W→Calls Ad 87 #[.slice A n c,.agg #[Aa Ab ((a+i*wv:Nat):Int),Aa Ab (wv:Int),Aa Ab (ty i),Aa Ab (wd i)],Aa Ab (f:Int),.agg (Afe x)] W (L9 W)):
  Calls Ad 159 #[.slice A n c,.agg (Afg p q T (wv:Int)),Aa Ab (a:Int),.agg #[Aa Ab k,Aa Ab 0,Aa Ac 0,.string ⟨#[]⟩,.slice XA xan xac,.slice XB N xbc]] w (L9 w):=by
 unfold L9 at hkeys hsay⊢;have R:=hl.1;have c8:vs.length=N:=hv.1;have aa:=F.en;rw [R] at aa;have bn:N*1≤N*wv:=Nat.mul_le_mul_left _ F.w8.1;obtain⟨X,P⟩:∃X,N*wv=X:=⟨_,rfl⟩;have z:=Hd F;have HL:=Hd hl;have bk:=Hd hv;have a9:=Hd han;have bg:=Hd hkeys;have bi:=Hd hsay;have Z:=Hd P;obtain⟨E,hE⟩:∃E,a+X+(if tg=true then N else 0)=E:=⟨_,rfl⟩;rw [P] at aa bn;rw [hE] at aa;have aj:=Hd hE;have j:=Hd (Bu w (.cells (Afg p q T (wv:Int)) 70) (.cells #[Aa Ab k,Aa Ab 0,Aa Ac 0,.string ⟨#[]⟩,.slice XA xan xac,.slice XB N xbc] 34));have v:=Hd ((Bk.new w 70 (Afg p q T (wv:Int))).alloc (.cells #[Aa Ab k,Aa Ab 0,Aa Ac 0,.string ⟨#[]⟩,.slice XA xan xac,.slice XB N xbc] 34));have r:=Hd (Bk.new_ (w:=w.alloc (.cells (Afg p q T (wv:Int)) 70)) (g:=w.heap.size+1) (by simp) 34 #[Aa Ab k,Aa Ab 0,Aa Ac 0,.string ⟨#[]⟩,.slice XA xan xac,.slice XB N xbc]);have da:=F.w8;have ct:a+X≤E:=by omega
 clear hl hv han hkeys hsay F hE P;go_enter func159,ntmps159;go_upto_region 1 with fail
 generalize (w.alloc (.cells (Afg p q T (wv:Int)) 70)).alloc (.cells #[Aa Ab k,Aa Ab 0,Aa Ac 0,.string ⟨#[]⟩,.slice XA xan xac,.slice XB N xbc] 34)=w1 at j v r⊢;generalize aq:w.heap.size=bt at v r⊢;have ak:=Hd (show w.heap.size≤bt+1 by rw [aq];exact Nat.le_succ bt);generalize bt+1=bs at r ak⊢;clear aq;have r2:w1.cell? ⟨bt,2,none⟩=some (Aa Ab T):=v.o.cell 2;have r3:w1.cell? ⟨bt,3,none⟩=some (Aa Ab (wv:Int)):=v.o.cell 3;have n5:w1.cell? ⟨bs,5,none⟩=some (.slice XB N xbc):=r.o.cell 5;go_quiet (fail);go_wp2_with fail;go_at_call 269;have d:=below_drewN (Af w1.heap.size w1) nq;replace j:=Hd (Bi j.o d);replace v:=Hd (v.o.pure d);replace r:=Hd (r.o.pure d);clear d r2 r3 n5;generalize w1.drewN nq=wq at j v r⊢;have HS:=Hd (oK T wq z.o.isl);rw [z.o.kd,z.o.mn] at HS;refine HS.o.mono ?_;rintro e w2 ⟨rfl,d⟩;replace j:=Hd (Bi j.o d);replace v:=Hd (v.o.pure d);replace r:=Hd (r.o.pure d);clear d HS;have n4:w2.cell? ⟨bs,4,none⟩=some (.slice XA xan xac):=r.o.cell 4;have f4:=r.o.frozen 4;obtain⟨b17,h17⟩:∃b,(k==17)=b:=⟨_,rfl⟩;obtain⟨b10,an⟩:∃b,(k==10)=b:=⟨_,rfl⟩;have ae:(b10||b17)=tg:=by rw [←h17,←an];exact z.o.tag
 go_upto_if 43 with fail
 go_cut [] (fun wx=>∃wy,wy=wx∧∃XA2 xac2,Bk wx bs 34 #[Aa Ab k,Aa Ab 0,Aa Ac 0,.string ⟨#[]⟩,.slice XA2 0 xac2,.slice XB N xbc]∧Bk wx bt 70 (Afg p q T (wv:Int))∧Below w.heap.size w wx)
 case first=>
  have ab:bt≠bs:=v.o.ne_ r.o (by decide);cases b17 with
  |true=>
   go_wp2_with fail;go_meet;refine⟨_,rfl,none,0,?_,?_,?_⟩
   ·exact r.o.set_ 4 (.slice none 0 0)
   ·exact v.o.far ab _
   ·exact j.o.setCell ak.o _
  |false=>
   have hz:=a9.o (by intro h;rw [h] at h17;cases h17);subst hz;go_wp2_with fail;go_meet;exact⟨_,rfl,XA,xac,r.o,v.o,j.o⟩
 case rest=>
 obtain⟨w3,rfl,XA2,xac2,hN,hR,H⟩:=hcut;clear n4 f4 r v j;obtain ⟨n0,n1,n2,n3,n4,n5⟩:=hN.c6;have HP:=Hd (Bk.new w3 34 #[Aa Ab k,Aa Ab 0,Aa Ac 0,.string ⟨#[]⟩,.slice XA2 0 xac2,.slice none 0 0]);have v:=Hd (hR.alloc (.cells #[Aa Ab k,Aa Ab 0,Aa Ac 0,.string ⟨#[]⟩,.slice XA2 0 xac2,.slice none 0 0] 34));have r:=Hd (hN.alloc (.cells #[Aa Ab k,Aa Ab 0,Aa Ac 0,.string ⟨#[]⟩,.slice XA2 0 xac2,.slice none 0 0] 34));have j:=Hd (H.alloc H.size (.cells #[Aa Ab k,Aa Ab 0,Aa Ac 0,.string ⟨#[]⟩,.slice XA2 0 xac2,.slice none 0 0] 34));clear hN hR H;have b9:IntKind.i64.wrap ((N:Int)*(wv:Int))=(X:Int):=by
  rw [←Int.natCast_mul,Z.o];exact Ao _ (by omega)
 have b8:IntKind.i64.wrap ((a:Int)+(X:Int))=((a+X:Nat):Int):=(Ao _ (by omega)).trans (by omega);go_upto_region 9 with fail
 generalize w3.alloc (.cells #[Aa Ab k,Aa Ab 0,Aa Ac 0,.string ⟨#[]⟩,.slice XA2 0 xac2,.slice none 0 0] 34)=w4 at HP v r j⊢;generalize w3.heap.size=bp at HP⊢;clear n0 n1 n2 n3 n4 n5;go_cut [17] (fun u17 wx=>w4=wx∧u17= .bool tg)
 case first=>
  cases b10 with
  |true=>
   have ht:tg=true:=by rw [←ae];rfl
   go_wp2_with fail;go_meet;exact⟨rfl,by first|rfl|rw [ht]⟩
  |false=>
   have ht:b17=tg:=by rw [←ae];rfl
   go_wp2_with fail;go_meet;exact⟨rfl,by first|rfl|rw [ht]⟩
 case rest=>
 obtain⟨rfl,rfl⟩:=hcut;go_upto_if 59 with fail
 go_cut [16] (fun u16 wx=>w4=wx∧u16= Aa Ab (E:Int))
 case first=>
  cases tg with
  |true=>
   have hE:((a+X:Nat):Int)+(N:Int)=(E:Int):=by have:=aj.o;rw [if_pos rfl] at this;omega
   have db:IntKind.i64.wrap (((a+X:Nat):Int)+(N:Int))=((a+X:Nat):Int)+(N:Int):=Ao _ (by omega);go_wp2_with fail;go_meet;exact⟨rfl,congrArg (Value.int .i64) (by omega)⟩
  |false=>
   have hE:a+X=E:=by have:=aj.o;rw [if_neg (by decide)] at this;omega
   go_wp2_with fail;go_meet;exact⟨rfl,congrArg (Value.int .i64) (by omega)⟩
 case rest=>
 obtain⟨rfl,rfl⟩:=hcut;obtain⟨f1,au⟩:∃f1:Int,(if m=0 then(a:Int)-(wv:Int) else(a:Int))=f1:=⟨_,rfl⟩;have V:=Hd au;clear au;go_upto_block 0 with fail
 go_cut [15] (fun u15 wx=>∃wy,wy=wx∧u15= Aa Ab f1∧Below w4.heap.size w4 wx)
 case first=>
  obtain ⟨p0,p1,p2,p3,p4,p5⟩:=HP.o.c6;have cb:(a:Int).tmod (wv:Int)=0:=by
   rw [Int.tmod_eq_emod_of_nonneg (by omega)];have:=z.o.md;omega
  have c9:((wv:Int)==0)=false:=beq_eq_false_iff_ne.mpr (by omega);have cv:decide ((n:Int)<(E:Int))=false:=decide_eq_false (by omega);go_wp2_with fail;go_at_call 270;refine(Hw k 0 0 [] XA2 none xac2 0 w4).mono ?_;rintro e w5 ⟨rfl,d⟩;have U:=Hd d;clear d HP p0 p1 p2 p3 p4 p5;by_cases s:m=0
  ·obtain⟨g1,O,g3⟩:=z.o.m0 s;rw [R] at O;have t:=V.o;rw [if_pos s] at t;have ay:IntKind.i64.wrap ((a:Int)-(wv:Int))=(a:Int)-(wv:Int):=Ao _ (by omega);rw [t] at O g3 ay;have al:=Hd (K1 A n c f1 wv N l w5 (HL.o.pure (Bi j.o U.o)) hc (by omega) O g3 (by omega));subst s;clear g1 O g3;go_wp2_with fail;go_at_call 160;refine al.o.mono ?_;rintro e w6 ⟨rfl,d⟩;have bb:=Hd (C1 U.o d);clear d al;go_wp2_with fail;go_meet;exact⟨_,rfl,rfl,bb.o⟩
  ·obtain⟨g1,O,_⟩:=z.o.m1 s;have t:=V.o;rw [if_neg s] at t;have bf:=Hd t;have hd:decide (0<m)=true:=decide_eq_true g1;have c7:((N:Int)==m)=true:=by rw [O];simp
   have cz:(m==0)=false:=beq_eq_false_iff_ne.mpr s;clear t g1 O s;go_wp2_with fail;go_meet;exact⟨_,rfl,by rw [bf.o],U.o⟩
 case rest=>
 obtain⟨w6,rfl,rfl,d⟩:=hcut;replace j:=Hd (Bi j.o d);replace v:=Hd (v.o.pure d);replace r:=Hd (r.o.pure d);clear d HP;go_upto_if 105 with fail
 go_cut [15] (fun u15 wx=>∃wy,wy=wx∧u15= Aa Ab (f:Int)∧Below w6.heap.size w6 wx)
 case first=>
  cases b17 with
  |true=>
   have hk:k=17:=by simpa using h17
   obtain⟨rfl,ax⟩:=bg.o hk;have g3:=z.o.f3 hk;have t:(a:Int)-((3:Int)*(wv:Int))=(f:Int):=by omega
   have dd:IntKind.i64.wrap ((3:Int)*(wv:Int))=(3:Int)*(wv:Int):=Ao _ (by omega);have ay:IntKind.i64.wrap ((a:Int)-((3:Int)*(wv:Int)))=(f:Int):=by rw [t];exact Ao _ (by omega)
   have ca:decide ((f:Int)<0)=false:=decide_eq_false (by omega);have Q:=Hd (ax w6 j.o);clear ax hk t;go_wp2_with fail;go_at_call 271;refine Q.o.mono ?_;rintro e w7 ⟨rfl,d⟩;have bd:=Hd d;clear d Q;go_wp2_with fail;go_meet;exact⟨_,rfl,rfl,bd.o⟩
  |false=>
   have hk:k≠17:=by intro h;rw [h] at h17;cases h17
   have t:f1=(f:Int):=by
    rw [←V.o];by_cases s:m=0
    ·have:=z.o.f1 s hk;rw [if_pos s];omega
    ·obtain⟨_,_,g,_⟩:=z.o.m1 s;rw [if_neg s,g]
   subst t;clear hk;go_wp2_with fail;go_meet;exact⟨_,rfl,rfl,Af _ _⟩
 case rest=>
 obtain⟨w7,rfl,rfl,d⟩:=hcut;replace j:=Hd (Bi j.o d);replace v:=Hd (v.o.pure d);replace r:=Hd (r.o.pure d);clear d;have r2:w7.cell? ⟨bt,2,none⟩=some (Aa Ab T):=v.o.cell 2;go_wp2_with fail;go_at_call 272;refine(K2 T _).mono ?_;rintro e w8 ⟨rfl,d⟩;replace j:=Hd (Bi j.o d);replace r:=Hd (r.o.pure d);clear d r2 v h17 an ae;obtain⟨el,ad⟩:∃e,E9 T=e:=⟨_,rfl⟩;have be:=Hd ad;rw [ad];clear ad;generalize Df T=mT;generalize Tn T=vT;have n5:w8.cell? ⟨bs,5,none⟩=some (.slice XB N xbc):=r.o.cell 5;clear r;go_wp2_with fail;go_loopw [136] (fun u wr=>∃i:Nat,u= Aa Ab i∧i≤N∧Below w.heap.size w wr) (fun u _=>N-(intOf u).toNat)
 case atStart=>exact⟨0,rfl,Nat.zero_le _,j.o⟩
 case round=>
  clear n5 j;obtain⟨i,rfl,hi,ap⟩:=hrel;have j:=Hd ap;clear ap;by_cases av:i<N
  ·obtain⟨x,hx⟩:∃x,vs[i]?=some x:=⟨_,Ag (by omega)⟩;obtain⟨b2,o2,e2,a0,a1,a2,a3,a4,a5⟩:=H9 (bk.o.pure j.o) hx;have M:=Hd (bi.o i x av hx);have bo:i*wv≤X:=by rw [←Z.o];exact Nat.mul_le_mul_right _ hi
   obtain⟨Y,B⟩:∃Y,i*wv=Y:=⟨_,rfl⟩;rw [B] at bo M;obtain⟨J,hJ⟩:∃J,a+Y=J:=⟨_,rfl⟩;rw [hJ] at M;have cx:(0:Int)≤i:=by omega
   have cy:(i:Int)<N:=by omega
   have dc:IntKind.i64.wrap ((i:Int)+1)=(i:Int)+1:=Ao _ (by omega);have c5:IntKind.i64.wrap ((i:Int)*(wv:Int))=(Y:Int):=by
    rw [←Int.natCast_mul,B];exact Ao _ (by omega)
   have cu:IntKind.i64.wrap ((a:Int)+(Y:Int))=(J:Int):=(Ao _ (by omega)).trans (by omega);subst e2;have D:=Hd ((Bk.new wr 34 (Afe x)).alloc (.cells (Afg (J:Int) (wv:Int) el (wv:Int)) 70));have y:=Hd (Bk.new_ (w:=wr.alloc (.cells (Afe x) 34)) (g:=wr.heap.size+1) (by simp) 70 (Afg (J:Int) (wv:Int) el (wv:Int)));have C:=Hd (Bi j.o (Bu wr (.cells (Afe x) 34) (.cells (Afg (J:Int) (wv:Int) el (wv:Int)) 70)));go_upto_if 150 with fail
   generalize (wr.alloc (.cells (Afe x) 34)).alloc (.cells (Afg (J:Int) (wv:Int) el (wv:Int)) 70)=w9 at D y C⊢;have I:=Hd (show w.heap.size≤wr.heap.size+1 from Nat.le_succ_of_le j.o.size);have L:=Hd (show wr.heap.size≠wr.heap.size+1 by omega);generalize wr.heap.size=bx at D y I L⊢;generalize bx+1=b5 at y I L⊢;clear a0 a1 a2 a3 a4 a5;go_cut [] (fun wx=>∃wy,wy=wx∧Bk wx b5 70 #[Aa Ab (J:Int),Aa Ab (wv:Int),Aa Ab (ty i),Aa Ab (wd i)]∧Bk wx bx 34 (Afe x)∧Below w.heap.size w wx)
   case first=>
    cases tg with
    |true=>
     obtain⟨c0,c1,c2,c3,c4⟩:=z.o.tgs rfl i av;rw [Z.o] at c1;obtain⟨K,hK⟩:∃K,a+X+i=K:=⟨_,rfl⟩;rw [hK] at c1;have bl:K<n:=by have:=(List.getElem?_eq_some_iff.1 c1).1;omega
     obtain⟨g,dj,rfl,aw,G⟩:=Je (HL.o.pure C.o) bl;have ar:l[K]=c0:=by
      rw [Ag aw] at c1;injection c1
     rw [ar] at G;have cs:IntKind.i64.wrap ((a:Int)+(X:Int)+(i:Int))=(K:Int):=(Ao _ (by omega)).trans (by omega);have cq:(0:Int)≤(K:Int):=by omega
     have cr:(K:Int)<(n:Int):=by omega
     have y2:w9.cell? ⟨b5,2,none⟩=some (Aa Ab el):=y.o.cell 2;have y3:w9.cell? ⟨b5,3,none⟩=some (Aa Ab (wv:Int)):=y.o.cell 3;have HU:=Hd (Mz c0 w9);rw [c2,c3,c4] at HU;clear c1 c2 c3 c4 ar aw;go_wp2_with fail;go_at_call 50;refine HU.o.mono ?_;rintro e a6 ⟨rfl,d⟩;have B:=y.o.pure d;have P:=D.o.pure d;have H:=Bi C.o d;have f2:=B.frozen 2;have f3:=B.frozen 3;have z2:a6.cell? ⟨b5,2,none⟩=some (Aa Ab el):=B.cell 2;have z3:a6.cell? ⟨b5,3,none⟩=some (Aa Ab (wv:Int)):=B.cell 3;have HY:=Hd B;have HX:=Hd P;have S:=Hd H;clear d B P H y2 y3 G HU;go_wp2_with fail;go_meet;exact⟨_,rfl,(HY.o.set_ 2 _).set_ 3 _,(HX.o.far (p:=⟨b5,2,none⟩) L.o _).far (p:=⟨b5,3,none⟩) L.o _,(S.o.setCell (p:=⟨b5,2,none⟩) I.o _).setCell (p:=⟨b5,3,none⟩) I.o _⟩
    |false=>
     obtain⟨g1,O⟩:=z.o.typ rfl i;go_wp2_with fail;go_meet;rw [g1,O,be.o];exact⟨_,rfl,y.o,D.o,C.o⟩
   case rest=>
   obtain⟨bu,rfl,B,P,H⟩:=hcut;have S:=Hd H;have HC:=Hd (M.o bu H);obtain ⟨y0,y1,y2,y3⟩:=B.c4;obtain ⟨x0,x1,x2,x3,x4,x5⟩:=P.c6;clear B P H D y C M;go_wp2_with fail;go_at_call 87;refine HC.o.mono ?_;rintro e ds ⟨rfl,d⟩;have ba:=Hd (Bi S.o d);clear d HC x0 x1 x2 x3 x4 x5 y0 y1 y2 y3;go_wp2_with fail;go_roundw
   case rel=>exact⟨i+1,by go_num,by omega,ba.o⟩
   case measure=>simp [intOf];omega
  ·obtain rfl:i=N:=by omega
   go_wp2_with fail;go_ret;exact⟨rfl,j.o⟩
theorem Nf(h:Cn L z w v):Cy L.length (z:Int) (w:Int)=0:=by
 have:=h.le;unfold Cy;rw [if_pos h.sw,if_pos ⟨by omega,by omega⟩]
theorem Vq{v:Int}(XA XB:Option Addr)(xac xbc:Nat)(hl:Cv W A n l)(hc:n≤c)(hn:n≤4294967295)(h:Cn l z w y)(hk:Gc l s y)(h0:Ci s=false)(hv:Bz v=true)(hlow:M1 lim y):
  Calls Ad 87 #[.slice A n c,.agg (Afg (z:Int) (w:Int) 4 v),Aa Ab lim,.agg #[Aa Ab 5,Aa Ab 0,Aa Ac 0,.string ⟨s.toArray⟩,.slice XA 0 xac,.slice XB 0 xbc]] W (L9 W):=by
 have d:inl y.t=false:=by rw [hk.1];decide
 obtain⟨h1,h2⟩:=h.load d;have j:=h.le;have a:=hl.1;have b:=hlow d;rw [hk.1] at b;have g:G9 ((4:Nat):Int)=0:=by decide
 rw [g] at b;refine fQ A n c z w 4 v lim (z-y.n) l 266 5 0 0 s XA 0 xac XB 0 xbc W h.sw hv (by decide) (by decide) (.inl (by rfl)) (by intro xs W;kernel_rfl) hl hc (by omega) (by rw [←a];exact Nf h) h1 (by omega) (by omega) (by omega) (by rw [show G9 4=0 by decide];omega) ?_;intro f i;have e:(z:Int)-((z-y.n:Nat):Int)=(y.n:Int):=by omega
 rw [e];exact qS A n c y.n z w 4 v s XA XB xac xbc l f (hl.pure i) hc (by omega) h0 hk.2.2
def Gt(s:List UInt8):Nv:=⟨5,0,0,s,none,0,0,none,0,0⟩
def Zk(T:Int)(ys:List Bv)(i:Nat):Int:=if Cj T=true then((ys.getD i ⟨0,0,0⟩).t:Int) else E9 T
def Ul(T:Int)(w:Nat)(ys:List Bv)(i:Nat):Int:=if Cj T=true then(ownW w (ys.getD i ⟨0,0,0⟩):Int) else w
theorem eO(h:Fk l 0 ys v)(he:Ji v.t ys)(hk:Cs (v.t:Int)=k)(hm0:0≤Df (v.t:Int))(hk0:((k==10)||(k==17))=Cj (v.t:Int))(h17:k=17↔(v.t:Int)=9)(hm9:0<Df (v.t:Int)→(v.t:Int)≠9):
  LsF l v.t k (Df v.t) (Cj v.t) v.n v.w ys.length (v.n-aheadT (v.t:Int)*v.w) (Zk v.t ys) (Ul v.t v.w ys):=by
 have j:=h.w;have m:1≤v.w∧v.w≤8:=by have:=Cr.1 j;omega
 have c:=h.ah;rw [Av] at c;have a:=h.sp;refine⟨h.typ,hk,rfl,hk0,m,by have:=h.md;rwa [Av] at this,?_,fun hm=>?_,fun hm=>?_,fun hm hk=>?_,fun hk=>?_,fun hT i=>?_,fun hT i hi=>?_⟩
 ·rw [Nat.mul_add] at a;unfold tgs at a;cases hT:Cj (v.t:Int) with
  |true=>rw [hT] at a;simp only [if_true] at a ⊢;omega
  |false=>rw [hT] at a;simp only [Bool.false_eq_true,if_false] at a ⊢;omega
 ·have d:0<Df (v.t:Int):=by omega
  have b:aheadT (v.t:Int)=0:=by unfold aheadT;rw [if_neg (hm9 d),if_pos d]
  refine⟨d,h.n1 d,by rw [b];omega,fun e=>hm9 d (h17.1 e)⟩
 ·have o:=h.n2 (by omega);have h1:1≤aheadT (v.t:Int):=by unfold aheadT;rw [hm];split <;>simp
  have f:v.w≤v.n:=by
   have h2:=Nat.mul_le_mul_right v.w h1;omega
  rw [Av] at o;refine⟨f,?_,o⟩;unfold Cy;rw [if_pos j,if_pos ⟨by omega,by omega⟩]
 ·have b:aheadT (v.t:Int)=1:=by unfold aheadT;rw [if_neg (fun e=>hk (h17.2 e)),if_neg (by omega)]
  rw [b] at c⊢;omega
 ·have b:aheadT (v.t:Int)=3:=by unfold aheadT;rw [if_pos (h17.1 hk)]
  rw [b] at c⊢;omega
 ·unfold Zk Ul;rw [if_neg (by rw [hT];decide),if_neg (by rw [hT];decide)];exact⟨rfl,rfl⟩
 ·have p:ys[i]?=some ys[i]:=Ag hi;have b:=h.tags hT;rw [Av] at b;refine⟨Dl v.w ys[i],by rw [b.get (by simpa using hi),List.getElem?_map,p];rfl,?_⟩;obtain⟨_,x,y,_⟩:=he _ (List.getElem_mem hi);have g:Bz (ownW v.w ys[i]:Int)=true:=by
   unfold ownW;split
   ·exact j
   ·exact y
  obtain⟨q,r,s⟩:=Xo ys[i].t (ownW v.w ys[i]) x g;have u:Dl v.w ys[i]=An (4*ys[i].t+bCode (ownW v.w ys[i])):=rfl;rw [u];unfold Zk Ul;rw [if_pos hT,if_pos hT,Be,p];exact⟨s,q,r⟩
theorem mY(A XA:Option Addr)(n c N xac f wv:Nat)(l:List UInt8)(kv:Bv)(kvs:List Bv)(ks:List (List UInt8))(w:World)(hl:Cv w A n l)(hc:n≤c)(hn:n≤4294967295)(hS:Fs w XA N ks)(h14:kv.t=14)(hsl:Cn l f wv kv)(hwd:At l (f+wv) (Bn wv kv.w))
  (hkl:Fk l 0 kvs kv) (hks:Dp l ks kvs) (h0:∀s∈ks,Ci s=false) (hri:aX ks) (hkw:∀y∈kvs,M1 ((kv.n:Int)-kv.w) y):
  Calls Ad 271 #[.slice A n c,Aa Ab (f:Int),Aa Ab (wv:Int),.slice XA N xac] w (L9 w):=by
 have d:=hl.1;have a1:=hS.1;have L:inl kv.t=false:=by rw [h14];decide
 obtain⟨g1,g2⟩:=hsl.load L;have g3:=Nf hsl;have m:Bz (kv.w:Int)=true:=hkl.w;have K:1≤kv.w∧kv.w≤8:=by have:=Cr.1 m;omega
 have a2:1≤wv∧wv≤8:=by have:=Cr.1 hsl.sw;omega
 have g4:loadU l ((f+wv:Nat):Int) (wv:Int)=kv.w:=Ml hsl.sw hwd (by
  have:=Cr.1 hsl.sw;have h2:wv=1∨wv=2∨wv=4∨wv=8:=by omega
  rcases h2 with h|h|h|h <;>rw [h] <;>omega)
 have O:=hwd.le;rw [Bo,d] at O;have g5:Cy n ((f+wv:Nat):Int) (wv:Int)=0:=by
  unfold Cy;rw [if_pos hsl.sw,if_pos ⟨by omega,by omega⟩]
 rw [d] at g3;obtain⟨u1,U⟩:∃u,f-kv.n=u:=⟨_,rfl⟩;rw [U] at g1;have T:=hkl.sp;rw [d,Nat.mul_add] at T;have G:=hkl.ah;have z:aheadT (kv.t:Int)=1:=by rw [h14];decide
 rw [z] at G;have hN:kvs.length=N:=by rw [hks.1,a1]
 have ar:N*1≤kvs.length*kv.w:=by rw [hN];exact Nat.mul_le_mul_left _ K.1
 have C:=Hd (fun W (hb:Below w.heap.size w W)=>K1 A n c f wv u1 l W (hl.pure hb) hc (by omega) g3 g1 (by omega));have F:((f+wv:Nat):Int)=(f:Int)+(wv:Int):=by omega
 rw [F] at g4 g5;have D:=Hd (fun W (hb:Below w.heap.size w W)=>K1 A n c ((f:Int)+(wv:Int)) wv kv.w l W (hl.pure hb) hc (by omega) g5 g4 (by omega));have HC:=Hd (fun W=>Fy (kv.w:Int) W m);have a3:IntKind.i64.wrap ((f:Int)+(wv:Int))=(f:Int)+(wv:Int):=Ao _ (by omega);have V:IntKind.i64.wrap ((f:Int)-(u1:Int))=(kv.n:Int):=(Ao _ (by omega)).trans (by omega);have X:IntKind.i64.wrap ((kv.n:Int)-(kv.w:Int))=(kv.n:Int)-(kv.w:Int):=Ao _ (by omega);have aw:decide ((f:Int)<(u1:Int))=false:=decide_eq_false (by omega);have ay:decide (f<u1)=false:=decide_eq_false (by omega);have ax:decide ((f:Int)≤(kv.n:Int)-(kv.w:Int))=false:=decide_eq_false (by omega);have P:LsF l 14 13 0 false kv.n kv.w N (kv.n-kv.w) (fun _=>4) (fun _=>kv.w):=by
  have av:Ji kv.t kvs:=Mh hks (by rw [h14];decide);have h:=eO (k:=13) hkl av (by rw [h14];decide) (by rw [h14];decide) (by rw [h14];decide) (by rw [h14];decide) (by rw [h14];decide);rw [z,hN,Nat.one_mul] at h;have al:(kv.t:Int)=14:=by rw [h14];rfl
  rw [al] at h;exact h
 have aa:=Hd P;have ag:=Hd (fun(i:Nat) (s:List UInt8) (hs:ks[i]?=some s) (XA XB:Option Addr) (xac xbc:Nat) (W:World) (hb:Below w.heap.size w W)=>by
  have hi:i<kvs.length:=by rw [hks.1];exact(List.getElem?_eq_some_iff.1 hs).1
  have hy:kvs[i]?=some kvs[i]:=Ag hi;exact Vq (v:=kv.w) (lim:=(kv.n:Int)-kv.w) XA XB xac xbc (hl.pure hb) hc hn (hkl.slot hy) (hks.2 i s _ hs hy) (h0 s (Aq hs)) m (hkw _ (List.getElem_mem hi)))
 have HS:=Hd hS;have HR:=Hd hri;have HL:=Hd hl;have bp:kv.w≤kv.n:=by omega
 have bk:N≤n:=by omega
 clear hl hS h14 hsl hwd hkl hks h0 hri hkw L g1 g2 g3 m K a2 g4 O g5 U T G z hN ar P F;unfold L9;go_enter func271,ntmps271;go_wp2_with fail;go_at_call 160;refine(C.o w (Af _ _)).mono ?_;rintro e w1 ⟨rfl,hb⟩;have a:=Hd hb;clear hb C;go_wp2_with fail;go_at_call 160;refine(D.o w1 a.o).mono ?_;rintro e w2 ⟨rfl,hb⟩;replace a:=Hd (Bi a.o hb);clear hb D;go_wp2_with fail;go_at_call 32;refine(HC.o w2).mono ?_;rintro e w' ⟨⟨c1,rfl⟩,rfl⟩;go_wp2_with fail;go_loopw [16,69] (fun s u wr=>∃k:Nat,k≤N∧u= Aa Ab k∧∃A1 c1,s= .slice A1 k c1∧J7 wr w.heap.size A1 k c1 ((ks.take k).map Gt)∧Below w.heap.size w wr) (fun _ u _=>N-(intOf u).toNat)
 case atStart=>exact⟨0,Nat.zero_le _,rfl,none,0,rfl,Own.nil _ _,a.o⟩
 case round=>
  clear a HC a3 V X aw ax ay;obtain⟨k,hk,rfl,A1,d1,rfl,Q,H⟩:=hrel;have HO:=Hd Q;have a:=Hd H;clear Q H;by_cases M:k<N
  ·obtain⟨b,bt,e,az,B⟩:=G4 (HS.o.pure a.o) M;obtain⟨s,hs⟩:∃s,ks[k]=s:=⟨_,rfl⟩;rw [hs] at B;have E:=Hd hs;subst e;have bm:(0:Int)≤k:=by omega
   have bo:(k:Int)<N:=by omega
   have br:IntKind.i64.wrap ((k:Int)+1)=(k:Int)+1:=Ao _ (by omega);go_upto_region 11 with fail
   go_cut [85] from 70 to 91 (fun u85 wx=>wr=wx∧u85= .bool false)
   case first=>
    by_cases hz:k=0
    ·subst hz;go_wp2_with fail;go_meet;exact⟨rfl,rfl⟩
    ·obtain⟨b',ba,e',bn,j⟩:=G4 (HS.o.pure a.o) (k:=k-1) (by omega);obtain⟨s',S⟩:∃s,ks[k-1]=s:=⟨_,rfl⟩;rw [S] at j;injection e' with e'
     injection e' with e1 F
     subst e1 F;have R:Op.bytesLess s' s=true:=HR.o (k-1) s' s (by rw [←S,Ag]) (by rw [show k-1+1=k by omega,←E.o,Ag]);have HK:=Hd (Qy s' s true wr R);have hd:decide ((0:Int)<(k:Int))=true:=decide_eq_true (by omega);have bl:0<k:=by omega
     have bs:IntKind.i64.wrap ((k:Int)-1)=((k-1:Nat):Int):=(Ao _ (by omega)).trans (by omega);have bq:(0:Int)≤((k-1:Nat):Int):=by omega
     have a0:((k-1:Nat):Int)<N:=by omega
     clear R hz;go_wp2_with fail;go_at_call 322;refine HK.o.mono ?_;rintro e w' ⟨rfl,rfl⟩;go_wp2_with fail;go_meet;exact⟨rfl,rfl⟩
   case rest=>
   obtain⟨rfl,rfl⟩:=hcut;have HI:=Hd (eY wr (Gt s));have r:=Hd (HO.o.pure ((Af wr.heap.size wr).alloc (Ae _) (.cells (Afe (Gt s)) 34)));have g:=Hd (a.o.alloc a.o.size (.cells (Afe (Gt s)) 34));have a0:k≤4294967295:=by omega
   have ai:=Hd (show(ks.take k).map Gt++ [Gt s]=(ks.take (k+1)).map Gt by rw [List.take_succ_eq_append_getElem az,E.o,List.map_append];rfl);simp only [Gt] at HI r g;go_wp2_with (at_builtin;refine Eb _ rfl (.tmp 86) (.tmp 89) _ rfl 34 _ 6 88 underlying32 T1 rfl (by omega) Jg Yf _ _ _ _ _ rfl r.o _ _ _ _ rfl HI.o (by omega) g.o.size ?_;intro A2 d2 w5 p J au);have af:=Hd p;have Y:=Hd (g.o.trans (J.belowB (by rintro q hq ⟨ad,e1,F⟩;have:=(r.o.addr ad e1).2.1;omega) g.o.size));clear p J au;go_wp2_with fail;go_roundw
   case rel=>
    refine⟨k+1,by omega,by go_num,A2,d2,rfl,?_,Y.o⟩;rw [←ai.o];exact af.o
   case measure=>simp [intOf];omega
  ·obtain rfl:k=N:=by omega
   have I:ks.take k=ks:=List.take_of_length_le (by omega);rw [I] at HO;have ab:=Hd (Qt A n c l 0 0 14 13 0 false kv.n kv.w k (kv.n-kv.w) (fun _=>4) (fun _=>kv.w) none A1 0 0 d1 (ks.map Gt) wr (HL.o.pure a.o) hc hn aa.o HO.o.is (fun _=>rfl) (fun e=>by cases e) (fun i x hi hx W hW=>by
    rw [List.getElem?_map] at hx;have hs:ks[i]?=some ks[i]:=Ag (by omega);rw [hs] at hx;injection hx with hx
    subst hx;have e:((kv.n-kv.w:Nat):Int)=(kv.n:Int)-kv.w:=by omega
    rw [e];exact ag.o i _ hs none none 0 0 W (Bi a.o hW)))
   go_wp2_with fail;go_at_call 159;refine ab.o.mono ?_;rintro e w9 ⟨rfl,hb⟩;have Z:=Hd (Bi a.o hb);clear hb;go_wp2_with fail;go_ret;exact⟨rfl,Z.o⟩
theorem tA(h:inl v.t=true):ownW w v=w:=by unfold ownW;rw [if_pos h]
theorem kG(h:inl v.t=false):ownW w v=v.w:=by unfold ownW;rw [if_neg (by rw [h];decide)]
theorem Adt{n:Int}(h:Cn L z w (C5 n))(hn: -9223372036854775808≤n∧n≤9223372036854775807):I9 L (z:Int) (w:Int)=n:=by
 obtain⟨e1,e2⟩:=h.num (show inl (C5 n).t=true from(by decide:inl 1=true));have:=h.le;exact Q4 h.sw e2 hn e1 (by omega) (by omega)
theorem Adv(h:Cn L z w (C9 u))(hu:u<18446744073709551616):loadU L (z:Int) (w:Int)=u:=by
 obtain⟨e1,e2⟩:=h.num (show inl (C9 u).t=true from(by decide:inl 2=true));rw [e1];exact eN h.sw e2 hu
theorem Adu{n:Int}(h:Cn L z w (Dh n)):loadU L (z:Int) (w:Int)=if n=1 then 1 else 0:=by
 obtain⟨e1,e2⟩:=h.num (show inl (Dh n).t=true from(by decide:inl 26=true));rw [e1];show(if n=1 then 1 else 0) % 2^(8*w)=_;rcases C8.1 h.sw with rfl|rfl|rfl|rfl <;>(split <;>rfl)
theorem aZ{t m:Nat}(h:Gi L t w m v)(hw:Bz (w:Int)=true):Cy L.length (v.n:Int) (v.w:Int)=0∧loadU L (v.n:Int) (v.w:Int)=m % 2^(8*w)∧(v.n:Int) % (v.w:Int)=0∧Bz (v.w:Int)=true∧v.n+v.w≤L.length:=by
 obtain⟨_,h2,h3,h4⟩:=h;have hle:=h3.le;rw [Bo] at hle;rw [h2];refine⟨?_,by rw [h3.load hw,Hr,Nat.mod_mod],by omega,hw,hle⟩;unfold Cy;rw [if_pos hw,if_pos ⟨by omega,by omega⟩]
theorem lH{z:List UInt8}{T:Nat}(h:D3 L T s z v)(hL:L.length<4294967296):(1≤(v.w:Int)∧(v.w:Int)≤8)∧(v.n:Int) % (v.w:Int)=0∧Cy L.length ((v.n:Int)-(v.w:Int)) (v.w:Int)=0∧loadU L ((v.n:Int)-(v.w:Int)) (v.w:Int)=s.length∧s.length<4294967296∧At L v.n (s++z)∧Bz (v.w:Int)=true:=by
 obtain⟨_,h2,c,h3,a,g⟩:=h;have b:Bz (v.w:Int)=true:=by rw [h2];exact Dy _
 have i:=Cr.1 b;have d:=a.le;simp only [List.length_append,Bo] at d;have f:s.length<2^(8*v.w):=by rw [h2];exact Ev (Dy _) (by omega) (Ae _)
 have e:(v.n:Int)-(v.w:Int)=(c:Int):=by omega
 rw [Am] at a;refine⟨by omega,?_,?_,?_,by omega,?_,b⟩
 ·have:v.n % v.w=0:=by rw [h3,Nat.add_mod_right];exact g
  omega
 ·rw [e];unfold Cy;rw [if_pos b,if_pos ⟨by omega,by omega⟩]
 ·rw [e];exact Ml b a.left f
 ·have:=a.right;rw [Bo,←h3] at this;exact this
theorem Xl(h:Cn l z w v)(hi:inl v.t=true)(hf:Sn (v.t:Int)= .func (.func f) #[] #[])
  (hcf:∀(xs:Array Value) (W:World),(callFunc f xs).run Ad W= .ok (.enter f xs) W)
  (hcall:∀W',Below W.heap.size W W'→Calls Ad f #[.slice A n c,.agg (Afg (z:Int) (w:Int) (v.t:Int) (w:Int)),Aa Ab 0,.agg (Aff xk xn xu xs XA xan xac XB xbn xbc)] W' fun e w'=>e= .returned (.bool true)∧Below W'.heap.size W' w'):
  Calls Ad 87 #[.slice A n c,.agg #[Aa Ab (z:Int),Aa Ab (w:Int),Aa Ab (v.t:Int),Aa Ab (ownW w v:Int)],Aa Ab lim,.agg (Aff xk xn xu xs XA xan xac XB xbn xbc)] W (L9 W):=by
 rw [tA hi];exact Abo A n c z w v.t w lim f xk xn xu xs XA xan xac XB xbn xbc W h.sw h.sw (Ls hi) hi hf hcf hcall
theorem Qd(hl:Cv W A n l)(hc:n≤c)(hn:n≤4294967295)(h:Cn l z w v)(hi:inl v.t=false)(hg:Cb (v.t:Int)=true)(hw:Bz (v.w:Int)=true)(hlow:M1 lim v)
  (hf:Sn (v.t:Int)= .func (.func f) #[] #[]∨(Sn (v.t:Int)= .nilFunc∧f=159))
  (hcf:∀(xs:Array Value) (W:World),(callFunc f xs).run Ad W= .ok (.enter f xs) W)
  (hcall:∀W',Below W.heap.size W W'→Calls Ad f #[.slice A n c,.agg (Afg (z:Int) (w:Int) (v.t:Int) (v.w:Int)),Aa Ab (v.n:Int),.agg (Aff xk xn xu xs XA xan xac XB xbn xbc)] W' fun e w'=>e= .returned (.bool true)∧Below W'.heap.size W' w'):
  Calls Ad 87 #[.slice A n c,.agg #[Aa Ab (z:Int),Aa Ab (w:Int),Aa Ab (v.t:Int),Aa Ab (ownW w v:Int)],Aa Ab lim,.agg (Aff xk xn xu xs XA xan xac XB xbn xbc)] W (L9 W):=by
 rw [kG hi];obtain⟨h1,h2⟩:=h.load hi;have b:=h.le;have a:=hl.1;have d:=hlow hi;have e:(z:Int)-((z-v.n:Nat):Int)=(v.n:Int):=by omega
 refine fQ A n c z w v.t v.w lim (z-v.n) l f xk xn xu xs XA xan xac XB xbn xbc W h.sw hw hg hi hf hcf hl hc (by omega) (by rw [←a];exact Nf h) h1 (by omega) (by omega) (by omega) (by omega) ?_;rw [e];exact hcall
theorem Zi{T:Int}(h:K5 T=true):0≤Df T∧((Cs T==10)||(Cs T==17))=Cj T∧(Cs T=17↔T=9)∧(0<Df T→T≠9)∧Sn T= .nilFunc∧Cb T=true∧Bq T=false∧(Cj T=false→Bq (E9 T)=false→E9 T=4):=by
 rcases Zh h with rfl|rfl|rfl|rfl|rfl|rfl|(rfl|rfl|rfl)|rfl|rfl|rfl
 all_goals exact⟨by decide,by decide,by decide,by decide,by rfl,by decide,by decide,by decide⟩
theorem qT(h:Dn L y t)(h4:y.t=4):∃s,t= .mk 5 0 0 s [] []∧Gc L s y∧Ci s=false:=by
 cases h with
 |null=>cases h4
 |truth=>cases h4
 |int=>cases h4
 |uint=>cases h4
 |key h h0=>exact⟨_,rfl,h,h0⟩
 |str h=>rw [h.1] at h4;cases h4
 |blob h=>rw [h.1] at h4;cases h4
 |indInt h=>rw [h.1] at h4;cases h4
 |indUint h=>rw [h.1] at h4;cases h4
 |list hk h10=>
  rw [h4] at hk;have:Cs ((4:Nat):Int)=5:=by decide
  omega
 |map h9=>rw [h9] at h4;cases h4
theorem xA{w:World}(h:Ck w p x (.mk 5 0 0 s [] [])):x.k=5∧x.n=0∧x.u=0∧x.s=s∧x.an=0∧x.bn=0:=by
 generalize ht:Tr.mk 5 0 0 s [] []=t at h;cases h with
 |mk h1 _ _ _ h2 _ _ _ hl=>
  injection ht with e1 e2 e3 e4 e5 e6
  subst e5 e6;exact⟨e1.symm,e2.symm,e3.symm,e4.symm,h1.1.symm,by rw [←h2.1,hl];rfl⟩
theorem kV{i:Nat}{f:Int}(hl:Cv w0 A n l)(hc:n≤c)(hn:n≤4294967295)(hli:Fk l 0 ys v)(he:Ji v.t ys)(hy:ys[i]?=some y)(hd:Dn l y t)(hlow:M1 f y)(hx:Ck w0 p x t)
  (ih:∀(z w:Nat) (lim:Int),Cn l z w y→M1 lim y→∀W,Below w0.heap.size w0 W→Calls Ad 87 #[.slice A n c,.agg #[Aa Ab (z:Int),Aa Ab (w:Int),Aa Ab (y.t:Int),Aa Ab (ownW w y:Int)],Aa Ab lim,.agg (Afe x)] W (L9 W)):
  ∀W,Below w0.heap.size w0 W→Calls Ad 87 #[.slice A n c,.agg #[Aa Ab ((v.n+i*v.w:Nat):Int),Aa Ab (v.w:Int),Aa Ab (Zk v.t ys i),Aa Ab (Ul v.t v.w ys i)],Aa Ab f,.agg (Afe x)] W (L9 W):=by
 intro W B;have C:=hli.slot hy;obtain⟨_,L,M,b⟩:=he y (Aq hy);have u:Zk v.t ys i=(y.t:Int):=by
  unfold Zk;by_cases ht:Cj (v.t:Int)=true
  ·rw [if_pos ht,Be,hy];rfl
  ·rw [if_neg ht,b (by simpa using ht)]
 by_cases a:Cj (v.t:Int)=false∧inl y.t=false
 ·have F:(y.t:Int)=4:=by
   rw [←b a.1];exact(Zi hli.typ).2.2.2.2.2.2.2 a.1 (by rw [b a.1];exact a.2)
  obtain⟨s,rfl,H,I⟩:=qT hd (by omega);obtain⟨N,O,P,xs,D,J,g,E,K,h⟩:=x;obtain⟨j,k,m,o,q,r⟩:=xA hx;simp only at j k m o q r;subst j k m o q r;have d:Ul v.t v.w ys i=(v.w:Int):=by unfold Ul;rw [if_neg (by rw [a.1];decide)]
  rw [u,F,d];exact Vq D E g h (hl.pure B) hc hn C H I hli.w hlow
 ·have d:Ul v.t v.w ys i=(ownW v.w y:Int):=by
   unfold Ul;by_cases ht:Cj (v.t:Int)=true
   ·rw [if_pos ht,Be,hy];rfl
   ·have ht:Cj (v.t:Int)=false:=by simpa using ht
    have G:inl y.t=true:=by
     cases e:inl y.t with
     |true=>rfl
     |false=>exact absurd ⟨ht,e⟩ a
    rw [if_neg (by rw [ht];decide),tA G]
  rw [u,d];exact ih _ _ f C hlow W B
theorem Ie{w:World}{n:Int}(h:Ck w p ⟨xk,xn,xu,xs,XA,xan,xac,XB,xbn,xbc⟩ (.mk k n u s [] [])):k=xk∧n=xn∧u=xu∧s=xs∧0=xan∧0=xbn:=h.fields
theorem Zr{w:World}{n:Int}{ks:List (List UInt8)}{c:List Tr}(h:Ck w p ⟨xk,xn,xu,xs,XA,xan,xac,XB,xbn,xbc⟩ (.mk k n u s ks c)):
  (k=xk∧n=xn∧u=xu∧s=xs∧ks.length=xan∧c.length=xbn)∧Fs w XA xan ks∧∃vs,Gj w XB xbn vs∧vs.length=c.length∧∀(i:Nat) v t,vs[i]?=some v→c[i]?=some t→Ck w p v t:=by
 refine⟨h.fields,?_⟩;generalize ht:Tr.mk k n u s ks c=t at h;generalize a:(⟨xk,xn,xu,xs,XA,xan,xac,XB,xbn,xbc⟩:Nv)=x at h;cases h with
 |mk h1 _ _ _ h2 _ _ _ hl hc=>
  injection ht with _ _ _ _ e5 e6
  subst e5 e6 a;exact⟨h1,_,h2,hl,hc⟩
theorem tM(hl:Cv w0 A n l)(hc:n≤c)(hn:n≤4294967295)(hd:Dn l v t):
  ∀(x:Nv),Ck w0 p x t→∀(z w:Nat) (lim:Int),Cn l z w v→M1 lim v→∀W,Below w0.heap.size w0 W→Calls Ad 87 #[.slice A n c,.agg #[Aa Ab (z:Int),Aa Ab (w:Int),Aa Ab (v.t:Int),Aa Ab (ownW w v:Int)],Aa Ab lim,.agg (Afe x)] W (L9 W):=by
 induction hd with
 |null=>
  rintro⟨B,C,D,xs,j,xan,b,o,xbn,d⟩ hx z w lim g a W hW;obtain⟨rfl,rfl,rfl,rfl,rfl,rfl⟩:=Ie hx;refine Xl g (by decide) (f:=262) (by rfl) (by intro xs W;kernel_rfl) (fun W' hb=>?_);exact mZ A n c z w 0 w 0 j o b d l W' ((hl.pure hW).pure hb) hc (by omega) (by rw [←hl.1];exact Nf g)
 | @truth k h=>
  rintro⟨B,C,D,xs,j,xan,b,o,xbn,d⟩ hx z w lim g a W hW;obtain⟨rfl,rfl,rfl,rfl,rfl,rfl⟩:=Ie hx;refine Xl g (show inl 26=true by decide) (f:=265) (by rfl) (by intro xs W;kernel_rfl) (fun W' hb=>?_);have Q:=Adu g;rcases h with rfl|rfl
  ·exact Aaj A n c z w 26 w 0 j o b d l W' ((hl.pure hW).pure hb) hc (by omega) (by rw [←hl.1];exact Nf g) Q
  ·exact Aak A n c z w 26 w 0 j o b d l W' ((hl.pure hW).pure hb) hc (by omega) (by rw [←hl.1];exact Nf g) Q
 | @int k h=>
  rintro⟨B,C,D,xs,j,xan,b,o,xbn,d⟩ hx z w lim g a W hW;obtain⟨rfl,rfl,rfl,rfl,rfl,rfl⟩:=Ie hx;refine Xl g (show inl 1=true by decide) (f:=263) (by rfl) (by intro xs W;kernel_rfl) (fun W' hb=>?_);exact qR A n c z w 1 w 0 k j o b d l W' ((hl.pure hW).pure hb) hc (by omega) (by rw [←hl.1];exact Nf g) (Adt g h)
 | @uint u h=>
  rintro⟨B,C,D,xs,j,xan,b,o,xbn,d⟩ hx z w lim g a W hW;obtain⟨rfl,rfl,rfl,rfl,rfl,rfl⟩:=Ie hx;refine Xl g (show inl 2=true by decide) (f:=264) (by rfl) (by intro xs W;kernel_rfl) (fun W' hb=>?_);exact nB A n c z w 2 w 0 u j o b d l W' ((hl.pure hW).pure hb) hc (by omega) (by rw [←hl.1];exact Nf g) (Adv g h)
 | @key v s h h0=>
  rintro⟨B,C,D,xs,j,xan,b,o,xbn,d⟩ hx z w lim g a W hW;obtain⟨rfl,rfl,rfl,rfl,rfl,rfl⟩:=Ie hx;have hi:inl v.t=false:=by rw [h.1];decide
  have:=Vq (v:=v.w) j o b d (hl.pure hW) hc hn g h h0 (by rw [h.2.1];decide) a;rw [kG hi,h.1];exact this
 | @str v s h=>
  rintro⟨B,C,D,xs,j,xan,b,o,xbn,d⟩ hx z w lim g a W hW;obtain⟨rfl,rfl,rfl,rfl,rfl,rfl⟩:=Ie hx;obtain⟨K,L,M,r,P,R,V⟩:=lH h (by rw [hl.1];omega);obtain⟨F,q,y⟩:=v;obtain rfl:F=5:=h.1;refine Qd (hl.pure hW) hc hn g (show inl 5=false by decide) (show Cb ((5:Nat):Int)=true by decide) V a (f:=267) (.inl (by rfl)) (by intro xs W;kernel_rfl) (fun W' hb=>?_);exact Aao A n c y z w q s j o b d l W' ((hl.pure hW).pure hb) hc (by omega) K L (by rw [←hl.1];exact M) r P R
 | @blob v s h=>
  rintro⟨B,C,D,xs,j,xan,b,o,xbn,d⟩ hx z w lim g a W hW;obtain⟨rfl,rfl,rfl,rfl,rfl,rfl⟩:=Ie hx;obtain⟨K,L,M,r,P,R,V⟩:=lH h (by rw [hl.1];omega);rw [List.append_nil] at R;obtain⟨F,q,y⟩:=v;obtain rfl:F=25:=h.1;refine Qd (hl.pure hW) hc hn g (show inl 25=false by decide) (show Cb ((25:Nat):Int)=true by decide) V a (f:=267) (.inl (by rfl)) (by intro xs W;kernel_rfl) (fun W' hb=>?_);exact Aan A n c y z w q s j o b d l W' ((hl.pure hW).pure hb) hc (by omega) K L (by rw [←hl.1];exact M) r P R
 | @indInt v k h hk=>
  rintro⟨B,C,D,xs,j,xan,b,o,xbn,d⟩ hx z w lim g a W hW;obtain⟨rfl,rfl,rfl,rfl,rfl,rfl⟩:=Ie hx;obtain⟨K,L,M,r,P⟩:=aZ h (Hv _);have hI:I9 l (v.n:Int) (v.w:Int)=k:=Q4 r (by rw [h.2.1];omega) hk (by rw [L,h.2.1]) (by omega) (by omega);obtain⟨F,q,y⟩:=v;obtain rfl:F=6:=h.1;have J:=Cr.1 r;refine Qd (hl.pure hW) hc hn g (show inl 6=false by decide) (show Cb ((6:Nat):Int)=true by decide) r a (f:=268) (.inl (by rfl)) (by intro xs W;kernel_rfl) (fun W' hb=>?_);exact vS A n c z w q y k j o b d l W' ((hl.pure hW).pure hb) hc (by omega) (by rw [←hl.1];exact K) (by omega) (by simp only at J;omega) M hI
 | @indUint v u h Q=>
  rintro⟨B,C,D,xs,j,xan,b,o,xbn,d⟩ hx z w lim g a W hW;obtain⟨rfl,rfl,rfl,rfl,rfl,rfl⟩:=Ie hx;obtain⟨K,L,M,r,P⟩:=aZ h (Dy _);have hU:loadU l (v.n:Int) (v.w:Int)=u:=by rw [L];exact Nat.mod_eq_of_lt (Ev (Dy _) Q (Ae _))
  obtain⟨F,q,y⟩:=v;obtain rfl:F=7:=h.1;have J:=Cr.1 r;refine Qd (hl.pure hW) hc hn g (show inl 7=false by decide) (show Cb ((7:Nat):Int)=true by decide) r a (f:=268) (.inl (by rfl)) (by intro xs W;kernel_rfl) (fun W' hb=>?_);exact vU A n c z w q y u j o b d l W' ((hl.pure hW).pure hb) hc (by omega) (by rw [←hl.1];exact K) (by omega) (by simp only at J;omega) M hU
 | @list v k ts vs hk h10 hli hlen he hlow' hr ih=>
  rintro⟨B,C,D,xs,j,xan,b,o,xbn,d⟩ hx z w lim g a W hW;obtain⟨⟨rfl,rfl,rfl,rfl,rfl,e6⟩,hS,ys,S,U,m⟩:=Zr hx;obtain rfl:vs.length=xbn:=by omega
  obtain⟨f1,X,Y,f4,f5,f6,f7,f8⟩:=Zi hli.typ;rw [hk] at X Y;refine Qd (hl.pure hW) hc hn g f7 f6 hli.w a (f:=159) (.inr ⟨f5,rfl⟩) (by intro xs W;kernel_rfl) (fun W' hb=>?_);have E:=Bi hW hb;exact Qt A n c l z w v.t k (Df v.t) (Cj v.t) v.n v.w vs.length (v.n-aheadT (v.t:Int)*v.w) (Zk v.t vs) (Ul v.t v.w vs) j o 0 b d ys W' (hl.pure E) hc hn (eO hli he hk f1 X Y f4) (S.pure E) (fun _=>rfl) (fun e=>by omega) (fun i x hi hx W2 hW2=>by
   have G:i<ts.length:=by omega
   have I:=Ag hi;have ht:=Ag G;have H:=hlow' _ (List.getElem_mem hi);have T:((v.n-aheadT (v.t:Int)*v.w:Nat):Int)=(v.n:Int)-aheadT (v.t:Int)*v.w:=by
    have Z:=hli.ah;rw [Av] at Z;rw [Int.ofNat_sub Z,Int.natCast_mul]
   rw [T];exact kV hl hc hn hli he I (hr i _ _ I ht) H (m i _ _ hx ht) (fun z w lim h1 h2 W hW=>ih i _ _ I ht x (m i _ _ hx ht) z w lim h1 h2 W hW) W2 (Bi E hW2))
 | @map v kv ts vs kvs ks cc h9 hli hlen he hlow' hcc h14 hkl hks hkn h0 hri hkw hsl hwd hr ih=>
  rintro⟨B,C,D,xs,j,xan,b,o,xbn,d⟩ hx z w lim g a W hW;obtain⟨⟨rfl,rfl,rfl,rfl,e5,e6⟩,hS,ys,S,U,m⟩:=Zr hx;obtain rfl:vs.length=xbn:=by omega
  obtain rfl:vs.length=xan:=by omega
  obtain⟨F,q,y⟩:=v;obtain rfl:F=9:=h9;refine Qd (hl.pure hW) hc hn g (show inl 9=false by decide) (show Cb ((9:Nat):Int)=true by decide) hli.w a (f:=159) (.inr ⟨by rfl,rfl⟩) (by intro xs W;kernel_rfl) (fun W' hb=>?_);have E:=Bi hW hb;have O:=eO (k:=17) hli he (show Cs ((9:Nat):Int)=17 by decide) (show 0≤Df ((9:Nat):Int) by decide) (show((17:Int)==10||(17:Int)==17)=Cj ((9:Nat):Int) by decide) (show(17:Int)=17↔((9:Nat):Int)=9 by decide) (show 0<Df ((9:Nat):Int)→((9:Nat):Int)≠9 by decide);have N:y-aheadT ((9:Nat):Int)*q=cc:=by rw [show aheadT ((9:Nat):Int)=3 by decide];simp only at hcc;omega
  rw [N] at O;exact Qt A n c l z w 9 17 0 true y q vs.length cc (Zk 9 vs) (Ul 9 q vs) j o vs.length b d ys W' (hl.pure E) hc hn O (S.pure E) (fun e=>absurd rfl e) (fun _=>⟨rfl,fun W2 hW2=>mY A j n c vs.length b cc q l kv kvs ks W2 ((hl.pure E).pure hW2) hc hn ((hS.pure E).pure hW2) h14 hsl hwd hkl hks h0 hri hkw⟩) (fun i x hi hx W2 hW2=>by
   have G:i<ts.length:=by omega
   have I:=Ag hi;have ht:=Ag G;have H:=hlow' _ (List.getElem_mem hi);exact kV hl hc hn hli he I (hr i _ _ I ht) H (m i _ _ hx ht) (fun z w lim h1 h2 W hW=>ih i _ _ I ht x (m i _ _ hx ht) z w lim h1 h2 W hW) W2 (Bi E hW2))
structure pL(l:List UInt8)(p w:Nat)(v:Bv):Prop where
 sl:Cn l p w v
 len:p+w+2=l.length
 md:p % w=0
 leg:Cb (v.t:Int)=true
 vw:Bz (v.w:Int)=true
 tg:At l (p+w) [Dl w v,An w]
theorem vV(A:Option Addr)(n c:Nat)(p q t v:Int)(x:Nv)(w:World)(hsay:∀W,Below w.heap.size w W→Calls Ad 87 #[.slice A n c,.agg (Afg p q t v),Aa Ab p,.agg (Afe x)] W (L9 W)):
  Calls Ad 51 #[.slice A n c,.agg (Afg p q t v),.agg (Afe x)] w (L9 w):=by
 have h:=Hd hsay;have a:=Hd (Bu w (.cells (Afg p q t v) 70) (.cells (Afe x) 34));have f:=Hd ((Bk.new w 70 (Afg p q t v)).alloc (.cells (Afe x) 34));have d:=Hd (Bk.new_ (w:=w.alloc (.cells (Afg p q t v) 70)) (g:=w.heap.size+1) (by simp) 34 (Afe x));clear hsay;go_enter func51,ntmps51;go_upto_region 1 with fail
 generalize (w.alloc (.cells (Afg p q t v) 70)).alloc (.cells (Afe x) 34)=w1 at a f d⊢;generalize w.heap.size+1=bn at d⊢;obtain ⟨j,k,l,m⟩:=f.o.c4;obtain ⟨s,u,y,z,B,C⟩:=d.o.c6;unfold L9 at h;go_wp2_with fail;go_at_call 87;refine(h.o w1 a.o).mono ?_;rintro e r ⟨rfl,i⟩;have b:=Hd (Bi a.o i);clear i;go_wp2_with fail;go_ret;exact⟨rfl,b.o⟩
theorem Wq{p0 w0:Nat}{w:World}(hl:Cv w A n l)(hc:n≤c)(hn:n≤1099511627)(hr:pL l p0 w0 v)(hd:Dn l v t)(hlow:M1 p0 v)(hx:Ck w p x t):
  Calls Ad 19 #[.slice A n c,.agg (Afe x)] w (L9 w):=by
 have j:=hl.1;have J:Bz (ownW w0 v:Int)=true:=by unfold ownW;split;exact hr.sl.sw;exact hr.vw
 obtain⟨Z,u2,u3⟩:=Xo v.t (ownW w0 v) hr.leg J;have eb:Dl w0 v=An (4*v.t+bCode (ownW w0 v)):=rfl;rw [←eb] at Z u2 u3;have U:=hr.len;have V:=Cr.1 hr.sl.sw;have a0:=hr.md;have h2:n-2=p0+w0:=by omega
 have h1:n-1=p0+w0+1:=by omega
 obtain⟨b,Y,rfl,G,r⟩:=Je hl (k:=n-1) (by omega);obtain⟨b',ah,T,H,L⟩:=Je hl (k:=n-2) (by omega);injection T with T
 injection T with e1 e2
 subst e1 e2;have D:=hr.tg.get (i:=1) (by simp);have E:=hr.tg.get (i:=0) (by simp);rw [←h1,Ag G] at D;rw [Nat.add_zero,←h2,Ag H] at E;injection D with D
 injection E with E
 rw [D] at r;rw [E] at L;have K:(An w0).toNat=w0:=by
  rw [UInt8.toNat_ofNat'];rcases C8.1 hr.sl.sw with rfl|rfl|rfl|rfl <;>rfl
 rw [K] at r;have S:=Hd (fun W=>Mz (Dl w0 v) W);rw [Z,u2,u3] at S;have f:=(Af w.heap.size w).alloc (Ae _) (.cells (Afe x) 34);have y:=Hd f;have C:=Hd (hl.pure f);have a:=Hd (Bk.new w 34 (Afe x));replace r:=Bl f r;replace L:=Bl f L;have g:=Hd (fun W (hW:Below w.heap.size w W) A2 n2 c2 (h:Cv W A2 n2 l) (hc2:n2≤c2)=>tM h hc2 (by rw [←h.1,j];omega) hd x (hx.pure hW) p0 w0 p0 hr.sl hlow W (Af _ _));have HC:=Hd (fun W=>Fy (w0:Int) W hr.sl.sw);have a2:3≤n:=by omega
 have a1:(3:Int)≤(n:Int):=by omega
 have a5:1≤w0∧w0≤8:=by omega
 have ag:n≤1099511627776:=by omega
 have a6:IntKind.i64.wrap (((n-2:Nat):Int)-(w0:Int))=(p0:Int):=(Ao _ (by omega)).trans (by omega);have a3:IntKind.i64.wrap ((n:Int)-1)=((n-1:Nat):Int):=(Ao _ (by omega)).trans (by omega);have a4:IntKind.i64.wrap ((n:Int)-2)=((n-2:Nat):Int):=(Ao _ (by omega)).trans (by omega);have I:(p0:Int) % (w0:Int)=0:=by omega
 clear hr hd hlow hx j J Z u2 u3 eb U V D E K h1 h2 f hl G H;go_enter func19,ntmps19;go_upto_region 1 with fail
 generalize w.alloc (.cells (Afe x) 34)=w1 at y C a r L⊢;generalize F:w.heap.size=bt at y a g⊢;have HT:=Hd F;clear F;go_wp2_with fail;go_at_call 50;refine(S.o _).mono ?_;rintro e M ⟨rfl,d⟩;replace y:=Hd (y.o.trans (d.mono (Nat.le_of_lt a.o.lt)));replace C:=Hd (C.o.pure d);replace a:=Hd (a.o.pure d);clear d r L S;go_wp2_with fail;go_at_call 32;refine(HC.o _).mono ?_;rintro e w' ⟨⟨cc,rfl⟩,rfl⟩;obtain ⟨x0,x1,x2,x3,x4,x5⟩:=a.o.c6;have Q:=Hd (Po (some ⟨b,Y,none⟩) n c l M.drew C.o (by omega));have az:(((p0:Int) % (w0:Int)) != 0)=false:=by rw [I];rfl
 clear I;go_wp2_with fail;go_region_held3 (fun w'=>w'.cell? ⟨bt,0,none⟩=some (Aa Ab x.k)∧w'.cell? ⟨bt,1,none⟩=some (Aa Ab x.n)∧w'.cell? ⟨bt,2,none⟩=some (Aa Ac (x.u:Int))∧w'.cell? ⟨bt,3,none⟩=some (.string ⟨x.s.toArray⟩)∧w'.cell? ⟨bt,4,none⟩=some (.slice x.A x.an x.ac)∧w'.cell? ⟨bt,5,none⟩=some (.slice x.B x.bn x.bc)) (first|with_reducible exact⟨x0,x1,x2,x3,x4,x5⟩|with_reducible exact⟨Bj x0,Bj x1,Bj x2,Bj x3,Bj x4,Bj x5⟩|with_reducible exact⟨y0,y1,y2,y3,y4,y5⟩|with_reducible exact⟨z0,z1,z2,z3,z4,z5⟩) (first
  |(go_at_call 52;(with_reducible refine Q.o.mono ?_);rintro e w3 ⟨A1,X,c1,rfl,N,d⟩;obtain rfl:X=n:=(by rw [←N.1,C.o.1]);have q:Below M.heap.size M w3:=((Af M.heap.size M).drew).trans d;have m:=Hd (a.o.pure q);obtain ⟨y0,y1,y2,y3,y4,y5⟩:=m.o.c6;have z:=Hd (y.o.trans (q.mono (Nat.le_of_lt a.o.lt)));have R:=Hd N.is;have P:=Hd N.cap.1;clear N d q)
  |(go_at_call 51;(with_reducible refine(vV A1 X c1 p0 w0 v.t (ownW w0 v:Int) x w3 (fun W hW=>g.o W (z.o.trans (hW.mono (Nat.le_of_lt m.o.lt))) A1 X c1 (R.o.pure hW) P.o)).mono ?_);rintro e w4 ⟨rfl,d⟩;have O:=Hd (z.o.trans (d.mono (Nat.le_of_lt m.o.lt)));have z0:=Bl d y0;have z1:=Bl d y1;have z2:=Bl d y2;have z3:=Bl d y3;have z4:=Bl d y4;have z5:=Bl d y5;clear d))
 go_wp2_with fail;go_ret;refine⟨rfl,?_⟩;rw [HT.o];exact O.o
theorem yO(h:Tu l log):∀x∈log,∀y∈log,x.1=y.1→x=y:=by
 intro x c y d e;obtain⟨i,a,rfl⟩:=List.mem_iff_getElem.1 c;obtain⟨j,b,rfl⟩:=List.mem_iff_getElem.1 d;have h1:=h.rg _ (List.getElem_mem a);have h2:=h.rg _ (List.getElem_mem b);rcases Nat.lt_trichotomy i j with h3|h3|h3
 ·have:=List.pairwise_iff_getElem.1 h.asc i j a b h3;omega
 ·subst h3;rfl
 ·have:=List.pairwise_iff_getElem.1 h.asc j i b a h3;omega
theorem sN{D D':List UInt8}{T:Tr}(h:aU D T log)(ht:Tu D log)(hL:D.length<2^32)(hv:Ft T)(hok:Hb T)(hup:Yz T)(hlen:D'.length=D.length)(hs:∀x∈log,Kj D D' x):
  ∃p w v,pL D' p w v∧Dn D' v T∧M1 (p:Int) v:=by
 obtain⟨b,v,w,ps,A,rfl,u,m,n,k,j,l,a⟩:=h;have f:=yO ht;have d:∀x∈ps,x∈log:=fun x hx=>by rw [a];exact List.mem_append_left _ (l x hx)
 have q:(((Bm w b).length:Int),(((Bm w b).length+w:Nat):Int),Er v.t)∈log:=by rw [a];simp
 have y:((((Bm w b).length+w:Nat):Int),(((Bm w b).length+w+1:Nat):Int),(8:Int))∈log:=by rw [a];simp
 have z:((((Bm w b).length+w+1:Nat):Int),(((Bm w b).length+w+2:Nat):Int),(14:Int))∈log:=by rw [a];simp
 obtain⟨_,s,_⟩:=Hu u b;have g:=Uz [] b v w;simp only [List.nil_append,List.length_nil,Av] at g;have o:At (Di b v w) ((Bm w b).length+w) [Dl w v,An w]:=by
  refine⟨Bm w b++Bn w (Da w (Bm w b).length v),[],?_,by simp [Bo]⟩;unfold Di;simp only [Am,List.append_nil]
 refine⟨(Bm w b).length,w,v,⟨k.agr hlen (hs _ q) (Int.le_refl _) (by omega),by rw [hlen,g],s,m,n,?_⟩,Aee hlen hL f hs j d hv hok hup,?_⟩
 ·refine o.agr hlen fun i h1 h2=>?_
  have h2:i<(Bm w b).length+w+2:=h2;by_cases e:i=(Bm w b).length+w
  ·exact hs _ y i (by simp only;omega) (by simp only;omega)
  ·exact hs _ z i (by simp only;omega) (by simp only;omega)
 ·intro hi;have r:Er v.t=5:=by
   have c:Bq (v.t:Int)=false:=hi;unfold Er;rw [if_neg (fun e=>absurd c (by rw [e];decide)),if_neg (fun e=>absurd c (by rw [e];decide)),if_neg (fun e=>absurd c (by rw [e];decide)),if_neg (fun e=>absurd c (by rw [e];decide))]
  rw [r] at q;exact cS f j d hok q (.inl rfl) (fun hi=>by have:=(k.el.2 hi).1;omega) hi
end
section
open Go.Acc
theorem rQ(x:List UInt8×Tr):∀(l:List (List UInt8×Tr)),(∀y∈l,x.1<y.1)→Pr x l=x::l
 | [],_=>rfl
 |y::r,h=>by rw [Pr,if_pos (h y (by simp))]
theorem fV:∀{l:List (List UInt8×Tr)},l.Pairwise (fun a b=>a.1<b.1)→Lz l=l
 | [],_=>rfl
 |x::r,h=>by
  obtain⟨h1,h2⟩:=List.pairwise_cons.1 h;show Pr x (Lz r)=_;rw [fV h2];exact rQ x r h1
theorem tW(h:Ft t):By (By t)=By t:=by
 induction h with
 |mk h1 h2 h3 h4 hl ih=>
  rename_i k n u s ks l;have o:∀t∈Cp l,By t=t:=by
   intro t ht;rw [Cx] at ht;obtain⟨x,hx,rfl⟩:=List.mem_map.1 ht;exact ih x hx
  have c:∀m:List Tr,(∀t∈m,t∈Cp l)→Cp m=m:=by
   intro m h;rw [Cx];exact(List.map_congr_left fun x hx=>o x (h x hx)).trans (List.map_id _)
  rw [By];by_cases d:k=17
  ·rw [if_pos d];simp only [Ep,Bool.and_eq_true,decide_eq_true_eq] at h1;obtain⟨⟨⟨_,b⟩,_⟩,_⟩:=h1;have b:ks.length=l.length:=b d;have j:(Cp l).length=l.length:=by rw [Cx,List.length_map]
   have i:(ks.zip (Cp l)).map (·.1)=ks:=List.map_fst_zip (by omega);have g:=O0 (ks.zip (Cp l)) (by rw [i];exact h4);have f:∀t∈(Lz (ks.zip (Cp l))).map (·.2),t∈Cp l:=by
    intro t ht;obtain⟨y,p,rfl⟩:=List.mem_map.1 ht;exact(List.of_mem_zip ((Eo _).mem_iff.1 p)).2
   rw [By,if_pos d,c _ f,List.zip_map'];have e:(Lz (ks.zip (Cp l))).map (fun a=>(a.1,a.2))=Lz (ks.zip (Cp l)):=List.map_id _;rw [e,fV g]
  ·rw [if_neg d,By,if_neg d,c _ (fun _ h=>h)]
end
end Go.Proofs.YtejpbijeifjdeaaGreat
