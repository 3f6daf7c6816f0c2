/- Parts of the proof. -/
import Derived.Test.YtgbjodnegkbfoaaGreatQa28
set_option maxHeartbeats 2000000
set_option maxRecDepth 100000
open Go.Value renaming int→Aa
open Go.IntKind renaming i64→Ab
open Nat renaming le_refl→Ath,le_succ→Atk
open List renaming getElem?_eq_getElem→Ati
open Int renaming toNat_natCast→Ats
namespace Go.Proofs.YtgbjodnegkbfoaaGreat
open Go.RowKit Go.Acc
theorem Apv{l:List UInt8}{p q t v:Int}(h:Bw l p q t v≠0):lsFrom l p q t v=0∧lsAt l p q t v=0∧lsTo l p q t v=0∧lsLen l p q t v=0:=by
 unfold lsFrom lsAt lsTo lsLen;rw [if_neg h,if_neg h,if_neg h,if_neg h];exact⟨rfl,rfl,rfl,rfl⟩
theorem Tg{w w':World}{A:Option Addr}{n c:Nat}{l:List UInt8}{p q t v:Int}{e:Ending}(h:LsW w A n c l p q t v e w'):
  ∃S:Value,∃a0 a1 a2 a3:Int,e= .returned (.tuple #[.agg #[S,Aa Ab a0,Aa Ab a1,Aa Ab a2,Aa Ab a3,Aa Ab (lsFrom l p q t v:Nat),Aa Ab (lsAt l p q t v:Nat),Aa Ab (lsTo l p q t v:Nat),Aa Ab (lsLen l p q t v:Nat)],Aa Ab (Bw l p q t v)])∧S.oneCell'=true∧
   (Bw l p q t v=0→S= .slice A n c∧a0=p∧a1=q∧a2=t∧a3=v)∧Below w.heap.size w w':=by
 obtain⟨rfl,hb⟩:=h;unfold Zc;by_cases he:Bw l p q t v=0
 ·rw [if_pos he];exact⟨_,_,_,_,_,rfl,rfl,fun _=>⟨rfl,rfl,rfl,rfl,rfl⟩,hb⟩
 ·obtain⟨e1,e2,e3,e4⟩:=Apv he;rw [if_neg he,e1,e2,e3,e4];exact⟨_,_,_,_,_,rfl,rfl,fun h=>absurd h he,hb⟩
theorem U5(A:Option Addr)(n c:Nat)(p q t v:Int)(l:List UInt8)(w:World)(h:Cw w A n l)(hc:n≤c)(hn:n≤1099511627776):
  Calls Tryz.prog 173 #[.slice A n c,.agg #[Aa Ab p,Aa Ab q,Aa Ab t,Aa Ab v]] w fun e w'=>e= .returned (.tuple #[Aa Ab (lsFrom l p q t v:Nat),Aa Ab (lsAt l p q t v:Nat),Aa Ab (lsTo l p q t v:Nat),Aa Ab (Bw l p q t v)])∧Below w.heap.size w w':=by
 have HL:=Hd (h.alloc (.cells #[Aa Ab p,Aa Ab q,Aa Ab t,Aa Ab v] 75));have HB:=Hd ((Below.refl w.heap.size w).alloc (Ath _) (.cells #[Aa Ab p,Aa Ab q,Aa Ab t,Aa Ab v] 75));obtain⟨nf,hnf⟩:∃x,lsFrom l p q t v=x:=⟨_,rfl⟩;obtain⟨na,hna⟩:∃x,lsAt l p q t v=x:=⟨_,rfl⟩;obtain⟨nt,hnt⟩:∃x,lsTo l p q t v=x:=⟨_,rfl⟩;obtain⟨nl,hnl⟩:∃x,lsLen l p q t v=x:=⟨_,rfl⟩;obtain⟨ne,hne⟩:∃x,Bw l p q t v=x:=⟨_,rfl⟩;have HNF:=Hd hnf;have HNA:=Hd hna;have HNT:=Hd hnt;have HNL:=Hd hnl;have HNE:=Hd hne;clear h hnf hna hnt hnl hne;go_enter Tryz.func173,Tryz.ntmps173;go_wp2_with fail;go_at_call 267;refine(Pc A n c p q t v l _ HL.o hc hn).mono ?_;intro e w1 hpost;obtain⟨S,a0,a1,a2,a3,rfl,hS,_,hb⟩:=Tg hpost;rw [HNF.o,HNA.o,HNT.o,HNL.o,HNE.o];have hstS:=fun(W:World) (p:Addr)=>run_store Tryz.prog W p S .plain hS
 replace HB:=Hd ((Ad HB.o hb).alloc (Ad HB.o hb).size (.cells #[S,Aa Ab a0,Aa Ab a1,Aa Ab a2,Aa Ab a3,Aa Ab (nf:Nat),Aa Ab (na:Nat),Aa Ab (nt:Nat),Aa Ab (nl:Nat)] 306));clear hb hpost HL hS;go_wp2_with fail;go_quiet (fail);go_wp2;refine bodyPost_ret (v:= .tuple #[Aa Ab (nf:Nat),Aa Ab (na:Nat),Aa Ab (nt:Nat),Aa Ab ne]) (by simp [results,Tryz.results173,go_sem]) rfl ⟨?_,below_drewN HB.o _⟩;rw [HNF.o,HNA.o,HNT.o,HNE.o]
theorem Aj1(A:Option Addr)(n c:Nat)(p q t v:Int)(l:List UInt8)(w:World)(h:Cw w A n l)(hc:n≤c)(hn:n≤1099511627776):
  Calls Tryz.prog 175 #[.slice A n c,.agg #[Aa Ab p,Aa Ab q,Aa Ab t,Aa Ab v]] w fun e w'=>e= .returned (.tuple #[Aa Ab (lsLen l p q t v:Nat),Aa Ab (Bw l p q t v)])∧Below w.heap.size w w':=by
 have HL:=Hd (h.alloc (.cells #[Aa Ab p,Aa Ab q,Aa Ab t,Aa Ab v] 75));have HB:=Hd ((Below.refl w.heap.size w).alloc (Ath _) (.cells #[Aa Ab p,Aa Ab q,Aa Ab t,Aa Ab v] 75));obtain⟨nf,hnf⟩:∃x,lsFrom l p q t v=x:=⟨_,rfl⟩;obtain⟨na,hna⟩:∃x,lsAt l p q t v=x:=⟨_,rfl⟩;obtain⟨nt,hnt⟩:∃x,lsTo l p q t v=x:=⟨_,rfl⟩;obtain⟨nl,hnl⟩:∃x,lsLen l p q t v=x:=⟨_,rfl⟩;obtain⟨ne,hne⟩:∃x,Bw l p q t v=x:=⟨_,rfl⟩;have HNF:=Hd hnf;have HNA:=Hd hna;have HNT:=Hd hnt;have HNL:=Hd hnl;have HNE:=Hd hne;clear h hnf hna hnt hnl hne;go_enter Tryz.func175,Tryz.ntmps175;go_wp2_with fail;go_at_call 267;refine(Pc A n c p q t v l _ HL.o hc hn).mono ?_;intro e w1 hpost;obtain⟨S,a0,a1,a2,a3,rfl,hS,_,hb⟩:=Tg hpost;rw [HNF.o,HNA.o,HNT.o,HNL.o,HNE.o];have hstS:=fun(W:World) (p:Addr)=>run_store Tryz.prog W p S .plain hS
 replace HB:=Hd ((Ad HB.o hb).alloc (Ad HB.o hb).size (.cells #[S,Aa Ab a0,Aa Ab a1,Aa Ab a2,Aa Ab a3,Aa Ab (nf:Nat),Aa Ab (na:Nat),Aa Ab (nt:Nat),Aa Ab (nl:Nat)] 306));clear hb hpost HL hS;go_wp2;go_ret2;rw [HNL.o,HNE.o];exact⟨rfl,HB.o⟩
theorem S2(A:Option Addr)(n c:Nat)(p q t:Int)(v f a o k i X:Nat)(w:World)(hX:i*v=X)(hb:a+X≤1099511627776):
  Calls Tryz.prog 391 #[.agg #[.slice A n c,Aa Ab p,Aa Ab q,Aa Ab t,Aa Ab v,Aa Ab f,Aa Ab a,Aa Ab o,Aa Ab k],Aa Ab i] w fun e w'=>e= .returned (.agg #[Aa Ab ((a:Int)+X),Aa Ab v,Aa Ab 0,Aa Ab v])∧Below w.heap.size w w':=by
 have hmul:wrap64 ((i:Int)*(v:Int))=(X:Int):=by
  rw [←Int.natCast_mul,hX];exact Dr _ (by omega)
 have HB:=Hd (((Below.refl w.heap.size w).alloc (Ath _) (.cells #[.slice A n c,Aa Ab p,Aa Ab q,Aa Ab t,Aa Ab v,Aa Ab f,Aa Ab a,Aa Ab o,Aa Ab k] 306)).alloc (by simp) (.cells #[Aa Ab 0,Aa Ab 0,Aa Ab 0,Aa Ab 0] 75));clear hX;go_enter Tryz.func391,Tryz.ntmps391;go_wp2;refine bodyPost_ret (v:= .agg #[Aa Ab ((a:Int)+X),Aa Ab v,Aa Ab 0,Aa Ab v]) (by simp [results,Tryz.results391,go_sem]) rfl ⟨rfl,?_⟩;exact((Below.refl _ _).alloc (Ath _) _).alloc (by simp) _
theorem Adq(A:Option Addr)(n c:Nat)(p q t:Int)(v f a o k i X:Nat)(w:World)(hX:i*v=X)(hb:a+X≤1099511627776):
  Calls Tryz.prog 340 #[.agg #[.slice A n c,Aa Ab p,Aa Ab q,Aa Ab t,Aa Ab v,Aa Ab f,Aa Ab a,Aa Ab o,Aa Ab k],Aa Ab i] w fun e w'=>e= .returned (.tuple #[.agg #[Aa Ab ((a:Int)+X),Aa Ab v,Aa Ab (F4 t),Aa Ab v],Aa Ab 0])∧Below w.heap.size w w':=by
 have HV:=Hd ((Af.new w 306 #[.slice A n c,Aa Ab p,Aa Ab q,Aa Ab t,Aa Ab v,Aa Ab f,Aa Ab a,Aa Ab o,Aa Ab k]).alloc (.cells #[Aa Ab 0,Aa Ab 0,Aa Ab 0,Aa Ab 0] 75));have HR:=Hd (Af.new_ (w:=w.alloc (.cells #[.slice A n c,Aa Ab p,Aa Ab q,Aa Ab t,Aa Ab v,Aa Ab f,Aa Ab a,Aa Ab o,Aa Ab k] 306)) (g:=w.heap.size+1) (by simp) 75 #[Aa Ab 0,Aa Ab 0,Aa Ab 0,Aa Ab 0]);have HB:=Hd (((Below.refl w.heap.size w).alloc (Ath _) (.cells #[.slice A n c,Aa Ab p,Aa Ab q,Aa Ab t,Aa Ab v,Aa Ab f,Aa Ab a,Aa Ab o,Aa Ab k] 306)).alloc (by simp) (.cells #[Aa Ab 0,Aa Ab 0,Aa Ab 0,Aa Ab 0] 75));have HX:=Hd hX;clear hX;go_enter Tryz.func340,Tryz.ntmps340;go_wp2_with fail;go_at_call 391;refine(S2 A n c p q t v f a o k i X _ HX.o hb).mono ?_;rintro e w1 ⟨rfl,hb1⟩;replace HV:=Hd ((HV.o.pure hb1).alloc (.cells #[Aa Ab ((a:Int)+X),Aa Ab v,Aa Ab 0,Aa Ab v] 75));replace HR:=Hd ((HR.o.pure hb1).alloc (.cells #[Aa Ab ((a:Int)+X),Aa Ab v,Aa Ab 0,Aa Ab v] 75));have HN:=Hd (Af.new w1 75 #[Aa Ab ((a:Int)+X),Aa Ab v,Aa Ab 0,Aa Ab v]);replace HB:=Hd ((Ad HB.o hb1).alloc (Ad HB.o hb1).size (.cells #[Aa Ab ((a:Int)+X),Aa Ab v,Aa Ab 0,Aa Ab v] 75));have hz1:w.heap.size+1<w1.heap.size:=by have:=HR.o.lt;have:=hb1.size;(try simp at this);omega
 clear hb1;obtain ⟨y0,y1,y2,y3,y4⟩:=HV.o.c5;have y6:_=some (Aa Ab a):=HV.o.cell 6;have y8:_=some (Aa Ab k):=HV.o.cell 8;obtain ⟨n0,n1,n2,n3⟩:=HN.o.c4;have m2:=HN.o.frozen 2;have m3:=HN.o.frozen 3;go_wp2_with fail;go_at_call 302;refine(Qu t _).mono ?_;rintro e w2 ⟨rfl,hb2⟩;replace HR:=Hd (HR.o.pure hb2);replace HN:=Hd (HN.o.pure hb2);replace HB:=Hd (Ad HB.o hb2);clear y0 y1 y2 y3 y4 y6 y8 n0 n1 n2 n3 m2 m3 hb2;obtain ⟨r0,r1,r2,r3⟩:=HR.o.c4;have f0:=HR.o.frozen 0;have f1:=HR.o.frozen 1;have f2:=HR.o.frozen 2;have f3:=HR.o.frozen 3;obtain ⟨n0,n1,n2,n3⟩:=HN.o.c4;have m2:=HN.o.frozen 2;have m3:=HN.o.frozen 3;go_wp2;refine bodyPost_ret (v:= .tuple #[.agg #[Aa Ab ((a:Int)+X),Aa Ab v,Aa Ab (F4 t),Aa Ab v],Aa Ab 0]) (by simp [results,Tryz.results340,go_sem,r0,r1,r2,r3]) rfl ⟨rfl,?_⟩;exact((((HB.o.setCell (show w.heap.size≤w1.heap.size by omega) _).setCell (Atk _) _).setCell (Atk _) _).setCell (Atk _) _).setCell (Atk _) _
def Acg(a X:Nat)(v:Int)(c:UInt8):Value:=if Hl c=0 then .agg #[Aa Ab ((a:Int)+X),Aa Ab v,Aa Ab (Ly c),Aa Ab (Lz c)] else .agg #[Aa Ab 0,Aa Ab 0,Aa Ab 0,Aa Ab 0]
theorem Sy(A:Option Addr)(n c:Nat)(p q t:Int)(v f a o k i X K:Nat)(l:List UInt8)(c0:UInt8)(w:World)(h:Cw w A n l)(hn:n≤1099511627776)(hX:i*v=X)(hK:k*v=K)(hik:i≤k)(hin:a+K+i<n)(hc:l[a+K+i]?=some c0):
  Calls Tryz.prog 342 #[.agg #[.slice A n c,Aa Ab p,Aa Ab q,Aa Ab t,Aa Ab v,Aa Ab f,Aa Ab a,Aa Ab o,Aa Ab k],Aa Ab i] w fun e w'=>e= .returned (.tuple #[Acg a X v c0,Aa Ab (Hl c0)])∧Below w.heap.size w w':=by
 have hXK:X≤K:=by rw [←hX,←hK];exact Nat.mul_le_mul_right _ hik
 have hb:a+X≤1099511627776:=by omega
 have hmul:wrap64 ((k:Int)*(v:Int))=(K:Int):=by
  rw [←Int.natCast_mul,hK];exact Dr _ (by omega)
 have HMUL:=Hd hmul;have HL:=Hd ((h.alloc (.cells #[.slice A n c,Aa Ab p,Aa Ab q,Aa Ab t,Aa Ab v,Aa Ab f,Aa Ab a,Aa Ab o,Aa Ab k] 306)).alloc (.cells #[Aa Ab 0,Aa Ab 0,Aa Ab 0,Aa Ab 0] 75));have HC:=Hd hc;clear hmul hK h hc;have HV:=Hd ((Af.new w 306 #[.slice A n c,Aa Ab p,Aa Ab q,Aa Ab t,Aa Ab v,Aa Ab f,Aa Ab a,Aa Ab o,Aa Ab k]).alloc (.cells #[Aa Ab 0,Aa Ab 0,Aa Ab 0,Aa Ab 0] 75));have HR:=Hd (Af.new_ (w:=w.alloc (.cells #[.slice A n c,Aa Ab p,Aa Ab q,Aa Ab t,Aa Ab v,Aa Ab f,Aa Ab a,Aa Ab o,Aa Ab k] 306)) (g:=w.heap.size+1) (by simp) 75 #[Aa Ab 0,Aa Ab 0,Aa Ab 0,Aa Ab 0]);have HB:=Hd (((Below.refl w.heap.size w).alloc (Ath _) (.cells #[.slice A n c,Aa Ab p,Aa Ab q,Aa Ab t,Aa Ab v,Aa Ab f,Aa Ab a,Aa Ab o,Aa Ab k] 306)).alloc (by simp) (.cells #[Aa Ab 0,Aa Ab 0,Aa Ab 0,Aa Ab 0] 75));have HX:=Hd hX;clear hX;go_enter Tryz.func342,Tryz.ntmps342;go_wp2_with fail;go_at_call 391;refine(S2 A n c p q t v f a o k i X _ HX.o hb).mono ?_;rintro e w1 ⟨rfl,hb1⟩;replace HV:=Hd ((HV.o.pure hb1).alloc (.cells #[Aa Ab ((a:Int)+X),Aa Ab v,Aa Ab 0,Aa Ab v] 75));replace HR:=Hd ((HR.o.pure hb1).alloc (.cells #[Aa Ab ((a:Int)+X),Aa Ab v,Aa Ab 0,Aa Ab v] 75));have HN:=Hd (Af.new w1 75 #[Aa Ab ((a:Int)+X),Aa Ab v,Aa Ab 0,Aa Ab v]);replace HB:=Hd ((Ad HB.o hb1).alloc (Ad HB.o hb1).size (.cells #[Aa Ab ((a:Int)+X),Aa Ab v,Aa Ab 0,Aa Ab v] 75));have hz1:w.heap.size+1<w1.heap.size:=by have:=HR.o.lt;have:=hb1.size;(try simp at this);omega
 replace HL:=Hd ((HL.o.pure hb1).alloc (.cells #[Aa Ab ((a:Int)+X),Aa Ab v,Aa Ab 0,Aa Ab v] 75));clear hb1;obtain ⟨y0,y1,y2,y3,y4⟩:=HV.o.c5;have y6:_=some (Aa Ab a):=HV.o.cell 6;have y8:_=some (Aa Ab k):=HV.o.cell 8;obtain ⟨n0,n1,n2,n3⟩:=HN.o.c4;have m2:=HN.o.frozen 2;have m3:=HN.o.frozen 3;obtain⟨g,off,rfl,hkl,hcell⟩:=Kk HL.o hin;have hcc:l[a+K+i]=c0:=by
  have:=HC.o;rw [Ati hkl] at this;injection this
 rw [hcc] at hcell;have hlt4:(a:Int)+K+i<n:=by omega
 have hlt5:a+K+i<n:=hin;clear hcc hkl;have hmul:=HMUL.o;go_wp2_with fail;clear hmul;go_at_call 66;refine(S0 c0 _).mono ?_;rintro e w2 ⟨rfl,hb2⟩;replace HR:=Hd (HR.o.pure hb2);replace HN:=Hd (HN.o.pure hb2);replace HB:=Hd (Ad HB.o hb2);clear y0 y1 y2 y3 y4 y6 y8 n0 n1 n2 n3 m2 m3 hb2 hcell;obtain ⟨r0,r1,r2,r3⟩:=HR.o.c4;have f0:=HR.o.frozen 0;have f1:=HR.o.frozen 1;have f2:=HR.o.frozen 2;have f3:=HR.o.frozen 3;obtain ⟨n0,n1,n2,n3⟩:=HN.o.c4;have m2:=HN.o.frozen 2;have m3:=HN.o.frozen 3;by_cases hu:Hl c0=0
 ·have HT:=Hd (show Acg a X v c0=_ from if_pos hu);rw [hu];have HU:=Hd hu;clear hu;go_wp2;refine bodyPost_ret (v:= .tuple #[.agg #[Aa Ab ((a:Int)+X),Aa Ab v,Aa Ab (Ly c0),Aa Ab (Lz c0)],Aa Ab 0]) (by simp [results,Tryz.results342,go_sem,r0,r1,r2,r3]) rfl ⟨?_,?_⟩
  ·rw [HT.o,HU.o]
  ·exact(((((HB.o.setCell (show w.heap.size≤w1.heap.size by omega) _).setCell (show w.heap.size≤w1.heap.size by omega) _).setCell (Atk _) _).setCell (Atk _) _).setCell (Atk _) _).setCell (Atk _) _
 ·have HT:=Hd (show Acg a X v c0=_ from if_neg hu);have hne:(Hl c0 != 0)=true:=by simpa using hu
  clear hu;go_wp2;refine bodyPost_ret (v:= .tuple #[.agg #[Aa Ab 0,Aa Ab 0,Aa Ab 0,Aa Ab 0],Aa Ab (Hl c0)]) (by simp [results,Tryz.results342,go_sem,r0,r1,r2,r3]) rfl ⟨?_,?_⟩
  ·rw [HT.o]
  ·exact(((HB.o.setCell (Atk _) _).setCell (Atk _) _).setCell (Atk _) _).setCell (Atk _) _
def Lv(l:List UInt8)(p q t v:Int)(i:Int):UInt8:=l.getD (lsAt l p q t v+lsLen l p q t v*v.toNat+i.toNat) 0
def Ez(l:List UInt8)(p q t v i:Int):Int:=
 if Bw l p q t v≠0 then Bw l p q t v else if i<0∨(lsLen l p q t v:Int)≤i then 6 else if Bo t=true then Hl (Lv l p q t v i) else 0
def I8(l:List UInt8)(p q t v i:Int):Int:=if Ez l p q t v i=0 then((lsAt l p q t v:Int)+(i.toNat*v.toNat:Nat)) else 0
def I9(l:List UInt8)(p q t v i:Int):Int:=if Ez l p q t v i=0 then v else 0
def Jr(l:List UInt8)(p q t v i:Int):Int:=if Ez l p q t v i=0 then(if Bo t=true then Ly (Lv l p q t v i) else F4 t) else 0
def Js(l:List UInt8)(p q t v i:Int):Int:=if Ez l p q t v i=0 then(if Bo t=true then Lz (Lv l p q t v i) else v) else 0
def AtW(w:World)(l:List UInt8)(p q t v i:Int)(e:Ending)(w':World):Prop:=
 e= .returned (.tuple #[.agg #[Aa Ab (I8 l p q t v i),Aa Ab (I9 l p q t v i),Aa Ab (Jr l p q t v i),Aa Ab (Js l p q t v i)],Aa Ab (Ez l p q t v i)])∧Below w.heap.size w w'
theorem Ua{w w':World}{l:List UInt8}{p q t v i er:Int}(h:Ez l p q t v i=er)(hne:er≠0)(hb:Below w.heap.size w w'):AtW w l p q t v i (.returned (.tuple #[.agg #[Aa Ab 0,Aa Ab 0,Aa Ab 0,Aa Ab 0],Aa Ab er])) w':=by
 unfold AtW I8 I9 Jr Js;rw [h,if_neg hne,if_neg hne,if_neg hne,if_neg hne];exact⟨rfl,hb⟩
theorem Ad6{w w':World}{l:List UInt8}{p q t v i a b c d:Int}(h:Ez l p q t v i=0)(h1:((lsAt l p q t v:Int)+(i.toNat*v.toNat:Nat))=a)(h2:v=b)(h3:(if Bo t=true then Ly (Lv l p q t v i) else F4 t)=c)(h4:(if Bo t=true then Lz (Lv l p q t v i) else v)=d)(hb:Below w.heap.size w w'):
  AtW w l p q t v i (.returned (.tuple #[.agg #[Aa Ab a,Aa Ab b,Aa Ab c,Aa Ab d],Aa Ab 0])) w':=by
 unfold AtW I8 I9 Jr Js;rw [h,if_pos rfl,if_pos rfl,if_pos rfl,if_pos rfl,h1,h3,h4,←h2];exact⟨rfl,hb⟩
theorem Zd{l:List UInt8}{p q t v:Int}(h:Bw l p q t v=0):Oc t=true∧Kv t=true∧Av v=true∧(lsAt l p q t v)+lsLen l p q t v*(v.toNat+tgs t)≤l.length∧0≤p∧0≤q∧p+q≤l.length∧Av q=true∧(lsAt l p q t v:Int) % v=0:=by
 rcases Pg l p q t v with⟨h1,e⟩|⟨h1,⟨_,e⟩|⟨h2,⟨h3,e⟩|⟨h3,⟨_,e⟩|⟨_,_,e⟩|⟨_,_,_,e⟩|⟨h4,_,h5,_⟩⟩⟩⟩
 ·rw [e] at h;exact absurd h h1
 ·rw [e] at h;cases h
 ·rw [e] at h;exact absurd h h3
 ·rw [e] at h;cases h
 ·rw [e] at h;cases h
 ·rw [e] at h;cases h
 ·obtain⟨g1,g2⟩:=D7.1 h1;have g2:=Dn.1 g2;have g1:=Cv.1 g1;have hr:=Rt h3;have ea:lsAt l p q t v=(Bg l p q t v).toNat:=if_pos h;have el:lsLen l p q t v=J0 l p q t v:=if_pos h;refine⟨h2,Gv g1.1,g1.2.2,?_,g2.1,g2.2.1,g2.2.2,g1.2.1,?_⟩
  ·rw [ea,el];exact h5
  ·rw [ea,Int.toNat_of_nonneg hr.1];exact h4
theorem Ar1{t:Int}(hL:Oc t=true)(ht:Kv t=true):∃a F tg,Vj t.toNat=[a,F,(if Bo t=true then Ki 342 else Ki 340),tg]:=by
 rcases Ae4 ht with⟨h,_⟩|⟨_,_,_,hT,_,e⟩|⟨_,_,_,e⟩
 ·rw [hL] at h;cases h
 ·rw [hT];exact⟨_,_,_,e⟩
 ·exact⟨_,_,_,e⟩
theorem Ab7(a F G tg:Value):∀W:World,(Instr.field 312 (.agg #[a,F,G,tg]) 2).run Tryz.prog W= .ok G W:=by
 intro W
 kernel_rfl
theorem Dj{B:Nat}{a w:World}(g:Nat)(h:Below B a w)(hg:B≤g)(v0 v1 v2 v3:Value):Below B a ((((w.setCell ⟨g,0,none⟩ v0).setCell ⟨g,1,none⟩ v1).setCell ⟨g,2,none⟩ v2).setCell ⟨g,3,none⟩ v3):=
 (((h.setCell hg _).setCell hg _).setCell hg _).setCell hg _
theorem Dm{w:World}{q:Addr}{g:Nat}{v a b c d:Value}(h:w.cell? q=some v)(hne:q.block≠g):((((w.setCell ⟨g,0,none⟩ a).setCell ⟨g,1,none⟩ b).setCell ⟨g,2,none⟩ c).setCell ⟨g,3,none⟩ d).cell? q=some v:=
 Tf (Tf (Tf (Tf h hne) hne) hne) hne
theorem Amu(A:Option Addr)(n c:Nat)(p q t v i:Int)(l:List UInt8)(w:World)(h:Cw w A n l)(hc:n≤c)(hn:n≤1099511627776):
  Calls Tryz.prog 176 #[.slice A n c,.agg #[Aa Ab p,Aa Ab q,Aa Ab t,Aa Ab v],Aa Ab i] w (AtW w l p q t v i):=by
 have hlen:=h.1;subst hlen;have HL:=Hd ((h.alloc (.cells #[Aa Ab p,Aa Ab q,Aa Ab t,Aa Ab v] 75)).alloc (.cells #[Aa Ab 0,Aa Ab 0,Aa Ab 0,Aa Ab 0] 75));have HB:=Hd (((Below.refl w.heap.size w).alloc (Ath _) (.cells #[Aa Ab p,Aa Ab q,Aa Ab t,Aa Ab v] 75)).alloc (by simp) (.cells #[Aa Ab 0,Aa Ab 0,Aa Ab 0,Aa Ab 0] 75));have HX:=Hd ((Af.new w 75 #[Aa Ab p,Aa Ab q,Aa Ab t,Aa Ab v]).alloc (.cells #[Aa Ab 0,Aa Ab 0,Aa Ab 0,Aa Ab 0] 75));have HR:=Hd (Af.new_ (w:=w.alloc (.cells #[Aa Ab p,Aa Ab q,Aa Ab t,Aa Ab v] 75)) (g:=w.heap.size+1) (by simp) 75 #[Aa Ab 0,Aa Ab 0,Aa Ab 0,Aa Ab 0]);clear h;go_enter Tryz.func176,Tryz.ntmps176;go_wp2_with fail;go_at_call 267;refine(Pc A _ c p q t v l _ HL.o hc hn).mono ?_;generalize (w.alloc (.cells #[Aa Ab p,Aa Ab q,Aa Ab t,Aa Ab v] 75)).alloc (.cells #[Aa Ab 0,Aa Ab 0,Aa Ab 0,Aa Ab 0] 75)=wB at HL HB HX HR⊢;intro e w1 hpost;obtain⟨S,a0,a1,a2,a3,rfl,hS,heq,hb⟩:=Tg hpost;have hstS:=fun(W:World) (p:Addr)=>run_store Tryz.prog W p S .plain hS
 obtain⟨nf,hnf⟩:∃x,lsFrom l p q t v=x:=⟨_,rfl⟩;obtain⟨na,hna⟩:∃x,lsAt l p q t v=x:=⟨_,rfl⟩;obtain⟨nt,hnt⟩:∃x,lsTo l p q t v=x:=⟨_,rfl⟩;obtain⟨nl,hnl⟩:∃x,lsLen l p q t v=x:=⟨_,rfl⟩;rw [hnf,hna,hnt,hnl];have HNA:=Hd hna;have HNL:=Hd hnl;clear hpost hnf hna hnt hnl;have HV:=Hd (Af.new w1 306 #[S,Aa Ab a0,Aa Ab a1,Aa Ab a2,Aa Ab a3,Aa Ab nf,Aa Ab na,Aa Ab nt,Aa Ab nl]);have hszw:w.heap.size+1<w1.heap.size:=by have:=HR.o.lt;have:=hb.size;omega
 replace HL:=Hd ((HL.o.pure hb).alloc (.cells #[S,Aa Ab a0,Aa Ab a1,Aa Ab a2,Aa Ab a3,Aa Ab nf,Aa Ab na,Aa Ab nt,Aa Ab nl] 306));replace HX:=Hd ((HX.o.pure hb).alloc (.cells #[S,Aa Ab a0,Aa Ab a1,Aa Ab a2,Aa Ab a3,Aa Ab nf,Aa Ab na,Aa Ab nt,Aa Ab nl] 306));replace HR:=Hd ((HR.o.pure hb).alloc (.cells #[S,Aa Ab a0,Aa Ab a1,Aa Ab a2,Aa Ab a3,Aa Ab nf,Aa Ab na,Aa Ab nt,Aa Ab nl] 306));replace HB:=Hd ((Ad HB.o hb).alloc (Ad HB.o hb).size (.cells #[S,Aa Ab a0,Aa Ab a1,Aa Ab a2,Aa Ab a3,Aa Ab nf,Aa Ab na,Aa Ab nt,Aa Ab nl] 306));have HEQ:=Hd heq;have hz2:w1.heap.size<(w1.alloc (.cells #[S,Aa Ab a0,Aa Ab a1,Aa Ab a2,Aa Ab a3,Aa Ab nf,Aa Ab na,Aa Ab nt,Aa Ab nl] 306)).heap.size:=HV.o.lt;clear hb heq hS;go_upto_region 2 with fail
 generalize w1.alloc (.cells #[S,Aa Ab a0,Aa Ab a1,Aa Ab a2,Aa Ab a3,Aa Ab nf,Aa Ab na,Aa Ab nt,Aa Ab nl] 306)=w2 at HV HL HX HR HB hz2⊢;clear hstS;by_cases he:Bw l p q t v=0
 ·obtain⟨rfl,e0,e1,e2,e3⟩:=HEQ.o he;obtain rfl:p=a0:=e0.symm;obtain rfl:q=a1:=e1.symm;obtain rfl:t=a2:=e2.symm;obtain rfl:v=a3:=e3.symm;have hok:=Zd he;have HLS:=Hd he;rw [he];clear HEQ he;by_cases hi0:i<0
  ·have HE:=Hd (show Ez l p q t v i=6 by unfold Ez;rw [if_neg (by rw [HLS.o];decide),if_pos (.inl hi0)]);have HN:=Hd (show(6:Int)≠0 by decide);have hd:decide (i<0)=true:=decide_eq_true hi0;clear hi0 hok;obtain ⟨r0,r1,r2,r3⟩:=HR.o.c4;have f0:=HR.o.frozen 0;have f1:=HR.o.frozen 1;have f2:=HR.o.frozen 2;have f3:=HR.o.frozen 3;go_wp2;refine bodyPost_ret (v:= .tuple #[.agg #[Aa Ab 0,Aa Ab 0,Aa Ab 0,Aa Ab 0],Aa Ab 6]) (by simp [results,Tryz.results176,go_sem,r0,r1,r2,r3]) rfl ?_;exact Ua HE.o HN.o ((((HB.o.setCell (Atk _) _).setCell (Atk _) _).setCell (Atk _) _).setCell (Atk _) _)
  ·have hd0:decide (i<0)=false:=decide_eq_false hi0;by_cases hin:(nl:Int)≤i
   ·have HE:=Hd (show Ez l p q t v i=6 by unfold Ez;rw [if_neg (by rw [HLS.o];decide),HNL.o,if_pos (.inr hin)]);have HN:=Hd (show(6:Int)≠0 by decide);have hd:decide ((nl:Int)≤i)=true:=decide_eq_true hin;clear hi0 hok hin;have y8:_=some (Aa Ab nl):=HV.o.cell 8;obtain ⟨r0,r1,r2,r3⟩:=HR.o.c4;have f0:=HR.o.frozen 0;have f1:=HR.o.frozen 1;have f2:=HR.o.frozen 2;have f3:=HR.o.frozen 3;go_wp2;refine bodyPost_ret (v:= .tuple #[.agg #[Aa Ab 0,Aa Ab 0,Aa Ab 0,Aa Ab 0],Aa Ab 6]) (by simp [results,Tryz.results176,go_sem,r0,r1,r2,r3]) rfl ?_;exact Ua HE.o HN.o ((((HB.o.setCell (Atk _) _).setCell (Atk _) _).setCell (Atk _) _).setCell (Atk _) _)
   ·obtain⟨hL,hT,hW,hbd,_,_,_,_,_⟩:=hok;have v1:=Ck.1 hW;obtain⟨V,rfl⟩:∃V:Nat,v=V:=⟨v.toNat,by omega⟩;obtain⟨I,rfl⟩:∃I:Nat,i=I:=⟨i.toNat,by omega⟩;rw [HNA.o,HNL.o,Ats] at hbd;have hI:I<nl:=by omega
    have hd:decide (nl≤I)=false:=decide_eq_false (by omega);have hidx:=Ae5 hT;obtain⟨a,F,tg,hrow⟩:=Ar1 hL hT;rw [hrow] at hidx;have htt:=F9.1 hT;have ht0:=htt.1;have ht37:=htt.2;obtain⟨X,hX⟩:∃X,I*V=X:=⟨_,rfl⟩;obtain⟨K,hK⟩:∃K,nl*V=K:=⟨_,rfl⟩;have hXK:X+V≤K:=by
     rw [←hX,←hK];have:=Nat.mul_le_mul_right V (show I+1≤nl by omega);rw [Nat.succ_mul] at this;exact this
    have hmulT:nl*(V+tgs t)=K+nl*tgs t:=by rw [Nat.mul_add,hK]
    rw [hmulT] at hbd;have HXX:=Hd hX;have HKK:=Hd hK;have hV8:V≤8:=by omega
    clear hi0 hd0 hrow hin hX hK hL hT hW v1 htt hmulT;cases hTg:Bo t with
    |true=>
     rw [hTg] at hidx;rw [show tgs t=1 by unfold tgs;rw [hTg];rfl,Nat.mul_one] at hbd;replace hidx:∀W,(Instr.index 313 (.agg Kw) (Aa Ab t)).run Tryz.prog W= .ok (.agg #[a,F,.func (.func 342) #[] #[],tg]) W:=hidx;have hfld:=Ab7 a F (.func (.func 342) #[] #[]) tg;have HTG:=Hd hTg;clear hTg;have hlt:na+K+I<l.length:=by omega
     obtain⟨c0,hc0⟩:∃c0,l[na+K+I]=c0:=⟨_,rfl⟩;have hget:l[na+K+I]?=some c0:=by rw [Ati hlt,hc0]
     have hB:Lv l p q t V I=c0:=by
      unfold Lv;rw [HNA.o,HNL.o,Ats,Ats,HKK.o,List.getD_eq_getElem?_getD,hget];rfl
     have HTB:=Hd hB;have HGET:=Hd hget;have hIk:I≤nl:=by omega
     have hIn:¬((I:Int)<0∨(nl:Int)≤I):=by omega
     have HAE:=Hd (show Ez l p q t V I=Hl c0 by unfold Ez;rw [if_neg (by rw [HLS.o];decide),HNL.o,if_neg hIn,HTG.o,HTB.o];rfl);clear hB hget hc0 hIn;have x2:=Aw HX.o;obtain ⟨y0,y1,y2,y3,y4,y5,y6,y7,y8⟩:=HV.o.c9;have hg1:w.heap.size≠w.heap.size+1:=by omega
     have hg2:w1.heap.size≠w.heap.size+1:=by omega
     by_cases hu:Hl c0=0
     ·have HU:=Hd hu;have HTR:=Hd (show Acg na X V c0=_ from if_pos hu);have HE:=Hd (HAE.o.trans hu);clear hu;go_wp2_with fail;go_region_held3 (fun w'=>w'.cell? ⟨w.heap.size,2,none⟩=some (Aa Ab t)∧w'.cell? ⟨w1.heap.size,0,none⟩=some (.slice A l.length c)∧w'.cell? ⟨w1.heap.size,1,none⟩=some (Aa Ab p)∧w'.cell? ⟨w1.heap.size,2,none⟩=some (Aa Ab q)∧w'.cell? ⟨w1.heap.size,3,none⟩=some (Aa Ab t)∧w'.cell? ⟨w1.heap.size,4,none⟩=some (Aa Ab V)∧w'.cell? ⟨w1.heap.size,5,none⟩=some (Aa Ab nf)∧w'.cell? ⟨w1.heap.size,6,none⟩=some (Aa Ab na)∧w'.cell? ⟨w1.heap.size,7,none⟩=some (Aa Ab nt)∧w'.cell? ⟨w1.heap.size,8,none⟩=some (Aa Ab nl)) (first|with_reducible exact⟨x2,y0,y1,y2,y3,y4,y5,y6,y7,y8⟩|with_reducible exact⟨B4 x2,B4 y0,B4 y1,B4 y2,B4 y3,B4 y4,B4 y5,B4 y6,B4 y7,B4 y8⟩|with_reducible exact⟨Dm x2 hg1,Dm y0 hg2,Dm y1 hg2,Dm y2 hg2,Dm y3 hg2,Dm y4 hg2,Dm y5 hg2,Dm y6 hg2,Dm y7 hg2,Dm y8 hg2⟩)
       (first
        |(go_at_call 268;(with_reducible refine(Lh _).mono ?_);rintro e w5 ⟨rfl,hb5⟩;have HB5:=Hd hb5;replace HV:=Hd (HV.o.drew.pure hb5);replace HX:=Hd (HX.o.drew.pure hb5);replace HR:=Hd (HR.o.drew.pure hb5);replace HL:=Hd ((Dz HL.o).pure hb5);clear hb5 x2 y0 y1 y2 y3 y4 y5 y6 y7 y8;have x2:=Aw HX.o;obtain ⟨y0,y1,y2,y3,y4,y5,y6,y7,y8⟩:=HV.o.c9)
        |(go_at_call 342;((with_reducible refine(Sy A _ c p q t V nf na nt nl I X K l c0 _ HL.o hn HXX.o HKK.o hIk hlt HGET.o).mono ?_);rw [HTR.o,HU.o]);rintro e w6 ⟨rfl,hb6⟩;have HB6:=Hd hb6;replace HV:=Hd (HV.o.pure hb6);replace HX:=Hd (HX.o.pure hb6);replace HR:=Hd (HR.o.pure hb6);clear hb6 x2 y0 y1 y2 y3 y4 y5 y6 y7 y8;have x2:=Aw HX.o;obtain ⟨y0,y1,y2,y3,y4,y5,y6,y7,y8⟩:=HV.o.c9;obtain ⟨r0,r1,r2,r3⟩:=HR.o.c4;have f0:=HR.o.frozen 0;have f1:=HR.o.frozen 1;have f2:=HR.o.frozen 2;have f3:=HR.o.frozen 3))
      go_wp2;refine bodyPost_ret (v:= .tuple #[.agg #[Aa Ab ((na:Int)+X),Aa Ab V,Aa Ab (Ly c0),Aa Ab (Lz c0)],Aa Ab 0]) (by simp [results,Tryz.results176,go_sem,r0,r1,r2,r3]) rfl ?_;have HBQ:=Hd (B6 (Ad HB.o.drew HB5.o) HB6.o);exact Ad6 HE.o (by rw [HNA.o,Ats,Ats,HXX.o]) rfl (by rw [HTG.o];exact(if_pos rfl).trans (by rw [HTB.o])) (by rw [HTG.o];exact(if_pos rfl).trans (by rw [HTB.o])) (Dj _ HBQ.o (Atk _) _ _ _ _)
     ·have HU:=Hd hu;have HTR:=Hd (show Acg na X V c0=_ from if_neg hu);have HE:=HAE;clear hu;go_wp2_with fail;go_region_held3 (fun w'=>w'.cell? ⟨w.heap.size,2,none⟩=some (Aa Ab t)∧w'.cell? ⟨w1.heap.size,0,none⟩=some (.slice A l.length c)∧w'.cell? ⟨w1.heap.size,1,none⟩=some (Aa Ab p)∧w'.cell? ⟨w1.heap.size,2,none⟩=some (Aa Ab q)∧w'.cell? ⟨w1.heap.size,3,none⟩=some (Aa Ab t)∧w'.cell? ⟨w1.heap.size,4,none⟩=some (Aa Ab V)∧w'.cell? ⟨w1.heap.size,5,none⟩=some (Aa Ab nf)∧w'.cell? ⟨w1.heap.size,6,none⟩=some (Aa Ab na)∧w'.cell? ⟨w1.heap.size,7,none⟩=some (Aa Ab nt)∧w'.cell? ⟨w1.heap.size,8,none⟩=some (Aa Ab nl)) (first|with_reducible exact⟨x2,y0,y1,y2,y3,y4,y5,y6,y7,y8⟩|with_reducible exact⟨B4 x2,B4 y0,B4 y1,B4 y2,B4 y3,B4 y4,B4 y5,B4 y6,B4 y7,B4 y8⟩|with_reducible exact⟨Dm x2 hg1,Dm y0 hg2,Dm y1 hg2,Dm y2 hg2,Dm y3 hg2,Dm y4 hg2,Dm y5 hg2,Dm y6 hg2,Dm y7 hg2,Dm y8 hg2⟩)
       (first
        |(go_at_call 268;(with_reducible refine(Lh _).mono ?_);rintro e w5 ⟨rfl,hb5⟩;have HB5:=Hd hb5;replace HV:=Hd (HV.o.drew.pure hb5);replace HX:=Hd (HX.o.drew.pure hb5);replace HR:=Hd (HR.o.drew.pure hb5);replace HL:=Hd ((Dz HL.o).pure hb5);clear hb5 x2 y0 y1 y2 y3 y4 y5 y6 y7 y8;have x2:=Aw HX.o;obtain ⟨y0,y1,y2,y3,y4,y5,y6,y7,y8⟩:=HV.o.c9)
        |(go_at_call 342;((with_reducible refine(Sy A _ c p q t V nf na nt nl I X K l c0 _ HL.o hn HXX.o HKK.o hIk hlt HGET.o).mono ?_);rw [HTR.o]);rintro e w6 ⟨rfl,hb6⟩;have HB6:=Hd hb6;replace HV:=Hd (HV.o.pure hb6);replace HX:=Hd (HX.o.pure hb6);replace HR:=Hd (HR.o.pure hb6);clear hb6 x2 y0 y1 y2 y3 y4 y5 y6 y7 y8;have x2:=Aw HX.o;obtain ⟨y0,y1,y2,y3,y4,y5,y6,y7,y8⟩:=HV.o.c9;obtain ⟨r0,r1,r2,r3⟩:=HR.o.c4;have f0:=HR.o.frozen 0;have f1:=HR.o.frozen 1;have f2:=HR.o.frozen 2;have f3:=HR.o.frozen 3))
      go_wp2;refine bodyPost_ret (v:= .tuple #[.agg #[Aa Ab 0,Aa Ab 0,Aa Ab 0,Aa Ab 0],Aa Ab (Hl c0)]) (by simp [results,Tryz.results176,go_sem,r0,r1,r2,r3]) rfl ?_;have HBQ:=Hd (B6 (Ad HB.o.drew HB5.o) HB6.o);exact Ua HE.o HU.o (Dj _ HBQ.o (Atk _) _ _ _ _)
    |false=>
     rw [hTg] at hidx;replace hidx:∀W,(Instr.index 313 (.agg Kw) (Aa Ab t)).run Tryz.prog W= .ok (.agg #[a,F,.func (.func 340) #[] #[],tg]) W:=hidx;have hfld:=Ab7 a F (.func (.func 340) #[] #[]) tg;have HTG:=Hd hTg;clear hTg;have HE:=Hd (show Ez l p q t V I=0 by unfold Ez;rw [if_neg (by rw [HLS.o];decide),HNL.o,if_neg (by omega),HTG.o];rfl);have ha40:na+X≤1099511627776:=by omega
     have x2:=Aw HX.o;obtain ⟨y0,y1,y2,y3,y4,y5,y6,y7,y8⟩:=HV.o.c9;have hg1:w.heap.size≠w.heap.size+1:=by omega
     have hg2:w1.heap.size≠w.heap.size+1:=by omega
     go_wp2_with fail;go_region_held3 (fun w'=>w'.cell? ⟨w.heap.size,2,none⟩=some (Aa Ab t)∧w'.cell? ⟨w1.heap.size,0,none⟩=some (.slice A l.length c)∧w'.cell? ⟨w1.heap.size,1,none⟩=some (Aa Ab p)∧w'.cell? ⟨w1.heap.size,2,none⟩=some (Aa Ab q)∧w'.cell? ⟨w1.heap.size,3,none⟩=some (Aa Ab t)∧w'.cell? ⟨w1.heap.size,4,none⟩=some (Aa Ab V)∧w'.cell? ⟨w1.heap.size,5,none⟩=some (Aa Ab nf)∧w'.cell? ⟨w1.heap.size,6,none⟩=some (Aa Ab na)∧w'.cell? ⟨w1.heap.size,7,none⟩=some (Aa Ab nt)∧w'.cell? ⟨w1.heap.size,8,none⟩=some (Aa Ab nl)) (first|with_reducible exact⟨x2,y0,y1,y2,y3,y4,y5,y6,y7,y8⟩|with_reducible exact⟨B4 x2,B4 y0,B4 y1,B4 y2,B4 y3,B4 y4,B4 y5,B4 y6,B4 y7,B4 y8⟩|with_reducible exact⟨Dm x2 hg1,Dm y0 hg2,Dm y1 hg2,Dm y2 hg2,Dm y3 hg2,Dm y4 hg2,Dm y5 hg2,Dm y6 hg2,Dm y7 hg2,Dm y8 hg2⟩)
      (first
       |(go_at_call 268;(with_reducible refine(Lh _).mono ?_);rintro e w5 ⟨rfl,hb5⟩;have HB5:=Hd hb5;replace HV:=Hd (HV.o.drew.pure hb5);replace HX:=Hd (HX.o.drew.pure hb5);replace HR:=Hd (HR.o.drew.pure hb5);replace HL:=Hd ((Dz HL.o).pure hb5);clear hb5 x2 y0 y1 y2 y3 y4 y5 y6 y7 y8;have x2:=Aw HX.o;obtain ⟨y0,y1,y2,y3,y4,y5,y6,y7,y8⟩:=HV.o.c9)
       |(go_at_call 340;(with_reducible refine(Adq A _ c p q t V nf na nt nl I X _ HXX.o ha40).mono ?_);rintro e w6 ⟨rfl,hb6⟩;have HB6:=Hd hb6;replace HV:=Hd (HV.o.pure hb6);replace HX:=Hd (HX.o.pure hb6);replace HR:=Hd (HR.o.pure hb6);clear hb6 x2 y0 y1 y2 y3 y4 y5 y6 y7 y8;have x2:=Aw HX.o;obtain ⟨y0,y1,y2,y3,y4,y5,y6,y7,y8⟩:=HV.o.c9;obtain ⟨r0,r1,r2,r3⟩:=HR.o.c4;have f0:=HR.o.frozen 0;have f1:=HR.o.frozen 1;have f2:=HR.o.frozen 2;have f3:=HR.o.frozen 3))
     go_wp2;refine bodyPost_ret (v:= .tuple #[.agg #[Aa Ab ((na:Int)+X),Aa Ab V,Aa Ab (F4 t),Aa Ab V],Aa Ab 0]) (by simp [results,Tryz.results176,go_sem,r0,r1,r2,r3]) rfl ?_;have HBQ:=Hd (B6 (Ad HB.o.drew HB5.o) HB6.o);exact Ad6 HE.o (by rw [HNA.o,Ats,Ats,HXX.o]) rfl (by rw [HTG.o];exact if_neg (by decide)) (by rw [HTG.o];exact if_neg (by decide)) (Dj _ HBQ.o (Atk _) _ _ _ _)
 ·have HE:=Hd (show Ez l p q t v i=Bw l p q t v from if_pos he);have HN:=Hd he;have hne:(Bw l p q t v != 0)=true:=by simpa using he
  clear HEQ he;obtain ⟨r0,r1,r2,r3⟩:=HR.o.c4;have f0:=HR.o.frozen 0;have f1:=HR.o.frozen 1;have f2:=HR.o.frozen 2;have f3:=HR.o.frozen 3;go_wp2;refine bodyPost_ret (v:= .tuple #[.agg #[Aa Ab 0,Aa Ab 0,Aa Ab 0,Aa Ab 0],Aa Ab (Bw l p q t v)]) (by simp [results,Tryz.results176,go_sem,r0,r1,r2,r3]) rfl ?_;exact Ua HE.o HN.o ((((HB.o.setCell (Atk _) _).setCell (Atk _) _).setCell (Atk _) _).setCell (Atk _) _)
theorem Amz(A:Option Addr)(n c:Nat)(p q t v f a o er:Int)(l:List UInt8)(w:World)(h:Cw w A n l)(hc:n≤c)(hn:n≤1099511627776)(h1:(lsFrom l p q t v:Int)=f)(h2:(lsAt l p q t v:Int)=a)(h3:(lsTo l p q t v:Int)=o)(h4:Bw l p q t v=er):
  Calls Tryz.prog 173 #[.slice A n c,.agg #[Aa Ab p,Aa Ab q,Aa Ab t,Aa Ab v]] w fun e w'=>e= .returned (.tuple #[Aa Ab f,Aa Ab a,Aa Ab o,Aa Ab er])∧Below w.heap.size w w':=by
 subst h1 h2 h3 h4;exact U5 A n c p q t v l w h hc hn
theorem Aps(A:Option Addr)(n c:Nat)(p q t v k er:Int)(l:List UInt8)(w:World)(h:Cw w A n l)(hc:n≤c)(hn:n≤1099511627776)(h1:(lsLen l p q t v:Int)=k)(h4:Bw l p q t v=er):
  Calls Tryz.prog 175 #[.slice A n c,.agg #[Aa Ab p,Aa Ab q,Aa Ab t,Aa Ab v]] w fun e w'=>e= .returned (.tuple #[Aa Ab k,Aa Ab er])∧Below w.heap.size w w':=by
 subst h1 h4;exact Aj1 A n c p q t v l w h hc hn
theorem Ajt(A:Option Addr)(n c:Nat)(p q t v i a b d g er:Int)(l:List UInt8)(w:World)(h:Cw w A n l)(hc:n≤c)(hn:n≤1099511627776)(h1:I8 l p q t v i=a)(h2:I9 l p q t v i=b)(h3:Jr l p q t v i=d)(h4:Js l p q t v i=g)(h5:Ez l p q t v i=er):
  Calls Tryz.prog 176 #[.slice A n c,.agg #[Aa Ab p,Aa Ab q,Aa Ab t,Aa Ab v],Aa Ab i] w fun e w'=>e= .returned (.tuple #[.agg #[Aa Ab a,Aa Ab b,Aa Ab d,Aa Ab g],Aa Ab er])∧Below w.heap.size w w':=by
 subst h1 h2 h3 h4 h5;exact Amu A n c p q t v i l w h hc hn
theorem Aj6{l:List UInt8}{p q t:Int}{V:Nat}(h:Bw l p q t V=0):
  lsFrom l p q t V≤lsAt l p q t V∧lsAt l p q t V+(lsLen l p q t V*V+lsLen l p q t V*tgs t)=lsTo l p q t V∧lsTo l p q t V≤l.length∧(V=1∨V=2∨V=4∨V=8)∧(lsAt l p q t V:Int) % V=0∧Oc t=true:=by
 obtain⟨h1,_,h2,h3,_,_,_,_,h4⟩:=Zd h;have hw:=Ck.1 h2;rw [Ats] at h3;have hT:lsTo l p q t V=lsAt l p q t V+lsLen l p q t V*(V+tgs t):=by
  unfold lsTo lsAt lsLen;rw [if_pos h,if_pos h,if_pos h];unfold Lo;rw [Ats]
 have hF:lsFrom l p q t V≤lsAt l p q t V:=by
  unfold lsFrom lsAt;rw [if_pos h,if_pos h];exact Nat.sub_le _ _
 exact⟨hF,by rw [hT,Nat.mul_add],by rw [hT];exact h3,by omega,h4,h1⟩
theorem Yp{l:List UInt8}{a k:Nat}:(l.drop a).take k=(l.drop a).take ((l.drop a).take k).length:=by
 rw [List.length_take,List.take_eq_take_iff];simp
theorem Amm{l:List UInt8}{p q t v:Int}(h:Dc l p q t v [4,5,25]=0):∃a:Nat,Cm l p q t v [4,5,25]=a∧D5 l p q t v [4,5,25]=(l.drop a).take (D5 l p q t v [4,5,25]).length∧a+(D5 l p q t v [4,5,25]).length≤l.length:=by
 have ht:Bh l p q t v=0:=by
  by_cases hm:Bm l.length p q t v=0
  ·by_cases hi:Fw [4,5,25] t=false
   ·unfold Dc at h;rw [if_neg (by simpa using hm),if_pos hi] at h;cases h
   ·by_cases hte:Bh l p q t v=0
    ·exact hte
    ·unfold Dc at h;rw [if_neg (by simpa using hm),if_neg hi,if_pos hte] at h;exact absurd h hte
  ·unfold Dc at h;rw [if_pos hm] at h;exact absurd h hm
 have hr:=Wx ht;refine⟨(Bg l p q t v).toNat,?_,?_,?_⟩
 ·unfold Cm;rw [if_pos h];omega
 ·unfold D5;rw [if_pos h];split
  ·unfold My;exact Yp
  ·unfold cntL;exact Yp
 ·unfold D5;rw [if_pos h];split
  ·unfold My;rw [List.length_take,List.length_drop];omega
  ·unfold cntL;rw [List.length_take,List.length_drop];omega
end Go.Proofs.YtgbjodnegkbfoaaGreat
