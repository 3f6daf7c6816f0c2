/- Parts of the proof. -/
import Derived.Test.YtgbjodnegkbfoaaGreatQm05
set_option maxHeartbeats 2000000
set_option maxRecDepth 100000
open Go.Value renaming int→Aa
open Go.IntKind renaming i64→Ab
open Nat renaming le_refl→Asp,le_succ→Asr
open List renaming getElem?_eq_getElem→Asq,length_append→Ass,getD_eq_getElem?_getD→As0
open Int renaming toNat_natCast→Asv
namespace Go.Proofs.YtgbjodnegkbfoaaGreat
open Go.RowKit Go.Acc
theorem Aot{l:List UInt8}{p q t v:Int}(h:Bs l p q t v≠0):lsFrom l p q t v=0∧lsAt l p q t v=0∧lsTo l p q t v=0∧lsLen l p q t v=0:=by
 unfold lsFrom lsAt lsTo lsLen;rw [if_neg h,if_neg h,if_neg h,if_neg h];exact⟨rfl,rfl,rfl,rfl⟩
theorem Ta{w w':World}{A:Option Addr}{n c:Nat}{l:List UInt8}{p q t v:Int}{e:Ending}(h:LsW w A n c l p q t v e w'):
  ∃S:Value,∃a0 a1 a2 a3:Int,e= .returned (.tuple #[.agg #[S,Aa Ab a0,Aa Ab a1,Aa Ab a2,Aa Ab a3,Aa Ab (lsFrom l p q t v:Nat),Aa Ab (lsAt l p q t v:Nat),Aa Ab (lsTo l p q t v:Nat),Aa Ab (lsLen l p q t v:Nat)],Aa Ab (Bs l p q t v)])∧S.oneCell'=true∧
   (Bs l p q t v=0→S= .slice A n c∧a0=p∧a1=q∧a2=t∧a3=v)∧Below w.heap.size w w':=by
 obtain⟨rfl,hb⟩:=h;unfold Y3;by_cases he:Bs l p q t v=0
 ·rw [if_pos he];exact⟨_,_,_,_,_,rfl,rfl,fun _=>⟨rfl,rfl,rfl,rfl,rfl⟩,hb⟩
 ·obtain⟨e1,e2,e3,e4⟩:=Aot he;rw [if_neg he,e1,e2,e3,e4];exact⟨_,_,_,_,_,rfl,rfl,fun h=>absurd h he,hb⟩
theorem U4(A:Option Addr)(n c:Nat)(p q t v:Int)(l:List UInt8)(w:World)(h:Cd w A n l)(hc:n≤c)(hn:n≤1099511627776):
  Calls Tryz.prog 173 #[.slice A n c,.agg #[Aa Ab p,Aa Ab q,Aa Ab t,Aa Ab v]] w fun e w'=>e= .returned (.tuple #[Aa Ab (lsFrom l p q t v:Nat),Aa Ab (lsAt l p q t v:Nat),Aa Ab (lsTo l p q t v:Nat),Aa Ab (Bs l p q t v)])∧Below w.heap.size w w':=by
 have HL:=Hd (h.alloc (.cells #[Aa Ab p,Aa Ab q,Aa Ab t,Aa Ab v] 75));have HB:=Hd ((Below.refl w.heap.size w).alloc (Asp _) (.cells #[Aa Ab p,Aa Ab q,Aa Ab t,Aa Ab v] 75));obtain⟨nf,hnf⟩:∃x,lsFrom l p q t v=x:=⟨_,rfl⟩;obtain⟨na,hna⟩:∃x,lsAt l p q t v=x:=⟨_,rfl⟩;obtain⟨nt,hnt⟩:∃x,lsTo l p q t v=x:=⟨_,rfl⟩;obtain⟨nl,hnl⟩:∃x,lsLen l p q t v=x:=⟨_,rfl⟩;obtain⟨ne,hne⟩:∃x,Bs l p q t v=x:=⟨_,rfl⟩;have HNF:=Hd hnf;have HNA:=Hd hna;have HNT:=Hd hnt;have HNL:=Hd hnl;have HNE:=Hd hne;clear h hnf hna hnt hnl hne;go_enter Tryz.func173,Tryz.ntmps173;go_wp2_with fail;go_at_call 267;refine(Ou A n c p q t v l _ HL.o hc hn).mono ?_;intro e w1 hpost;obtain⟨S,a0,a1,a2,a3,rfl,hS,_,hb⟩:=Ta hpost;rw [HNF.o,HNA.o,HNT.o,HNL.o,HNE.o];have hstS:=fun(W:World) (p:Addr)=>run_store Tryz.prog W p S .plain hS
 replace HB:=Hd ((Ad HB.o hb).alloc (Ad HB.o hb).size (.cells #[S,Aa Ab a0,Aa Ab a1,Aa Ab a2,Aa Ab a3,Aa Ab (nf:Nat),Aa Ab (na:Nat),Aa Ab (nt:Nat),Aa Ab (nl:Nat)] 306));clear hb hpost HL hS;go_wp2_with fail;go_quiet (fail);go_wp2;refine bodyPost_ret (v:= .tuple #[Aa Ab (nf:Nat),Aa Ab (na:Nat),Aa Ab (nt:Nat),Aa Ab ne]) (by simp [results,Tryz.results173,go_sem]) rfl ⟨?_,below_drewN HB.o _⟩;rw [HNF.o,HNA.o,HNT.o,HNE.o]
theorem Ai8(A:Option Addr)(n c:Nat)(p q t v:Int)(l:List UInt8)(w:World)(h:Cd w A n l)(hc:n≤c)(hn:n≤1099511627776):
  Calls Tryz.prog 175 #[.slice A n c,.agg #[Aa Ab p,Aa Ab q,Aa Ab t,Aa Ab v]] w fun e w'=>e= .returned (.tuple #[Aa Ab (lsLen l p q t v:Nat),Aa Ab (Bs l p q t v)])∧Below w.heap.size w w':=by
 have HL:=Hd (h.alloc (.cells #[Aa Ab p,Aa Ab q,Aa Ab t,Aa Ab v] 75));have HB:=Hd ((Below.refl w.heap.size w).alloc (Asp _) (.cells #[Aa Ab p,Aa Ab q,Aa Ab t,Aa Ab v] 75));obtain⟨nf,hnf⟩:∃x,lsFrom l p q t v=x:=⟨_,rfl⟩;obtain⟨na,hna⟩:∃x,lsAt l p q t v=x:=⟨_,rfl⟩;obtain⟨nt,hnt⟩:∃x,lsTo l p q t v=x:=⟨_,rfl⟩;obtain⟨nl,hnl⟩:∃x,lsLen l p q t v=x:=⟨_,rfl⟩;obtain⟨ne,hne⟩:∃x,Bs l p q t v=x:=⟨_,rfl⟩;have HNF:=Hd hnf;have HNA:=Hd hna;have HNT:=Hd hnt;have HNL:=Hd hnl;have HNE:=Hd hne;clear h hnf hna hnt hnl hne;go_enter Tryz.func175,Tryz.ntmps175;go_wp2_with fail;go_at_call 267;refine(Ou A n c p q t v l _ HL.o hc hn).mono ?_;intro e w1 hpost;obtain⟨S,a0,a1,a2,a3,rfl,hS,_,hb⟩:=Ta hpost;rw [HNF.o,HNA.o,HNT.o,HNL.o,HNE.o];have hstS:=fun(W:World) (p:Addr)=>run_store Tryz.prog W p S .plain hS
 replace HB:=Hd ((Ad HB.o hb).alloc (Ad HB.o hb).size (.cells #[S,Aa Ab a0,Aa Ab a1,Aa Ab a2,Aa Ab a3,Aa Ab (nf:Nat),Aa Ab (na:Nat),Aa Ab (nt:Nat),Aa Ab (nl:Nat)] 306));clear hb hpost HL hS;go_wp2;go_ret2;rw [HNL.o,HNE.o];exact⟨rfl,HB.o⟩
theorem Sp(A:Option Addr)(n c:Nat)(p q t:Int)(v f a o k i X:Nat)(w:World)(hX:i*v=X)(hb:a+X≤1099511627776):
  Calls Tryz.prog 391 #[.agg #[.slice A n c,Aa Ab p,Aa Ab q,Aa Ab t,Aa Ab v,Aa Ab f,Aa Ab a,Aa Ab o,Aa Ab k],Aa Ab i] w fun e w'=>e= .returned (.agg #[Aa Ab ((a:Int)+X),Aa Ab v,Aa Ab 0,Aa Ab v])∧Below w.heap.size w w':=by
 have hmul:wrap64 ((i:Int)*(v:Int))=(X:Int):=by
  rw [←Int.natCast_mul,hX];exact Cj _ (by omega)
 have HB:=Hd (((Below.refl w.heap.size w).alloc (Asp _) (.cells #[.slice A n c,Aa Ab p,Aa Ab q,Aa Ab t,Aa Ab v,Aa Ab f,Aa Ab a,Aa Ab o,Aa Ab k] 306)).alloc (by simp) (.cells #[Aa Ab 0,Aa Ab 0,Aa Ab 0,Aa Ab 0] 75));clear hX;go_enter Tryz.func391,Tryz.ntmps391;go_wp2;refine bodyPost_ret (v:= .agg #[Aa Ab ((a:Int)+X),Aa Ab v,Aa Ab 0,Aa Ab v]) (by simp [results,Tryz.results391,go_sem]) rfl ⟨rfl,?_⟩;exact((Below.refl _ _).alloc (Asp _) _).alloc (by simp) _
theorem Ac7(A:Option Addr)(n c:Nat)(p q t:Int)(v f a o k i X:Nat)(w:World)(hX:i*v=X)(hb:a+X≤1099511627776):
  Calls Tryz.prog 340 #[.agg #[.slice A n c,Aa Ab p,Aa Ab q,Aa Ab t,Aa Ab v,Aa Ab f,Aa Ab a,Aa Ab o,Aa Ab k],Aa Ab i] w fun e w'=>e= .returned (.tuple #[.agg #[Aa Ab ((a:Int)+X),Aa Ab v,Aa Ab (D4 t),Aa Ab v],Aa Ab 0])∧Below w.heap.size w w':=by
 have HV:=Hd ((Ag.new w 306 #[.slice A n c,Aa Ab p,Aa Ab q,Aa Ab t,Aa Ab v,Aa Ab f,Aa Ab a,Aa Ab o,Aa Ab k]).alloc (.cells #[Aa Ab 0,Aa Ab 0,Aa Ab 0,Aa Ab 0] 75));have HR:=Hd (Ag.new_ (w:=w.alloc (.cells #[.slice A n c,Aa Ab p,Aa Ab q,Aa Ab t,Aa Ab v,Aa Ab f,Aa Ab a,Aa Ab o,Aa Ab k] 306)) (g:=w.heap.size+1) (by simp) 75 #[Aa Ab 0,Aa Ab 0,Aa Ab 0,Aa Ab 0]);have HB:=Hd (((Below.refl w.heap.size w).alloc (Asp _) (.cells #[.slice A n c,Aa Ab p,Aa Ab q,Aa Ab t,Aa Ab v,Aa Ab f,Aa Ab a,Aa Ab o,Aa Ab k] 306)).alloc (by simp) (.cells #[Aa Ab 0,Aa Ab 0,Aa Ab 0,Aa Ab 0] 75));have HX:=Hd hX;clear hX;go_enter Tryz.func340,Tryz.ntmps340;go_wp2_with fail;go_at_call 391;refine(Sp A n c p q t v f a o k i X _ HX.o hb).mono ?_;rintro e w1 ⟨rfl,hb1⟩;replace HV:=Hd ((HV.o.pure hb1).alloc (.cells #[Aa Ab ((a:Int)+X),Aa Ab v,Aa Ab 0,Aa Ab v] 75));replace HR:=Hd ((HR.o.pure hb1).alloc (.cells #[Aa Ab ((a:Int)+X),Aa Ab v,Aa Ab 0,Aa Ab v] 75));have HN:=Hd (Ag.new w1 75 #[Aa Ab ((a:Int)+X),Aa Ab v,Aa Ab 0,Aa Ab v]);replace HB:=Hd ((Ad HB.o hb1).alloc (Ad HB.o hb1).size (.cells #[Aa Ab ((a:Int)+X),Aa Ab v,Aa Ab 0,Aa Ab v] 75));have hz1:w.heap.size+1<w1.heap.size:=by have:=HR.o.lt;have:=hb1.size;(try simp at this);omega
 clear hb1;obtain ⟨y0,y1,y2,y3,y4⟩:=HV.o.c5;have y6:_=some (Aa Ab a):=HV.o.cell 6;have y8:_=some (Aa Ab k):=HV.o.cell 8;obtain ⟨n0,n1,n2,n3⟩:=HN.o.c4;have m2:=HN.o.frozen 2;have m3:=HN.o.frozen 3;go_wp2_with fail;go_at_call 302;refine(P7 t _).mono ?_;rintro e w2 ⟨rfl,hb2⟩;replace HR:=Hd (HR.o.pure hb2);replace HN:=Hd (HN.o.pure hb2);replace HB:=Hd (Ad HB.o hb2);clear y0 y1 y2 y3 y4 y6 y8 n0 n1 n2 n3 m2 m3 hb2;obtain ⟨r0,r1,r2,r3⟩:=HR.o.c4;have f0:=HR.o.frozen 0;have f1:=HR.o.frozen 1;have f2:=HR.o.frozen 2;have f3:=HR.o.frozen 3;obtain ⟨n0,n1,n2,n3⟩:=HN.o.c4;have m2:=HN.o.frozen 2;have m3:=HN.o.frozen 3;go_wp2;refine bodyPost_ret (v:= .tuple #[.agg #[Aa Ab ((a:Int)+X),Aa Ab v,Aa Ab (D4 t),Aa Ab v],Aa Ab 0]) (by simp [results,Tryz.results340,go_sem,r0,r1,r2,r3]) rfl ⟨rfl,?_⟩;exact((((HB.o.setCell (show w.heap.size≤w1.heap.size by omega) _).setCell (Asr _) _).setCell (Asr _) _).setCell (Asr _) _).setCell (Asr _) _
def Ab1(a X:Nat)(v:Int)(c:UInt8):Value:=if Gk c=0 then .agg #[Aa Ab ((a:Int)+X),Aa Ab v,Aa Ab (Jl c),Aa Ab (Kb c)] else .agg #[Aa Ab 0,Aa Ab 0,Aa Ab 0,Aa Ab 0]
theorem Sk(A:Option Addr)(n c:Nat)(p q t:Int)(v f a o k i X K:Nat)(l:List UInt8)(c0:UInt8)(w:World)(h:Cd w A n l)(hn:n≤1099511627776)(hX:i*v=X)(hK:k*v=K)(hik:i≤k)(hin:a+K+i<n)(hc:l[a+K+i]?=some c0):
  Calls Tryz.prog 342 #[.agg #[.slice A n c,Aa Ab p,Aa Ab q,Aa Ab t,Aa Ab v,Aa Ab f,Aa Ab a,Aa Ab o,Aa Ab k],Aa Ab i] w fun e w'=>e= .returned (.tuple #[Ab1 a X v c0,Aa Ab (Gk c0)])∧Below w.heap.size w w':=by
 have hXK:X≤K:=by rw [←hX,←hK];exact Nat.mul_le_mul_right _ hik
 have hb:a+X≤1099511627776:=by omega
 have hmul:wrap64 ((k:Int)*(v:Int))=(K:Int):=by
  rw [←Int.natCast_mul,hK];exact Cj _ (by omega)
 have HMUL:=Hd hmul;have HL:=Hd ((h.alloc (.cells #[.slice A n c,Aa Ab p,Aa Ab q,Aa Ab t,Aa Ab v,Aa Ab f,Aa Ab a,Aa Ab o,Aa Ab k] 306)).alloc (.cells #[Aa Ab 0,Aa Ab 0,Aa Ab 0,Aa Ab 0] 75));have HC:=Hd hc;clear hmul hK h hc;have HV:=Hd ((Ag.new w 306 #[.slice A n c,Aa Ab p,Aa Ab q,Aa Ab t,Aa Ab v,Aa Ab f,Aa Ab a,Aa Ab o,Aa Ab k]).alloc (.cells #[Aa Ab 0,Aa Ab 0,Aa Ab 0,Aa Ab 0] 75));have HR:=Hd (Ag.new_ (w:=w.alloc (.cells #[.slice A n c,Aa Ab p,Aa Ab q,Aa Ab t,Aa Ab v,Aa Ab f,Aa Ab a,Aa Ab o,Aa Ab k] 306)) (g:=w.heap.size+1) (by simp) 75 #[Aa Ab 0,Aa Ab 0,Aa Ab 0,Aa Ab 0]);have HB:=Hd (((Below.refl w.heap.size w).alloc (Asp _) (.cells #[.slice A n c,Aa Ab p,Aa Ab q,Aa Ab t,Aa Ab v,Aa Ab f,Aa Ab a,Aa Ab o,Aa Ab k] 306)).alloc (by simp) (.cells #[Aa Ab 0,Aa Ab 0,Aa Ab 0,Aa Ab 0] 75));have HX:=Hd hX;clear hX;go_enter Tryz.func342,Tryz.ntmps342;go_wp2_with fail;go_at_call 391;refine(Sp A n c p q t v f a o k i X _ HX.o hb).mono ?_;rintro e w1 ⟨rfl,hb1⟩;replace HV:=Hd ((HV.o.pure hb1).alloc (.cells #[Aa Ab ((a:Int)+X),Aa Ab v,Aa Ab 0,Aa Ab v] 75));replace HR:=Hd ((HR.o.pure hb1).alloc (.cells #[Aa Ab ((a:Int)+X),Aa Ab v,Aa Ab 0,Aa Ab v] 75));have HN:=Hd (Ag.new w1 75 #[Aa Ab ((a:Int)+X),Aa Ab v,Aa Ab 0,Aa Ab v]);replace HB:=Hd ((Ad HB.o hb1).alloc (Ad HB.o hb1).size (.cells #[Aa Ab ((a:Int)+X),Aa Ab v,Aa Ab 0,Aa Ab v] 75));have hz1:w.heap.size+1<w1.heap.size:=by have:=HR.o.lt;have:=hb1.size;(try simp at this);omega
 replace HL:=Hd ((HL.o.pure hb1).alloc (.cells #[Aa Ab ((a:Int)+X),Aa Ab v,Aa Ab 0,Aa Ab v] 75));clear hb1;obtain ⟨y0,y1,y2,y3,y4⟩:=HV.o.c5;have y6:_=some (Aa Ab a):=HV.o.cell 6;have y8:_=some (Aa Ab k):=HV.o.cell 8;obtain ⟨n0,n1,n2,n3⟩:=HN.o.c4;have m2:=HN.o.frozen 2;have m3:=HN.o.frozen 3;obtain⟨g,off,rfl,hkl,hcell⟩:=K5 HL.o hin;have hcc:l[a+K+i]=c0:=by
  have:=HC.o;rw [Asq hkl] at this;injection this
 rw [hcc] at hcell;have hlt4:(a:Int)+K+i<n:=by omega
 have hlt5:a+K+i<n:=hin;clear hcc hkl;have hmul:=HMUL.o;go_wp2_with fail;clear hmul;go_at_call 66;refine(Sm c0 _).mono ?_;rintro e w2 ⟨rfl,hb2⟩;replace HR:=Hd (HR.o.pure hb2);replace HN:=Hd (HN.o.pure hb2);replace HB:=Hd (Ad HB.o hb2);clear y0 y1 y2 y3 y4 y6 y8 n0 n1 n2 n3 m2 m3 hb2 hcell;obtain ⟨r0,r1,r2,r3⟩:=HR.o.c4;have f0:=HR.o.frozen 0;have f1:=HR.o.frozen 1;have f2:=HR.o.frozen 2;have f3:=HR.o.frozen 3;obtain ⟨n0,n1,n2,n3⟩:=HN.o.c4;have m2:=HN.o.frozen 2;have m3:=HN.o.frozen 3;by_cases hu:Gk c0=0
 ·have HT:=Hd (show Ab1 a X v c0=_ from if_pos hu);rw [hu];have HU:=Hd hu;clear hu;go_wp2;refine bodyPost_ret (v:= .tuple #[.agg #[Aa Ab ((a:Int)+X),Aa Ab v,Aa Ab (Jl c0),Aa Ab (Kb c0)],Aa Ab 0]) (by simp [results,Tryz.results342,go_sem,r0,r1,r2,r3]) rfl ⟨?_,?_⟩
  ·rw [HT.o,HU.o]
  ·exact(((((HB.o.setCell (show w.heap.size≤w1.heap.size by omega) _).setCell (show w.heap.size≤w1.heap.size by omega) _).setCell (Asr _) _).setCell (Asr _) _).setCell (Asr _) _).setCell (Asr _) _
 ·have HT:=Hd (show Ab1 a X v c0=_ from if_neg hu);have hne:(Gk c0 != 0)=true:=by simpa using hu
  clear hu;go_wp2;refine bodyPost_ret (v:= .tuple #[.agg #[Aa Ab 0,Aa Ab 0,Aa Ab 0,Aa Ab 0],Aa Ab (Gk c0)]) (by simp [results,Tryz.results342,go_sem,r0,r1,r2,r3]) rfl ⟨?_,?_⟩
  ·rw [HT.o]
  ·exact(((HB.o.setCell (Asr _) _).setCell (Asr _) _).setCell (Asr _) _).setCell (Asr _) _
def Mr(l:List UInt8)(p q t v:Int)(i:Int):UInt8:=l.getD (lsAt l p q t v+lsLen l p q t v*v.toNat+i.toNat) 0
def Es(l:List UInt8)(p q t v i:Int):Int:=
 if Bs l p q t v≠0 then Bs l p q t v else if i<0∨(lsLen l p q t v:Int)≤i then 6 else if Ce t=true then Gk (Mr l p q t v i) else 0
def Ij(l:List UInt8)(p q t v i:Int):Int:=if Es l p q t v i=0 then((lsAt l p q t v:Int)+(i.toNat*v.toNat:Nat)) else 0
def Ik(l:List UInt8)(p q t v i:Int):Int:=if Es l p q t v i=0 then v else 0
def Ih(l:List UInt8)(p q t v i:Int):Int:=if Es l p q t v i=0 then(if Ce t=true then Jl (Mr l p q t v i) else D4 t) else 0
def Il(l:List UInt8)(p q t v i:Int):Int:=if Es l p q t v i=0 then(if Ce t=true then Kb (Mr l p q t v i) else v) else 0
def AtW(w:World)(l:List UInt8)(p q t v i:Int)(e:Ending)(w':World):Prop:=
 e= .returned (.tuple #[.agg #[Aa Ab (Ij l p q t v i),Aa Ab (Ik l p q t v i),Aa Ab (Ih l p q t v i),Aa Ab (Il l p q t v i)],Aa Ab (Es l p q t v i)])∧Below w.heap.size w w'
theorem T6{w w':World}{l:List UInt8}{p q t v i er:Int}(h:Es l p q t v i=er)(hne:er≠0)(hb:Below w.heap.size w w'):AtW w l p q t v i (.returned (.tuple #[.agg #[Aa Ab 0,Aa Ab 0,Aa Ab 0,Aa Ab 0],Aa Ab er])) w':=by
 unfold AtW Ij Ik Ih Il;rw [h,if_neg hne,if_neg hne,if_neg hne,if_neg hne];exact⟨rfl,hb⟩
theorem Adl{w w':World}{l:List UInt8}{p q t v i a b c d:Int}(h:Es l p q t v i=0)(h1:((lsAt l p q t v:Int)+(i.toNat*v.toNat:Nat))=a)(h2:v=b)(h3:(if Ce t=true then Jl (Mr l p q t v i) else D4 t)=c)(h4:(if Ce t=true then Kb (Mr l p q t v i) else v)=d)(hb:Below w.heap.size w w'):
  AtW w l p q t v i (.returned (.tuple #[.agg #[Aa Ab a,Aa Ab b,Aa Ab c,Aa Ab d],Aa Ab 0])) w':=by
 unfold AtW Ij Ik Ih Il;rw [h,if_pos rfl,if_pos rfl,if_pos rfl,if_pos rfl,h1,h3,h4,←h2];exact⟨rfl,hb⟩
theorem Y4{l:List UInt8}{p q t v:Int}(h:Bs l p q t v=0):K4 t=true∧Jw t=true∧Av v=true∧(lsAt l p q t v)+lsLen l p q t v*(v.toNat+tgs t)≤l.length∧0≤p∧0≤q∧p+q≤l.length∧Av q=true∧(lsAt l p q t v:Int) % v=0:=by
 rcases Oy l p q t v with⟨h1,e⟩|⟨h1,⟨_,e⟩|⟨h2,⟨h3,e⟩|⟨h3,⟨_,e⟩|⟨_,_,e⟩|⟨_,_,_,e⟩|⟨h4,_,h5,_⟩⟩⟩⟩
 ·rw [e] at h;exact absurd h h1
 ·rw [e] at h;cases h
 ·rw [e] at h;exact absurd h h3
 ·rw [e] at h;cases h
 ·rw [e] at h;cases h
 ·rw [e] at h;cases h
 ·obtain⟨g1,g2⟩:=Df.1 h1;have g2:=De.1 g2;have g1:=Cc.1 g1;have hr:=Q9 h3;have ea:lsAt l p q t v=(Bb l p q t v).toNat:=if_pos h;have el:lsLen l p q t v=K7 l p q t v:=if_pos h;refine⟨h2,Gz g1.1,g1.2.2,?_,g2.1,g2.2.1,g2.2.2,g1.2.1,?_⟩
  ·rw [ea,el];exact h5
  ·rw [ea,Int.toNat_of_nonneg hr.1];exact h4
theorem Aqy{t:Int}(hL:K4 t=true)(ht:Jw t=true):∃a F tg,Vq t.toNat=[a,F,(if Ce t=true then Ju 342 else Ju 340),tg]:=by
 rcases Aen ht with⟨h,_⟩|⟨_,_,_,hT,_,e⟩|⟨_,_,_,e⟩
 ·rw [hL] at h;cases h
 ·rw [hT];exact⟨_,_,_,e⟩
 ·exact⟨_,_,_,e⟩
theorem Abu(a F G tg:Value):∀W:World,(Instr.field 312 (.agg #[a,F,G,tg]) 2).run Tryz.prog W= .ok G W:=by
 intro W
 kernel_rfl
theorem Cn{B:Nat}{a w:World}(g:Nat)(h:Below B a w)(hg:B≤g)(v0 v1 v2 v3:Value):Below B a ((((w.setCell ⟨g,0,none⟩ v0).setCell ⟨g,1,none⟩ v1).setCell ⟨g,2,none⟩ v2).setCell ⟨g,3,none⟩ v3):=
 (((h.setCell hg _).setCell hg _).setCell hg _).setCell hg _
theorem Dd{w:World}{q:Addr}{g:Nat}{v a b c d:Value}(h:w.cell? q=some v)(hne:q.block≠g):((((w.setCell ⟨g,0,none⟩ a).setCell ⟨g,1,none⟩ b).setCell ⟨g,2,none⟩ c).setCell ⟨g,3,none⟩ d).cell? q=some v:=
 S8 (S8 (S8 (S8 h hne) hne) hne) hne
theorem Aly(A:Option Addr)(n c:Nat)(p q t v i:Int)(l:List UInt8)(w:World)(h:Cd w A n l)(hc:n≤c)(hn:n≤1099511627776):
  Calls Tryz.prog 176 #[.slice A n c,.agg #[Aa Ab p,Aa Ab q,Aa Ab t,Aa Ab v],Aa Ab i] w (AtW w l p q t v i):=by
 have hlen:=h.1;subst hlen;have HL:=Hd ((h.alloc (.cells #[Aa Ab p,Aa Ab q,Aa Ab t,Aa Ab v] 75)).alloc (.cells #[Aa Ab 0,Aa Ab 0,Aa Ab 0,Aa Ab 0] 75));have HB:=Hd (((Below.refl w.heap.size w).alloc (Asp _) (.cells #[Aa Ab p,Aa Ab q,Aa Ab t,Aa Ab v] 75)).alloc (by simp) (.cells #[Aa Ab 0,Aa Ab 0,Aa Ab 0,Aa Ab 0] 75));have HX:=Hd ((Ag.new w 75 #[Aa Ab p,Aa Ab q,Aa Ab t,Aa Ab v]).alloc (.cells #[Aa Ab 0,Aa Ab 0,Aa Ab 0,Aa Ab 0] 75));have HR:=Hd (Ag.new_ (w:=w.alloc (.cells #[Aa Ab p,Aa Ab q,Aa Ab t,Aa Ab v] 75)) (g:=w.heap.size+1) (by simp) 75 #[Aa Ab 0,Aa Ab 0,Aa Ab 0,Aa Ab 0]);clear h;go_enter Tryz.func176,Tryz.ntmps176;go_wp2_with fail;go_at_call 267;refine(Ou A _ c p q t v l _ HL.o hc hn).mono ?_;generalize (w.alloc (.cells #[Aa Ab p,Aa Ab q,Aa Ab t,Aa Ab v] 75)).alloc (.cells #[Aa Ab 0,Aa Ab 0,Aa Ab 0,Aa Ab 0] 75)=wB at HL HB HX HR⊢;intro e w1 hpost;obtain⟨S,a0,a1,a2,a3,rfl,hS,heq,hb⟩:=Ta hpost;have hstS:=fun(W:World) (p:Addr)=>run_store Tryz.prog W p S .plain hS
 obtain⟨nf,hnf⟩:∃x,lsFrom l p q t v=x:=⟨_,rfl⟩;obtain⟨na,hna⟩:∃x,lsAt l p q t v=x:=⟨_,rfl⟩;obtain⟨nt,hnt⟩:∃x,lsTo l p q t v=x:=⟨_,rfl⟩;obtain⟨nl,hnl⟩:∃x,lsLen l p q t v=x:=⟨_,rfl⟩;rw [hnf,hna,hnt,hnl];have HNA:=Hd hna;have HNL:=Hd hnl;clear hpost hnf hna hnt hnl;have HV:=Hd (Ag.new w1 306 #[S,Aa Ab a0,Aa Ab a1,Aa Ab a2,Aa Ab a3,Aa Ab nf,Aa Ab na,Aa Ab nt,Aa Ab nl]);have hszw:w.heap.size+1<w1.heap.size:=by have:=HR.o.lt;have:=hb.size;omega
 replace HL:=Hd ((HL.o.pure hb).alloc (.cells #[S,Aa Ab a0,Aa Ab a1,Aa Ab a2,Aa Ab a3,Aa Ab nf,Aa Ab na,Aa Ab nt,Aa Ab nl] 306));replace HX:=Hd ((HX.o.pure hb).alloc (.cells #[S,Aa Ab a0,Aa Ab a1,Aa Ab a2,Aa Ab a3,Aa Ab nf,Aa Ab na,Aa Ab nt,Aa Ab nl] 306));replace HR:=Hd ((HR.o.pure hb).alloc (.cells #[S,Aa Ab a0,Aa Ab a1,Aa Ab a2,Aa Ab a3,Aa Ab nf,Aa Ab na,Aa Ab nt,Aa Ab nl] 306));replace HB:=Hd ((Ad HB.o hb).alloc (Ad HB.o hb).size (.cells #[S,Aa Ab a0,Aa Ab a1,Aa Ab a2,Aa Ab a3,Aa Ab nf,Aa Ab na,Aa Ab nt,Aa Ab nl] 306));have HEQ:=Hd heq;have hz2:w1.heap.size<(w1.alloc (.cells #[S,Aa Ab a0,Aa Ab a1,Aa Ab a2,Aa Ab a3,Aa Ab nf,Aa Ab na,Aa Ab nt,Aa Ab nl] 306)).heap.size:=HV.o.lt;clear hb heq hS;go_upto_region 2 with fail
 generalize w1.alloc (.cells #[S,Aa Ab a0,Aa Ab a1,Aa Ab a2,Aa Ab a3,Aa Ab nf,Aa Ab na,Aa Ab nt,Aa Ab nl] 306)=w2 at HV HL HX HR HB hz2⊢;clear hstS;by_cases he:Bs l p q t v=0
 ·obtain⟨rfl,e0,e1,e2,e3⟩:=HEQ.o he;obtain rfl:p=a0:=e0.symm;obtain rfl:q=a1:=e1.symm;obtain rfl:t=a2:=e2.symm;obtain rfl:v=a3:=e3.symm;have hok:=Y4 he;have HLS:=Hd he;rw [he];clear HEQ he;by_cases hi0:i<0
  ·have HE:=Hd (show Es l p q t v i=6 by unfold Es;rw [if_neg (by rw [HLS.o];decide),if_pos (.inl hi0)]);have HN:=Hd (show(6:Int)≠0 by decide);have hd:decide (i<0)=true:=decide_eq_true hi0;clear hi0 hok;obtain ⟨r0,r1,r2,r3⟩:=HR.o.c4;have f0:=HR.o.frozen 0;have f1:=HR.o.frozen 1;have f2:=HR.o.frozen 2;have f3:=HR.o.frozen 3;go_wp2;refine bodyPost_ret (v:= .tuple #[.agg #[Aa Ab 0,Aa Ab 0,Aa Ab 0,Aa Ab 0],Aa Ab 6]) (by simp [results,Tryz.results176,go_sem,r0,r1,r2,r3]) rfl ?_;exact T6 HE.o HN.o ((((HB.o.setCell (Asr _) _).setCell (Asr _) _).setCell (Asr _) _).setCell (Asr _) _)
  ·have hd0:decide (i<0)=false:=decide_eq_false hi0;by_cases hin:(nl:Int)≤i
   ·have HE:=Hd (show Es l p q t v i=6 by unfold Es;rw [if_neg (by rw [HLS.o];decide),HNL.o,if_pos (.inr hin)]);have HN:=Hd (show(6:Int)≠0 by decide);have hd:decide ((nl:Int)≤i)=true:=decide_eq_true hin;clear hi0 hok hin;have y8:_=some (Aa Ab nl):=HV.o.cell 8;obtain ⟨r0,r1,r2,r3⟩:=HR.o.c4;have f0:=HR.o.frozen 0;have f1:=HR.o.frozen 1;have f2:=HR.o.frozen 2;have f3:=HR.o.frozen 3;go_wp2;refine bodyPost_ret (v:= .tuple #[.agg #[Aa Ab 0,Aa Ab 0,Aa Ab 0,Aa Ab 0],Aa Ab 6]) (by simp [results,Tryz.results176,go_sem,r0,r1,r2,r3]) rfl ?_;exact T6 HE.o HN.o ((((HB.o.setCell (Asr _) _).setCell (Asr _) _).setCell (Asr _) _).setCell (Asr _) _)
   ·obtain⟨hL,hT,hW,hbd,_,_,_,_,_⟩:=hok;have v1:=By.1 hW;obtain⟨V,rfl⟩:∃V:Nat,v=V:=⟨v.toNat,by omega⟩;obtain⟨I,rfl⟩:∃I:Nat,i=I:=⟨i.toNat,by omega⟩;rw [HNA.o,HNL.o,Asv] at hbd;have hI:I<nl:=by omega
    have hd:decide (nl≤I)=false:=decide_eq_false (by omega);have hidx:=Aeo hT;obtain⟨a,F,tg,hrow⟩:=Aqy hL hT;rw [hrow] at hidx;have htt:=Fs.1 hT;have ht0:=htt.1;have ht37:=htt.2;obtain⟨X,hX⟩:∃X,I*V=X:=⟨_,rfl⟩;obtain⟨K,hK⟩:∃K,nl*V=K:=⟨_,rfl⟩;have hXK:X+V≤K:=by
     rw [←hX,←hK];have:=Nat.mul_le_mul_right V (show I+1≤nl by omega);rw [Nat.succ_mul] at this;exact this
    have hmulT:nl*(V+tgs t)=K+nl*tgs t:=by rw [Nat.mul_add,hK]
    rw [hmulT] at hbd;have HXX:=Hd hX;have HKK:=Hd hK;have hV8:V≤8:=by omega
    clear hi0 hd0 hrow hin hX hK hL hT hW v1 htt hmulT;cases hTg:Ce t with
    |true=>
     rw [hTg] at hidx;rw [show tgs t=1 by unfold tgs;rw [hTg];rfl,Nat.mul_one] at hbd;replace hidx:∀W,(Instr.index 313 (.agg Ka) (Aa Ab t)).run Tryz.prog W= .ok (.agg #[a,F,.func (.func 342) #[] #[],tg]) W:=hidx;have hfld:=Abu a F (.func (.func 342) #[] #[]) tg;have HTG:=Hd hTg;clear hTg;have hlt:na+K+I<l.length:=by omega
     obtain⟨c0,hc0⟩:∃c0,l[na+K+I]=c0:=⟨_,rfl⟩;have hget:l[na+K+I]?=some c0:=by rw [Asq hlt,hc0]
     have hB:Mr l p q t V I=c0:=by
      unfold Mr;rw [HNA.o,HNL.o,Asv,Asv,HKK.o,As0,hget];rfl
     have HTB:=Hd hB;have HGET:=Hd hget;have hIk:I≤nl:=by omega
     have hIn:¬((I:Int)<0∨(nl:Int)≤I):=by omega
     have HAE:=Hd (show Es l p q t V I=Gk c0 by unfold Es;rw [if_neg (by rw [HLS.o];decide),HNL.o,if_neg hIn,HTG.o,HTB.o];rfl);clear hB hget hc0 hIn;have x2:=Aj HX.o;obtain ⟨y0,y1,y2,y3,y4,y5,y6,y7,y8⟩:=HV.o.c9;have hg1:w.heap.size≠w.heap.size+1:=by omega
     have hg2:w1.heap.size≠w.heap.size+1:=by omega
     by_cases hu:Gk c0=0
     ·have HU:=Hd hu;have HTR:=Hd (show Ab1 na X V c0=_ from if_pos hu);have HE:=Hd (HAE.o.trans hu);clear hu;go_wp2_with fail;go_region_held3 (fun w'=>w'.cell? ⟨w.heap.size,2,none⟩=some (Aa Ab t)∧w'.cell? ⟨w1.heap.size,0,none⟩=some (.slice A l.length c)∧w'.cell? ⟨w1.heap.size,1,none⟩=some (Aa Ab p)∧w'.cell? ⟨w1.heap.size,2,none⟩=some (Aa Ab q)∧w'.cell? ⟨w1.heap.size,3,none⟩=some (Aa Ab t)∧w'.cell? ⟨w1.heap.size,4,none⟩=some (Aa Ab V)∧w'.cell? ⟨w1.heap.size,5,none⟩=some (Aa Ab nf)∧w'.cell? ⟨w1.heap.size,6,none⟩=some (Aa Ab na)∧w'.cell? ⟨w1.heap.size,7,none⟩=some (Aa Ab nt)∧w'.cell? ⟨w1.heap.size,8,none⟩=some (Aa Ab nl)) (first|with_reducible exact⟨x2,y0,y1,y2,y3,y4,y5,y6,y7,y8⟩|with_reducible exact⟨Bq x2,Bq y0,Bq y1,Bq y2,Bq y3,Bq y4,Bq y5,Bq y6,Bq y7,Bq y8⟩|with_reducible exact⟨Dd x2 hg1,Dd y0 hg2,Dd y1 hg2,Dd y2 hg2,Dd y3 hg2,Dd y4 hg2,Dd y5 hg2,Dd y6 hg2,Dd y7 hg2,Dd y8 hg2⟩)
       (first
        |(go_at_call 268;(with_reducible refine(Kx _).mono ?_);rintro e w5 ⟨rfl,hb5⟩;have HB5:=Hd hb5;replace HV:=Hd (HV.o.drew.pure hb5);replace HX:=Hd (HX.o.drew.pure hb5);replace HR:=Hd (HR.o.drew.pure hb5);replace HL:=Hd ((Ds HL.o).pure hb5);clear hb5 x2 y0 y1 y2 y3 y4 y5 y6 y7 y8;have x2:=Aj HX.o;obtain ⟨y0,y1,y2,y3,y4,y5,y6,y7,y8⟩:=HV.o.c9)
        |(go_at_call 342;((with_reducible refine(Sk A _ c p q t V nf na nt nl I X K l c0 _ HL.o hn HXX.o HKK.o hIk hlt HGET.o).mono ?_);rw [HTR.o,HU.o]);rintro e w6 ⟨rfl,hb6⟩;have HB6:=Hd hb6;replace HV:=Hd (HV.o.pure hb6);replace HX:=Hd (HX.o.pure hb6);replace HR:=Hd (HR.o.pure hb6);clear hb6 x2 y0 y1 y2 y3 y4 y5 y6 y7 y8;have x2:=Aj HX.o;obtain ⟨y0,y1,y2,y3,y4,y5,y6,y7,y8⟩:=HV.o.c9;obtain ⟨r0,r1,r2,r3⟩:=HR.o.c4;have f0:=HR.o.frozen 0;have f1:=HR.o.frozen 1;have f2:=HR.o.frozen 2;have f3:=HR.o.frozen 3))
      go_wp2;refine bodyPost_ret (v:= .tuple #[.agg #[Aa Ab ((na:Int)+X),Aa Ab V,Aa Ab (Jl c0),Aa Ab (Kb c0)],Aa Ab 0]) (by simp [results,Tryz.results176,go_sem,r0,r1,r2,r3]) rfl ?_;have HBQ:=Hd (Be (Ad HB.o.drew HB5.o) HB6.o);exact Adl HE.o (by rw [HNA.o,Asv,Asv,HXX.o]) rfl (by rw [HTG.o];exact(if_pos rfl).trans (by rw [HTB.o])) (by rw [HTG.o];exact(if_pos rfl).trans (by rw [HTB.o])) (Cn _ HBQ.o (Asr _) _ _ _ _)
     ·have HU:=Hd hu;have HTR:=Hd (show Ab1 na X V c0=_ from if_neg hu);have HE:=HAE;clear hu;go_wp2_with fail;go_region_held3 (fun w'=>w'.cell? ⟨w.heap.size,2,none⟩=some (Aa Ab t)∧w'.cell? ⟨w1.heap.size,0,none⟩=some (.slice A l.length c)∧w'.cell? ⟨w1.heap.size,1,none⟩=some (Aa Ab p)∧w'.cell? ⟨w1.heap.size,2,none⟩=some (Aa Ab q)∧w'.cell? ⟨w1.heap.size,3,none⟩=some (Aa Ab t)∧w'.cell? ⟨w1.heap.size,4,none⟩=some (Aa Ab V)∧w'.cell? ⟨w1.heap.size,5,none⟩=some (Aa Ab nf)∧w'.cell? ⟨w1.heap.size,6,none⟩=some (Aa Ab na)∧w'.cell? ⟨w1.heap.size,7,none⟩=some (Aa Ab nt)∧w'.cell? ⟨w1.heap.size,8,none⟩=some (Aa Ab nl)) (first|with_reducible exact⟨x2,y0,y1,y2,y3,y4,y5,y6,y7,y8⟩|with_reducible exact⟨Bq x2,Bq y0,Bq y1,Bq y2,Bq y3,Bq y4,Bq y5,Bq y6,Bq y7,Bq y8⟩|with_reducible exact⟨Dd x2 hg1,Dd y0 hg2,Dd y1 hg2,Dd y2 hg2,Dd y3 hg2,Dd y4 hg2,Dd y5 hg2,Dd y6 hg2,Dd y7 hg2,Dd y8 hg2⟩)
       (first
        |(go_at_call 268;(with_reducible refine(Kx _).mono ?_);rintro e w5 ⟨rfl,hb5⟩;have HB5:=Hd hb5;replace HV:=Hd (HV.o.drew.pure hb5);replace HX:=Hd (HX.o.drew.pure hb5);replace HR:=Hd (HR.o.drew.pure hb5);replace HL:=Hd ((Ds HL.o).pure hb5);clear hb5 x2 y0 y1 y2 y3 y4 y5 y6 y7 y8;have x2:=Aj HX.o;obtain ⟨y0,y1,y2,y3,y4,y5,y6,y7,y8⟩:=HV.o.c9)
        |(go_at_call 342;((with_reducible refine(Sk A _ c p q t V nf na nt nl I X K l c0 _ HL.o hn HXX.o HKK.o hIk hlt HGET.o).mono ?_);rw [HTR.o]);rintro e w6 ⟨rfl,hb6⟩;have HB6:=Hd hb6;replace HV:=Hd (HV.o.pure hb6);replace HX:=Hd (HX.o.pure hb6);replace HR:=Hd (HR.o.pure hb6);clear hb6 x2 y0 y1 y2 y3 y4 y5 y6 y7 y8;have x2:=Aj HX.o;obtain ⟨y0,y1,y2,y3,y4,y5,y6,y7,y8⟩:=HV.o.c9;obtain ⟨r0,r1,r2,r3⟩:=HR.o.c4;have f0:=HR.o.frozen 0;have f1:=HR.o.frozen 1;have f2:=HR.o.frozen 2;have f3:=HR.o.frozen 3))
      go_wp2;refine bodyPost_ret (v:= .tuple #[.agg #[Aa Ab 0,Aa Ab 0,Aa Ab 0,Aa Ab 0],Aa Ab (Gk c0)]) (by simp [results,Tryz.results176,go_sem,r0,r1,r2,r3]) rfl ?_;have HBQ:=Hd (Be (Ad HB.o.drew HB5.o) HB6.o);exact T6 HE.o HU.o (Cn _ HBQ.o (Asr _) _ _ _ _)
    |false=>
     rw [hTg] at hidx;replace hidx:∀W,(Instr.index 313 (.agg Ka) (Aa Ab t)).run Tryz.prog W= .ok (.agg #[a,F,.func (.func 340) #[] #[],tg]) W:=hidx;have hfld:=Abu a F (.func (.func 340) #[] #[]) tg;have HTG:=Hd hTg;clear hTg;have HE:=Hd (show Es l p q t V I=0 by unfold Es;rw [if_neg (by rw [HLS.o];decide),HNL.o,if_neg (by omega),HTG.o];rfl);have ha40:na+X≤1099511627776:=by omega
     have x2:=Aj HX.o;obtain ⟨y0,y1,y2,y3,y4,y5,y6,y7,y8⟩:=HV.o.c9;have hg1:w.heap.size≠w.heap.size+1:=by omega
     have hg2:w1.heap.size≠w.heap.size+1:=by omega
     go_wp2_with fail;go_region_held3 (fun w'=>w'.cell? ⟨w.heap.size,2,none⟩=some (Aa Ab t)∧w'.cell? ⟨w1.heap.size,0,none⟩=some (.slice A l.length c)∧w'.cell? ⟨w1.heap.size,1,none⟩=some (Aa Ab p)∧w'.cell? ⟨w1.heap.size,2,none⟩=some (Aa Ab q)∧w'.cell? ⟨w1.heap.size,3,none⟩=some (Aa Ab t)∧w'.cell? ⟨w1.heap.size,4,none⟩=some (Aa Ab V)∧w'.cell? ⟨w1.heap.size,5,none⟩=some (Aa Ab nf)∧w'.cell? ⟨w1.heap.size,6,none⟩=some (Aa Ab na)∧w'.cell? ⟨w1.heap.size,7,none⟩=some (Aa Ab nt)∧w'.cell? ⟨w1.heap.size,8,none⟩=some (Aa Ab nl)) (first|with_reducible exact⟨x2,y0,y1,y2,y3,y4,y5,y6,y7,y8⟩|with_reducible exact⟨Bq x2,Bq y0,Bq y1,Bq y2,Bq y3,Bq y4,Bq y5,Bq y6,Bq y7,Bq y8⟩|with_reducible exact⟨Dd x2 hg1,Dd y0 hg2,Dd y1 hg2,Dd y2 hg2,Dd y3 hg2,Dd y4 hg2,Dd y5 hg2,Dd y6 hg2,Dd y7 hg2,Dd y8 hg2⟩)
      (first
       |(go_at_call 268;(with_reducible refine(Kx _).mono ?_);rintro e w5 ⟨rfl,hb5⟩;have HB5:=Hd hb5;replace HV:=Hd (HV.o.drew.pure hb5);replace HX:=Hd (HX.o.drew.pure hb5);replace HR:=Hd (HR.o.drew.pure hb5);replace HL:=Hd ((Ds HL.o).pure hb5);clear hb5 x2 y0 y1 y2 y3 y4 y5 y6 y7 y8;have x2:=Aj HX.o;obtain ⟨y0,y1,y2,y3,y4,y5,y6,y7,y8⟩:=HV.o.c9)
       |(go_at_call 340;(with_reducible refine(Ac7 A _ c p q t V nf na nt nl I X _ HXX.o ha40).mono ?_);rintro e w6 ⟨rfl,hb6⟩;have HB6:=Hd hb6;replace HV:=Hd (HV.o.pure hb6);replace HX:=Hd (HX.o.pure hb6);replace HR:=Hd (HR.o.pure hb6);clear hb6 x2 y0 y1 y2 y3 y4 y5 y6 y7 y8;have x2:=Aj HX.o;obtain ⟨y0,y1,y2,y3,y4,y5,y6,y7,y8⟩:=HV.o.c9;obtain ⟨r0,r1,r2,r3⟩:=HR.o.c4;have f0:=HR.o.frozen 0;have f1:=HR.o.frozen 1;have f2:=HR.o.frozen 2;have f3:=HR.o.frozen 3))
     go_wp2;refine bodyPost_ret (v:= .tuple #[.agg #[Aa Ab ((na:Int)+X),Aa Ab V,Aa Ab (D4 t),Aa Ab V],Aa Ab 0]) (by simp [results,Tryz.results176,go_sem,r0,r1,r2,r3]) rfl ?_;have HBQ:=Hd (Be (Ad HB.o.drew HB5.o) HB6.o);exact Adl HE.o (by rw [HNA.o,Asv,Asv,HXX.o]) rfl (by rw [HTG.o];exact if_neg (by decide)) (by rw [HTG.o];exact if_neg (by decide)) (Cn _ HBQ.o (Asr _) _ _ _ _)
 ·have HE:=Hd (show Es l p q t v i=Bs l p q t v from if_pos he);have HN:=Hd he;have hne:(Bs l p q t v != 0)=true:=by simpa using he
  clear HEQ he;obtain ⟨r0,r1,r2,r3⟩:=HR.o.c4;have f0:=HR.o.frozen 0;have f1:=HR.o.frozen 1;have f2:=HR.o.frozen 2;have f3:=HR.o.frozen 3;go_wp2;refine bodyPost_ret (v:= .tuple #[.agg #[Aa Ab 0,Aa Ab 0,Aa Ab 0,Aa Ab 0],Aa Ab (Bs l p q t v)]) (by simp [results,Tryz.results176,go_sem,r0,r1,r2,r3]) rfl ?_;exact T6 HE.o HN.o ((((HB.o.setCell (Asr _) _).setCell (Asr _) _).setCell (Asr _) _).setCell (Asr _) _)
theorem S9(A:Option Addr)(n c:Nat)(p q t v f a o er:Int)(l:List UInt8)(w:World)(h:Cd w A n l)(hc:n≤c)(hn:n≤1099511627776)(h1:(lsFrom l p q t v:Int)=f)(h2:(lsAt l p q t v:Int)=a)(h3:(lsTo l p q t v:Int)=o)(h4:Bs l p q t v=er):
  Calls Tryz.prog 173 #[.slice A n c,.agg #[Aa Ab p,Aa Ab q,Aa Ab t,Aa Ab v]] w fun e w'=>e= .returned (.tuple #[Aa Ab f,Aa Ab a,Aa Ab o,Aa Ab er])∧Below w.heap.size w w':=by
 subst h1 h2 h3 h4;exact U4 A n c p q t v l w h hc hn
theorem Wg(A:Option Addr)(n c:Nat)(p q t v k er:Int)(l:List UInt8)(w:World)(h:Cd w A n l)(hc:n≤c)(hn:n≤1099511627776)(h1:(lsLen l p q t v:Int)=k)(h4:Bs l p q t v=er):
  Calls Tryz.prog 175 #[.slice A n c,.agg #[Aa Ab p,Aa Ab q,Aa Ab t,Aa Ab v]] w fun e w'=>e= .returned (.tuple #[Aa Ab k,Aa Ab er])∧Below w.heap.size w w':=by
 subst h1 h4;exact Ai8 A n c p q t v l w h hc hn
theorem Ut(A:Option Addr)(n c:Nat)(p q t v i a b d g er:Int)(l:List UInt8)(w:World)(h:Cd w A n l)(hc:n≤c)(hn:n≤1099511627776)(h1:Ij l p q t v i=a)(h2:Ik l p q t v i=b)(h3:Ih l p q t v i=d)(h4:Il l p q t v i=g)(h5:Es l p q t v i=er):
  Calls Tryz.prog 176 #[.slice A n c,.agg #[Aa Ab p,Aa Ab q,Aa Ab t,Aa Ab v],Aa Ab i] w fun e w'=>e= .returned (.tuple #[.agg #[Aa Ab a,Aa Ab b,Aa Ab d,Aa Ab g],Aa Ab er])∧Below w.heap.size w w':=by
 subst h1 h2 h3 h4 h5;exact Aly A n c p q t v i l w h hc hn
theorem Ajc{l:List UInt8}{p q t:Int}{V:Nat}(h:Bs l p q t V=0):
  lsFrom l p q t V≤lsAt l p q t V∧lsAt l p q t V+(lsLen l p q t V*V+lsLen l p q t V*tgs t)=lsTo l p q t V∧lsTo l p q t V≤l.length∧(V=1∨V=2∨V=4∨V=8)∧(lsAt l p q t V:Int) % V=0∧K4 t=true:=by
 obtain⟨h1,_,h2,h3,_,_,_,_,h4⟩:=Y4 h;have hw:=By.1 h2;rw [Asv] at h3;have hT:lsTo l p q t V=lsAt l p q t V+lsLen l p q t V*(V+tgs t):=by
  unfold lsTo lsAt lsLen;rw [if_pos h,if_pos h,if_pos h];unfold K8;rw [Asv]
 have hF:lsFrom l p q t V≤lsAt l p q t V:=by
  unfold lsFrom lsAt;rw [if_pos h,if_pos h];exact Nat.sub_le _ _
 exact⟨hF,by rw [hT,Nat.mul_add],by rw [hT];exact h3,by omega,h4,h1⟩
end Go.Proofs.YtgbjodnegkbfoaaGreat
namespace Go.Proofs.YtgbjodnegkbfoaaGreat
open Go.Acc
structure H0(L:List UInt8)(s:Nat)(vs:List Bv)(v:Bv):Prop where
 w:Av (v.w:Int)=true
 typ:K4 (v.t:Int)=true
 md:(s+v.n) % v.w=0
 ah:aheadT (v.t:Int)*v.w≤s+v.n
 n1:0<D7 (v.t:Int)→D7 (v.t:Int)=(vs.length:Int)
 n2:¬0<D7 (v.t:Int)→loadU L (((s+v.n:Nat):Int)-(v.w:Int)) (v.w:Int)=vs.length
 sp:s+v.n+vs.length*(v.w+tgs (v.t:Int))≤L.length
 tags:Ce (v.t:Int)=true→At L (s+v.n+vs.length*v.w) (vs.map (C5 v.w))
 el:∀(i:Nat) y,vs[i]?=some y→At L (s+v.n+i*v.w) (Ai v.w (Ca v.w (v.n+i*v.w) y))∧Y9 v.w (v.n+i*v.w) y
theorem X5{w n:Nat}(hw:Av (w:Int)=true)(b:List UInt8)(k:Nat)(h:n=(An w b).length+k*w):n % w=0:=by
 have:=(Fc hw b).2.1;rw [h,Nat.add_mul_mod_self_right];exact this
theorem Dp.mod{l:List UInt8}{t:Nat}{len tags:Bool}{vs:List Bv}{v:Bv}(h:Dp l t len tags vs v):v.n % v.w=0:=by
 have hw:=h.width.2;obtain⟨b,m,rfl,rfl,_⟩:=h;obtain⟨w,hwd⟩:∃w,Bl b.length (if len=true then 1 else 0) none vs=w:=⟨_,rfl⟩;simp only [Bk,hwd] at hw⊢;refine X5 hw b (if len=true then 1 else 0) ?_;rw [Ass];cases len <;>simp [Au]
theorem Gq.mod{l:List UInt8}{k:Bv}{vs:List Bv}{v:Bv}(h:Gq l k vs v):v.n % v.w=0:=by
 have hw:=h.width.2;obtain⟨b,m,rfl,rfl,_⟩:=h;obtain⟨w,hwd⟩:∃w,Bl b.length 3 (some k) vs=w:=⟨_,rfl⟩;simp only [E7,hwd] at hw⊢;refine X5 hw b 3 ?_;simp only [Ass,Au];omega
theorem Qw{s n w:Nat}(hw:Av (w:Int)=true)(hs:s % 8=0)(h:n % w=0):(s+n) % w=0:=by
 rcases B5.1 hw with rfl|rfl|rfl|rfl <;>omega
theorem Ox{L:List UInt8}{a w u:Nat}(hw:Av (w:Int)=true)(h:At L a (Ai w u))(hu:u<2^(8*w)):loadU L (a:Int) (w:Int)=u:=by
 rw [h.load hw,F9,Nat.mod_eq_of_lt hu]
theorem Ab6:∀T∈ [9,10,11,12,14,36,16,17,19,20,22,23],K4 (T:Nat)=true∧Aw (T:Nat)=false:=by decide
theorem Apv:∀T∈ [10,11,12,14,36],D7 ((T:Nat):Int)=0∧aheadT ((T:Nat):Int)=1:=by decide
theorem Aq7:∀T∈ [16,17,19,20,22,23],aheadT ((T:Nat):Int)=0∧tgs ((T:Nat):Int)=0∧Ce ((T:Nat):Int)=false:=by decide
theorem Ab7:∀T∈ [11,12,14,36],tgs ((T:Nat):Int)=0∧Ce ((T:Nat):Int)=false:=by decide
theorem Ks{l:List UInt8}{T:Nat}{tags:Bool}{vs:List Bv}{v:Bv}(h:Dp l T true tags vs v)(hb:l.length<2^32)(x:List UInt8)(hx:x.length % 8=0)(hT:(T=10∧tags=true)∨((T=11∨T=12∨T=14∨T=36)∧tags=false)):
  H0 (x++l) x.length vs v:=by
 obtain⟨ht,hw⟩:=h.width;have hm:=h.mod;have hf:=h.facts hb x;obtain⟨c,hc,ha,hl⟩:=hf.len rfl;have h5:T∈ [10,11,12,14,36]:=by simp;omega
 obtain⟨m1,m2⟩:=Apv T h5;have hle:vs.length*v.w+vs.length*tgs (v.t:Int)≤vs.length*v.w+(if tags=true then vs.length else 0):=by
  rw [ht];rcases hT with⟨rfl,rfl⟩|⟨hT,rfl⟩
  ·have e:tgs ((10:Nat):Int)=1:=by decide
   rw [e];simp
  ·have:=(Ab7 T (by simp;omega)).1;rw [this];simp
 refine⟨hw,?_,Qw hw hx hm,?_,?_,?_,?_,?_,?_⟩
 ·rw [ht];exact(Ab6 T (by simp;omega)).1
 ·rw [ht,m2,hc];omega
 ·rw [ht,m1];intro h0;omega
 ·intro _;have e:((x.length+v.n:Nat):Int)-(v.w:Int)=((x.length+c:Nat):Int):=by omega
  rw [e];exact Ox hw ha hl
 ·rw [Nat.mul_add];have h1:=hf.le;cases tags with
  |false=>simp only [Bool.false_eq_true,if_false] at hle;omega
  |true=>
   have h2:=(hf.tags rfl).le;rw [List.length_map] at h2;simp only [if_true] at hle;omega
 ·rw [ht];rcases hT with⟨rfl,rfl⟩|⟨hT,rfl⟩
  ·intro _;have:=hf.tags rfl
   rwa [←Nat.add_assoc] at this
  ·rw [(Ab7 T (by simp;omega)).2];intro h;cases h
 ·intro i y hy;obtain⟨h1,h2⟩:=hf.el i y hy;rw [←Nat.add_assoc] at h1;exact⟨h1,h2⟩
theorem Aaf{l:List UInt8}{T:Nat}{vs:List Bv}{v:Bv}(h:Dp l T false false vs v)(hb:l.length<2^32)(x:List UInt8)(hx:x.length % 8=0)(hT:T=16∨T=17∨T=19∨T=20∨T=22∨T=23)(hn:D7 (T:Int)=(vs.length:Int)):
  H0 (x++l) x.length vs v:=by
 obtain⟨ht,hw⟩:=h.width;have hm:=h.mod;have hf:=h.facts hb x;have h5:T∈ [16,17,19,20,22,23]:=by simp;omega
 obtain⟨m1,m2,m3⟩:=Aq7 T h5;refine⟨hw,?_,Qw hw hx hm,?_,?_,?_,?_,?_,?_⟩
 ·rw [ht];exact(Ab6 T (by simp;omega)).1
 ·rw [ht,m1];omega
 ·rw [ht];intro _;exact hn
 ·rw [ht];intro h0;have hp:0<D7 (T:Int):=by
   rcases hT with rfl|rfl|rfl|rfl|rfl|rfl <;>decide
  exact absurd hp h0
 ·rw [ht,m2,Nat.add_zero,Nat.add_assoc];exact hf.le
 ·rw [ht,m3];intro h;cases h
 ·intro i y hy;obtain⟨h1,h2⟩:=hf.el i y hy;rw [←Nat.add_assoc] at h1;exact⟨h1,h2⟩
theorem Al6{l:List UInt8}{k:Bv}{vs:List Bv}{v:Bv}(h:Gq l k vs v)(hk:inl k.t=false)(hb:l.length<2^32)(x:List UInt8)(hx:x.length % 8=0):H0 (x++l) x.length vs v:=by
 obtain⟨ht,hw⟩:=h.width;have hm:=h.mod;have hf:=h.facts hk hb x;obtain⟨c,hc,_,_,_,_,ha,hl⟩:=hf.head;have m2:aheadT (9:Int)=3:=by decide
 have m1:D7 (9:Int)=0:=by decide
 have m3:tgs (9:Int)=1:=by decide
 refine⟨hw,?_,Qw hw hx hm,?_,?_,?_,?_,?_,?_⟩
 ·rw [ht];decide
 ·rw [ht];show aheadT (9:Int)*v.w≤_;rw [m2,hc];omega
 ·rw [ht];show 0<D7 (9:Int)→D7 (9:Int)=_;rw [m1];intro h0;omega
 ·intro _;have e:((x.length+v.n:Nat):Int)-(v.w:Int)=((x.length+(c+2*v.w):Nat):Int):=by omega
  rw [e];exact Ox hw ha hl
 ·rw [ht];show x.length+v.n+vs.length*(v.w+tgs (9:Int))≤_;rw [m3,Nat.mul_add];have h1:=hf.le;have h2:=hf.tags.le;rw [List.length_map] at h2;omega
 ·intro _;have:=hf.tags
  rwa [←Nat.add_assoc] at this
 ·intro i y hy;obtain⟨h1,h2⟩:=hf.el i y hy;rw [←Nat.add_assoc] at h1;exact⟨h1,h2⟩
structure Lf(L:List UInt8)(s:Nat)(v:Bv)(p q:Int):Prop where
 may:Bj L.length p q (v.t:Int) (v.w:Int)=0
 tgE:Bh L p q (v.t:Int) (v.w:Int)=0
 tg:Bb L p q (v.t:Int) (v.w:Int)=((s+v.n:Nat):Int)
theorem Lr{L:List UInt8}{s:Nat}{vs:List Bv}{v:Bv}{p q:Int}(h:H0 L s vs v)(r:Lf L s v p q):
  Bs L p q (v.t:Int) (v.w:Int)=0∧lsLen L p q (v.t:Int) (v.w:Int)=vs.length∧lsAt L p q (v.t:Int) (v.w:Int)=s+v.n:=by
 have hN:K7 L p q (v.t:Int) (v.w:Int)=vs.length:=by
  unfold K7;by_cases hm:0<D7 (v.t:Int)
  ·rw [if_pos hm,h.n1 hm];rfl
  ·rw [if_neg hm,r.tg];exact h.n2 hm
 have hE:Bs L p q (v.t:Int) (v.w:Int)=0:=by
  unfold Bs;rw [r.may,r.tgE,r.tg,h.typ,hN];have h1:=h.md;have h2:=h.ah;have h3:=h.sp;unfold K8;rw [if_neg (by simp),if_neg (by simp),if_neg (by simp),if_neg (by omega),Asv,Asv,if_neg (by omega),if_neg (by omega)]
 refine⟨hE,?_,?_⟩
 ·unfold lsLen;rw [if_pos hE,hN]
 ·unfold lsAt;rw [if_pos hE,r.tg];rfl
theorem Aa3{L:List UInt8}{s:Nat}{vs:List Bv}{v:Bv}{p q:Int}(h:H0 L s vs v)(r:Lf L s v p q){i:Nat}{y:Bv}(hy:vs[i]?=some y)(hl:Ce (v.t:Int)=true→Bc (y.t:Int)=true∧Av (y.w:Int)=true):
  Es L p q (v.t:Int) (v.w:Int) (i:Int)=0∧Ij L p q (v.t:Int) (v.w:Int) (i:Int)=((s+v.n+i*v.w:Nat):Int)∧Ik L p q (v.t:Int) (v.w:Int) (i:Int)=(v.w:Int)∧
   Ih L p q (v.t:Int) (v.w:Int) (i:Int)=(if Ce (v.t:Int)=true then(y.t:Int) else D4 (v.t:Int))∧Il L p q (v.t:Int) (v.w:Int) (i:Int)=(if Ce (v.t:Int)=true then(ownW v.w y:Int) else(v.w:Int)):=by
 obtain⟨e1,e2,e3⟩:=Lr h r;have hi:=(List.getElem?_eq_some_iff.1 hy).1;have htag:Ce (v.t:Int)=true→Mr L p q (v.t:Int) (v.w:Int) (i:Int)=C5 v.w y:=by
  intro ht;have ha:=h.tags ht;unfold Mr;rw [e3,e2,Asv,Asv,As0,ha.get (by simpa using hi),List.getElem?_map,hy];rfl
 have hun:Ce (v.t:Int)=true→Jl (C5 v.w y)=(y.t:Int)∧Kb (C5 v.w y)=(ownW v.w y:Int)∧Gk (C5 v.w y)=0:=by
  intro ht;obtain⟨g1,g2⟩:=hl ht;have how:Av (ownW v.w y:Int)=true:=by
   unfold ownW;split
   ·exact h.w
   ·exact g2
  exact Akf y.t (ownW v.w y) g1 how
 have hE:Es L p q (v.t:Int) (v.w:Int) (i:Int)=0:=by
  unfold Es;rw [e1,e2,if_neg (by simp),if_neg (by omega)];by_cases ht:Ce (v.t:Int)=true
  ·rw [if_pos ht,htag ht];exact(hun ht).2.2
  ·rw [if_neg ht]
 refine⟨hE,?_,?_,?_,?_⟩
 ·unfold Ij;rw [if_pos hE,e3,Asv,Asv];omega
 ·unfold Ik;rw [if_pos hE]
 ·unfold Ih;rw [if_pos hE];by_cases ht:Ce (v.t:Int)=true
  ·rw [if_pos ht,if_pos ht,htag ht];exact(hun ht).1
  ·rw [if_neg ht,if_neg ht]
 ·unfold Il;rw [if_pos hE];by_cases ht:Ce (v.t:Int)=true
  ·rw [if_pos ht,if_pos ht,htag ht];exact(hun ht).2.1
  ·rw [if_neg ht,if_neg ht]
theorem Aa5{n:Nat}(h:n=2∨n=3∨n=4):(D7 ((10+3*n:Nat):Int)=(n:Int)∧D7 ((11+3*n:Nat):Int)=(n:Int))∧(Ce ((10+3*n:Nat):Int)=false∧B9 (D4 ((10+3*n:Nat):Int))=3)∧(Ce ((11+3*n:Nat):Int)=false∧B9 (D4 ((11+3*n:Nat):Int))=4):=by
 rcases h with rfl|rfl|rfl <;>decide
theorem Aka{t:Tr}(h:Gw t):(∀c∈(Bf t).l,Rf c)∧(∀c∈(Bf t).l,Az (Bf t).k=0∨c.k=Az (Bf t).k)∧(Bf t).l.length=t.l.length:=by
 cases h with
 |mk h1 h2 h3 h4 hl=>
  rename_i k n u s ks l;simp only [Fi,Bool.and_eq_true,decide_eq_true_eq] at h1;obtain⟨⟨⟨_,glen⟩,_⟩,gp⟩:=h1;rw [Bf];by_cases hk:k=17
  ·rw [if_pos hk];have hp:=Fl (ks.zip (C3 l));have glen:ks.length=l.length:=glen hk;have hll:(C3 l).length=l.length:=by rw [Cx,List.length_map]
   refine⟨fun c hc=>?_,fun c _=> .inl ?_,?_⟩
   ·obtain⟨y,hy,rfl⟩:=List.mem_map.1 hc;have hy2:=(List.of_mem_zip (hp.mem_iff.1 hy)).2;rw [Cx] at hy2;obtain⟨z,hz,e⟩:=List.mem_map.1 hy2;rw [←e];exact Kp (hl z hz)
   ·show Az k=0;rw [hk];rfl
   ·show(List.map (·.2) (Ry (ks.zip (C3 l)))).length=l.length;rw [List.length_map,hp.length_eq,List.length_zip];omega
  ·rw [if_neg hk];refine⟨fun c hc=>?_,fun c hc=>?_,?_⟩
   ·have hc:c∈C3 l:=hc;rw [Cx] at hc;obtain⟨z,hz,e⟩:=List.mem_map.1 hc;rw [←e];exact Kp (hl z hz)
   ·have hc:c∈C3 l:=hc;rw [Cx] at hc;obtain⟨z,hz,e⟩:=List.mem_map.1 hc;rw [←e,Abx];exact of_decide_eq_true (List.all_eq_true.1 gp z hz)
   ·show(C3 l).length=l.length;rw [Cx,List.length_map]
end Go.Proofs.YtgbjodnegkbfoaaGreat
