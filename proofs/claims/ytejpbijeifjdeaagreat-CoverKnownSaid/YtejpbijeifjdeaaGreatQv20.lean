/- Parts of the proof. -/
import Derived.Test.YtejpbijeifjdeaaGreatQv19
set_option maxHeartbeats 2000000
set_option maxRecDepth 100000
open Go.Value renaming int→Aa
open Go.IntKind renaming i64→Ab
open Nat renaming le_refl→Ae,le_succ→Aj
open Go.RowKit.Below renaming refl→Af
open List renaming getElem?_eq_getElem→Ai,length_take→Au,getD_eq_getElem?_getD→Ay
open Int renaming toNat_natCast→Ao
open Go.Proofs.Tryz
open Go.Proofs.Tryz renaming prog→Ad
namespace Go.Proofs.YtejpbijeifjdeaaGreat
open Go.RowKit Go.Acc
variable {w w':World}{l:List UInt8}{p q t v:Int}{a k:Nat}
theorem B9{B:Nat}{a:World}(g:Nat)(h:Below B a w)(hg:B≤g)(v0 v1 v2 v3:Value):Below B a ((((w.setCell ⟨g,0,none⟩ v0).setCell ⟨g,1,none⟩ v1).setCell ⟨g,2,none⟩ v2).setCell ⟨g,3,none⟩ v3):=
 (((h.setCell hg _).setCell hg _).setCell hg _).setCell hg _
theorem Dx{q:Addr}{g:Nat}{v a b c d:Value}(h:w.cell? q=some v)(hne:q.block≠g):((((w.setCell ⟨g,0,none⟩ a).setCell ⟨g,1,none⟩ b).setCell ⟨g,2,none⟩ c).setCell ⟨g,3,none⟩ d).cell? q=some v:=
 Tz (Tz (Tz (Tz h hne) hne) hne) hne
theorem sC(A:Option Addr)(n c:Nat)(p q t v i:Int)(l:List UInt8)(w:World)(h:B4 w A n l)(hc:n≤c)(hn:n≤1099511627776):
  Calls Ad 155 #[.slice A n c,.agg (Ab9 p q t v),Aa Ab i] w (fC w l p q t v i):=by
 have bl:=h.1;subst bl;have M:=Hd ((h.alloc (.cells (Ab9 p q t v) 70)).alloc (.cells (Ab9 0 0 0 0) 70));have Q:=Hd (((Af w.heap.size w).alloc (Ae _) (.cells (Ab9 p q t v) 70)).alloc (by simp) (.cells (Ab9 0 0 0 0) 70));have m:=Hd ((Bb.new w 70 (Ab9 p q t v)).alloc (.cells (Ab9 0 0 0 0) 70));have k:=Hd (Bb.new_ (w:=w.alloc (.cells (Ab9 p q t v) 70)) (g:=w.heap.size+1) (by simp) 70 (Ab9 0 0 0 0));clear h;go_enter func155,ntmps155;go_wp2_with fail;go_at_call 251;refine(P4 A _ c p q t v l _ M.o hc hn).mono ?_;generalize (w.alloc (.cells (Ab9 p q t v) 70)).alloc (.cells (Ab9 0 0 0 0) 70)=wB at M Q m k⊢;intro e j ae;obtain⟨S,a0,a1,a2,a3,rfl,hS,bj,hb⟩:=T0 ae;have bo:=fun(W:World) (p:Addr)=>run_store Ad W p S .plain hS
 obtain⟨O,bm⟩:∃x,lsFrom l p q t v=x:=⟨_,rfl⟩;obtain⟨na,az⟩:∃x,lsAt l p q t v=x:=⟨_,rfl⟩;obtain⟨P,bn⟩:∃x,lsTo l p q t v=x:=⟨_,rfl⟩;obtain⟨nl,a4⟩:∃x,lsLen l p q t v=x:=⟨_,rfl⟩;rw [bm,az,bn,a4];have ak:=Hd az;have Z:=Hd a4;clear ae bm az bn a4;have r:=Hd (Bb.new j 279 #[S,Aa Ab a0,Aa Ab a1,Aa Ab a2,Aa Ab a3,Aa Ab O,Aa Ab na,Aa Ab P,Aa Ab nl]);have b2:w.heap.size+1<j.heap.size:=by have:=k.o.lt;have:=hb.size;omega
 replace M:=Hd ((M.o.pure hb).alloc (.cells #[S,Aa Ab a0,Aa Ab a1,Aa Ab a2,Aa Ab a3,Aa Ab O,Aa Ab na,Aa Ab P,Aa Ab nl] 279));replace m:=Hd ((m.o.pure hb).alloc (.cells #[S,Aa Ab a0,Aa Ab a1,Aa Ab a2,Aa Ab a3,Aa Ab O,Aa Ab na,Aa Ab P,Aa Ab nl] 279));replace k:=Hd ((k.o.pure hb).alloc (.cells #[S,Aa Ab a0,Aa Ab a1,Aa Ab a2,Aa Ab a3,Aa Ab O,Aa Ab na,Aa Ab P,Aa Ab nl] 279));replace Q:=Hd ((A6 Q.o hb).alloc (A6 Q.o hb).size (.cells #[S,Aa Ab a0,Aa Ab a1,Aa Ab a2,Aa Ab a3,Aa Ab O,Aa Ab na,Aa Ab P,Aa Ab nl] 279));have aq:=Hd bj;have bv:j.heap.size<(j.alloc (.cells #[S,Aa Ab a0,Aa Ab a1,Aa Ab a2,Aa Ab a3,Aa Ab O,Aa Ab na,Aa Ab P,Aa Ab nl] 279)).heap.size:=r.o.lt;clear hb bj hS;go_upto_region 2 with fail
 generalize j.alloc (.cells #[S,Aa Ab a0,Aa Ab a1,Aa Ab a2,Aa Ab a3,Aa Ab O,Aa Ab na,Aa Ab P,Aa Ab nl] 279)=w2 at r M m k Q bv⊢;clear bo;by_cases he:Cp l p q t v=0
 ·obtain⟨rfl,e0,e1,e2,e3⟩:=aq.o he;obtain rfl:p=a0:=e0.symm;obtain rfl:q=a1:=e1.symm;obtain rfl:t=a2:=e2.symm;obtain rfl:v=a3:=e3.symm;have a5:=Sf he;have aj:=Hd he;rw [he];clear aq he;by_cases N:i<0
  ·have Y:=Hd (show Fz l p q t v i=6 by unfold Fz;rw [if_neg (by rw [aj.o];decide),if_pos (.inl N)]);have HN:=Hd (show(6:Int)≠0 by decide);have hd:decide (i<0)=true:=decide_eq_true N;clear N a5;obtain ⟨r0,r1,r2,r3⟩:=k.o.c4;obtain ⟨f0,f1,f2,f3⟩:=k.o.f4;go_wp2;refine bodyPost_ret (v:= .tuple #[.agg (Ab9 0 0 0 0),Aa Ab 6]) (by simp [results,results155,go_sem,r0,r1,r2,r3]) rfl ?_;exact Lr Y.o HN.o ((((Q.o.setCell (Aj _) _).setCell (Aj _) _).setCell (Aj _) _).setCell (Aj _) _)
  ·have bu:decide (i<0)=false:=decide_eq_false N;by_cases an:(nl:Int)≤i
   ·have Y:=Hd (show Fz l p q t v i=6 by unfold Fz;rw [if_neg (by rw [aj.o];decide),Z.o,if_pos (.inr an)]);have HN:=Hd (show(6:Int)≠0 by decide);have hd:decide ((nl:Int)≤i)=true:=decide_eq_true an;clear N a5 an;have u:_=some (Aa Ab nl):=r.o.cell 8;obtain ⟨r0,r1,r2,r3⟩:=k.o.c4;obtain ⟨f0,f1,f2,f3⟩:=k.o.f4;go_wp2;refine bodyPost_ret (v:= .tuple #[.agg (Ab9 0 0 0 0),Aa Ab 6]) (by simp [results,results155,go_sem,r0,r1,r2,r3]) rfl ?_;exact Lr Y.o HN.o ((((Q.o.setCell (Aj _) _).setCell (Aj _) _).setCell (Aj _) _).setCell (Aj _) _)
   ·obtain⟨hL,hT,hW,ax,_,_,_,_,_⟩:=a5;have v1:=B6.1 hW;obtain⟨V,rfl⟩:∃V:Nat,v=V:=⟨v.toNat,by omega⟩;obtain⟨I,rfl⟩:∃I:Nat,i=I:=⟨i.toNat,by omega⟩;rw [ak.o,Z.o,Ao] at ax;have hI:I<nl:=by omega
    have hd:decide (nl≤I)=false:=decide_eq_false (by omega);have s:=gO hT;obtain⟨a,F,tg,ap⟩:=Aac hL hT;rw [ap] at s;have a6:=Ez.1 hT;have cd:=a6.1;have b3:=a6.2;obtain⟨X,hX⟩:∃X,I*V=X:=⟨_,rfl⟩;obtain⟨K,hK⟩:∃K,nl*V=K:=⟨_,rfl⟩;have cb:X+V≤K:=by
     rw [←hX,←hK];have:=Nat.mul_le_mul_right V (show I+1≤nl by omega);rw [Nat.succ_mul] at this;exact this
    have ad:nl*(V+tgs t)=K+nl*tgs t:=by rw [Nat.mul_add,hK]
    rw [ad] at ax;have aa:=Hd hX;have ar:=Hd hK;have ca:V≤8:=by omega
    clear N bu ap an hX hK hL hT hW v1 a6 ad;cases hTg:Dk t with
    |true=>
     rw [hTg] at s;rw [show tgs t=1 by unfold tgs;rw [hTg];rfl,Nat.mul_one] at ax;replace s:∀W,(Instr.index 286 (.agg K2) (Aa Ab t)).run Ad W= .ok (.agg #[a,F,.func (.func 312) #[] #[],tg]) W:=s;have bk:=cW a F (.func (.func 312) #[] #[]) tg;have L:=Hd hTg;clear hTg;have ay:na+K+I<l.length:=by omega
     obtain⟨c0,bi⟩:∃c0,l[na+K+I]=c0:=⟨_,rfl⟩;have ab:l[na+K+I]?=some c0:=by rw [Ai ay,bi]
     have hB:Qk l p q t V I=c0:=by
      unfold Qk;rw [ak.o,Z.o,Ao,Ao,ar.o,Ay,ab];rfl
     have au:=Hd hB;have ao:=Hd ab;have bf:I≤nl:=by omega
     have bg:¬((I:Int)<0∨(nl:Int)≤I):=by omega
     have a8:=Hd (show Fz l p q t V I=Fq c0 by unfold Fz;rw [if_neg (by rw [aj.o];decide),Z.o,if_neg bg,L.o,au.o];rfl);clear hB ab bi bg;have y:=Be m.o;obtain ⟨z,B,C,D,E,G,H,J,u⟩:=r.o.c9;have am:w.heap.size≠w.heap.size+1:=by omega
     have b:j.heap.size≠w.heap.size+1:=by omega
     by_cases hu:Fq c0=0
     ·have HU:=Hd hu;have av:=Hd (show dD na X V c0=_ from if_pos hu);have Y:=Hd (a8.o.trans hu);clear hu;go_wp2_with fail;go_region_held3 (fun w'=>w'.cell? ⟨w.heap.size,2,none⟩=some (Aa Ab t)∧w'.cell? ⟨j.heap.size,0,none⟩=some (.slice A l.length c)∧w'.cell? ⟨j.heap.size,1,none⟩=some (Aa Ab p)∧w'.cell? ⟨j.heap.size,2,none⟩=some (Aa Ab q)∧w'.cell? ⟨j.heap.size,3,none⟩=some (Aa Ab t)∧w'.cell? ⟨j.heap.size,4,none⟩=some (Aa Ab V)∧w'.cell? ⟨j.heap.size,5,none⟩=some (Aa Ab O)∧w'.cell? ⟨j.heap.size,6,none⟩=some (Aa Ab na)∧w'.cell? ⟨j.heap.size,7,none⟩=some (Aa Ab P)∧w'.cell? ⟨j.heap.size,8,none⟩=some (Aa Ab nl)) (first|with_reducible exact⟨y,z,B,C,D,E,G,H,J,u⟩|with_reducible exact⟨Bw y,Bw z,Bw B,Bw C,Bw D,Bw E,Bw G,Bw H,Bw J,Bw u⟩|with_reducible exact⟨Dx y am,Dx z b,Dx B b,Dx C b,Dx D b,Dx E b,Dx G b,Dx H b,Dx J b,Dx u b⟩)
       (first
        |(go_at_call 252;(with_reducible refine(Ll _).mono ?_);rintro e w5 ⟨rfl,d⟩;have R:=Hd d;replace r:=Hd (r.o.drew.pure d);replace m:=Hd (m.o.drew.pure d);replace k:=Hd (k.o.drew.pure d);replace M:=Hd ((M4 M.o).pure d);clear d y z B C D E G H J u;have y:=Be m.o;obtain ⟨z,B,C,D,E,G,H,J,u⟩:=r.o.c9)
        |(go_at_call 312;((with_reducible refine(S7 A _ c p q t V O na P nl I X K l c0 _ M.o hn aa.o ar.o bf ay ao.o).mono ?_);rw [av.o,HU.o]);rintro e w6 ⟨rfl,f⟩;have T:=Hd f;replace r:=Hd (r.o.pure f);replace m:=Hd (m.o.pure f);replace k:=Hd (k.o.pure f);clear f y z B C D E G H J u;have y:=Be m.o;obtain ⟨z,B,C,D,E,G,H,J,u⟩:=r.o.c9;obtain ⟨r0,r1,r2,r3⟩:=k.o.c4;obtain ⟨f0,f1,f2⟩:=k.o.f3;have f3:=k.o.frozen 3))
      go_wp2;refine bodyPost_ret (v:= .tuple #[.agg #[Aa Ab ((na:Int)+X),Aa Ab V,Aa Ab (I7 c0),Aa Ab (I8 c0)],Aa Ab 0]) (by simp [results,results155,go_sem,r0,r1,r2,r3]) rfl ?_;have U:=Hd (B5 (A6 Q.o.drew R.o) T.o);exact Sa Y.o (by rw [ak.o,Ao,Ao,aa.o]) rfl (by rw [L.o];exact(if_pos rfl).trans (by rw [au.o])) (by rw [L.o];exact(if_pos rfl).trans (by rw [au.o])) (B9 _ U.o (Aj _) _ _ _ _)
     ·have HU:=Hd hu;have av:=Hd (show dD na X V c0=_ from if_neg hu);have Y:=a8;clear hu;go_wp2_with fail;go_region_held3 (fun w'=>w'.cell? ⟨w.heap.size,2,none⟩=some (Aa Ab t)∧w'.cell? ⟨j.heap.size,0,none⟩=some (.slice A l.length c)∧w'.cell? ⟨j.heap.size,1,none⟩=some (Aa Ab p)∧w'.cell? ⟨j.heap.size,2,none⟩=some (Aa Ab q)∧w'.cell? ⟨j.heap.size,3,none⟩=some (Aa Ab t)∧w'.cell? ⟨j.heap.size,4,none⟩=some (Aa Ab V)∧w'.cell? ⟨j.heap.size,5,none⟩=some (Aa Ab O)∧w'.cell? ⟨j.heap.size,6,none⟩=some (Aa Ab na)∧w'.cell? ⟨j.heap.size,7,none⟩=some (Aa Ab P)∧w'.cell? ⟨j.heap.size,8,none⟩=some (Aa Ab nl)) (first|with_reducible exact⟨y,z,B,C,D,E,G,H,J,u⟩|with_reducible exact⟨Bw y,Bw z,Bw B,Bw C,Bw D,Bw E,Bw G,Bw H,Bw J,Bw u⟩|with_reducible exact⟨Dx y am,Dx z b,Dx B b,Dx C b,Dx D b,Dx E b,Dx G b,Dx H b,Dx J b,Dx u b⟩)
       (first
        |(go_at_call 252;(with_reducible refine(Ll _).mono ?_);rintro e w5 ⟨rfl,d⟩;have R:=Hd d;replace r:=Hd (r.o.drew.pure d);replace m:=Hd (m.o.drew.pure d);replace k:=Hd (k.o.drew.pure d);replace M:=Hd ((M4 M.o).pure d);clear d y z B C D E G H J u;have y:=Be m.o;obtain ⟨z,B,C,D,E,G,H,J,u⟩:=r.o.c9)
        |(go_at_call 312;((with_reducible refine(S7 A _ c p q t V O na P nl I X K l c0 _ M.o hn aa.o ar.o bf ay ao.o).mono ?_);rw [av.o]);rintro e w6 ⟨rfl,f⟩;have T:=Hd f;replace r:=Hd (r.o.pure f);replace m:=Hd (m.o.pure f);replace k:=Hd (k.o.pure f);clear f y z B C D E G H J u;have y:=Be m.o;obtain ⟨z,B,C,D,E,G,H,J,u⟩:=r.o.c9;obtain ⟨r0,r1,r2,r3⟩:=k.o.c4;obtain ⟨f0,f1,f2⟩:=k.o.f3;have f3:=k.o.frozen 3))
      go_wp2;refine bodyPost_ret (v:= .tuple #[.agg (Ab9 0 0 0 0),Aa Ab (Fq c0)]) (by simp [results,results155,go_sem,r0,r1,r2,r3]) rfl ?_;have U:=Hd (B5 (A6 Q.o.drew R.o) T.o);exact Lr Y.o HU.o (B9 _ U.o (Aj _) _ _ _ _)
    |false=>
     rw [hTg] at s;replace s:∀W,(Instr.index 286 (.agg K2) (Aa Ab t)).run Ad W= .ok (.agg #[a,F,.func (.func 310) #[] #[],tg]) W:=s;have bk:=cW a F (.func (.func 310) #[] #[]) tg;have L:=Hd hTg;clear hTg;have Y:=Hd (show Fz l p q t V I=0 by unfold Fz;rw [if_neg (by rw [aj.o];decide),Z.o,if_neg (by omega),L.o];rfl);have bh:na+X≤1099511627776:=by omega
     have y:=Be m.o;obtain ⟨z,B,C,D,E,G,H,J,u⟩:=r.o.c9;have am:w.heap.size≠w.heap.size+1:=by omega
     have b:j.heap.size≠w.heap.size+1:=by omega
     go_wp2_with fail;go_region_held3 (fun w'=>w'.cell? ⟨w.heap.size,2,none⟩=some (Aa Ab t)∧w'.cell? ⟨j.heap.size,0,none⟩=some (.slice A l.length c)∧w'.cell? ⟨j.heap.size,1,none⟩=some (Aa Ab p)∧w'.cell? ⟨j.heap.size,2,none⟩=some (Aa Ab q)∧w'.cell? ⟨j.heap.size,3,none⟩=some (Aa Ab t)∧w'.cell? ⟨j.heap.size,4,none⟩=some (Aa Ab V)∧w'.cell? ⟨j.heap.size,5,none⟩=some (Aa Ab O)∧w'.cell? ⟨j.heap.size,6,none⟩=some (Aa Ab na)∧w'.cell? ⟨j.heap.size,7,none⟩=some (Aa Ab P)∧w'.cell? ⟨j.heap.size,8,none⟩=some (Aa Ab nl)) (first|with_reducible exact⟨y,z,B,C,D,E,G,H,J,u⟩|with_reducible exact⟨Bw y,Bw z,Bw B,Bw C,Bw D,Bw E,Bw G,Bw H,Bw J,Bw u⟩|with_reducible exact⟨Dx y am,Dx z b,Dx B b,Dx C b,Dx D b,Dx E b,Dx G b,Dx H b,Dx J b,Dx u b⟩)
      (first
       |(go_at_call 252;(with_reducible refine(Ll _).mono ?_);rintro e w5 ⟨rfl,d⟩;have R:=Hd d;replace r:=Hd (r.o.drew.pure d);replace m:=Hd (m.o.drew.pure d);replace k:=Hd (k.o.drew.pure d);replace M:=Hd ((M4 M.o).pure d);clear d y z B C D E G H J u;have y:=Be m.o;obtain ⟨z,B,C,D,E,G,H,J,u⟩:=r.o.c9)
       |(go_at_call 310;(with_reducible refine(eN A _ c p q t V O na P nl I X _ aa.o bh).mono ?_);rintro e w6 ⟨rfl,f⟩;have T:=Hd f;replace r:=Hd (r.o.pure f);replace m:=Hd (m.o.pure f);replace k:=Hd (k.o.pure f);clear f y z B C D E G H J u;have y:=Be m.o;obtain ⟨z,B,C,D,E,G,H,J,u⟩:=r.o.c9;obtain ⟨r0,r1,r2,r3⟩:=k.o.c4;obtain ⟨f0,f1,f2⟩:=k.o.f3;have f3:=k.o.frozen 3))
     go_wp2;refine bodyPost_ret (v:= .tuple #[.agg #[Aa Ab ((na:Int)+X),Aa Ab V,Aa Ab (Fh t),Aa Ab V],Aa Ab 0]) (by simp [results,results155,go_sem,r0,r1,r2,r3]) rfl ?_;have U:=Hd (B5 (A6 Q.o.drew R.o) T.o);exact Sa Y.o (by rw [ak.o,Ao,Ao,aa.o]) rfl (by rw [L.o];exact if_neg (by decide)) (by rw [L.o];exact if_neg (by decide)) (B9 _ U.o (Aj _) _ _ _ _)
 ·have Y:=Hd (show Fz l p q t v i=Cp l p q t v from if_pos he);have HN:=Hd he;have cc:(Cp l p q t v != 0)=true:=by simpa using he
  clear aq he;obtain ⟨r0,r1,r2,r3⟩:=k.o.c4;obtain ⟨f0,f1,f2,f3⟩:=k.o.f4;go_wp2;refine bodyPost_ret (v:= .tuple #[.agg (Ab9 0 0 0 0),Aa Ab (Cp l p q t v)]) (by simp [results,results155,go_sem,r0,r1,r2,r3]) rfl ?_;exact Lr Y.o HN.o ((((Q.o.setCell (Aj _) _).setCell (Aj _) _).setCell (Aj _) _).setCell (Aj _) _)
theorem tF(A:Option Addr)(n c:Nat)(p q t v i:Int)(l:List UInt8)(w:World)(h:B4 w A n l)(hn:n≤1099511627776):
  Calls Ad 104 #[.slice A n c,.agg (Ab9 p q t v),Aa Ab i] w (fC w l p q t v i):=by
 have af:=h.1;subst af;have J:=Hd ((h.alloc (.cells (Ab9 p q t v) 70)).alloc (.cells (Ab9 0 0 0 0) 70));have f:=Hd (((Af w.heap.size w).alloc (Ae _) (.cells (Ab9 p q t v) 70)).alloc (by simp) (.cells (Ab9 0 0 0 0) 70));have u:=Hd ((Bb.new w 70 (Ab9 p q t v)).alloc (.cells (Ab9 0 0 0 0) 70));have b:=Hd (Bb.new_ (w:=w.alloc (.cells (Ab9 p q t v) 70)) (g:=w.heap.size+1) (by simp) 70 (Ab9 0 0 0 0));clear h;go_enter func104,ntmps104;go_wp2_with fail;go_at_call 183;refine(Qi A _ c p q t v l _ J.o hn).mono ?_;generalize (w.alloc (.cells (Ab9 p q t v) 70)).alloc (.cells (Ab9 0 0 0 0) 70)=wB at J f u b⊢;unfold Xo;rintro e Y ⟨rfl,W⟩;obtain⟨nf,ag⟩:∃x,lsFrom l p q t v=x:=⟨_,rfl⟩;obtain⟨na,R⟩:∃x,lsAt l p q t v=x:=⟨_,rfl⟩;obtain⟨nt,ah⟩:∃x,lsTo l p q t v=x:=⟨_,rfl⟩;obtain⟨nl,S⟩:∃x,lsLen l p q t v=x:=⟨_,rfl⟩;rw [ag,R,ah,S];have F:=Hd R;have m:=Hd S;have ai:w.heap.size+1<Y.heap.size:=by have:=b.o.lt;have:=W.size;omega
 replace J:=Hd (J.o.pure W);replace u:=Hd (u.o.pure W);replace b:=Hd (b.o.pure W);replace f:=Hd (A6 f.o W);clear W ag R ah S;by_cases L:Cp l p q t v=0
 ·have T:=Sf L;have E:=Hd L;rw [L];clear L;by_cases j:i<0
  ·have k:=Hd (show Fz l p q t v i=6 by unfold Fz;rw [if_neg (by rw [E.o];decide),if_pos (.inl j)]);have s:=Hd (show(6:Int)≠0 by decide);have hd:decide (i<0)=true:=decide_eq_true j;clear j T;obtain ⟨y,z,B,C⟩:=b.o.c4;obtain ⟨f0,f1,f2,f3⟩:=b.o.f4;go_wp2;refine bodyPost_ret (v:= .tuple #[.agg (Ab9 0 0 0 0),Aa Ab 6]) (by simp [results,results104,go_sem,y,z,B,C]) rfl ?_;exact Lr k.o s.o (B9 _ f.o (Aj _) _ _ _ _)
  ·have aw:decide (i<0)=false:=decide_eq_false j;by_cases H:(nl:Int)≤i
   ·have k:=Hd (show Fz l p q t v i=6 by unfold Fz;rw [if_neg (by rw [E.o];decide),m.o,if_pos (.inr H)]);have s:=Hd (show(6:Int)≠0 by decide);have hd:decide ((nl:Int)≤i)=true:=decide_eq_true H;clear j T H;obtain ⟨y,z,B,C⟩:=b.o.c4;obtain ⟨f0,f1,f2,f3⟩:=b.o.f4;go_wp2;refine bodyPost_ret (v:= .tuple #[.agg (Ab9 0 0 0 0),Aa Ab 6]) (by simp [results,results104,go_sem,y,z,B,C]) rfl ?_;exact Lr k.o s.o (B9 _ f.o (Aj _) _ _ _ _)
   ·obtain⟨hL,hT,hW,d,_,_,_,_,_⟩:=T;have v1:=B6.1 hW;obtain⟨V,rfl⟩:∃V:Nat,v=V:=⟨v.toNat,by omega⟩;obtain⟨I,rfl⟩:∃I:Nat,i=I:=⟨i.toNat,by omega⟩;rw [F.o,m.o,Ao] at d;have hI:I<nl:=by omega
    have hd:decide (nl≤I)=false:=decide_eq_false (by omega);obtain⟨X,hX⟩:∃X,I*V=X:=⟨_,rfl⟩;obtain⟨K,hK⟩:∃K,nl*V=K:=⟨_,rfl⟩;have G:X+V≤K:=by
     rw [←hX,←hK];have:=Nat.mul_le_mul_right V (show I+1≤nl by omega);rw [Nat.succ_mul] at this;exact this
    have r:nl*(V+tgs t)=K+nl*tgs t:=by rw [Nat.mul_add,hK]
    rw [r] at d;have aa:=Hd hX;have aq:=Hd hK;have ar:=Hd (Vr hX (by omega));have a9:=Hd (Vr hK (by omega));have be:V≤8:=by omega
    clear j aw H hX hK hL hT hW v1 r;have x2:_=some (Aa Ab t):=u.o.cell 2;have x3:_=some (Aa Ab V):=u.o.cell 3;have a5:na+X≤1099511627776:=by omega
    have bj:¬(w.heap.size+1=Y.heap.size):=by omega
    have bk:¬(w.heap.size=Y.heap.size):=by omega
    go_upto_region 6 with fail
    have ap:=Hd d;have a8:=Hd hd;have av:=Hd G;have D:=Hd (show w.heap.size≤Y.heap.size by omega);have ay:=ar.o;clear hd d G ai;replace u:=Hd (u.o.alloc (.cells #[Aa Ab ((na:Int)+X),Aa Ab V,Aa Ab 0,Aa Ab 0] 70));replace b:=Hd (b.o.alloc (.cells #[Aa Ab ((na:Int)+X),Aa Ab V,Aa Ab 0,Aa Ab 0] 70));replace J:=Hd (J.o.alloc (.cells #[Aa Ab ((na:Int)+X),Aa Ab V,Aa Ab 0,Aa Ab 0] 70));replace f:=Hd (f.o.alloc f.o.size (.cells #[Aa Ab ((na:Int)+X),Aa Ab V,Aa Ab 0,Aa Ab 0] 70));have s:=Hd (Bb.new Y 70 #[Aa Ab ((na:Int)+X),Aa Ab V,Aa Ab 0,Aa Ab 0]);go_upto_region 7 with fail
    clear ay x2 x3;generalize Y.alloc (.cells #[Aa Ab ((na:Int)+X),Aa Ab V,Aa Ab 0,Aa Ab 0] 70)=w2 at u b J f s⊢;have x2:_=some (Aa Ab t):=u.o.cell 2;have x3:_=some (Aa Ab V):=u.o.cell 3;obtain ⟨n0,n1,n2,n3⟩:=s.o.c4;have m2:=s.o.frozen 2;have m3:=s.o.frozen 3;cases hTg:Dk t with
    |true=>
     have a:=Hd hTg;have d:=ap.o;have G:=av.o;rw [show tgs t=1 by unfold tgs;rw [hTg];rfl,Nat.mul_one] at d;clear hTg;have Q:na+K+I<l.length:=by omega
     obtain rfl:nl*V=K:=aq.o;obtain⟨c0,O⟩:∃c0,l[na+nl*V+I]=c0:=⟨_,rfl⟩;have M:l[na+nl*V+I]?=some c0:=by rw [Ai Q,O]
     have hB:Qk l p q t V I=c0:=by
      unfold Qk;rw [F.o,m.o,Ao,Ao,Ay,M];rfl
     have N:=Hd hB;have ab:¬((I:Int)<0∨(nl:Int)≤I):=by omega
     have Z:=Hd (show Fz l p q t V I=Fq c0 by unfold Fz;rw [if_neg (by rw [E.o];decide),m.o,if_neg ab,a.o,N.o];rfl);have bl:na+nl*V+I<l.length:=Q;obtain⟨g,bm,hA,ax,P⟩:=Ep J.o Q;have ae:l[na+nl*V+I]=c0:=O;rw [ae] at P;have au:=Hd (show((na:Int)+(nl:Int)*(V:Int)+(I:Int)).toNat=na+nl*V+I by rw [←Int.natCast_mul];omega);have bf:(nl:Int)*(V:Int)≤1099511627776:=by rw [←Int.natCast_mul];omega
     have bg:0≤(nl:Int)*(V:Int):=by rw [←Int.natCast_mul];omega
     have bh:(na:Int)+(nl:Int)*(V:Int)+(I:Int)≤1099511627776:=by rw [←Int.natCast_mul];omega
     have bi:(na:Int)+(nl:Int)*(V:Int)+(I:Int)<l.length:=by rw [←Int.natCast_mul];omega
     clear hB M O ab ae ax d G;go_wp2_with fail;go_at_call 184;refine(D0 t _).mono ?_;rw [a.o];rintro e w9 ⟨rfl,rfl⟩;subst hA;have a0:=au.o;go_wp2_with fail;clear a0;go_at_call 96;refine(Rx c0 _).mono ?_;rintro e w9 ⟨rfl,rfl⟩;obtain ⟨y,z,B,C⟩:=b.o.c4;obtain ⟨f0,f1,f2,f3⟩:=b.o.f4;by_cases U:Fq c0=0
     ·have HU:=Hd U;have k:=Hd (Z.o.trans U);rw [U];clear U;go_wp2;refine bodyPost_ret (v:= .tuple #[.agg #[Aa Ab ((na:Int)+X),Aa Ab V,Aa Ab (I7 c0),Aa Ab (I8 c0)],Aa Ab 0]) (by simp [results,results104,go_sem,y,z,B,C]) rfl ?_;exact Sa k.o (by rw [F.o,Ao,Ao,aa.o]) rfl (by rw [a.o];exact(if_pos rfl).trans (by rw [N.o])) (by rw [a.o];exact(if_pos rfl).trans (by rw [N.o])) (B9 _ ((f.o.setCell D.o _).setCell D.o _) (Aj _) _ _ _ _)
     ·have HU:=Hd U;have k:=Z;have az:(Fq c0 != 0)=true:=by simpa using U
      clear U;go_wp2;refine bodyPost_ret (v:= .tuple #[.agg (Ab9 0 0 0 0),Aa Ab (Fq c0)]) (by simp [results,results104,go_sem,y,z,B,C]) rfl ?_;exact Lr k.o HU.o (B9 _ f.o (Aj _) _ _ _ _)
    |false=>
     have a:=Hd hTg;clear hTg;have k:=Hd (show Fz l p q t V I=0 by unfold Fz;rw [if_neg (by rw [E.o];decide),m.o,if_neg (by omega),a.o];rfl);go_wp2_with fail;go_at_call 184;refine(D0 t _).mono ?_;rw [a.o];rintro e w9 ⟨rfl,rfl⟩;go_wp2_with fail;go_at_call 185;refine(He t _).mono ?_;rintro e w9 ⟨rfl,rfl⟩;obtain ⟨y,z,B,C⟩:=b.o.c4;obtain ⟨f0,f1,f2,f3⟩:=b.o.f4;go_wp2;refine bodyPost_ret (v:= .tuple #[.agg #[Aa Ab ((na:Int)+X),Aa Ab V,Aa Ab (Fh t),Aa Ab V],Aa Ab 0]) (by simp [results,results104,go_sem,y,z,B,C]) rfl ?_;exact Sa k.o (by rw [F.o,Ao,Ao,aa.o]) rfl (by rw [a.o];exact if_neg (by decide)) (by rw [a.o];exact if_neg (by decide)) (B9 _ ((f.o.setCell D.o _).setCell D.o _) (Aj _) _ _ _ _)
 ·have k:=Hd (show Fz l p q t v i=Cp l p q t v from if_pos L);have s:=Hd L;have az:(Cp l p q t v != 0)=true:=by simpa using L
  clear L;obtain ⟨y,z,B,C⟩:=b.o.c4;obtain ⟨f0,f1,f2,f3⟩:=b.o.f4;go_wp2;refine bodyPost_ret (v:= .tuple #[.agg (Ab9 0 0 0 0),Aa Ab (Cp l p q t v)]) (by simp [results,results104,go_sem,y,z,B,C]) rfl ?_;exact Lr k.o s.o (B9 _ f.o (Aj _) _ _ _ _)
theorem sI(A:Option Addr)(n c:Nat)(p q t v f a o er:Int)(l:List UInt8)(w:World)(h:B4 w A n l)(hc:n≤c)(hn:n≤1099511627776)(h1:(lsFrom l p q t v:Int)=f)(h2:(lsAt l p q t v:Int)=a)(h3:(lsTo l p q t v:Int)=o)(h4:Cp l p q t v=er):
  Calls Ad 152 #[.slice A n c,.agg (Ab9 p q t v)] w (Ab5 (.tuple (Ab9 f a o er)) w):=by
 subst h1 h2 h3 h4;exact Vl A n c p q t v l w h hc hn
theorem wG(A:Option Addr)(n c:Nat)(p q t v k er:Int)(l:List UInt8)(w:World)(h:B4 w A n l)(hc:n≤c)(hn:n≤1099511627776)(h1:(lsLen l p q t v:Int)=k)(h4:Cp l p q t v=er):
  Calls Ad 153 #[.slice A n c,.agg (Ab9 p q t v)] w (Ab5 (.tuple #[Aa Ab k,Aa Ab er]) w):=by
 subst h1 h4;exact oG A n c p q t v l w h hc hn
theorem nT(A:Option Addr)(n c:Nat)(p q t v i a b d g er:Int)(l:List UInt8)(w:World)(h:B4 w A n l)(hc:n≤c)(hn:n≤1099511627776)(h1:Q4 l p q t v i=a)(h2:Q5 l p q t v i=b)(h3:Sp l p q t v i=d)(h4:Sq l p q t v i=g)(h5:Fz l p q t v i=er):
  Calls Ad 155 #[.slice A n c,.agg (Ab9 p q t v),Aa Ab i] w (Ab5 (.tuple #[.agg (Ab9 a b d g),Aa Ab er]) w):=by
 subst h1 h2 h3 h4 h5;exact sC A n c p q t v i l w h hc hn
theorem Fb(w:World):Below w.heap.size w w.drew:=(Af _ _).drew
theorem pJ(A:Option Addr)(n c:Nat)(p q t v f a o er:Int)(l:List UInt8)(w:World)(h:B4 w A n l)(hn:n≤1099511627776)(h1:(lsFrom l p q t v:Int)=f)(h2:(lsAt l p q t v:Int)=a)(h3:(lsTo l p q t v:Int)=o)(h4:Cp l p q t v=er):
  Calls Ad 182 #[.slice A n c,.agg (Ab9 p q t v)] w (Ab5 (.tuple (Ab9 f a o er)) w):=by
 subst h1 h2 h3 h4;exact S2 A n c p q t v l w h hn
theorem xD(A:Option Addr)(n c:Nat)(p q t v k er:Int)(l:List UInt8)(w:World)(h:B4 w A n l)(hn:n≤1099511627776)(h1:(lsLen l p q t v:Int)=k)(h4:Cp l p q t v=er):
  Calls Ad 103 #[.slice A n c,.agg (Ab9 p q t v)] w (Ab5 (.tuple #[Aa Ab k,Aa Ab er]) w):=by
 subst h1 h4;exact pF A n c p q t v l w h hn
theorem Vw(A:Option Addr)(n c:Nat)(p q t v i a b d g er:Int)(l:List UInt8)(w:World)(h:B4 w A n l)(hn:n≤1099511627776)(h1:Q4 l p q t v i=a)(h2:Q5 l p q t v i=b)(h3:Sp l p q t v i=d)(h4:Sq l p q t v i=g)(h5:Fz l p q t v i=er):
  Calls Ad 104 #[.slice A n c,.agg (Ab9 p q t v),Aa Ab i] w (Ab5 (.tuple #[.agg (Ab9 a b d g),Aa Ab er]) w):=by
 subst h1 h2 h3 h4 h5;exact tF A n c p q t v i l w h hn
open Go.ChangeShapes Go.WideShapes Go.ChangeAt
theorem Yj{V:Nat}(h:Cp l p q t V=0):
  lsFrom l p q t V≤lsAt l p q t V∧lsAt l p q t V+(lsLen l p q t V*V+lsLen l p q t V*tgs t)=lsTo l p q t V∧lsTo l p q t V≤l.length∧(V=1∨V=2∨V=4∨V=8)∧(lsAt l p q t V:Int) % V=0∧Iq t=true:=by
 obtain⟨h1,_,h2,h3,_,_,_,_,b⟩:=Sf h;have d:=B6.1 h2;rw [Ao] at h3;have a:lsTo l p q t V=lsAt l p q t V+lsLen l p q t V*(V+tgs t):=by
  unfold lsTo lsAt lsLen;rw [if_pos h,if_pos h,if_pos h];unfold Ku;rw [Ao]
 have c:lsFrom l p q t V≤lsAt l p q t V:=by
  unfold lsFrom lsAt;rw [if_pos h,if_pos h];exact Nat.sub_le _ _
 exact⟨c,by rw [a,Nat.mul_add],by rw [a];exact h3,by omega,b,h1⟩
def Qz(w:World)(l:List UInt8)(p q t v:Int)(e:Ending)(w':World):Prop:=
 e= .returned (.tuple #[Aa Ab (C6 l p q t v [4,5,25]),Aa Ab ((Eo l p q t v [4,5,25]).length:Nat),Aa Ab (C4 l p q t v [4,5,25])])∧Below w.heap.size w w'
theorem El{er:Int}(h:C4 l p q t v [4,5,25]=er)(hne:er≠0)(hb:Below w.heap.size w w'):Qz w l p q t v (.returned (.tuple #[Aa Ab 0,Aa Ab 0,Aa Ab er])) w':=by
 unfold Qz C6 Eo;rw [h,if_neg hne,if_neg hne];exact⟨rfl,hb⟩
theorem Qd{m:List UInt8}(h:C4 l p q t v [4,5,25]=0)(ha:By l p q t v=a)(hm:(if t=4 then La l a else cntL l a v.toNat)=m)(hk:m.length=k)(hb:Below w.heap.size w w'):Qz w l p q t v (.returned (.tuple #[Aa Ab a,Aa Ab k,Aa Ab 0])) w':=by
 unfold Qz C6 Eo;rw [h,if_pos rfl,if_pos rfl,ha,Ao,hm,hk];exact⟨rfl,hb⟩
theorem rZ(h:a≤l.length):(La l a).length=zeroAt l a-a:=by
 have:=R4 h;unfold La;rw [Au,List.length_drop];omega
theorem Tf{v u:Nat}(hu:loadU l ((a:Int)-v) v=u)(h:a+u≤l.length):(cntL l a v).length=u:=by
 unfold cntL;rw [hu,Au,List.length_drop];omega
theorem in3(h0:0≤t):Kr [4,5,25] t=decide (t=4∨t=5∨t=25):=by
 unfold Kr;rw [Bool.eq_iff_iff];simp;omega
theorem eR(A:Option Addr)(n c:Nat)(p q t v:Int)(l:List UInt8)(w:World)(h:B4 w A n l)(hn:n≤1099511627776):
  Calls Ad 180 #[.slice A n c,.agg (Ab9 p q t v)] w (Qz w l p q t v):=by
 have a3:=h.1;subst a3;have y:=Hd (h.alloc (.cells (Ab9 p q t v) 70));have z:=Hd (Bb.new w 70 (Ab9 p q t v));have r:=Hd ((Af w.heap.size w).alloc (Ae _) (.cells (Ab9 p q t v) 70));have C:l.length≤9223372036854775807:=by omega
 clear h;go_enter func180,ntmps180;go_wp2_with fail;go_at_call 179;refine(Lx A _ c p q t v _ C).mono ?_;rintro e w1 ⟨rfl,f⟩;by_cases g:Cc l.length p q t v=0
 ·rw [g];have r:=Hd (A6 r.o f);have z:=Hd (z.o.pure f);have y:=Hd (y.o.pure f);obtain ⟨N,O,P,Q⟩:=z.o.c4;clear f;have al:=Ez.1 (Hv (Cz.1 (Dy.1 g).1).1);have a5:=al.1;have Z:=(Cz.1 (Dy.1 g).1).2.2;clear al;by_cases M:t=4∨t=5∨t=25
  ·have ak:Kr [4,5,25] t=true:=by rw [in3 a5];exact decide_eq_true M
   have s:=Hd (show C4 l p q t v [4,5,25]=if B8 l p q t v≠0 then B8 l p q t v else if t=4 then I0 l (By l p q t v).toNat else Fv l (By l p q t v).toNat v.toNat (if t=5 then 1 else 0) by unfold C4;rw [if_neg (by simpa using g),if_neg (by simp [ak])]);clear ak;by_cases J:t=4
   ·have e4:(t==4)=true:=beq_iff_eq.2 J;have n4:(t != 4)=false:=by simp [J]
    have H4:=Hd J;clear J M g;go_wp2_with fail;go_at_call 99;refine(Fj A _ c p q t v l _ y.o C).mono ?_;rintro e w2 ⟨rfl,f⟩;clear N O P Q;have r:=Hd (A6 r.o f);have z:=Hd (z.o.pure f);have y:=Hd (y.o.pure f);obtain ⟨N,O,P,Q⟩:=z.o.c4;clear f;by_cases d:B8 l p q t v=0
    ·rw [d];have X:=Ke d;obtain⟨a,K⟩:∃a:Nat,By l p q t v=a:=⟨(By l p q t v).toNat,by omega⟩;have F:=Hd (show C4 l p q t v [4,5,25]=I0 l a by rw [s.o,if_neg (by simpa using d),if_pos H4.o,K,Ao]);have HA:=Hd K;rw [K] at X⊢;have ai:a≤l.length:=by omega
     clear d X K s;go_wp2_with fail;go_loop [10] (fun i=>∃k:Nat,a≤k∧k≤l.length∧i= Aa Ab k∧zeroAt l k=zeroAt l a) (fun i=>l.length-(intOf i).toNat)
     case atStart=>exact⟨a,by omega,ai,rfl,rfl⟩
     case round=>
      obtain⟨k,bq,hk,rfl,hz⟩:=hrel;have HZ:=Hd hz;clear hz;by_cases R:k<l.length
      ·obtain⟨b,a6,rfl,br,hc⟩:=Ep y.o R;by_cases h0:l[k]=0
       ·have x:=Hd (show zeroAt l a=k by rw [←HZ.o,We R h0]);rw [h0] at hc;clear h0;go_wp2;go_ret3;rw [show(k:Int)-a=((k-a:Nat):Int) by omega];exact Qd (m:=La l a) (k:=k-a) (by rw [F.o];unfold I0;rw [x.o,if_pos R]) HA.o (if_pos H4.o) (by rw [rZ ai,x.o]) r.o
       ·have x:=Hd ((Td R h0).trans HZ.o);have f:(l[k].toNat==0)=false:=by
         rw [beq_eq_false_iff_ne];intro e;exact h0 (UInt8.toNat_inj.1 e)
        clear h0;go_wp2;go_round
        case rel=>exact⟨k+1,by omega,by omega,by go_num,x.o⟩
        case measure=>simp [intOf];omega
      ·obtain rfl:l.length=k:=by omega
       have x:=Hd (show zeroAt l a=l.length by rw [←HZ.o,Wd]);go_wp2;go_ret3;exact El (by rw [F.o];unfold I0;rw [x.o,if_neg (Nat.lt_irrefl _)]) (by decide) r.o
    ·have x:=Hd (show C4 l p q t v [4,5,25]=B8 l p q t v by rw [s.o,if_pos d]);have U:=Hd d;have ar:(B8 l p q t v != 0)=true:=by simpa using d
     clear d;go_wp2;go_ret3;exact El x.o U.o r.o
   ·by_cases h5:t=5
    ·have a2:(t != 4)=true:=by simpa using J
     have n5:(t != 5)=false:=by simp [h5]
     have e4:(t==4)=false:=beq_eq_false_iff_ne.2 J;have e5:(t==5)=true:=beq_iff_eq.2 h5;have am:=Hd (show(if t=5 then 1 else 0:Nat)=1 from if_pos h5);have H4:=Hd J;clear J h5 M g;obtain⟨V,hV⟩:∃V:Nat,v=V:=⟨v.toNat,by have:=B6.1 Z;omega⟩;have I:Br (V:Int)=true:=by rw [←hV];exact Z
     have W:=Hd hV;have E:v.toNat=V:=by omega
     have an:=Hd E;rw [E,am.o,if_neg H4.o] at s;clear Z hV;go_wp2_with fail;go_at_call 99;refine(Fj A _ c p q t v l _ y.o C).mono ?_;rintro e w2 ⟨rfl,f⟩;clear N O P Q;have r:=Hd (A6 r.o f);have z:=Hd (z.o.pure f);have y:=Hd (y.o.pure f);obtain ⟨N,O,P,Q⟩:=z.o.c4;clear f;by_cases d:B8 l p q t v=0
     ·rw [d];have X:=Ke d;obtain⟨a,K⟩:∃a:Nat,By l p q t v=a:=⟨(By l p q t v).toNat,by omega⟩;have F:=Hd (show C4 l p q t v [4,5,25]=Fv l a V 1 by rw [s.o,if_neg (by simpa using d),K,Ao]);have HA:=Hd K;rw [K] at X⊢;have ai:a≤l.length:=by omega
      obtain⟨u,T⟩:∃u,loadU l ((a:Int)-V) V=u:=⟨_,rfl⟩;have HU:=Hd T;have aq:=Q8 l a V 1 u T;have Y:=Hd (show loadU l ((a:Int)-v) v=u by rw [W.o];exact T);have D:1≤v∧v≤8:=by have:=B6.1 I;have:=W.o;omega
      have be:=D.1;have bf:=D.2;have bg:(v==0)=false:=beq_eq_false_iff_ne.mpr (by omega);have j:=W.o;rcases aq with⟨h1,G⟩|⟨h1,h2,G⟩|⟨h1,h2,h3,G⟩|⟨h1,h2,h3,J,G⟩|⟨h1,h2,h3,J,G⟩
      ·have x:=Hd (F.o.trans G);have H:((a:Int) % v != 0)=true:=by rw [j];simp;omega
       clear d X K s T G h1 j E I D;go_wp2;go_ret3;exact El x.o (by decide) r.o
      ·have x:=Hd (F.o.trans G);have H:((a:Int) % v != 0)=false:=by rw [j];simp;omega
       have hx:(a:Int)<v:=by omega
       clear d X K s T G h1 j E I D h2;go_wp2;go_ret3;exact El x.o (by decide) r.o
      ·have x:=Hd (F.o.trans G);have H:((a:Int) % v != 0)=false:=by rw [j];simp;omega
       have hx:¬(a:Int)<v:=by omega
       obtain⟨L,hL⟩:∃L:Nat,L=l.length-a:=⟨_,rfl⟩;have WL:=Hd ((Ce ((l.length:Int)-a) (by omega)).trans (show(l.length:Int)-a=(L:Int) by omega));have ag:=Hd hL;clear d X K s T G h1 j E I D h2;go_wp2_with fail;go_at_call 176;refine(H9 A _ c ((a:Int)-v) v l _ y.o C).mono ?_;rw [Y.o];obtain⟨er,B⟩:∃er,Bz l.length ((a:Int)-v) v=er:=⟨_,rfl⟩;rw [B];rintro e w3 ⟨rfl,f⟩;clear N O P Q;have r:=Hd (A6 r.o f);have z:=Hd (z.o.pure f);have y:=Hd (y.o.pure f);obtain ⟨N,O,P,Q⟩:=z.o.c4;clear f;clear B;by_cases hd:L<u
       ·have ad:=WL.o;go_wp2;go_ret3;exact El x.o (by decide) r.o
       ·have W1:=Hd (Ce ((u:Int)+1) (by omega));have az:(L:Int)<(u:Int)+1:=by omega
        have a0:L<u+1:=by omega
        have ad:=WL.o;have au:=W1.o;go_wp2;go_ret3;exact El x.o (by decide) r.o
      ·have x:=Hd (F.o.trans G);have H:((a:Int) % v != 0)=false:=by rw [j];simp;omega
       have hx:¬(a:Int)<v:=by omega
       obtain⟨L,hL⟩:∃L:Nat,L=l.length-a:=⟨_,rfl⟩;have WL:=Hd ((Ce ((l.length:Int)-a) (by omega)).trans (show(l.length:Int)-a=(L:Int) by omega));have ag:=Hd hL;clear d X K s T G h1 j E I D h2;go_wp2_with fail;go_at_call 176;refine(H9 A _ c ((a:Int)-v) v l _ y.o C).mono ?_;rw [Y.o];obtain⟨er,B⟩:∃er,Bz l.length ((a:Int)-v) v=er:=⟨_,rfl⟩;rw [B];rintro e w3 ⟨rfl,f⟩;clear N O P Q;have r:=Hd (A6 r.o f);have z:=Hd (z.o.pure f);have y:=Hd (y.o.pure f);obtain ⟨N,O,P,Q⟩:=z.o.c4;clear f;clear B;have hd:¬L<u:=by omega
       have az:¬(L:Int)<(u:Int)+1:=by omega
       have a0:¬L<u+1:=by omega
       have R:a+u<l.length:=by omega
       have a4:(a:Int)+u<l.length:=by omega
       have a1:(0:Int)≤(a:Int)+u:=by omega
       have W1:=Hd (C8 (u:Int) (by omega));have W2:=Hd (Ce ((u:Int)+1) (by omega));have af:=Hd (Tf HU.o (by omega));obtain⟨b,a6,rfl,hk,hc⟩:=Ep y.o R;have S:(l.drop (a+u)).take 1=[l[a+u]]:=by rw [List.drop_eq_getElem_cons hk];rfl
       rw [S] at J;clear S;have aa:l[a+u]=0:=by simpa using J
       rw [aa] at hc;clear aa J h3;have ad:=WL.o;have au:=W1.o;have bh:=W2.o;go_wp2;go_ret3;exact Qd x.o HA.o (if_neg H4.o) (by rw [an.o];exact af.o) r.o
      ·have x:=Hd (F.o.trans G);have H:((a:Int) % v != 0)=false:=by rw [j];simp;omega
       have hx:¬(a:Int)<v:=by omega
       obtain⟨L,hL⟩:∃L:Nat,L=l.length-a:=⟨_,rfl⟩;have WL:=Hd ((Ce ((l.length:Int)-a) (by omega)).trans (show(l.length:Int)-a=(L:Int) by omega));have ag:=Hd hL;clear d X K s T G h1 j E I D h2;go_wp2_with fail;go_at_call 176;refine(H9 A _ c ((a:Int)-v) v l _ y.o C).mono ?_;rw [Y.o];obtain⟨er,B⟩:∃er,Bz l.length ((a:Int)-v) v=er:=⟨_,rfl⟩;rw [B];rintro e w3 ⟨rfl,f⟩;clear N O P Q;have r:=Hd (A6 r.o f);have z:=Hd (z.o.pure f);have y:=Hd (y.o.pure f);obtain ⟨N,O,P,Q⟩:=z.o.c4;clear f;clear B;have hd:¬L<u:=by omega
       have az:¬(L:Int)<(u:Int)+1:=by omega
       have a0:¬L<u+1:=by omega
       have R:a+u<l.length:=by omega
       have a4:(a:Int)+u<l.length:=by omega
       have a1:(0:Int)≤(a:Int)+u:=by omega
       have W1:=Hd (C8 (u:Int) (by omega));have W2:=Hd (Ce ((u:Int)+1) (by omega));have af:=Hd (Tf HU.o (by omega));obtain⟨b,a6,rfl,hk,hc⟩:=Ep y.o R;have S:(l.drop (a+u)).take 1=[l[a+u]]:=by rw [List.drop_eq_getElem_cons hk];rfl
       rw [S] at J;clear S;have aa:¬l[a+u]=0:=by simpa using J
       have bi:(l[a+u].toNat != 0)=true:=by
        rw [bne_iff_ne];intro e;exact aa (UInt8.toNat_inj.1 e)
       generalize l[a+u]=xx at hc bi aa;clear aa J h3;have ad:=WL.o;have au:=W1.o;have bh:=W2.o;go_wp2;go_ret3;exact El x.o (by decide) r.o
     ·have x:=Hd (show C4 l p q t v [4,5,25]=B8 l p q t v by rw [s.o,if_pos d]);have U:=Hd d;have ar:(B8 l p q t v != 0)=true:=by simpa using d
      clear d;go_wp2;go_ret3;exact El x.o U.o r.o
    ·have a2:(t != 4)=true:=by simpa using J
     have n5:(t != 5)=true:=by simpa using h5
     have bj:(t != 25)=false:=by simp;omega
     have e4:(t==4)=false:=beq_eq_false_iff_ne.2 J;have e5:(t==5)=false:=beq_eq_false_iff_ne.2 h5;have am:=Hd (show(if t=5 then 1 else 0:Nat)=0 from if_neg h5);have H4:=Hd J;clear J h5 M g;obtain⟨V,hV⟩:∃V:Nat,v=V:=⟨v.toNat,by have:=B6.1 Z;omega⟩;have I:Br (V:Int)=true:=by rw [←hV];exact Z
     have W:=Hd hV;have E:v.toNat=V:=by omega
     have an:=Hd E;rw [E,am.o,if_neg H4.o] at s;clear Z hV;go_wp2_with fail;go_at_call 99;refine(Fj A _ c p q t v l _ y.o C).mono ?_;rintro e w2 ⟨rfl,f⟩;clear N O P Q;have r:=Hd (A6 r.o f);have z:=Hd (z.o.pure f);have y:=Hd (y.o.pure f);obtain ⟨N,O,P,Q⟩:=z.o.c4;clear f;by_cases d:B8 l p q t v=0
     ·rw [d];have X:=Ke d;obtain⟨a,K⟩:∃a:Nat,By l p q t v=a:=⟨(By l p q t v).toNat,by omega⟩;have F:=Hd (show C4 l p q t v [4,5,25]=Fv l a V 0 by rw [s.o,if_neg (by simpa using d),K,Ao]);have HA:=Hd K;rw [K] at X⊢;have ai:a≤l.length:=by omega
      obtain⟨u,T⟩:∃u,loadU l ((a:Int)-V) V=u:=⟨_,rfl⟩;have HU:=Hd T;have aq:=Q8 l a V 0 u T;have Y:=Hd (show loadU l ((a:Int)-v) v=u by rw [W.o];exact T);have D:1≤v∧v≤8:=by have:=B6.1 I;have:=W.o;omega
      have be:=D.1;have bf:=D.2;have bg:(v==0)=false:=beq_eq_false_iff_ne.mpr (by omega);have j:=W.o;rcases aq with⟨h1,G⟩|⟨h1,h2,G⟩|⟨h1,h2,h3,G⟩|⟨h1,h2,h3,J,G⟩|⟨h1,h2,h3,J,G⟩
      ·have x:=Hd (F.o.trans G);have H:((a:Int) % v != 0)=true:=by rw [j];simp;omega
       clear d X K s T G h1 j E I D;go_wp2;go_ret3;exact El x.o (by decide) r.o
      ·have x:=Hd (F.o.trans G);have H:((a:Int) % v != 0)=false:=by rw [j];simp;omega
       have hx:(a:Int)<v:=by omega
       clear d X K s T G h1 j E I D h2;go_wp2;go_ret3;exact El x.o (by decide) r.o
      ·have x:=Hd (F.o.trans G);have H:((a:Int) % v != 0)=false:=by rw [j];simp;omega
       have hx:¬(a:Int)<v:=by omega
       obtain⟨L,hL⟩:∃L:Nat,L=l.length-a:=⟨_,rfl⟩;have WL:=Hd ((Ce ((l.length:Int)-a) (by omega)).trans (show(l.length:Int)-a=(L:Int) by omega));have ag:=Hd hL;clear d X K s T G h1 j E I D h2;go_wp2_with fail;go_at_call 176;refine(H9 A _ c ((a:Int)-v) v l _ y.o C).mono ?_;rw [Y.o];obtain⟨er,B⟩:∃er,Bz l.length ((a:Int)-v) v=er:=⟨_,rfl⟩;rw [B];rintro e w3 ⟨rfl,f⟩;clear N O P Q;have r:=Hd (A6 r.o f);have z:=Hd (z.o.pure f);have y:=Hd (y.o.pure f);obtain ⟨N,O,P,Q⟩:=z.o.c4;clear f;clear B;have hd:L<u:=by omega
       have ad:=WL.o;go_wp2;go_ret3;exact El x.o (by decide) r.o
      ·have x:=Hd (F.o.trans G);have H:((a:Int) % v != 0)=false:=by rw [j];simp;omega
       have hx:¬(a:Int)<v:=by omega
       obtain⟨L,hL⟩:∃L:Nat,L=l.length-a:=⟨_,rfl⟩;have WL:=Hd ((Ce ((l.length:Int)-a) (by omega)).trans (show(l.length:Int)-a=(L:Int) by omega));have ag:=Hd hL;clear d X K s T G h1 j E I D h2;go_wp2_with fail;go_at_call 176;refine(H9 A _ c ((a:Int)-v) v l _ y.o C).mono ?_;rw [Y.o];obtain⟨er,B⟩:∃er,Bz l.length ((a:Int)-v) v=er:=⟨_,rfl⟩;rw [B];rintro e w3 ⟨rfl,f⟩;clear N O P Q;have r:=Hd (A6 r.o f);have z:=Hd (z.o.pure f);have y:=Hd (y.o.pure f);obtain ⟨N,O,P,Q⟩:=z.o.c4;clear f;clear B;have hd:¬L<u:=by omega
       have W1:=Hd (C8 (u:Int) (by omega));have af:=Hd (Tf HU.o (by omega));have ad:=WL.o;have au:=W1.o;go_wp2;go_ret3;exact Qd x.o HA.o (if_neg H4.o) (by rw [an.o];exact af.o) r.o
      ·exact absurd (by simp) J
     ·have x:=Hd (show C4 l p q t v [4,5,25]=B8 l p q t v by rw [s.o,if_pos d]);have U:=Hd d;have ar:(B8 l p q t v != 0)=true:=by simpa using d
      clear d;go_wp2;go_ret3;exact El x.o U.o r.o
  ·have H4:¬t=4:=fun e=>M (.inl e)
   have H5:¬t=5:=fun e=>M (.inr (.inl e))
   have aw:¬t=25:=fun e=>M (.inr (.inr e))
   have n4:(t != 4)=true:=by simpa using H4
   have n5:(t != 5)=true:=by simpa using H5
   have bj:(t != 25)=true:=by simpa using aw
   have x:=Hd (show C4 l p q t v [4,5,25]=60 by unfold C4;rw [if_neg (by simpa using g),if_pos (by rw [in3 a5];exact decide_eq_false M)]);clear M g H4 H5 aw;go_wp2;go_ret3;exact El x.o (by decide) r.o
 ·have x:=Hd (show C4 l p q t v [4,5,25]=Cc l.length p q t v by unfold C4;rw [if_pos g]);have U:=Hd g;have ar:(Cc l.length p q t v != 0)=true:=by simpa using g
  have r:=Hd (A6 r.o f);have z:=Hd (z.o.pure f);have y:=Hd (y.o.pure f);obtain ⟨N,O,P,Q⟩:=z.o.c4;clear f;clear g;go_wp2;go_ret3;exact El x.o U.o r.o
theorem Yz:(l.drop a).take k=(l.drop a).take ((l.drop a).take k).length:=by
 rw [Au,List.take_eq_take_iff];simp
theorem rV(h:C4 l p q t v [4,5,25]=0):∃a:Nat,C6 l p q t v [4,5,25]=a∧Eo l p q t v [4,5,25]=(l.drop a).take (Eo l p q t v [4,5,25]).length∧a+(Eo l p q t v [4,5,25]).length≤l.length:=by
 have ht:B8 l p q t v=0:=by
  by_cases c:Cc l.length p q t v=0
  ·by_cases d:Kr [4,5,25] t=false
   ·unfold C4 at h;rw [if_neg (by simpa using c),if_pos d] at h;cases h
   ·by_cases b:B8 l p q t v=0
    ·exact b
    ·unfold C4 at h;rw [if_neg (by simpa using c),if_neg d,if_pos b] at h;exact absurd h b
  ·unfold C4 at h;rw [if_pos c] at h;exact absurd h c
 have e:=Ke ht;refine⟨(By l p q t v).toNat,?_,?_,?_⟩
 ·unfold C6;rw [if_pos h];omega
 ·unfold Eo;rw [if_pos h];split
  ·unfold La;exact Yz
  ·unfold cntL;exact Yz
 ·unfold Eo;rw [if_pos h];split
  ·unfold La;rw [Au,List.length_drop];omega
  ·unfold cntL;rw [Au,List.length_drop];omega
end Go.Proofs.YtejpbijeifjdeaaGreat
