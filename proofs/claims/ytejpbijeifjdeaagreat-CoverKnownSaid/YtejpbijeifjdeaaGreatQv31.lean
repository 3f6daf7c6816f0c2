/- Package accordionref28: the parts of a document; the property CoverTells. Package cover: parts rise (property CoverRises). CoverKnown, the walk. CoverKnown: short documents with every type, documents that refer to themselves, and a built document truncated and corrupted byte by byte are covered as the reference covers them. No conditions. -/
import Derived.Test.YtejpbijeifjdeaaGreatQv28
import Derived.Test.YtejpbijeifjdeaaGreatQv30
set_option maxHeartbeats 4000000
set_option maxRecDepth 100000
open Go.Value renaming int→Aa
open Go.IntKind renaming i64→Ab
open Nat renaming le_refl→Ae
open Go.RowKit.Below renaming refl→Af
open Go.IntWalk renaming i64_in→Ag
open List renaming getElem?_eq_getElem→Ai
open UInt8 renaming ofNat→Aq
open Go.Proofs.Tryz
open Go.Proofs.Tryz renaming prog→Ad
namespace Go.Proofs.YtejpbijeifjdeaaGreat
variable {l:List UInt8}{f:Int}
section
open Go.RowKit Go.Acc
theorem eQ(A:Option Addr)(n c:Nat)(fuel:Int)(l:List UInt8)(w:World)(hl:B4 w A n l)(hc:n≤c)(hn:n≤4294967296)(hf:fuel≤100000000):
  Calls Ad 54 #[.slice A n c,Aa Ab fuel] w fun e w'=>∃A' k c',e= .returned (.tuple #[.slice A' k c',Aa Ab (Cb l fuel)])∧F9 w' w.heap.size A' k c' (Cg l fuel)∧Below w.heap.size w w':=by
 have am:=hl.1;have Q:=Hd hl;clear hl;by_cases P:Dq l=0
 ·obtain⟨C,h3⟩:=Xd P;have ab:=Hd C;have HR:=Hd P;clear C P;go_enter func54,ntmps54;go_wp2_with fail;go_at_call 62;refine(Vy A n c l _ Q.o (by omega)).mono ?_;rintro e m ⟨rfl,M⟩;rw [HR.o];obtain⟨a,ha⟩:∃a,(Df l).1=a:=⟨_,rfl⟩;obtain⟨b,x⟩:∃a,(Df l).2.1=a:=⟨_,rfl⟩;obtain⟨d,hd⟩:∃a,(Df l).2.2.1=a:=⟨_,rfl⟩;obtain⟨f,B⟩:∃a,(Df l).2.2.2=a:=⟨_,rfl⟩;rw [ha,x,hd,B];replace Q:=Hd (Q.o.pure M);have j:=Hd M;have an:Ff l=⟨a,b,d,f⟩:=by unfold Ff;rw [ha,x,hd,B]
  rw [ha,x,hd,B] at ab;have az:=Hd an;clear M ha x hd B an;go_upto_region 5 with fail
  obtain⟨E,v⟩:∃E:Ie,E=⟨m.heap.size,m.heap.size+1+1,m.heap.size+1,A,n,c,l⟩:=⟨_,rfl⟩;have C:E.Ok:=by
   subst v;refine⟨?_,?_,?_,hc,hn⟩ <;>(try (simp only;omega))
   intro ad s;obtain⟨b',bf,e,a2⟩:=Q.o.some_ C0 (by omega) (by omega);simp only at s;rw [e] at s;injection s with s
   subst s;exact a2
  obtain⟨W,S⟩:∃W,W=(m.alloc (.cells (Ab9 a b d f) 70)).alloc (.cells #[.slice A n c,Aa Ab fuel,.slice none 0 0,.slice none 0 0] 123):=⟨_,rfl⟩;have u:W.heap.size=m.heap.size+1+1:=by subst S;simp
  have N:Below m.heap.size m W:=by
   subst S;exact((Af _ _).alloc (Ae _) _).alloc (by simp <;>omega) _
  have hX:Gy E (none,none) W m.heap.size 70 (Ab9 a b d f):=by
   refine⟨?_,?_⟩
   ·subst S;exact(Bb.new m _ _).alloc _
   ·subst v;refine⟨?_,?_,?_⟩
    ·simp only;omega
    ·simp
    ·simp
  have hC:D4 E (none,none) ⟨fuel,[],[]⟩ W:=by
   refine⟨C,?_,⟨none,0,0,none,0,0,?_,Own.nil _ _,Own.nil _ _,rfl,rfl⟩,?_⟩
   ·subst v;exact Q.o.pure N
   ·subst v S;exact Bb.new_ (by simp) _ _
   ·subst v;rw [u];exact Ae _
  have ak:E.bw=m.heap.size+1:=by rw [v]
  have ai:E.l=l:=by rw [v]
  have af:E.B0=m.heap.size:=by rw [v]
  rw [←S,←ak];have ax:=Hd (show w.heap.size≤E.B0 by rw [af];exact j.o.size);have aa:=Hd (show w.heap.size≤E.B2 by have:=j.o.size;rw [v];simp only;omega);have a0:=Hd (j.o.trans (N.mono j.o.size));have F:=Hd hC;have av:=Hd hC;have g:=Hd hX;have ae:=Hd (show Ec l fuel=((Bj.mk fuel [] []).tell ((l.length:Int)-1) l.length 14).tell ((l.length:Int)-2) ((l.length:Int)-1) 8 from rfl);have Y:=Hd (D9.refl E (none,none) W);clear S u N hX hC ak af v;have a9:IntKind.i64.wrap ((n:Int)-1)=(n:Int)-1:=Ag _ (by omega);have ba:IntKind.i64.wrap ((n:Int)-2)=(n:Int)-2:=Ag _ (by omega);generalize m.heap.size=br at g⊢;have T:=Bg g.o.1;have U:=Bf g.o.1;have V:=Be g.o.1;have X:=Bh g.o.1;obtain⟨W0,rfl⟩:∃W0:World,W0=W:=⟨_,rfl⟩;have j:=Y;clear Y;go_wp2_with fail;go_at_call 88
  with_reducible refine(D1 E _ _ ((n:Int)-1) n 14 _ F.o (by omega) (by simp)).mono ?_
  rintro e w2 ⟨rfl,g2,ag,J⟩;replace j:=Hd (j.o.trans J);replace g:=Hd (g.o.to J);replace F:=Hd ag;clear T U V X;clear ag J;have T:=Bg g.o.1;have U:=Bf g.o.1;have V:=Be g.o.1;have X:=Bh g.o.1;go_wp2_with fail;go_at_call 88
  with_reducible refine(D1 E _ _ ((n:Int)-2) ((n:Int)-1) 8 _ F.o (by omega) (by unfold Bj.tell;split <;>simp)).mono ?_
  rintro e w3 ⟨rfl,g3,ah,K⟩;replace j:=Hd (j.o.trans K);replace g:=Hd (g.o.to K);replace F:=Hd ah;clear T U V X;clear ah K;have T:=Bg g.o.1;have U:=Bf g.o.1;have V:=Be g.o.1;have X:=Bh g.o.1;have ao:((Bj.mk fuel [] []).tell ((n:Int)-1) n 14).tell ((n:Int)-2) ((n:Int)-1) 8=Ec l fuel:=by rw [ae.o,am]
  have D:(Ec l fuel).left=fuel:=by unfold Ec;rw [E0,E0]
  have ap:(Ec l fuel).had=[]:=by unfold Ec;rw [Ia,Ia]
  have a4:(Ec l fuel).o.length≤2:=by
   unfold Ec;have h1:=Nl (Bj.tell ⟨fuel,[],[]⟩ ((l.length:Int)-1) l.length 14) ((l.length:Int)-2) ((l.length:Int)-1) 8;have h2:=Nl ⟨fuel,[],[]⟩ ((l.length:Int)-1) l.length 14;simp only [List.length_nil] at h2;omega
  have u:(Ec l fuel).size≤900000000:=by
   unfold Bj.size;rw [D];omega
  have al:(Ec l fuel).had.length+(Ec l fuel).left.toNat≤900000000:=by
   rw [D,ap];simp only [List.length_nil];omega
  rw [ao] at F;obtain⟨y,hy⟩:∃y,F8 l fuel=y:=⟨_,rfl⟩;have t:Ca E.l (fuel.toNat+1) ⟨a,b,d,f⟩ (Ec l fuel)=y:=by rw [ai,←az.o];exact hy
  have O:=S1 E (fuel.toNat+1) g3 (Ec l fuel) a b d f w3 F.o (by rw [D];omega) u al (by rw [ai];exact ab.o);rw [t] at O;have i:Cb l fuel=y.2:=by unfold Cb;rw [if_neg (by simp [HR.o]),hy]
  have h:Cg l fuel=if y.2≠0 then [] else Cx y.1.o:=by unfold Cg;rw [i,hy]
  have aw:=Hd O;have p:=Hd i;have q:=Hd h;clear ao D ap a4 u al t O i h hy ae;go_wp2_with fail;go_at_call 89;refine aw.o.mono ?_;rintro e w4 ⟨rfl,g4,I,L⟩;obtain⟨s4,er⟩:=y;simp only at I q p⊢;replace j:=Hd (j.o.trans L);replace g:=Hd (g.o.to L);replace F:=Hd I;clear T U V X;clear I L;have T:=Bg g.o.1;have U:=Bf g.o.1;have V:=Be g.o.1;have X:=Bh g.o.1;have aj:Below w.heap.size w w4:=a0.o.trans ((j.o.belowB av.o).mono ax.o);have Z:=Hd aj;clear aj;by_cases z:er=0
  ·subst z;have h:Cg l fuel=Cx s4.o:=by rw [q.o];rfl
   have r:=Hd h;obtain⟨Ah,nh,ch,Al,nl,cl,G,_,H,_⟩:=F.o.R;have v3:_=some (Value.slice Al nl cl):=G.cell 3;have ay:=Hd H;clear h H G;go_wp2_with fail;go_ret2;rw [p.o,r.o];exact⟨_,nl,cl,rfl,ay.o.rebase aa.o,Z.o⟩
  ·have a3:(er != 0)=true:=by simpa using z
   have h:Cg l fuel=[]:=by rw [q.o,if_pos z]
   have r:=Hd h;clear h z;go_wp2_with fail;go_ret2;rw [p.o,r.o];exact⟨none,0,0,rfl,Own.nil _ _,Z.o⟩
 ·have a3:(Dq l != 0)=true:=by simpa using P
  have i:Cb l fuel=Dq l:=by unfold Cb;rw [if_pos P]
  have h:Cg l fuel=[]:=by unfold Cg;rw [i,if_pos P]
  have p:=Hd i;have q:=Hd h;clear i h P;go_enter func54,ntmps54;go_wp2_with fail;go_at_call 62;refine(Vy A n c l _ Q.o (by omega)).mono ?_;rintro e m ⟨rfl,M⟩;have j:=Hd (M.alloc M.size (.cells #[Aa Ab (Df l).1,Aa Ab (Df l).2.1,Aa Ab (Df l).2.2.1,Aa Ab (Df l).2.2.2] 70));clear M;go_wp2_with fail;go_ret2;rw [p.o,q.o];exact⟨none,0,0,rfl,Own.nil _ _,j.o⟩
theorem eT(A1 A2:Option Addr)(n c1 c2:Nat)(L:List P3)(w:World)(h1:J0 w A1 n L)(h2:J0 w A2 n L)(hm:n≤9223372036854775807):
  Calls Ad 55 #[.slice A1 n c1,.slice A2 n c2] w (Ab5 (.bool true) w):=by
 have e:=Hd h1;have f:=Hd h2;have a:=Hd (Af w.heap.size w);clear h1 h2;go_enter func55,ntmps55;go_wp2_with fail;go_loopw [5] (fun i wr=>∃k:Nat,k≤n∧i= Aa Ab k∧Below w.heap.size w wr∧J0 wr A1 n L∧J0 wr A2 n L) (fun i _=>n-(intOf i).toNat)
 case atStart=>exact⟨0,by omega,rfl,a.o,e.o,f.o⟩
 case round=>
  clear a e f;obtain⟨k,D,rfl,j,h1,h2⟩:=hrel;have a:=Hd j;have g:=Hd h1;have h:=Hd h2;have b:L.length=n:=h1.1;clear j h1 h2;by_cases c:k<n
  ·obtain⟨A,E,l,h1⟩:=G9 g.o c;obtain⟨B,F,m,h2⟩:=G9 h.o c;obtain⟨⟨x,y,z⟩,d⟩:∃x,L[k]?=some x:=⟨_,Ai (by omega)⟩;obtain⟨t,u,v⟩:=h1 x y z d;obtain⟨C,c1,c2⟩:=h2 x y z d;have p:=Ng (x,y,z) (x,y,z) false (by simp);have q:(0:Int)≤k:=by omega
   have r:(k:Int)<n:=by omega
   have s:IntKind.i64.wrap ((k:Int)+1)=(k:Int)+1:=Ag _ (by omega);subst l m;clear h1 h2 d b;go_wp2_with fail;go_quiet (fail);go_wp2_with fail;go_roundw
   case rel=>exact⟨k+1,by omega,by go_num,below_drewN a.o _,g.o.drewN _,h.o.drewN _⟩
   case measure=>simp [intOf];omega
  ·obtain rfl:k=n:=by omega
   clear b;go_wp2;go_ret;exact⟨rfl,a.o⟩
theorem Dm(A:Option Addr)(n c:Nat)(f:Int)(l:List UInt8)(w:World)(h:B4 w A n l)(hc:n≤c):
  Calls Ad 20 #[.slice A n c,Aa Ab f] w (Ab5 (.bool true) w):=by
 have j:=Hd h;clear h;go_enter func20,ntmps20;go_wp2_with fail;go_at_call 53;refine(Kj A n c l _ j.o hc).mono ?_;rintro e Y ⟨A1,n1,D,rfl,U,p,s⟩;have y:=p.cap.1;have b:=Hd p.is;have a:=Hd s;replace j:=Hd (j.o.pure s);clear p s;obtain⟨g,N⟩:∃z,min f 2000=z:=⟨_,rfl⟩;have u:g≤100000000:=by omega
 have I:=Hd N;clear N;go_wp2_with fail;go_at_call 17;rw [I.o];obtain⟨E,K⟩:∃z,Cb (l.take 1500) g=z:=⟨_,rfl⟩;obtain⟨L,M⟩:∃z,Cg (l.take 1500) g=z:=⟨_,rfl⟩;have G:=Gi A1 n1 D g (l.take 1500) Y b.o y (by omega) u;have H:=fun W (h:B4 W A1 n1 (l.take 1500))=>eQ A1 n1 D g (l.take 1500) W h y (by omega) u
 rw [K,M] at G H;have J:=Hd H;refine G.mono ?_;rintro e Z ⟨O,F,R,rfl,q,k⟩;replace b:=Hd (b.o.pure k);replace a:=Hd (A6 a.o k);replace j:=Hd (j.o.pure k);have d:=Hd q.is;have B:F≤9223372036854775807:=by have:=q.cap;simp only [maxLen] at this;omega
 clear q k G H K M u;go_wp2_with fail;go_at_call 54;refine(J.o _ b.o).mono ?_;rintro e w3 ⟨P,k3,S,rfl,v,i⟩;replace b:=Hd (b.o.pure i);replace d:=Hd (d.o.pure i);replace a:=Hd (A6 a.o i);replace j:=Hd (j.o.pure i);have m:=Hd v.is;obtain rfl:F=k3:=by rw [←d.o.1,m.o.1]
 clear v i J I;go_wp2_with fail;go_at_call 55;refine(eT O P F R S L _ d.o m.o B).mono ?_;rintro e w4 ⟨rfl,r⟩;replace b:=Hd (b.o.pure r);replace a:=Hd (A6 a.o r);replace j:=Hd (j.o.pure r);clear r d m B;go_wp2_with fail;go_at_call 53;refine(Kj A n c l _ j.o hc).mono ?_;rintro e w5 ⟨Q,X,T,rfl,V,x,t⟩;have C:=Hd x.is;replace b:=Hd (b.o.pure t);replace a:=Hd (A6 a.o t);clear x t;go_wp2_with fail;go_at_call 31;refine(rO A1 Q n1 X D T _ _ _ b.o C.o).mono ?_;rw [rN];rintro e w6 ⟨rfl,rfl⟩;go_wp2_with fail;go_at_call 16;refine(Fg _).mono ?_;rintro e w7 ⟨rfl,r⟩;replace a:=Hd (A6 a.o r);clear r;go_wp2;go_ret;exact⟨rfl,a.o⟩
theorem jB{d:Nat}{r:Rq}{s:Bj}(hr:K6 l.length r)(h:(Ca l (d+1) r s).2≠260):∃t,(Ca l (d+1) r s).1.o=s.o++ [(r.p,r.p+r.q,Ej r.t)]++t∧∀x∈t,Lh l.length x:=by
 have a:(Cw r s).o=s.o++ [(r.p,r.p+r.q,Ej r.t)]:=by
  unfold Cw Bj.tell;rw [if_pos (by have:=hr.2.1;omega)];rfl
 unfold Ca at h⊢;split
 ·rename_i h1;rw [if_pos h1] at h;exact absurd rfl h
 ·split
  ·exact⟨[],by simp [a],by simp⟩
  ·split
   ·exact⟨[],by simp [a],by simp⟩
   ·obtain⟨t,e,c⟩:=fO (l:=l) r (Wl l d) ((Cw r s).see (F7 l r));refine⟨t,?_,c⟩;rw [e];have b:((Cw r s).see (F7 l r)).o=(Cw r s).o:=rfl;rw [b,a]
theorem cO(h:Dq l=0):(Ff l).p+(Ff l).q=(l.length:Int)-2:=by
 obtain⟨x,hx⟩:∃x,l.getD (l.length-1) 0=x:=⟨_,rfl⟩;obtain⟨y,hy⟩:∃x,l.getD (l.length-2) 0=x:=⟨_,rfl⟩;have hr:=Qh hx hy h;unfold Ff;rw [hr];simp only;omega
theorem tZ(h:Cb l f=0):3≤l.length∧∃a c t,(F8 l f).1.o=[((l.length:Int)-1,(l.length:Int),14),((l.length:Int)-2,(l.length:Int)-1,8),(a,(l.length:Int)-2,c)]++t∧(∀x∈t,Lh l.length x)∧Lh l.length (a,(l.length:Int)-2,c):=by
 have hr:Dq l=0:=by
  refine Decidable.byContradiction fun hr=>?_
  unfold Cb at h;rw [if_pos hr] at h;exact hr h
 obtain⟨b,h3⟩:=Xd hr;have j:(F8 l f).2=0:=by unfold Cb at h;rw [if_neg (by simp [hr])] at h;exact h
 refine⟨h3,(Ff l).p,Ej (Ff l).t,?_⟩;obtain⟨t,e,k⟩:=jB (l:=l) (d:=f.toNat) (r:=Ff l) (s:=Ec l f) b (by unfold F8 at j;rw [j];decide);have i:(Ec l f).o=[((l.length:Int)-1,(l.length:Int),14),((l.length:Int)-2,(l.length:Int)-1,8)]:=by
  unfold Ec Bj.tell;rw [if_pos (by omega),if_pos (by omega)];rfl
 rw [i,cO hr] at e;refine⟨t,e,k,?_⟩;have h0:=b.1;have h1:=b.2.1;have h2:=cO hr;have g:=Z4 (Ff l).t;unfold Ff at h2 g⊢;simp only at h0 h1 h2 g;exact⟨h0,by simp only;omega,by simp only;omega,g.1,g.2⟩
theorem kJ(h:Cb l f=0):Jc (Cg l f)∧(∀x∈Cg l f,Lh l.length x)∧3≤(Cg l f).length∧(Cg l f)[(Cg l f).length-1]?=some ((l.length:Int)-1,(l.length:Int),14):=by
 obtain⟨h3,a,c,t,e,y,q⟩:=tZ h;have w:Cg l f=Cx (F8 l f).1.o:=by unfold Cg;rw [if_neg (by omega)]
 rw [w];have s:=Qs (F8 l f).1.o;have m:∀x,x∈Cx (F8 l f).1.o↔x=((l.length:Int)-1,(l.length:Int),14)∨x=((l.length:Int)-2,(l.length:Int)-1,8)∨x=(a,(l.length:Int)-2,c)∨x∈t:=by
  intro x;rw [Vp,e];simp
 generalize Cx (F8 l f).1.o=L at s m;have b:∀x∈L,Lh l.length x:=by
  intro x u;rcases(m x).1 u with rfl|rfl|rfl|u
  ·unfold Lh;simp only;omega
  ·unfold Lh;simp only;omega
  ·exact q
  ·exact y x u
 have v:=(m ((l.length:Int)-1,(l.length:Int),14)).2 (.inl rfl);have C:=(m ((l.length:Int)-2,(l.length:Int)-1,8)).2 (.inr (.inl rfl));have D:=(m (a,(l.length:Int)-2,c)).2 (.inr (.inr (.inl rfl)));refine⟨s,b,?_,?_⟩
 ·obtain⟨i,r,g⟩:=List.mem_iff_getElem.1 v;obtain⟨j,E,p⟩:=List.mem_iff_getElem.1 C;obtain⟨k,F,n⟩:=List.mem_iff_getElem.1 D;have z:i≠j:=by rintro rfl;rw [g] at p;have:=congrArg (fun x:P3=>x.2.2) p;simp only at this;omega
  have A:i≠k:=by rintro rfl;rw [g] at n;have:=congrArg (fun x:P3=>x.2.1) n;simp only at this;omega
  have B:j≠k:=by rintro rfl;rw [p] at n;have:=congrArg (fun x:P3=>x.2.1) n;simp only at this;omega
  omega
 ·obtain⟨i,r,g⟩:=List.mem_iff_getElem.1 v;have d:i=L.length-1:=by
   refine Decidable.byContradiction fun hne=>?_
   have h1:=List.pairwise_iff_getElem.1 s i (L.length-1) r (by omega) (by omega);have h2:=b L[L.length-1] (List.getElem_mem _);rw [g] at h1;unfold E8 at h1;unfold Lh at h2;simp only at h1;omega
  subst d;rw [Ai r,g]
theorem Nt(A:Option Addr)(n c:Nat)(f:Int)(l:List UInt8)(w:World)(h:B4 w A n l)(hc:n≤c):
  Calls Ad 21 #[.slice A n c,Aa Ab f] w (Ab5 (.bool true) w):=by
 have HM:=Hd h;clear h;go_enter func21,ntmps21;go_wp2_with fail;go_at_call 53;refine(Kj A n c l _ HM.o hc).mono ?_;rintro e w1 ⟨A1,n1,c1,rfl,bk,H,R⟩;have ag:=H.cap.1;have W:=Hd H.is;have a:=Hd R;generalize l.take 1500=l at W;clear H R HM;go_wp2_with fail;go_at_call 17;obtain⟨g,hg⟩:∃z,min f 2000=z:=⟨_,rfl⟩;have T:g≤100000000:=by omega
 rw [hg];clear hg;obtain⟨E,C⟩:∃z,Cb l g=z:=⟨_,rfl⟩;obtain⟨L,hL⟩:∃z,Cg l g=z:=⟨_,rfl⟩;have p1:=Gi A1 n1 c1 g l w1 W.o ag (by omega) T;have b:=kJ (l:=l) (f:=g);rw [C,hL] at p1 b;have Q:E≠0→L=[]:=fun e=>by rw [←hL];unfold Cg;rw [C,if_pos e]
 have U:=W.o.1;rw [U] at b;refine p1.mono ?_;rintro e w2 ⟨A2,k2,c2,rfl,B,S⟩;have N:=Hd B.is;have HG:=Hd b;have D:=Hd Q;have bj:k2≤9223372036854775807:=by have:=B.cap;simp only [maxLen] at this;omega
 have G:L.length=k2:=B.1;replace a:=Hd (A6 a.o S);clear B S p1 b Q W C hL U T;by_cases C:E=0
 ·subst C;obtain⟨hs,r,h3,s⟩:=HG.o rfl;have HS:=Hd hs;have ab:=Hd r;have ae:=Hd s;have HK:=Hd G;have be:3≤k2:=by omega
  clear hs r h3 s HG D G;go_wp2_with fail;go_loopw [8] (fun i wr=>∃k:Nat,k≤k2∧i= Aa Ab k∧Below w.heap.size w wr∧J0 wr A2 k2 L) (fun i _=>k2-(intOf i).toNat)
  case atStart=>exact⟨0,by omega,rfl,a.o,N.o⟩
  case round=>
   clear a N;obtain⟨k,hk,rfl,d,h1⟩:=hrel;have a:=Hd d;have q:=Hd h1;clear d h1;by_cases I:k<k2
   ·have bd:(0:Int)≤k:=by omega
    have bf:(k:Int)<k2:=by omega
    have bm:IntKind.i64.wrap ((k:Int)+1)=(k:Int)+1:=Ag _ (by omega);obtain⟨X,Z,O,h2⟩:=G9 q.o I;subst O;obtain⟨⟨x,y,z⟩,Y⟩:∃x,L[k]?=some x:=⟨_,Ai (by rw [HK.o];exact I)⟩;obtain⟨t,u,v⟩:=h2 x y z Y;have r:=ab.o (x,y,z) (List.mem_of_getElem? Y);unfold Lh at r;obtain⟨g1,g2,g3,g4,g5⟩:=r;simp only at g1 g2 g3 g4 g5;have HX:=Hd Y;clear h2 Y;go_upto_region 9 with fail
    have p:=Hd (Bb.new wr 46 #[Aa Ab x,Aa Ab y,Aa Ab z]);replace a:=Hd (a.o.alloc a.o.size (.cells #[Aa Ab x,Aa Ab y,Aa Ab z] 46));replace q:=Hd (q.o.alloc (.cells #[Aa Ab x,Aa Ab y,Aa Ab z] 46));clear t u v;generalize wr.alloc (.cells #[Aa Ab x,Aa Ab y,Aa Ab z] 46)=wa at p a q⊢;generalize wr.heap.size=bx at p⊢;obtain ⟨v0,v1,v2⟩:=p.o.c3;have t1:¬x<0:=by omega
    have t2:¬y≤x:=by omega
    have t3:¬(n1:Int)<y:=by omega
    have t4:¬z<1:=by omega
    have t5:¬14<z:=by omega
    by_cases hk0':k=0
    ·subst hk0';go_wp2_with fail;go_roundw
     case rel=>exact⟨1,by omega,by go_num,a.o,q.o⟩
     case measure=>simp [intOf];omega
    ·obtain⟨j,rfl⟩:∃j,k=j+1:=⟨k-1,by omega⟩;have hj:j<k2:=by omega
     have a9:(0:Int)≤j:=by omega
     have ba:(j:Int)<k2:=by omega
     have bl:IntKind.i64.wrap (j:Int)=(j:Int):=Ag _ (by omega);have ai:(((j:Int)+1)==0)=false:=beq_eq_false_iff_ne.mpr (by omega);obtain⟨b3,o3,P,h3⟩:=G9 q.o hj;injection P with P
     injection P with P e4
     subst P e4;obtain⟨⟨x',y',z'⟩,K⟩:∃x,L[j]?=some x:=⟨_,Ai (by rw [HK.o];exact hj)⟩;obtain⟨t,u,v⟩:=h3 x' y' z' K;have V:E8 (x',y',z') (x,y,z):=by
      have h1:=HX.o;obtain⟨i1,e1⟩:=List.getElem?_eq_some_iff.1 K;obtain⟨i2,O⟩:=List.getElem?_eq_some_iff.1 h1;have:=List.pairwise_iff_getElem.1 HS.o j (j+1) i1 i2 (by omega);rw [e1,O] at this;exact this
     have M:=Hd V;clear h3 K V hk0' g1 g2 g3 g4 g5;go_upto_region 13 with fail
     have F:=Hd (Bb.new wa 46 #[Aa Ab x',Aa Ab y',Aa Ab z']);replace p:=Hd (p.o.alloc (.cells #[Aa Ab x',Aa Ab y',Aa Ab z'] 46));replace a:=Hd (a.o.alloc a.o.size (.cells #[Aa Ab x',Aa Ab y',Aa Ab z'] 46));replace q:=Hd (q.o.alloc (.cells #[Aa Ab x',Aa Ab y',Aa Ab z'] 46));clear t u v v0 v1 v2;generalize wa.alloc (.cells #[Aa Ab x',Aa Ab y',Aa Ab z'] 46)=wb at p F a q⊢;generalize wa.heap.size=bY at F⊢;obtain ⟨v0,v1,v2⟩:=p.o.c3;obtain ⟨q0,q1,q2⟩:=F.o.c3;have aj:x'<x∨(x'=x∧(y'<y∨(y'=y∧z'<z))):=M.o;clear M t1 t2 t3 t4 t5;rcases aj with h1|⟨rfl,h1|⟨rfl,h1⟩⟩
     ·have r1:¬x<x':=by omega
      have r2:(x'==x)=false:=beq_eq_false_iff_ne.mpr (by omega);clear h1;go_wp2_with fail;go_roundw
      case rel=>exact⟨j+1+1,by omega,by go_num,a.o,q.o⟩
      case measure=>simp [intOf];omega
     ·have r1:¬y<y':=by omega
      have r2:(y'==y)=false:=beq_eq_false_iff_ne.mpr (by omega);clear h1;go_wp2_with fail;go_roundw
      case rel=>exact⟨j+1+1,by omega,by go_num,a.o,q.o⟩
      case measure=>simp [intOf];omega
     ·have r1:¬z≤z':=by omega
      clear h1;go_wp2_with fail;go_roundw
      case rel=>exact⟨j+1+1,by omega,by go_num,a.o,q.o⟩
      case measure=>simp [intOf];omega
   ·obtain rfl:k=k2:=by omega
    obtain⟨m,rfl⟩:∃m,k=m+1:=⟨k-1,by omega⟩;have J:=ae.o;rw [HK.o,Nat.add_sub_cancel] at J;obtain⟨X,Z,O,h2⟩:=G9 q.o (show m<m+1 by omega);subst O;obtain⟨t,u,v⟩:=h2 _ _ _ J;have bh:(3:Int)≤(m:Int)+1:=by omega
    have bg:(0:Int)≤m:=by omega
    have bi:(m:Int)<(m:Int)+1:=by omega
    have bn:IntKind.i64.wrap (m:Int)=(m:Int):=Ag _ (by omega);have bo:IntKind.i64.wrap ((n1:Int)-1)=(n1:Int)-1:=Ag _ (by omega);have ah:=Nf ((n1:Int)-1,(n1:Int),14) ((n1:Int)-1,(n1:Int),14) true (by simp);simp only at ah;have KX:=Hd h2;clear h2 J I hk;obtain⟨wz,rfl⟩:∃wo:World,wo=wr:=⟨_,rfl⟩;go_wp2_with fail;go_region_held3 (fun w'=>w'.cell? ⟨X,Z+m*3,none⟩=some (Aa Ab ((n1:Int)-1))∧w'.cell? ⟨X,Z+m*3+1,none⟩=some (Aa Ab n1)∧w'.cell? ⟨X,Z+m*3+2,none⟩=some (Aa Ab 14)) (first|with_reducible exact⟨t,u,v⟩|with_reducible exact⟨Bw t,Bw u,Bw v⟩)
     (first
      |(go_at_call 42;(with_reducible refine(C9 ((n1:Int)-1) n1 14 _).mono ?_);rintro e w5 ⟨rfl,d⟩;replace t:=Ba d (Bw t);replace u:=Ba d (Bw u);replace v:=Ba d (Bw v);replace a:=Hd (A6 (Fb wz|>A6 a.o) d);clear d)
      |(go_at_call 16;(with_reducible refine(Fg _).mono ?_);rintro e w6 ⟨rfl,d⟩;replace t:=Ba d t;replace u:=Ba d u;replace v:=Ba d v;replace a:=Hd (A6 a.o d);clear d))
    go_wp2_with fail;go_ret;exact⟨rfl,a.o⟩
 ·obtain rfl:L=[]:=D.o C;obtain rfl:k2=0:=by rw [←G];rfl
  have ai:(E != 0)=true:=by simpa using C
  clear C HG D;go_wp2_with fail;go_at_call 16;refine(Fg _).mono ?_;rintro e w4 ⟨rfl,d⟩;replace a:=Hd (A6 a.o d);clear d;go_wp2;go_ret;exact⟨rfl,a.o⟩
theorem mG(A:Option Addr)(n c lo:Nat)(h1:lo≤n)(hc:n≤c):∃X,(∀w,(Instr.sliceAt 22 (.slice A n c) (some (Aa Ab lo)) none none).run Ad w= .ok (.slice X (n-lo) (c-lo)) w)∧
  ∀w l,B4 w A n l→B4 w X (n-lo) (l.drop lo):=by
 refine⟨if c=lo then A else A.map (·.add lo),fun w=>?_,fun w l h=>?_⟩
 ·have ht:Ad.underlying 22=some (.slice (Ad.elem 22)):=by kernel_rfl
  have a:(sizeOf (Ad.elem 22)).run Ad w= .ok 1 w:=by kernel_rfl
  rw [run_sliceAt_slice (h:=ht),run_slice_l (ht:=ht) (h0:=by omega) (h1:=by omega),a];simp [Result.andThen,sliced]
 ·split
  ·exact h.cut0 (c:=n) (by omega) (Ae _)
  ·have:=h.cut1 C0 (k:=lo);simpa [Nat.mul_one] using this
theorem vG(A:Option Addr)(n c M:Nat)(h:M≤c)(w:World):(Instr.sliceAt 22 (.slice A n c) none (some (Aa Ab M)) none).run Ad w= .ok (.slice A M c) w:=by
 have ht:Ad.underlying 22=some (.slice (Ad.elem 22)):=by kernel_rfl
 have a:(sizeOf (Ad.elem 22)).run Ad w= .ok 1 w:=by kernel_rfl
 rw [run_sliceAt_slice (h:=ht),run_slice_h (ht:=ht) (h0:=by omega) (h2:=by omega),a];simp [Result.andThen,sliced];intro _;cases A <;>simp [Addr.add]
theorem Aaq(x y:Int):∃b:UInt8,Go.bits .xor .u8 x y=(b.toNat:Int):=by
 obtain⟨b,hb⟩:∃b:UInt8,IntKind.u8.wrap ((BitVec.ofInt 8 x^^^BitVec.ofInt 8 y).toNat:Int)=(b.toNat:Int):=by
  refine⟨Aq (((BitVec.ofInt 8 x^^^BitVec.ofInt 8 y).toNat:Int) % 256).toNat,?_⟩;rw [UInt8.toNat_ofNat',IntKind.wrap_u8];omega
 exact⟨b,hb⟩
theorem kC{w:World}{g n:Nat}{cs:Array Value}(hg:w.heap.size=g)(hn:l.length=n)(hc:cs.toList=l.flatMap bc):B4 (w.alloc (.cells cs 5)) (some ⟨g,0,none⟩) n l:=by
 subst hg;exact M1 (Bb.new w 5 cs) hn hc
theorem yJ{f:Nat}(hf:f=0∨f=7):(∃e a,Zk (Xv (f:Int)) e a∧e≤1000)∧(F5 (bits (f:Int)) (Cs Ht)).length≤100:=by
 rcases hf with rfl|rfl
 ·exact⟨⟨45,42,Abk.1,by decide⟩,by decide +kernel⟩
 ·exact⟨⟨43,19,Abl,by decide⟩,by decide +kernel⟩
theorem dP(w:World):Calls Ad 5 #[] w (Ab5 (.bool true) w):=by
 have az:=Hd (Af w.heap.size w);go_enter func5,ntmps5;go_wp2_with fail;go_loopw [1,2,3] (fun u _ _ wr=>∃t:Nat,t≤38∧u= Aa Ab t∧Below w.heap.size w wr) (fun u _ _ _=>38-(intOf u).toNat)
 case atStart=>exact⟨0,by omega,rfl,az.o⟩
 case round=>
  clear az;obtain⟨t,ht,rfl,a⟩:=hrel;have q:=Hd a;clear a;by_cases ct:t<38
  ·have cr:(0:Int)≤t:=by omega
   have cu:(t:Int)<38:=by omega
   have c0:IntKind.i64.wrap ((t:Int)+1)=(t:Int)+1:=Ag _ (by omega);have cl:IntKind.i64.wrap (4*(t:Int))=4*(t:Int):=Ag _ (by omega);have cm:IntKind.u8.wrap (4*(t:Int))=4*(t:Int):=by rw [IntKind.wrap_u8];omega
   obtain⟨T,hT⟩:∃T:UInt8,4*(t:Int)=(T.toNat:Int):=⟨Aq (4*t),by rw [UInt8.toNat_ofNat'];omega⟩;have HT:=Hd hT;clear hT;go_upto_region 5 with fail
   have P:=Hd (wT (W:=wr) #[.int .u8 0,.int .u8 0,.int .u8 97,.int .u8 0,.int .u8 1,.int .u8 1,.int .u8 1,.int .u8 0,.int .u8 1,.int .u8 0,.int .u8 4,.int .u8 0,.int .u8 0,.int .u8 (4*(t:Int)),.int .u8 1] 15 [0,0,97,0,1,1,1,0,1,0,4,0,0,T,1] rfl rfl (by decide) (by rw [HT.o];rfl));have F:=Hd (q.o.alloc q.o.size (.cells #[.int .u8 0,.int .u8 0,.int .u8 97,.int .u8 0,.int .u8 1,.int .u8 1,.int .u8 1,.int .u8 0,.int .u8 1,.int .u8 0,.int .u8 4,.int .u8 0,.int .u8 0,.int .u8 (4*(t:Int)),.int .u8 1] 5));have HG:=Hd q.o.size;generalize wr.alloc (.cells #[.int .u8 0,.int .u8 0,.int .u8 97,.int .u8 0,.int .u8 1,.int .u8 1,.int .u8 1,.int .u8 0,.int .u8 1,.int .u8 0,.int .u8 4,.int .u8 0,.int .u8 0,.int .u8 (4*(t:Int)),.int .u8 1] 5)=w1 at P F⊢;generalize wr.heap.size=g at P HG⊢;clear q;go_wp2_with fail;go_loopw [3] (fun u w2=>∃o:Nat,o≤14∧u= Aa Ab o∧Below w.heap.size w w2∧∃l,Gp w2 g (some ⟨g,0,none⟩) 15 15 l) (fun u _=>14-(intOf u).toNat)
   case atStart=>exact⟨0,by omega,rfl,F.o,_,P.o⟩
   case round=>
    clear F P;obtain⟨o,ho,rfl,a,l,X⟩:=hrel;have q:=Hd a;have P:=Hd X;by_cases cp:o<14
    ·have co:(0:Int)≤o:=by omega
     have cq:(o:Int)<14:=by omega
     have cz:IntKind.i64.wrap ((o:Int)+1)=(o:Int)+1:=Ag _ (by omega);have cv:IntKind.u8.wrap (o:Int)=(o:Int):=by rw [IntKind.wrap_u8];omega
     obtain⟨b,ba⟩:∃b:UInt8,b.toNat=o:=⟨Aq o,by rw [UInt8.toNat_ofNat'];omega⟩;obtain⟨⟨ao,u0,aq⟩,M⟩:=Nc (i:=12) X (by omega) b;rw [ba] at M;have E:=Hd M;have ab:=Hd (a.setCell (p:=⟨g,12,none⟩) HG.o (.int .u8 (o:Int)));clear a X M ba P q;go_upto_region 9 with fail
     generalize World.setCell _ ⟨g,12,none⟩ (.int .u8 (o:Int))=w3 at E ab⊢;go_wp2_with fail;go_at_call 20;refine(Dm _ 15 15 20 _ _ E.o.is (Ae _)).mono ?_;rintro e w4 ⟨rfl,I⟩;have r:=Hd (A6 ab.o I);have z:=Hd (E.o.pure I);clear I E ab ao aq;go_wp2_with fail;go_at_call 20;refine(Dm _ 15 15 2 _ _ z.o.is (Ae _)).mono ?_;rintro e N ⟨rfl,J⟩;have s:=Hd (A6 r.o J);have C:=Hd (z.o.pure J);clear J r z;go_wp2_with fail;go_at_call 21;refine(Nt _ 15 15 20 _ _ C.o.is (Ae _)).mono ?_;rintro e w6 ⟨rfl,am⟩;have B:=Hd (A6 s.o am);have af:=Hd (C.o.pure am);clear am s C;go_wp2_with fail;go_at_call 22;refine(Wn _ 15 15 3 9 _ _ af.o.is (Ae _)).mono ?_;rintro e w7 ⟨rfl,an⟩;have m:=Hd (A6 B.o an);have bl:=Hd (af.o.pure an);clear an B af;go_wp2_with fail;go_roundw
     case rel=>exact⟨o+1,by omega,by go_num,m.o,_,bl.o⟩
     case measure=>simp [intOf];omega
    ·obtain rfl:o=14:=by omega
     clear a X P;go_wp2_with fail;go_at_call 20;have L:=kC (w:=wr) (l:=[1,0,T,2,40,1]) (n:=6) (cs:=#[.int .u8 1,.int .u8 0,.int .u8 (4*(t:Int)),.int .u8 2,.int .u8 40,.int .u8 1]) rfl rfl (by rw [HT.o];rfl);refine(Dm _ 6 6 20 _ _ L (Ae _)).mono ?_;rintro e w4 ⟨rfl,I⟩;have r:=Hd (A6 (q.o.alloc q.o.size _) I);clear I L q;go_wp2_with fail;go_at_call 20;have L:=kC (w:=w4) (l:=[2,1,2,T,40,3,40,1]) (n:=8) (cs:=#[.int .u8 2,.int .u8 1,.int .u8 2,.int .u8 (4*(t:Int)),.int .u8 40,.int .u8 3,.int .u8 40,.int .u8 1]) rfl rfl (by rw [HT.o];rfl);refine(Dm _ 8 8 20 _ _ L (Ae _)).mono ?_;rintro e N ⟨rfl,J⟩;have s:=Hd (A6 (r.o.alloc r.o.size _) J);clear J L r;go_wp2_with fail;go_roundw
     case rel=>exact⟨t+1,by omega,by go_num,s.o⟩
     case measure=>simp [intOf];omega
  ·obtain rfl:t=38:=by omega
   rw [show((38:Nat):Int)=38 from rfl];go_upto_region 15 with fail
   obtain⟨hR,hK,a⟩:=sM wr 16 4 0 0 1 1099511627776 1 1099511627776 rfl rfl;generalize ((((((((wr.alloc _).alloc _).alloc _).alloc _).alloc _).alloc _).alloc _).alloc _)=N at hR hK a⊢;generalize wr.heap.size+1+1+1+1+1+1+1=bt at hK⊢;obtain⟨x,hx⟩:∃x,L9 wr.heap.size=x:=⟨_,rfl⟩;rw [hx] at hR hK;have HR:=Hd (show B7 N (fun b=>b<N.heap.size) x Ht from hR);have HK:=Hd hK;have s:=Hd (q.o.trans (a.mono q.o.size));clear hx hR hK a q;go_wp2_with fail;go_loopw [6,7,8,9,10,11] (fun u _ _ _ _ _ wr=>∃f:Nat,(f=0∨f=7∨f=14)∧u= Aa Ab f∧Below N.heap.size N wr) (fun u _ _ _ _ _ _=>14-(intOf u).toNat)
   case atStart=>exact⟨0,by omega,rfl,Af _ _⟩
   case round=>
    obtain⟨f,hf,rfl,a⟩:=hrel;have K:=Hd a;have ag:=Hd (HR.o.pure a);have a7:=Hd (HK.o.pure a);clear a;by_cases cg:f<8
    ·have cf:(0:Int)≤f:=by omega
     have ch:(f:Int)<8:=by omega
     have cx:IntKind.i64.wrap ((f:Int)+7)=(f:Int)+7:=Ag _ (by omega);obtain⟨⟨e0,a0,bd,be⟩,Z⟩:=yJ (f:=f) (by omega);have R:=Hd (And.intro bd be);have aa:=Hd (Xt (f:Int) ag.o (fun k hk=>Nat.lt_of_lt_of_le hk K.o.size) (by rw [Pn];exact Po) Ls.2 Ls.1);have U:=Hd (fun W (hW:Below wr.heap.size wr W)=>show Calls Ad 38 #[.agg (Ab7 x),Aa Ab 60,Aa Ab 40] W (R8 W Ht) from by
      have:=rH 40 59 (ag.o.imp.pure hW) (by decide);rw [vE] at this;exact this)
     generalize F5 (bits (f:Int)) (Cs Ht)=l at Z aa;obtain ⟨x0,x1,x2,x3,x4,x5⟩:=a7.o.c6;clear ag a7 bd be;go_wp2_with fail;go_at_call 10;refine aa.o.mono ?_;intro e w6 hD;obtain⟨A,n,c,rfl,X,a⟩:=hD;have Y:=X.cap.1;have cn:n≤100:=by rw [←X.1];exact Z
     have V:=Hd X.is;have ah:=Hd a;replace x0:=Ba a x0;replace x1:=Ba a x1;replace x2:=Ba a x2;replace x3:=Ba a x3;replace x4:=Ba a x4;replace x5:=Ba a x5;clear a X aa;go_wp2_with fail;go_at_call 23;refine(rD x Ht (f:Int) e0 a0 w6 (fun W hW=>U.o W (B5 ah.o hW)) Pn Po Ls.2 Ls.1 R.o.1 R.o.2).mono ?_;rintro e w7 ⟨rfl,a⟩;have ai:=Hd (B5 ah.o a);have v:=Hd (V.o.pure a);replace x0:=Ba a x0;replace x1:=Ba a x1;replace x2:=Ba a x2;replace x3:=Ba a x3;replace x4:=Ba a x4;replace x5:=Ba a x5;clear a ah V;go_wp2_with fail;go_at_call 4;refine(vD x (f:Int) 77 e0 a0 w7 (fun W hW=>U.o W (B5 ai.o hW)) Po R.o.1 R.o.2 (by decide)).mono ?_;rintro e w8 ⟨rfl,a⟩;have aj:=Hd (B5 ai.o a);have G:=Hd (v.o.pure a);replace x0:=Ba a x0;replace x1:=Ba a x1;replace x2:=Ba a x2;replace x3:=Ba a x3;replace x4:=Ba a x4;replace x5:=Ba a x5;clear a ai v;go_wp2_with fail;go_at_call 24;refine(rG x Ht 17 w8 (fun W hW=>U.o W (B5 aj.o hW)) Pn Po Ls.2 Ls.1 lZ.1 (by decide) lZ.2).mono ?_;rintro e w9 ⟨rfl,a⟩;have m:=Hd (K.o.trans ((B5 aj.o a).mono K.o.size));have v:=Hd (G.o.pure a);clear a x0 x1 x2 x3 x4 x5 aj G K U;go_wp2_with fail;go_loopw [9,10,11] (fun u _ _ wr=>∃i:Nat,i≤n∧u= Aa Ab i∧Below N.heap.size N wr∧B4 wr A n l) (fun u _ _ _=>n-(intOf u).toNat)
     case atStart=>exact⟨0,by omega,rfl,m.o,v.o⟩
     case round=>
      clear m v;obtain⟨i,hi,rfl,a,L⟩:=hrel;have q:=Hd a;have O:=Hd L;clear a L;by_cases ap:i<n
      ·have ci:(0:Int)≤i:=by omega
       have cj:(i:Int)<n:=by omega
       have cy:IntKind.i64.wrap ((i:Int)+1)=(i:Int)+1:=Ag _ (by omega);obtain⟨X1,bq,bg⟩:=mG A n c i (by omega) Y;have br:=vG A n c i (by omega);have a8:=Hd bg;clear bg;go_wp2_with fail;go_at_call 20;refine(Dm A i c 50 _ _ (O.o.take C0 (by omega)) (by omega)).mono ?_;rintro e w7 ⟨rfl,a⟩;have m:=Hd (A6 q.o a);have v:=Hd (O.o.pure a);clear a q O;go_wp2_with fail;go_at_call 20;refine(Dm X1 (n-i) (c-i) 50 _ _ (a8.o _ _ v.o) (by omega)).mono ?_;rintro e w8 ⟨rfl,a⟩;have Q:=Hd (A6 m.o a);have G:=Hd (v.o.pure a);clear a m v bq a8 br;go_wp2_with fail;go_at_call 20;refine(Dm A n c i _ _ G.o Y).mono ?_;rintro e w9 ⟨rfl,a⟩;have a1:=Hd (A6 Q.o a);have a6:=Hd (G.o.pure a);clear a Q G;go_wp2_with fail;go_loopw [10,11] (fun u _ wr=>∃d:Nat,1≤d∧d≤600∧u= Aa Ab d∧Below N.heap.size N wr∧B4 wr A n l) (fun u _ _=>256-(intOf u).toNat)
       case atStart=>exact⟨1,by omega,by omega,rfl,a1.o,a6.o⟩
       case round=>
        clear a1 a6;obtain⟨d,cb,cc,rfl,a,L⟩:=hrel;have q:=Hd a;have O:=Hd L;clear a L;by_cases cd:d<256
        ·have ca:(0:Int)≤d:=by omega
         have ce:(d:Int)<256:=by omega
         have cw:IntKind.i64.wrap (2*(d:Int))=2*(d:Int):=Ag _ (by omega);have b2:IntKind.i64.wrap (2*(d:Int)+(d:Int) % 3)=2*(d:Int)+(d:Int) % 3:=Ag _ (by omega);have a2:=Hd (Pr A n c l wr O.o (by omega));go_wp2_with fail;go_at_call 12;refine a2.o.mono ?_;rintro e bh ⟨A3,n3,c3,rfl,H,al⟩;obtain rfl:n3=n:=by rw [←H.1,O.o.1]
         obtain⟨g,rfl,bf⟩:=bQ H (by omega);have P:=Hd H;have F:=Hd (A6 q.o al);have a4:=Hd (O.o.pure al);have a3:=Hd (show N.heap.size≤g∧∀ad,A=some ad→¬ad.block=g from⟨Nat.le_trans q.o.size bf,fun ad e h=>by
          obtain⟨b',c1,e2,ck⟩:=O.o.some_ C0 (by omega) (by omega);rw [e2] at e;injection e with e
          subst e;simp only at h;omega⟩)
         obtain⟨bb,oo,ee,bp,D⟩:=Ep H.is ap;injection ee with ee
         injection ee with e1 e2
         subst e1 e2;rw [Nat.zero_add] at D;obtain⟨y,hy⟩:∃y,(l[i].toNat:Int)=y:=⟨_,rfl⟩;rw [hy] at D;obtain⟨⟨ao,u0,aq⟩,_⟩:=Nc H ap 0;clear H al bf a2 q O hy bp;go_wp2_with fail;go_at_call 20;obtain⟨b,a⟩:=Aaq y (d:Int);rw [a];have ak:=(Nc P.o ap b).2;have r:=Hd (F.o.setCell (p:=⟨g,i,none⟩) a3.o.1 (.int .u8 (b.toNat:Int)));have ae:=Hd (a4.o.fr (Fr.setCell (S:=fun j=>j=g) (Fr.refl _ bh) (p:=⟨g,i,none⟩) (fun _=>rfl) (.int .u8 (b.toNat:Int))) a3.o.2);clear a ao aq D P F a4;generalize bh.setCell ⟨g,i,none⟩ (.int .u8 (b.toNat:Int))=w11 at ak r ae⊢;have z:=Hd ak;clear ak;refine(Dm _ n3 c3 100 _ _ z.o.is z.o.cap.1).mono ?_;rintro e c4 ⟨rfl,a⟩;have s:=Hd (A6 r.o a);have a5:=Hd (ae.o.pure a);have C:=Hd (z.o.pure a);clear a r ae z;go_wp2_with fail;go_at_call 21;refine(Nt _ n3 c3 100 _ _ C.o.is C.o.cap.1).mono ?_;rintro e c5 ⟨rfl,a⟩;have B:=Hd (A6 s.o a);have V:=Hd (a5.o.pure a);clear a s a5 C;go_wp2_with fail;go_roundw
         case rel=>exact⟨2*d+d % 3,by omega,by omega,by go_num,B.o,V.o⟩
         case measure=>simp [intOf];omega
        ·go_wp2_with fail;go_roundw
         case rel=>exact⟨i+1,by omega,by go_num,q.o,O.o⟩
         case measure=>simp [intOf];omega
      ·obtain rfl:i=n:=by omega
       go_wp2_with fail;go_roundw
       case rel=>exact⟨f+7,by omega,by go_num,q.o⟩
       case measure=>simp [intOf];omega
    ·obtain rfl:f=14:=by omega
     have bk:=Hd (s.o.trans (K.o.mono s.o.size));go_wp2_with fail;go_at_call 16;refine(Fg _).mono ?_;rintro e w6 ⟨rfl,a⟩;have B:=Hd (A6 bk.o a);clear a;go_wp2_with fail;go_at_call 20;refine(Dm none 0 0 (-9223372036854775808) [] _ (Is.nil _ _) (Ae _)).mono ?_;rintro e w7 ⟨rfl,a⟩;have m:=Hd (A6 B.o a);clear a B;go_wp2_with fail;go_at_call 20;refine(Dm (some ⟨w7.heap.size,0,none⟩) 3 3 9223372036854775807 [5,4,1] _ (kC rfl rfl rfl) (Ae _)).mono ?_;rintro e w8 ⟨rfl,a⟩;have Q:=Hd (A6 (m.o.alloc m.o.size _) a);clear a m;go_wp2_with fail;go_ret;exact⟨rfl,Q.o⟩
end
section
open Go.RowKit Go.Acc Go.ChangeShapes Go.WideShapes Go.ChangeAt
theorem coverKnown_run(W:World)(_base:Nat):Calls Ad 5 #[] W (Ab5 (.bool true) W):=dP W
theorem coverKnown_lifted(os:Os)(started:os.Started)(H:Type)(enc:TypeId×Value→H):
  ReturnsInHanded {} Tryz.checked os 5 .any (Rows.coverKnownSpec.pre6 enc Ad Tryz.f5 Rows.coverKnownRow.domain false) (Rows.coverKnownSpec.post enc Ad Tryz.f5 false true false false):=by
 refine returnsInHanded_of_change (C:=Tryz.checked) uX started (by kernel_rfl) func5
  (ChangeSpec.witness6 (enc:=enc) (C:=Tryz.checked) false ⟨#[],#[],[]⟩ 8 (by kernel_rfl) (by kernel_rfl) (by kernel_rfl) (by kernel_rfl)) ?_
 intro W base b m s d a i k _;have l:∀(j:Nat) t v,Tryz.f5.params[j]?=some t→b[j]?=some v→Value.okWide Ad W .any base t v:=a;have f:=i;obtain⟨p,q,c,n,rfl,o,r⟩:=i;have g:DataW.TrodAll enc Ad W 0 (fun _=>true) true Tryz.f5.params.toList b.toList m p:=c;rw [params5] at g;obtain⟨rfl,rfl,rfl⟩:=trodAll_none g;obtain⟨rfl,rfl⟩:=trodVars_none n;clear c a;refine(coverKnown_run W base).mono fun e W' ⟨he,bel⟩=>?_
 subst he;exact⟨_,rfl,_,_,_,[],[],[],f,trodAll_mk1 (shut_bool underlying4 _),trodAll_mk0,rfl,bel.frame _,fun h=>by cases h⟩
theorem Y3:laidOutB Ad=true:=by kernel_rfl
theorem Y4:mapsRowed Ad=true:=by kernel_rfl
theorem Y5:(Rows.coverKnownRow.inPlace==Ad.inPlace 5)=true:=by kernel_rfl
theorem Y6:(Rows.coverKnownRow.unfollowed==Ad.unfollowed 5)=true:=by kernel_rfl
theorem Y7:(Rows.coverKnownRow.recurses==Ad.recurses 5)=true:=by kernel_rfl
theorem Y8:(Rows.coverKnownRow.named==Ad.varsNamed 5)=true:=by kernel_rfl
theorem Sl:joinedFacts Ad 5 Tryz.f5 Rows.coverKnownSpec Rows.coverKnownRow=true:=by
 unfold joinedFacts;rw [Y3,Y4,Y5,Y6,Y7,Y8]
 kernel_rfl
theorem coverKnown_holds:Rows.CoverKnownSaid:=
 OpenClaim.holds_of_wide 5 Tryz.f5 rfl rfl rfl rfl rfl rfl rfl ⟨rfl,rfl,rfl,rfl,rfl⟩ rfl rfl rfl rfl rfl (by kernel_rfl) func5 Sl
  (of_decide_eq_true (by kernel_rfl)) (by unfold Func.isWrapper;rw [if_neg (of_decide_eq_false (by kernel_rfl))];exact⟨rfl,rfl⟩)
  (fun os started H enc _=>coverKnown_lifted os started H enc)
#print axioms coverKnown_holds
end
end Go.Proofs.YtejpbijeifjdeaaGreat
