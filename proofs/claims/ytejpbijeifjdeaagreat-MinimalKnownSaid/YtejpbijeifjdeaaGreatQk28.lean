/- Parts of the proof. -/
import Derived.Test.YtejpbijeifjdeaaGreatQk27
set_option maxHeartbeats 4000000
set_option maxRecDepth 100000
open Go.Value renaming int→Aa
open Go.IntKind renaming i64→Ab
open Nat renaming le_refl→Ae,le_trans→Am
open Go.RowKit.Below renaming refl→Af
open Go.IntWalk renaming i64_in→Ag
open List renaming getElem?_eq_getElem→Aj
open Int renaming toNat_natCast→Ao
open Go.Proofs.Tryz
open Go.Proofs.Tryz renaming prog→Ad
namespace Go.Proofs.YtejpbijeifjdeaaGreat
open Go.RowKit Go.Acc
variable {w:World}{A:Option Addr}{n:Nat}{s:Bk}
theorem cZ(a b c a' b' c':Int)(q:Bool)(h:decide ((a',b',c')=(a,b,c))=q):∀W:World,(binOp .eql 70 (.agg (Adl a' 0 b' c')) (.agg (Adl a 0 b c))).run Ad W= .ok (.bool q) W:=by
 intro W;subst h;by_cases h1:a'=a <;>by_cases h2:b'=b <;>by_cases h3:c'=c <;>go_simp
theorem qD{k:Nat}{L:List P3}(h:wO w A n L)(hk:k<n):∃b off,A=some ⟨b,off,none⟩∧∀x y z,L[k]?=some (x,y,z)→w.cell? ⟨b,off+k*4,none⟩=some (Aa Ab x)∧w.cell? ⟨b,off+k*4+1,none⟩=some (Aa Ab 0)∧w.cell? ⟨b,off+k*4+2,none⟩=some (Aa Ab y)∧w.cell? ⟨b,off+k*4+3,none⟩=some (Aa Ab z):=by
 obtain⟨b,off,c,a,h1⟩:=h.at_ Yn (by omega) hk;refine⟨b,off,c,fun x y z hx=>?_⟩;rw [Aj a] at hx;injection hx with hx
 rw [hx] at h1;exact⟨h1 0 (by omega),h1 1 (by omega),h1 2 (by omega),h1 3 (by omega)⟩
theorem Sx{α:Type}{f:α→List Value}{sz:Nat}{e:TypeId}{B c:Nat}{l:List α}{ad:Addr}(h:Go.Acc.Own f sz e w B A n c l)(hA:A=some ad):∃cur,Bh w ad.block e cur:=by
 subst hA;rcases h.2.2 with⟨hv,_⟩|⟨g',cap,cur,hv,hb,hg,_⟩
 ·cases hv
 ·injection hv with h1
  injection h1 with h1
  subst h1;exact⟨cur,hg⟩
theorem aL{ops:Array Oper}{o:Oper}{a:Act}{K:Act→World→Prop}{Q:Exit→Act→World→Prop}{E:Prop}(hgd:o.guard=none)(s x:Operand)
  (ho:o.op= .call { callee:= .builtin .append,args:=#[s,x],argTypes:=#[97,97]})
  (B:Nat) (A:Option Addr) (n c:Nat) (l:List P3) (hs:a.eval s= .slice A n c) (hown:Ry w B A n c l)
  (A2:Option Addr) (m d:Nat) (l2:List P3) (hx:a.eval x= .slice A2 m d) (hr:wO w A2 m l2)
  (hbytes:n+m≤1099511627776) (hbase:B≤w.heap.size)
  (h:∀A' c' w',Ry w' B A' (n+m) c' (l++l2)→Fr (fun k=>∃ad,A=some ad∧k=ad.block) w w'→(A'.map (·.block)=A.map (·.block)∨A'.map (·.block)=some w.heap.size)→K (a.put o.dst (.slice A' (n+m) c')) w'):
  if Region.wanted o (yielded ops a.tmps)=true then Oper.wp Ad o a w K Q else E:=by
 have t:Region.wanted o (yielded ops a.tmps)=true:=by simp [Region.wanted,hgd]
 rw [if_pos t];obtain⟨i,p,u,b,j⟩:=info_parts Aau;have q:n+m≤maxLen:=by simp only [maxLen];omega
 obtain⟨v,w',f,h2,h3,g⟩:=Iq (P:=Ad) w B 97 o.type 70 i _ 4 32 underlying97 p u b j rfl (by omega) (.slice A n c) n (l.flatMap hcl) hown.2 A2 m d (l2.flatMap hcl) (by rw [Cd Yn,hr.1]) hr.2 (No xW l2) q (by omega) hbase;obtain⟨A',c',rfl,e⟩:=Own.mk Yn (by omega) (l:=l++l2) h2 List.flatMap_append.symm;have r:=h A' c' w' e ((Fr.of_grown h3).mono fun i _ hi=>by
  cases A with
  |none=>simp [Value.ownBlock] at hi
  |some ad=>simp [Value.ownBlock] at hi;exact⟨ad,rfl,hi⟩) (by cases A <;>cases A' <;>simp only [Value.ownBlock,Option.map] at g⊢ <;>exact g)
 clear h e h2 h3 g;unfold Oper.wp;simp only [execOp,ho,resolve,invoke,builtin,Sem.run_bind,Sem.run_pure,Result.andThen_ok,List.map_toArray,List.map_cons,List.map_nil,hs,hx,f];exact r
theorem rY{E:Il}{g0 g:E9}{x:P3}{wv w4:World}{A4 Ah:Option Addr}{n4 c4 nh ch nl cl:Nat}{Al:Option Addr}
  (h:D9 E g s wv) (ht:Ee E g0 g w wv) (h1:Bh wv E.bw 123 #[.slice E.A E.n E.c,Aa Ab s.left,.slice Ah nh ch,.slice Al nl cl]) (h2:Ry wv E.B2 Ah nh ch s.had) (h3:F5 wv E.B2 Al nl cl (Db s.o)) (h4:Ah.map (·.block)=g.1) (h5:Al.map (·.block)=g.2)
  (hf:Fr (fun k=>∃ad,Ah=some ad∧k=ad.block) wv w4) (hat:A4.map (·.block)=Ah.map (·.block)∨∃k,A4.map (·.block)=some k∧wv.heap.size≤k) (ho:Ry w4 E.B2 A4 n4 c4 (s.had++ [x])):
  Nh E g0 (s.see x) w (w4.setCell ⟨E.bw,2,none⟩ (.slice A4 n4 c4)):=by
 have l:=h.ok;have u:=h.sz;have v:=l.w2;have C:=l.w0;have a:Fr (fun k=>k=E.bw) w4 (w4.setCell ⟨E.bw,2,none⟩ (.slice A4 n4 c4)):=Fr.setCell (S:=fun k=>k=E.bw) (Fr.refl _ _) (fun _=>rfl) _;have z:∀ad,Ah=some ad→E.B2≤ad.block:=fun ad had=>(h2.addr ad had).2.1
 have q:∀ad,A4=some ad→E.B2≤ad.block:=fun ad had=>(ho.addr ad had).2.1
 have d:∀k,k<E.B2→¬ ∃ad,Ah=some ad∧k=ad.block:=by
  rintro k B ⟨ad,e,rfl⟩;have:=z ad e;omega
 have t:∀ad bd,Al=some ad→Ah=some bd→ad.block≠bd.block:=by
  intro ad bd m p y;have i:=Sx h3 m;have r:=Sx h2 p;rw [y] at i;obtain⟨G,D⟩:=i;obtain⟨H,F⟩:=r;exact Bh.ne_ D F (by decide) rfl
 refine⟨(A4.map (·.block),g.2),⟨l,?_,⟨A4,n4,c4,Al,nl,cl,?_,?_,?_,rfl,h5⟩,?_⟩,ht.trans ⟨?_,?_⟩⟩
 ·refine(h.b.fr hf (fun ad had=>d _ ?_)).fr a (fun ad had e=>?_)
  ·have:=l.hA ad had;omega
  ·have:=l.hA ad had;have e:ad.block=E.bw:=e;omega
 ·exact(h1.fr hf (d _ v)).set_ 2 _
 ·refine ho.fr a (fun ad had e=>?_);have f:=q ad had;have e:ad.block=E.bw:=e;omega
 ·refine(h3.fr hf (fun ad had e=>?_)).fr a (fun ad had e=>?_)
  ·obtain⟨bd,m,p⟩:=e;exact t ad bd had m p
  ·have f:=(h3.addr ad had).2.1;have e:ad.block=E.bw:=e;omega
 ·exact Am u (Am hf.size a.size)
 ·refine(hf.mono (T:=fun k=>¬E.Free g k) ?_).trans a (fun k _ e hF=>hF.1 e);rintro k _ ⟨ad,e,rfl⟩ hF;apply hF.2.1;rw [←h4,e];rfl
 ·intro k B hF;refine⟨hF.1,fun e=>?_,hF.2.2⟩;rcases hat with f|⟨j,f,I⟩
  ·have e:A4.map (·.block)=some k:=e;rw [f,h4] at e;exact hF.2.1 e
  ·have e:A4.map (·.block)=some k:=e;rw [f] at e;injection e with e
   omega
theorem jZ(E:Il)(g:E9)(s:Bk)(s':Bk)(r0:Bool)(p q t v a:Int)(w:World)(h:D9 E g s w)(hs:s.had.length≤1073741824)(hr0:decide ((a,t,v)∈s.had)=r0)(hs':(if(a,t,v)∈s.had then s else s.see (a,t,v))=s'):
  Calls Ad 164 #[Adm E.bw,.agg (Adl p q t v),Aa Ab a] w fun e w'=>e= .returned (.bool r0)∧Nh E g s' w w':=by
 have HY:=Hd (Bh.new w 70 (Adl p q t v));have n:=Hd ((h.alloc (.cells (Adl p q t v) 70)).alloc (.cells (Adl a 0 t v) 70));have d:=Hd (show G0 E g ((w.alloc (.cells (Adl p q t v) 70)).alloc (.cells (Adl a 0 t v) 70)) (w.heap.size+1) 70 (Adl a 0 t v) from by
  have:=(h.alloc (.cells (Adl p q t v) 70)).lone 70 (Adl a 0 t v);simpa using this)
 have O:=Hd (((Ee.refl E g w).alloc (.cells (Adl p q t v) 70)).alloc (.cells (Adl a 0 t v) 70));have y2:(w.alloc (.cells (Adl p q t v) 70)).cell? ⟨w.heap.size,2,none⟩=some (Aa Ab t):=HY.o.cell 2;have y3:(w.alloc (.cells (Adl p q t v) 70)).cell? ⟨w.heap.size,3,none⟩=some (Aa Ab v):=HY.o.cell 3;obtain⟨L,hL⟩:∃L,s.had=L:=⟨_,rfl⟩;obtain⟨W,nh,Y,Al,nl,cl,h1,h2,h3,h4,h5⟩:=n.o.R;rw [hL] at h2 hs;have c:=Hd h1;have G:=Hd h2;have X:=Hd h3;have HG:=Hd (And.intro h4 h5);have S:L.length=nh:=h2.1;have l:=Hd hL;have M:=Hd hr0;have N:=Hd hs';have J:=Hd S;have bk:nh≤1073741824:=by omega
 clear h h1 h2 h3 h4 h5 hL S hr0 hs';go_enter func164,ntmps164;go_upto_region 2 with fail
 generalize (w.alloc (.cells (Adl p q t v) 70)).alloc (.cells (Adl a 0 t v) 70)=w1 at n d O c G X⊢;generalize w.heap.size+1=bx at d⊢;clear y2 y3 HY;go_wp2_with fail;go_loopw [8] (fun i wr=>∃k:Nat,k≤nh∧i= Aa Ab k∧Below w1.heap.size w1 wr∧∀j y,j<k→L[j]?=some y→y≠(a,t,v)) (fun i _=>nh-(intOf i).toNat)
 case atStart=>exact⟨0,by omega,rfl,Af _ _,fun j y hj=>absurd hj (Nat.not_lt_zero _)⟩
 case round=>
  obtain⟨k,hk,rfl,B,A⟩:=hrel;replace n:=Hd (n.o.pure B);replace d:=Hd (d.o.pure B);replace O:=Hd (O.o.below B);replace c:=Hd (c.o.pure B);replace G:=Hd (G.o.pure B);replace X:=Hd (X.o.pure B);have HB:=Hd B;have f:=Hd A;clear B A;by_cases I:k<nh
  ·obtain⟨b2,o2,e2,h2⟩:=qD G.o.is I;subst e2;obtain⟨⟨x,y,z⟩,hx⟩:∃x,L[k]?=some x:=⟨_,Aj (by rw [J.o];exact I)⟩;obtain⟨a0,a1,a2,a3⟩:=h2 x y z hx;obtain⟨r,hr⟩:∃q,decide ((x,y,z)=(a,t,v))=q:=⟨_,rfl⟩;have be:=cZ a t v x y z r hr;have HQ:=Hd hr;have P:=Hd hx;have bg:(0:Int)≤k:=by omega
   have bh:(k:Int)<nh:=by omega
   have bl:IntKind.i64.wrap ((k:Int)+1)=(k:Int)+1:=Ag _ (by omega);have c2:_=some (Value.slice (some ⟨b2,o2,none⟩) nh Y):=c.o.cell 2;have x0:_=some (Aa Ab a):=d.o.1.cell 0;have x1:_=some (Aa Ab 0):=d.o.1.cell 1;have x2:_=some (Aa Ab t):=d.o.1.cell 2;have x3:_=some (Aa Ab v):=d.o.1.cell 3;clear h2 hx hr;obtain⟨wz,rfl⟩:∃wo:World,wo=wr:=⟨_,rfl⟩;go_wp2_with fail;go_quiet (fail);cases r with
   |true=>
    have C:(a,t,v)∈s.had:=by
     rw [l.o,←of_decide_eq_true HQ.o];exact List.mem_of_getElem? P.o
    have HM:=Hd C;have HD:=Hd (below_drewN (Af wz.heap.size wz) nq);clear C;go_wp2_with fail;go_ret;obtain rfl:r0=true:=by rw [←M.o];exact decide_eq_true HM.o
    rw [←N.o,if_pos HM.o];exact⟨rfl,g,n.o.pure HD.o,O.o.below HD.o⟩
   |false=>
    clear c2 x0 x1 x2 x3 a0 a1 a2 a3;go_wp2_with fail;go_roundw
    case rel=>
     refine⟨k+1,by omega,by go_num,below_drewN HB.o _,fun j y' hj hy=>?_⟩;by_cases e:j=k
     ·subst e;rw [P.o] at hy;injection hy with hy
      subst hy;exact of_decide_eq_false HQ.o
     ·exact f.o j y' (by omega) hy
    case measure=>simp [intOf];omega
  ·have bi:k=nh:=by omega
   have T:(a,t,v)∉s.had:=by
    rw [l.o];intro hm;obtain⟨j,hj,e⟩:=List.mem_iff_getElem.1 hm;have:=J.o;exact f.o j _ (by omega) (by rw [Aj hj,e]) rfl
   have bf:decide (k<nh)=false:=decide_eq_false (by omega);have K:=Hd T;clear T I HB f;have c2:_=some (Value.slice W nh Y):=c.o.cell 2;have x0:_=some (Aa Ab a):=d.o.1.cell 0;have x1:_=some (Aa Ab 0):=d.o.1.cell 1;have x2:_=some (Aa Ab t):=d.o.1.cell 2;have x3:_=some (Aa Ab v):=d.o.1.cell 3;obtain⟨V,rfl⟩:∃wo:World,wo=wr:=⟨_,rfl⟩;go_wp2_with fail;have F:=Hd (Co V);have af:=Hd ((G.o.pure F.o).pure ((Af _ _).alloc (Ae _) (.cells (Adl a 0 t v) 70)));have ab:=Hd (show wO (V.drew.alloc (.cells (Adl a 0 t v) 70)) (some ⟨V.drew.heap.size,0,none⟩) 1 [(a,t,v)] from⟨rfl,fun j u hu=>⟨_,_,rfl,by
    rw [Nat.zero_add,(Bh.new V.drew _ _).cell j];simpa [hcl] using hu⟩⟩)
   have b:=Hd (F.o.alloc F.o.size (.cells (Adl a 0 t v) 70));have k2:=fun o=>C4 o c2
   have U:¬ ∃ad,W=some ad∧E.bw=ad.block:=by
    rintro⟨ad,e,e2⟩;have:=(G.o.addr ad e).2.1;have:=n.o.ok.w2;omega
   have ae:=Hd U;clear U;go_region_law (first
    |(refine aL rfl (.tmp 37) (.tmp 39) rfl E.B2 W nh Y L rfl af.o (some ⟨V.heap.size,0,none⟩) 1 1 [(a,t,v)] rfl ab.o (by omega) (Am n.o.sz b.o.size) ?_;intro A3 bd w3 D H Q;have ag:=Hd D;have aa:=Hd H;have Z:=Hd Q;have m:=Hd ((c.o.pure b.o).fr H ae.o);have ar:_=some (Value.slice W nh Y):=m.o.cell 2;have av:=m.o.frozen 2;clear D H Q))
   all_goals
    go_wp2_with fail;go_ret;obtain rfl:r0=false:=by rw [←M.o];exact decide_eq_false K.o
    rw [←N.o,if_neg K.o];refine⟨rfl,rY (n.o.pure b.o) (O.o.below b.o) (c.o.pure b.o) (l.o▸G.o.pure b.o) (X.o.pure b.o) HG.o.1 HG.o.2 aa.o ?_ (l.o▸ag.o)⟩;rcases Z.o with h|h
    ·exact .inl h
    ·exact .inr ⟨_,h,Ae _⟩
theorem S3(A:Option Addr)(n c:Nat)(p q t v a m er:Int)(l:List UInt8)(w:World)(h:Ca w A n l)(hn:n≤1099511627776)(h0:D1 l p q t v [4,5,25]=a)(h1:((Dx l p q t v [4,5,25]).length:Int)=m)(h2:C6 l p q t v [4,5,25]=er):
  Calls Ad 180 #[.slice A n c,.agg (Adl p q t v)] w (Adh (.tuple #[Aa Ab a,Aa Ab m,Aa Ab er]) w):=by
 subst h0 h1 h2;exact iL A n c p q t v l w h hn
theorem Pe(E:Il)(g:E9)(s:Bk)(p q t v a:Int)(w:World)(h:D9 E g s w)(hs:s.o.length≤1000000000)(ha:By E.l p q t v=a):
  Calls Ad 165 #[Adm E.bw,.agg (Adl p q t v),Aa Ab a] w (kT E g w (Cx E.l ⟨p,q,t,v⟩ s)):=by
 have k:=Hd (h.alloc (.cells (Adl p q t v) 70));have d:=Hd (h.lone 70 (Adl p q t v));have r:=Hd ((Ee.refl E g w).alloc (.cells (Adl p q t v) 70));obtain⟨i,J⟩:∃a,D1 E.l p q t v [4,5,25]=a:=⟨_,rfl⟩;obtain⟨m,V⟩:∃m:Int,((Dx E.l p q t v [4,5,25]).length:Int)=m:=⟨_,rfl⟩;obtain⟨L,H⟩:∃a,C6 E.l p q t v [4,5,25]=a:=⟨_,rfl⟩;have P:=Hd ha;have u:=Hd J;have F:=Hd V;have D:=Hd H;have ab:=h.ok.hn;have K:=h.len;clear h ha J V H;have x:=(k.o).c0;have y:=Be d.o.1;have z:=Bc d.o.1;have B:=Bb d.o.1;have C:=Bf d.o.1;go_enter func165,ntmps165;go_wp2_with fail;go_region_held3 (fun w'=>w'.cell? ⟨E.bw,0,none⟩=some (.slice E.A E.n E.c)∧(w'.cell? ⟨w.heap.size,0,none⟩=some (Aa Ab p)∧w'.cell? ⟨w.heap.size,1,none⟩=some (Aa Ab q)∧w'.cell? ⟨w.heap.size,2,none⟩=some (Aa Ab t)∧w'.cell? ⟨w.heap.size,3,none⟩=some (Aa Ab v))) (first|with_reducible exact⟨x,y,z,B,C⟩|with_reducible exact⟨Bi x,Bi y,Bi z,Bi B,Bi C⟩) (first|(go_at_call 180;(with_reducible refine(S3 E.A E.n E.c p q t v i m L E.l _ k.o.drew.b (by omega) u.o F.o D.o).mono ?_);rintro e w1 ⟨rfl,G⟩;replace r:=Hd (r.o.drew.below G);replace k:=Hd (k.o.drew.pure G);replace d:=Hd (d.o.drew.pure G);clear x y z B C;clear G;have x:=(k.o).c0;have y:=Be d.o.1;have z:=Bc d.o.1;have B:=Bb d.o.1;have C:=Bf d.o.1));by_cases H:L=0
 ·subst H;obtain⟨X,S,T,Q,b4,U⟩:=aP D.o;rw [u.o,P.o] at U;subst U;rw [u.o,F.o] at S T;rw [u.o] at X Q;have Y:0≤m:=by have:=F.o;omega
  have Z:i+m≤4294967296:=by omega
  have ae:IntKind.i64.wrap (i+m)=i+m:=Ag _ (by omega);have af:IntKind.i64.wrap (i+m+1)=i+m+1:=Ag _ (by omega);have I:=Hd Q;clear S T K Q;by_cases N:t=4
  ·subst N;go_wp2_with (go_at_call 88;(with_reducible refine(D7 E _ _ i (i+m+1) 9 _ k.o (by omega) (by omega)).mono ?_);rintro e O ⟨rfl,M,j,f⟩;replace r:=Hd (r.o.trans f);replace d:=Hd (d.o.to f);replace k:=Hd j;clear x y z B C;clear j f;have x:=(k.o).c0;have y:=Be d.o.1;have z:=Bc d.o.1;have B:=Bb d.o.1;have C:=Bf d.o.1);go_ret;have e:Cx E.l ⟨p,q,4,v⟩ s=(s.tell i (i+m+1) 9,0):=by
    unfold Cx;rw [D.o,u.o,F.o];rfl
   rw [e];exact⟨rfl,_,k.o,r.o⟩
  ·have e4:(t==4)=false:=beq_eq_false_iff_ne.mpr N;have s1:=Od s (i-v) i 6;have ad:=I.o N;have hw:IntKind.i64.wrap (i-v)=i-v:=Ag _ (by omega);clear I;by_cases R:t=5
   ·subst R;go_wp2_with (go_at_call 88;(with_reducible refine(D7 E _ _ (i-v) i 6 _ k.o (by omega) (by omega)).mono ?_);rintro e O ⟨rfl,M,j,f⟩;replace r:=Hd (r.o.trans f);replace d:=Hd (d.o.to f);replace k:=Hd j;clear x y z B C;clear j f;have x:=(k.o).c0;have y:=Be d.o.1;have z:=Bc d.o.1;have B:=Bb d.o.1;have C:=Bf d.o.1);go_wp2_with (go_at_call 88;(with_reducible refine(D7 E _ _ i (i+m+1) 10 _ k.o (by omega) (by omega)).mono ?_);rintro e O ⟨rfl,M,j,f⟩;replace r:=Hd (r.o.trans f);replace d:=Hd (d.o.to f);replace k:=Hd j;clear x y z B C;clear j f;have x:=(k.o).c0;have y:=Be d.o.1;have z:=Bc d.o.1;have B:=Bb d.o.1;have C:=Bf d.o.1);go_ret;have e:Cx E.l ⟨p,q,5,v⟩ s=((s.tell (i-v) i 6).tell i (i+m+1) 10,0):=by
     unfold Cx;rw [D.o,u.o,F.o];rfl
    rw [e];exact⟨rfl,_,k.o,r.o⟩
   ·have e5:(t==5)=false:=beq_eq_false_iff_ne.mpr R;go_wp2_with (go_at_call 88;(with_reducible refine(D7 E _ _ (i-v) i 6 _ k.o (by omega) (by omega)).mono ?_);rintro e O ⟨rfl,M,j,f⟩;replace r:=Hd (r.o.trans f);replace d:=Hd (d.o.to f);replace k:=Hd j;clear x y z B C;clear j f;have x:=(k.o).c0;have y:=Be d.o.1;have z:=Bc d.o.1;have B:=Bb d.o.1;have C:=Bf d.o.1);go_wp2_with (go_at_call 88;(with_reducible refine(D7 E _ _ i (i+m) 11 _ k.o (by omega) (by omega)).mono ?_);rintro e O ⟨rfl,M,j,f⟩;replace r:=Hd (r.o.trans f);replace d:=Hd (d.o.to f);replace k:=Hd j;clear x y z B C;clear j f;have x:=(k.o).c0;have y:=Be d.o.1;have z:=Bc d.o.1;have B:=Bb d.o.1;have C:=Bf d.o.1);go_ret;have e:Cx E.l ⟨p,q,t,v⟩ s=((s.tell (i-v) i 6).tell i (i+m) 11,0):=by
     unfold Cx;rw [D.o,u.o,F.o];simp [N,R]
    rw [e];exact⟨rfl,_,k.o,r.o⟩
 ·have aa:(L != 0)=true:=by simpa using H
  have e:Cx E.l ⟨p,q,t,v⟩ s=(s,L):=by
   unfold Cx;rw [D.o,if_pos H]
  have W:=Hd e;clear e H;go_wp2_with fail;go_ret;rw [W.o];exact⟨rfl,_,k.o,r.o⟩
def GQ(s s':Bk):Prop:=s'.had.length+s'.left.toNat≤s.had.length+s.left.toNat
theorem GQ.refl(s:Bk):GQ s s:=Ae _
theorem GQ.trans{s' s'':Bk}(h:GQ s s')(h':GQ s' s''):GQ s s'':=Am h' h
theorem Lk(s:Bk)(a b c:Int):GQ s (s.tell a b c):=by unfold GQ;rw [Ga,Ef];exact Ae _
def Qa(go:Rq→Bk→Bk×Int):Prop:=∀r s,GQ s (go r s).1
section
variable {l:List UInt8} {go:Rq→Bk→Bk×Int} (r:Rq)
theorem zW(s:Bk):GQ s (Cx l r s).1:=by
 unfold Cx
 (repeat' split) <;>first|exact GQ.refl s|exact Lk _ _ _ _|exact(Lk _ _ _ _).trans (Lk _ _ _ _)
theorem tG(s:Bk):GQ s (C8 l r s).1:=by
 unfold C8;split
 ·exact Lk _ _ _ _
 ·exact GQ.refl s
theorem yB(hgo:Qa go)(s:Bk):GQ s (G9 l go r s).1:=by
 unfold G9;split
 ·exact GQ.refl s
 ·split
  ·exact hgo _ _
  ·exact(hgo _ _).trans (Lk _ _ _ _)
theorem sJ(i:Nat)(s:Bk):GQ s (Fk l r i s):=by
 unfold Fk;split
 ·exact Lk _ _ _ _
 ·exact GQ.refl s
theorem qP(s:Bk):GQ s (Jk l r s):=by
 unfold Jk;split
 ·exact Lk _ _ _ _
 ·exact GQ.refl s
theorem cM(hgo:Qa go):∀(k i:Nat) (s:Bk),GQ s (E0 l go r k i s).1
 |0,i,s=>GQ.refl s
 |k+1,i,s=>by
  unfold E0;have ht:=sJ (l:=l) r i s;split
  ·exact ht
  ·have hg:=hgo (Cq l r i) (Fk l r i s);split
   ·exact ht.trans hg
   ·exact(ht.trans hg).trans (cM hgo k (i+1) _)
theorem Yo(hgo:Qa go)(s:Bk):GQ s (Gt l go r s).1:=by
 unfold Gt;split
 ·exact yB r hgo s
 ·exact GQ.refl s
theorem yE(hgo:Qa go)(s:Bk):GQ s (Dw l go r s).1:=by
 unfold Dw;split
 ·exact GQ.refl s
 ·split
  ·exact Yo r hgo s
  ·exact((Yo r hgo s).trans (qP r _)).trans (cM r hgo _ _ _)
theorem xP(hgo:Qa go)(s:Bk):GQ s (Dv l go r s).1:=by
 unfold Dv;split
 ·exact zW r s
 ·split
  ·exact tG r s
  ·exact yE r hgo s
end
theorem jA(l:List UInt8):∀d,Qa (Cj l d)
 |0,r,s=>GQ.refl s
 |d+1,r,s=>by
  unfold Cj;split
  ·exact GQ.refl s
  ·rename_i hl;have h1:(D0 r s).had.length+(D0 r s).left.toNat+1=s.had.length+s.left.toNat:=by
    unfold D0;rw [Ga,Ef];unfold Bk.burn;simp only;omega
   have h2:GQ s (D0 r s):=by unfold GQ;omega
   have h3:GQ s ((D0 r s).see (Hw l r)):=by
    unfold GQ Bk.see;simp only [List.length_append,List.length_cons,List.length_nil];omega
   split
   ·exact h2
   ·split
    ·exact h2
    ·exact h3.trans (xP r (jA l d) _)
def bT(E:Il)(go:Rq→Bk→Bk×Int)(d:Nat):Prop:=∀(g:E9) (s:Bk) (p q t v:Int) (w:World),D9 E g s w→s.left.toNat<d→s.size≤900000000→s.had.length+s.left.toNat≤900000000→Lh E.l.length ⟨p,q,t,v⟩→
 Calls Ad 89 #[Adm E.bw,.agg (Adl p q t v)] w (kT E g w (go ⟨p,q,t,v⟩ s))
def oH(E:Il)(go:Rq→Bk→Bk×Int)(r:Rq)(N:Nat)(F:Bk×Int)(b:Nat)(w0:World)(g:E9)(s0:Bk)(u:Value)(wr:World):Prop:=
 ∃(i:Nat) (s:Bk) (g':E9),u= Aa Ab i∧i≤N∧D9 E g' s wr∧Ee E g g' w0 wr∧G0 E g' wr b 70 (Adl r.p r.q r.t r.v)∧
  s.left≤s0.left∧s.size≤s0.size+1∧GQ s0 s∧E0 E.l go r (N-i) i s=F
theorem iM(E:Il)(go:Rq→Bk→Bk×Int)(d:Nat)(hgo:bT E go d)(hgoes:P9 go)(hhg:Qa go)(g:E9)(s:Bk)(p q t v a:Int)(w:World)(h:D9 E g s w)(hd:s.left.toNat<d)(hs:s.size≤899999993)(hhs:s.had.length+s.left.toNat≤900000000)(ha:By E.l p q t v=a):
  Calls Ad 167 #[Adm E.bw,.agg (Adl p q t v),Aa Ab a] w (kT E g w (Dw E.l go ⟨p,q,t,v⟩ s)):=by
 have m:=Hd (h.alloc (.cells (Adl p q t v) 70));have j:=Hd (h.lone 70 (Adl p q t v));have K:=Hd ((Ee.refl E g w).alloc (.cells (Adl p q t v) 70));have b3:=Hd hgo;have bq:=Hd hgoes;have b4:=Hd hhg;obtain⟨f,hf⟩:∃f:Int,(lsFrom E.l p q t v:Int)=f:=⟨_,rfl⟩;obtain⟨a',c2⟩:∃a:Int,(lsAt E.l p q t v:Int)=a:=⟨_,rfl⟩;obtain⟨o,ho⟩:∃a:Int,(lsTo E.l p q t v:Int)=a:=⟨_,rfl⟩;obtain⟨N,hN⟩:∃N:Nat,lsLen E.l p q t v=N:=⟨_,rfl⟩;obtain⟨er,he⟩:∃a,Cm E.l p q t v=a:=⟨_,rfl⟩;have HF:=Hd hf;have dn:=Hd ha;have Z:=Hd c2;have HO:=Hd ho;have HN:=Hd hN;have dt:=Hd (show(lsLen E.l p q t v:Int)=(N:Int) by rw [hN]);have aj:=Hd he;have e6:=h.ok.hn;have ed:=h.len;clear h hf ha c2 ho hN he hgo hgoes hhg;have D:=(m.o).c0;have G:=Be j.o.1;have H:=Bc j.o.1;have I:=Bb j.o.1;have J:=Bf j.o.1;go_enter func167,ntmps167;go_wp2_with fail;go_region_held3 (fun w'=>w'.cell? ⟨E.bw,0,none⟩=some (.slice E.A E.n E.c)∧(w'.cell? ⟨w.heap.size,0,none⟩=some (Aa Ab p)∧w'.cell? ⟨w.heap.size,1,none⟩=some (Aa Ab q)∧w'.cell? ⟨w.heap.size,2,none⟩=some (Aa Ab t)∧w'.cell? ⟨w.heap.size,3,none⟩=some (Aa Ab v))) (first|with_reducible exact⟨D,G,H,I,J⟩|with_reducible exact⟨Bi D,Bi G,Bi H,Bi I,Bi J⟩) (first|(go_at_call 182;(with_reducible refine(aG E.A E.n E.c p q t v f a' o er E.l _ m.o.drew.b (by omega) HF.o Z.o HO.o aj.o).mono ?_);rintro e w1 ⟨rfl,ak⟩;replace K:=Hd (K.o.drew.below ak);replace m:=Hd (m.o.drew.pure ak);replace j:=Hd (j.o.drew.pure ak);clear D G H I J;clear ak;have D:=(m.o).c0;have G:=Be j.o.1;have H:=Bc j.o.1;have I:=Bb j.o.1;have J:=Bf j.o.1));by_cases he:er=0
 ·subst he;obtain⟨e8,fa,a2,bn⟩:=Kl aj.o;have d1:a'=a:=by
   have h1:=Z.o;have h2:=dn.o;unfold lsAt at h1;rw [if_pos aj.o,h2] at h1;have h3:0≤a:=by
    rw [←h2];by_cases g:B7 E.l p q t v=0
    ·exact(Mk g).1
    ·unfold By;rw [if_neg g];exact Int.le_refl _
   omega
  subst d1;obtain⟨V,rfl⟩:∃V:Nat,v=V:=⟨v.toNat,by omega⟩;rw [Ao,HN.o] at bn;rw [Ao] at a2;have cv:N*V≤N*(V+tgs t):=Nat.mul_le_mul_left _ (Nat.le_add_right _ _);have ds:=Hd bn;have du:=Hd cv;have ck:=Hd a2;have e1:0≤a':=by have:=Z.o;omega
  have e2:a'≤4294967296:=by have:=Z.o;omega
  have e4:0≤f:=by have:=HF.o;omega
  have br:f≤4294967296:=by have h1:=HF.o;have h2:=Z.o;omega
  clear bn cv a2;go_wp2_with fail;go_region_held3 (fun w'=>w'.cell? ⟨E.bw,0,none⟩=some (.slice E.A E.n E.c)∧(w'.cell? ⟨w.heap.size,0,none⟩=some (Aa Ab p)∧w'.cell? ⟨w.heap.size,1,none⟩=some (Aa Ab q)∧w'.cell? ⟨w.heap.size,2,none⟩=some (Aa Ab t)∧w'.cell? ⟨w.heap.size,3,none⟩=some (Aa Ab V))) (first|with_reducible exact⟨D,G,H,I,J⟩|with_reducible exact⟨Bi D,Bi G,Bi H,Bi I,Bi J⟩) (first|(go_at_call 103;(with_reducible refine(Y1 E.A E.n E.c p q t V N 0 E.l _ m.o.drew.b (by omega) dt.o aj.o).mono ?_);rintro e w1 ⟨rfl,ak⟩;replace K:=Hd (K.o.drew.below ak);replace m:=Hd (m.o.drew.pure ak);replace j:=Hd (j.o.drew.pure ak);clear D G H I J;clear ak;have D:=(m.o).c0;have G:=Be j.o.1;have H:=Bc j.o.1;have I:=Bb j.o.1;have J:=Bf j.o.1));obtain⟨y,hy⟩:∃y,Gt E.l go ⟨p,q,t,V⟩ s=y:=⟨_,rfl⟩;have HY:=Hd hy;clear hy;go_upto_if 45 with fail
  go_cut [] (fun wx=>∃wy,wy=wx∧y.2=0∧∃g',D9 E g' y.1 wx∧Ee E g g' w wx∧G0 E g' wx w.heap.size 70 (Adl p q t V))
  case first=>
   have dc:y.2≠0→Dw E.l go ⟨p,q,t,V⟩ s=y:=fun h=>by
    unfold Dw;rw [if_neg (by rw [aj.o];decide),HY.o,if_pos h]
   have cj:=Hd dc;clear dc;by_cases h9:t=9
   ·subst h9;have hy:=HY.o;unfold Gt at hy;rw [if_pos rfl] at hy;obtain⟨O,aq⟩:∃a,Sp E.l p q 9 V=a:=⟨_,rfl⟩;obtain⟨P,ar⟩:∃a,Sq E.l p q 9 V=a:=⟨_,rfl⟩;obtain⟨Q,au⟩:∃a,Ps E.l p q 9 V=a:=⟨_,rfl⟩;obtain⟨S,av⟩:∃a,Sr E.l p q 9 V=a:=⟨_,rfl⟩;obtain⟨er,he⟩:∃a,Hf E.l p q 9 V=a:=⟨_,rfl⟩;have HP:=Hd aq;have Y:=Hd ar;have HT:=Hd au;have HV:=Hd av;have L:=Hd he;have co:=Hd hy;clear aq ar au av he hy;go_upto_region 6 with fail
    go_cut [13,14] (fun u7 u8 wx=>∃wy,wy=wx∧u8= Aa Ab er∧∃k,u7= Adm k∧Bh wx k 70 (Adl O P Q S)∧w1.heap.size≤k∧Below w1.heap.size w1 wx)
    case first=>
     have C:=Hd (Af w1.heap.size w1);have HL:=Hd m.o.b;obtain⟨Ah,nh,ch,Al,nl,cl,hW,_⟩:=m.o.R;have HW:=Hd hW;have T:=Hd j.o.1;have c8:E.bw≠w1.heap.size:=by have:=HW.o.lt;omega
     have c9:w.heap.size≠w1.heap.size:=by have:=T.o.lt;omega
     clear j K m hW;clear D G H I J;have D:_=some (Value.slice E.A E.n E.c):=HW.o.cell 0;obtain ⟨G,H,I,J⟩:=T.o.c4;go_region_held3 (fun w'=>w'.cell? ⟨E.bw,0,none⟩=some (.slice E.A E.n E.c)∧(w'.cell? ⟨w.heap.size,0,none⟩=some (Aa Ab p)∧w'.cell? ⟨w.heap.size,1,none⟩=some (Aa Ab q)∧w'.cell? ⟨w.heap.size,2,none⟩=some (Aa Ab 9)∧w'.cell? ⟨w.heap.size,3,none⟩=some (Aa Ab V))) ((with_reducible refine⟨?_,?_,?_,?_,?_⟩) <;>(repeat (first|with_reducible assumption|with_reducible refine B3 ?_|with_reducible refine C4 _ ?_|with_reducible refine J1 ?_ ?_)))
      (first|(go_at_call 102;(first|(with_reducible refine(Mg E.A E.n E.c p q 9 V O P Q S er E.l _ (HL.o.pure C.o.drew) (by omega) HP.o Y.o HT.o HV.o L.o).mono ?_)|(with_reducible refine(Mg E.A E.n E.c p q 9 V O P Q S er E.l _ (HL.o.pure (C.o.alloc C.o.size _).drew) (by omega) HP.o Y.o HT.o HV.o L.o).mono ?_));rintro e w3 ⟨rfl,W⟩;(first|(with_reducible replace C:=Hd (Ba C.o.drew W))|((with_reducible have M:=Hd ((Bh.new w1 70 (Adl 0 0 0 0)).drew.pure W));(with_reducible replace C:=Hd (Ba (C.o.alloc C.o.size _).drew W));obtain ⟨q0,q1,q2,q3⟩:=M.o.c4;obtain ⟨p0,p1,p2⟩:=M.o.f3;have p3:=M.o.frozen 3));replace HW:=Hd (HW.o.pure C.o);replace T:=Hd (T.o.pure C.o);clear D G H I J;have D:_=some (Value.slice E.A E.n E.c):=HW.o.cell 0;obtain ⟨G,H,I,J⟩:=T.o.c4;have da:E.bw≠w3.heap.size:=(by have:=HW.o.lt;omega);have db:w.heap.size≠w3.heap.size:=(by have:=T.o.lt;omega);clear W))
     all_goals
      go_wp2_with fail;go_meet
      first
       |with_reducible exact⟨_,rfl,rfl,_,rfl,Bh.new _ _ _,C.o.size,C.o.alloc C.o.size _⟩
       |exact⟨_,rfl,rfl,_,rfl,(((M.o.set_ 0 _).set_ 1 _).set_ 2 _).set_ 3 _,Ae _,B6 _ C.o (Ae _) _ _ _ _⟩
    case rest=>
    obtain⟨w3,rfl,rfl,k,rfl,hK,hk,W⟩:=hcut;have M:=Hd (show G0 E g w3 k 70 (Adl O P Q S) from⟨hK,m.o.newer hk⟩);replace K:=Hd (K.o.below W);replace m:=Hd (m.o.pure W);replace j:=Hd (j.o.pure W);clear D G H I J;clear W;have D:=(m.o).c0;have G:=Be j.o.1;have H:=Bc j.o.1;have I:=Bb j.o.1;have J:=Bf j.o.1;clear hK hk;by_cases he:er=0
    ·subst he;obtain⟨_,_,ag,bn,_,_⟩:=mF L.o;have k0:=Be M.o.1;have k1:=Bc M.o.1;have k2:=Bb M.o.1;have k3:=Bf M.o.1;have dv:=Hd (show Lh E.l.length ⟨O,P,Q,S⟩ by have:=ag;unfold Ck at this;rw [HP.o,Y.o,HT.o,HV.o] at this;exact this);have c3:Ck E.l ⟨p,q,9,V⟩=⟨O,P,Q,S⟩:=by unfold Ck;rw [HP.o,Y.o,HT.o,HV.o]
     have cc:y=if(go ⟨O,P,Q,S⟩ s).2≠0 then go ⟨O,P,Q,S⟩ s else((go ⟨O,P,Q,S⟩ s).1.tell (f+V) (f+2*V) 7,0):=by
      rw [←co.o];unfold G9;rw [L.o,if_neg (by decide),c3,HF.o]
     obtain⟨y1,hy⟩:∃y,go ⟨O,P,Q,S⟩ s=y:=⟨_,rfl⟩;rw [hy] at cc;have fd:y1.1.o.length≤900000000:=by
      have h1:=(bq.o ⟨O,P,Q,S⟩ s).1.2;rw [hy] at h1;have:=Du y1.1;omega
     have b5:=Hd cc;have al:=b3.o g s O P Q S w3 m.o hd (by omega) hhs dv.o;rw [hy] at al;have an:=Hd al;clear ag c3 cc hy al bn;go_wp2_with fail;go_at_call 89;refine an.o.mono ?_;rintro e w4 ⟨rfl,g4,ct,b6⟩;replace K:=Hd (K.o.trans b6);replace j:=Hd (j.o.to b6);replace m:=Hd ct;clear D G H I J;clear ct b6;have D:=(m.o).c0;have G:=Be j.o.1;have H:=Bc j.o.1;have I:=Bb j.o.1;have J:=Bf j.o.1;clear M an k0 k1 k2 k3;by_cases B:y1.2=0
     ·have h1:=b5.o;rw [B,if_neg (by decide)] at h1;subst h1;rw [B];clear b5 B;have w1:IntKind.i64.wrap (f+V)=f+V:=Ag _ (by omega);have w2:IntKind.i64.wrap (2*(V:Int))=2*V:=Ag _ (by omega);have w3:IntKind.i64.wrap (f+2*V)=f+2*V:=Ag _ (by omega);go_wp2_with (go_at_call 88;(with_reducible refine(D7 E _ _ (f+V) (f+2*V) 7 _ m.o (by omega) (by omega)).mono ?_);rintro e w2 ⟨rfl,g2,ab,U⟩;replace K:=Hd (K.o.trans U);replace j:=Hd (j.o.to U);replace m:=Hd ab;clear D G H I J;clear ab U;have D:=(m.o).c0;have G:=Be j.o.1;have H:=Bc j.o.1;have I:=Bb j.o.1;have J:=Bf j.o.1);go_meet;exact⟨_,rfl,trivial,_,m.o,K.o,j.o⟩
     ·have a9:(y1.2 != 0)=true:=by simpa using B
      have h1:=b5.o;rw [if_pos B] at h1;subst h1;have T:=Hd (cj.o B);clear B;go_wp2_with fail;go_ret;rw [T.o];exact⟨rfl,_,m.o,K.o⟩
    ·have a9:(er != 0)=true:=by simpa using he
     have d4:y=(s,er):=by
      rw [←co.o];unfold G9;rw [L.o,if_pos he]
     subst d4;have T:=Hd (cj.o he);clear he;go_wp2_with fail;go_ret;rw [T.o];exact⟨rfl,_,m.o,K.o⟩
   ·have hy:=HY.o;unfold Gt at hy;rw [if_neg h9] at hy;subst hy;have e9:(t==9)=false:=beq_eq_false_iff_ne.mpr h9;clear h9;go_wp2_with fail;go_meet;exact⟨_,rfl,trivial,g,m.o,K.o,j.o⟩
  case rest=>
  obtain⟨w2,rfl,B,g2,ab,U,cz⟩:=hcut;clear D G H I J;replace m:=Hd ab;replace K:=Hd U;replace j:=Hd cz;clear ab U cz;have D:=(m.o).c0;have G:=Be j.o.1;have H:=Bc j.o.1;have I:=Bb j.o.1;have J:=Bf j.o.1;obtain⟨z,hz⟩:∃z,Jk E.l ⟨p,q,t,V⟩ y.1=z:=⟨_,rfl⟩;have HZ:=Hd hz;have ad:=Oo (l:=E.l) ⟨p,q,t,V⟩ bq.o s;rw [HY.o] at ad;have a5:=U7 (l:=E.l) ⟨p,q,t,V⟩ y.1;rw [hz] at a5;have b8:=(Yo (l:=E.l) ⟨p,q,t,V⟩ b4.o s).trans (by rw [HY.o];exact qP (l:=E.l) ⟨p,q,t,V⟩ y.1);rw [hz] at b8;have d5:z.left≤s.left:=Int.le_trans a5.1 ad.1;have d6:z.size≤s.size+1:=by have:=a5.2;have:=ad.2;omega
  have fc:y.1.o.length≤899999993:=by have:=Du y.1;have:=ad.2;omega
  have dr:=Hd b8;have dx:=Hd B;clear hz ad a5 b8 B;go_wp2_with fail;go_at_call 274;obtain⟨ah,b7⟩:∃x,aheadT t=x:=⟨_,rfl⟩;refine(Uq t ah _ b7).mono ?_;rintro e w3 ⟨rfl,rfl⟩;have b9:=ck.o;rw [b7] at b9;have bi:=Hd b9;clear b7 b9 ck;go_upto_if 78 with fail
  go_cut [] (fun wx=>∃wy,wy=wx∧∃g',D9 E g' z wx∧Ee E g g' w wx∧G0 E g' wx w.heap.size 70 (Adl p q t V))
  case first=>
   by_cases hc:0<ah
   ·have e5:f<a':=by
     have h1:=bi.o;have h2:=HF.o;have h3:=Z.o;have h4:1*V≤ah*V:=Nat.mul_le_mul_right _ hc;omega
    have e3:(V:Int)≤a':=by
     have h1:=bi.o;have h2:=HF.o;have h3:=Z.o;have h4:1*V≤ah*V:=Nat.mul_le_mul_right _ hc;omega
    have hz:=HZ.o;unfold Jk at hz;rw [if_pos (by have h1:=HF.o;have h2:=Z.o;simp only;omega)] at hz;have dd:y.1.tell (a'-V) a' 6=z:=by rw [←hz];simp only [Z.o]
    replace HZ:=Hd dd;have fb:IntKind.i64.wrap (a'-V)=a'-V:=Ag _ (by omega);clear hz dd;go_wp2_with (go_at_call 88;(with_reducible refine(D7 E _ _ (a'-V) a' 6 _ m.o (by omega) (by omega)).mono ?_);rintro e w2 ⟨rfl,g2,ab,U⟩;replace K:=Hd (K.o.trans U);replace j:=Hd (j.o.to U);replace m:=Hd ab;clear D G H I J;clear ab U;have D:=(m.o).c0;have G:=Be j.o.1;have H:=Bc j.o.1;have I:=Bb j.o.1;have J:=Bf j.o.1);go_meet;rw [←HZ.o];exact⟨_,rfl,_,m.o,K.o,j.o⟩
   ·obtain rfl:ah=0:=by omega
    have e:z=y.1:=by
     have hz:=HZ.o;subst hz;unfold Jk;rw [if_neg];have h1:=bi.o;simp only [Nat.zero_mul,Nat.add_zero] at h1;simp only;omega
    subst e;clear hc;go_wp2_with fail;go_meet;exact⟨_,rfl,_,m.o,K.o,j.o⟩
  case rest=>
  obtain⟨w4,rfl,g3,cs,cx,c1⟩:=hcut;obtain⟨F,hF⟩:∃F,E0 E.l go ⟨p,q,t,V⟩ N 0 z=F:=⟨_,rfl⟩;have hrel:oH E go ⟨p,q,t,V⟩ N F w.heap.size w g s (Aa Ab 0) w4:=⟨0,z,g3,rfl,Nat.zero_le _,cs,cx,c1,d5,d6,dr.o,hF⟩;have bu:=Hd hrel;have c7:Dw E.l go ⟨p,q,t,V⟩ s=F:=by
   unfold Dw;rw [if_neg (by rw [aj.o];decide),HY.o,if_neg (by rw [dx.o];decide),HZ.o,←hF];simp only [HN.o]
  have bh:=Hd c7;have dw:=Hd (show(N:Int)*(V:Int)≤4294967296∧(0:Int)≤(N:Int)*(V:Int)∧N≤4294967296 from by
   have h1:=ds.o;have h2:=du.o;have h3:=Z.o;have h5:((N*V:Nat):Int)=(N:Int)*(V:Int):=Int.natCast_mul _ _;have h6:N≤N*V:=Nat.le_mul_of_pos_right _ (by omega);refine⟨by omega,by omega,by omega⟩)
  clear hF hrel cs cx c1 c7;clear D G H I J;clear m j K;go_wp2_with fail;go_loopw [16] (fun u wr=>oH E go ⟨p,q,t,V⟩ N F w.heap.size w g s u wr) (fun u _=>N-(intOf u).toNat)
  case atStart=>exact bu.o
  case round=>
   clear bu;obtain⟨i,s1,g1,rfl,hi,cr,cw,cy,d3,e7,c5,cu⟩:=hrel;have m:=Hd cr;have K:=Hd cw;have j:=Hd cy;have X:=Hd cu;have dq:=Hd c5;clear cr cw cy cu c5;obtain⟨e0,ez,ey⟩:=dw.o;by_cases a8:i<N
   ·obtain⟨st,ca⟩:∃st,Fk E.l ⟨p,q,t,V⟩ i s1=st:=⟨_,rfl⟩;have a6:=Ri (l:=E.l) ⟨p,q,t,V⟩ i s1;have a7:=dq.o.trans (sJ (l:=E.l) ⟨p,q,t,V⟩ i s1);rw [ca] at a6 a7;have b0:st.left≤s.left:=Int.le_trans a6.1 d3;have eh:st.size≤s.size+2:=by have:=a6.2;omega
    have eg:s1.o.length≤899999999:=by have:=Du s1;omega
    have ao:=Hd ca;have cg:=Hd (show st.had.length+st.left.toNat≤900000000 from Am a7 hhs);have bs:=Hd a7;clear ca a6 a7;have D:=(m.o).c0;have G:=Be j.o.1;have H:=Bc j.o.1;have I:=Bb j.o.1;have J:=Bf j.o.1;obtain⟨tg,cb⟩:∃x,Fv t=x:=⟨_,rfl⟩;have a3:=D5 t wr;rw [cb] at a3;have cm:=Hd cb;have cn:=Hd a3;clear cb a3;go_wp2_with fail;go_at_call 184;refine cn.o.mono ?_;rintro e w8 ⟨rfl,rfl⟩;clear cn;cases tg with
    |true=>
     have e:s1.tell (a'+(N:Int)*(V:Int)+(i:Int)) (a'+(N:Int)*(V:Int)+(i:Int)+1) 8=st:=by
      rw [←ao.o];unfold Fk;rw [if_pos cm.o];simp only [Z.o,HN.o]
     have HE:=Hd e;clear e;go_wp2_with (go_at_call 88;(with_reducible refine(D7 E _ _ (a'+(N:Int)*(V:Int)+(i:Int)) (a'+(N:Int)*(V:Int)+(i:Int)+1) 8 _ m.o (by omega) (by omega)).mono ?_);rintro e w2 ⟨rfl,hD⟩;rw [HE.o] at hD;obtain⟨g2,ab,U⟩:=hD;replace K:=Hd (K.o.trans U);replace j:=Hd (j.o.to U);replace m:=Hd ab;clear D G H I J;clear ab U;have D:=(m.o).c0;have G:=Be j.o.1;have H:=Bc j.o.1;have I:=Bb j.o.1;have J:=Bf j.o.1);obtain⟨O,aq⟩:∃x,Rm E.l p q t V i=x:=⟨_,rfl⟩;obtain⟨P,ar⟩:∃x,Rn E.l p q t V i=x:=⟨_,rfl⟩;obtain⟨Q,au⟩:∃x,Pk E.l p q t V i=x:=⟨_,rfl⟩;obtain⟨S,av⟩:∃x,Ro E.l p q t V i=x:=⟨_,rfl⟩;obtain⟨ee,ap⟩:∃x,Eu E.l p q t V i=x:=⟨_,rfl⟩;have HP:=Hd aq;have Y:=Hd ar;have HT:=Hd au;have HV:=Hd av;have L:=Hd ap;clear aq ar au av ap;go_upto_region 20 with fail
     go_cut [17,18] (fun u7 u8 wx=>∃wy,wy=wx∧u8= Aa Ab ee∧∃k,u7= Adm k∧Bh wx k 70 (Adl O P Q S)∧w2.heap.size≤k∧Below w2.heap.size w2 wx)
     case first=>
      have C:=Hd (Af w2.heap.size w2);have HL:=Hd m.o.b;obtain⟨Ah,nh,ch,Al,nl,cl,hW,_⟩:=m.o.R;have HW:=Hd hW;have T:=Hd j.o.1;have c8:E.bw≠w2.heap.size:=by have:=HW.o.lt;omega
      have c9:w.heap.size≠w2.heap.size:=by have:=T.o.lt;omega
      clear j K m hW X ao;clear D G H I J;have D:_=some (Value.slice E.A E.n E.c):=HW.o.cell 0;obtain ⟨G,H,I,J⟩:=T.o.c4;go_region_held3 (fun w'=>w'.cell? ⟨E.bw,0,none⟩=some (.slice E.A E.n E.c)∧(w'.cell? ⟨w.heap.size,0,none⟩=some (Aa Ab p)∧w'.cell? ⟨w.heap.size,1,none⟩=some (Aa Ab q)∧w'.cell? ⟨w.heap.size,2,none⟩=some (Aa Ab t)∧w'.cell? ⟨w.heap.size,3,none⟩=some (Aa Ab V))) ((with_reducible refine⟨?_,?_,?_,?_,?_⟩) <;>(repeat (first|with_reducible assumption|with_reducible refine B3 ?_|with_reducible refine C4 _ ?_|with_reducible refine J1 ?_ ?_)))
       (first|(go_at_call 104;(first|(with_reducible refine(N8 E.A E.n E.c p q t V i O P Q S ee E.l _ (HL.o.pure C.o.drew) (by omega) HP.o Y.o HT.o HV.o L.o).mono ?_)|(with_reducible refine(N8 E.A E.n E.c p q t V i O P Q S ee E.l _ (HL.o.pure (C.o.alloc C.o.size _).drew) (by omega) HP.o Y.o HT.o HV.o L.o).mono ?_));rintro e w5 ⟨rfl,W⟩;(first|(with_reducible replace C:=Hd (Ba C.o.drew W))|((with_reducible have M:=Hd ((Bh.new w2 70 (Adl 0 0 0 0)).drew.pure W));(with_reducible replace C:=Hd (Ba (C.o.alloc C.o.size _).drew W));obtain ⟨q0,q1,q2,q3⟩:=M.o.c4;obtain ⟨p0,p1,p2⟩:=M.o.f3;have p3:=M.o.frozen 3));replace HW:=Hd (HW.o.pure C.o);replace T:=Hd (T.o.pure C.o);clear D G H I J;have D:_=some (Value.slice E.A E.n E.c):=HW.o.cell 0;obtain ⟨G,H,I,J⟩:=T.o.c4;have da:E.bw≠w5.heap.size:=(by have:=HW.o.lt;omega);have db:w.heap.size≠w5.heap.size:=(by have:=T.o.lt;omega);clear W))
      all_goals
       go_wp2_with fail;go_meet
       first
        |with_reducible exact⟨_,rfl,rfl,_,rfl,Bh.new _ _ _,C.o.size,C.o.alloc C.o.size _⟩
        |exact⟨_,rfl,rfl,_,rfl,(((M.o.set_ 0 _).set_ 1 _).set_ 2 _).set_ 3 _,Ae _,B6 _ C.o (Ae _) _ _ _ _⟩
     case rest=>
     obtain⟨w6,rfl,rfl,k,rfl,hK,hk,W⟩:=hcut;have M:=Hd (show G0 E g2 w6 k 70 (Adl O P Q S) from⟨hK,m.o.newer hk⟩);replace K:=Hd (K.o.below W);replace m:=Hd (m.o.pure W);replace j:=Hd (j.o.pure W);clear D G H I J;clear W;have D:=(m.o).c0;have G:=Be j.o.1;have H:=Bc j.o.1;have I:=Bb j.o.1;have J:=Bf j.o.1;clear hK hk;by_cases am:ee=0
     ·subst am;have ag:=V6 aj.o (by rw [HN.o];exact a8) L.o;have az:Cq E.l ⟨p,q,t,V⟩ i=⟨O,P,Q,S⟩:=by unfold Cq;simp only [HP.o,Y.o,HT.o,HV.o]
      rw [az] at ag;obtain⟨y2,a4⟩:∃y,go ⟨O,P,Q,S⟩ st=y:=⟨_,rfl⟩;have af:=Qp (l:=E.l) (r:=⟨p,q,t,V⟩) L.o ao.o az a4 a8 X.o;have a0:=b3.o _ st O P Q S w6 m.o (by omega) (by omega) (by have:=cg.o;omega) ag;have a1:=bq.o ⟨O,P,Q,S⟩ st;have ae:=b4.o ⟨O,P,Q,S⟩ st;rw [a4] at a0 a1 ae;have an:=Hd a0;have bf:=Hd a1;have bg:=Hd (GQ.trans bs.o ae);have aa:=Hd af;have k0:=Be M.o.1;have k1:=Bc M.o.1;have k2:=Bb M.o.1;have k3:=Bf M.o.1;clear ag az a4 af a0 a1 ae X;go_wp2_with fail;go_at_call 89;refine an.o.mono ?_;rintro e w7 ⟨rfl,g7,bm,ay⟩;replace K:=Hd (K.o.trans ay);replace j:=Hd (j.o.to ay);replace m:=Hd bm;clear D G H I J;clear bm ay;have D:=(m.o).c0;have G:=Be j.o.1;have H:=Bc j.o.1;have I:=Bb j.o.1;have J:=Bf j.o.1;clear M an k0 k1 k2 k3;by_cases B:y2.2=0
      ·have bj:=Hd B;rw [B];clear B;go_wp2_with fail;go_roundw
       case rel=>exact⟨i+1,y2.1,g7,by go_num,by omega,m.o,K.o,j.o,Int.le_trans bf.o.1.1 b0,by have:=bf.o.2 bj.o;omega,bg.o,aa.o.1 bj.o⟩
       case measure=>simp [intOf];omega
      ·have a9:(y2.2 != 0)=true:=by simpa using B
       have T:=Hd (aa.o.2 B);clear B;go_wp2_with fail;go_ret;rw [bh.o,T.o];exact⟨rfl,_,m.o,K.o⟩
     ·have a9:(ee != 0)=true:=by simpa using am
      have b1:=Hd (Qo (l:=E.l) (r:=⟨p,q,t,V⟩) L.o am ao.o a8 X.o);clear am X;go_wp2_with fail;go_ret;rw [bh.o,b1.o];exact⟨rfl,_,m.o,K.o⟩
    |false=>
     have e:st=s1:=by
      rw [←ao.o];unfold Fk;rw [if_neg (by rw [cm.o];decide)]
     subst e;obtain⟨O,aq⟩:∃x,Rm E.l p q t V i=x:=⟨_,rfl⟩;obtain⟨P,ar⟩:∃x,Rn E.l p q t V i=x:=⟨_,rfl⟩;obtain⟨Q,au⟩:∃x,Pk E.l p q t V i=x:=⟨_,rfl⟩;obtain⟨S,av⟩:∃x,Ro E.l p q t V i=x:=⟨_,rfl⟩;obtain⟨ee,ap⟩:∃x,Eu E.l p q t V i=x:=⟨_,rfl⟩;have HP:=Hd aq;have Y:=Hd ar;have HT:=Hd au;have HV:=Hd av;have L:=Hd ap;clear aq ar au av ap;go_upto_region 20 with fail
     go_cut [17,18] (fun u7 u8 wx=>∃wy,wy=wx∧u8= Aa Ab ee∧∃k,u7= Adm k∧Bh wx k 70 (Adl O P Q S)∧wr.heap.size≤k∧Below wr.heap.size wr wx)
     case first=>
      have C:=Hd (Af wr.heap.size wr);have HL:=Hd m.o.b;obtain⟨Ah,nh,ch,Al,nl,cl,hW,_⟩:=m.o.R;have HW:=Hd hW;have T:=Hd j.o.1;have c8:E.bw≠wr.heap.size:=by have:=HW.o.lt;omega
      have c9:w.heap.size≠wr.heap.size:=by have:=T.o.lt;omega
      clear j K m hW X ao;clear D G H I J;have D:_=some (Value.slice E.A E.n E.c):=HW.o.cell 0;obtain ⟨G,H,I,J⟩:=T.o.c4;go_region_held3 (fun w'=>w'.cell? ⟨E.bw,0,none⟩=some (.slice E.A E.n E.c)∧(w'.cell? ⟨w.heap.size,0,none⟩=some (Aa Ab p)∧w'.cell? ⟨w.heap.size,1,none⟩=some (Aa Ab q)∧w'.cell? ⟨w.heap.size,2,none⟩=some (Aa Ab t)∧w'.cell? ⟨w.heap.size,3,none⟩=some (Aa Ab V))) ((with_reducible refine⟨?_,?_,?_,?_,?_⟩) <;>(repeat (first|with_reducible assumption|with_reducible refine B3 ?_|with_reducible refine C4 _ ?_|with_reducible refine J1 ?_ ?_)))
       (first|(go_at_call 104;(first|(with_reducible refine(N8 E.A E.n E.c p q t V i O P Q S ee E.l _ (HL.o.pure C.o.drew) (by omega) HP.o Y.o HT.o HV.o L.o).mono ?_)|(with_reducible refine(N8 E.A E.n E.c p q t V i O P Q S ee E.l _ (HL.o.pure (C.o.alloc C.o.size _).drew) (by omega) HP.o Y.o HT.o HV.o L.o).mono ?_));rintro e w5 ⟨rfl,W⟩;(first|(with_reducible replace C:=Hd (Ba C.o.drew W))|((with_reducible have M:=Hd ((Bh.new wr 70 (Adl 0 0 0 0)).drew.pure W));(with_reducible replace C:=Hd (Ba (C.o.alloc C.o.size _).drew W));obtain ⟨q0,q1,q2,q3⟩:=M.o.c4;obtain ⟨p0,p1,p2⟩:=M.o.f3;have p3:=M.o.frozen 3));replace HW:=Hd (HW.o.pure C.o);replace T:=Hd (T.o.pure C.o);clear D G H I J;have D:_=some (Value.slice E.A E.n E.c):=HW.o.cell 0;obtain ⟨G,H,I,J⟩:=T.o.c4;have da:E.bw≠w5.heap.size:=(by have:=HW.o.lt;omega);have db:w.heap.size≠w5.heap.size:=(by have:=T.o.lt;omega);clear W))
      all_goals
       go_wp2_with fail;go_meet
       first
        |with_reducible exact⟨_,rfl,rfl,_,rfl,Bh.new _ _ _,C.o.size,C.o.alloc C.o.size _⟩
        |exact⟨_,rfl,rfl,_,rfl,(((M.o.set_ 0 _).set_ 1 _).set_ 2 _).set_ 3 _,Ae _,B6 _ C.o (Ae _) _ _ _ _⟩
     case rest=>
     obtain⟨w6,rfl,rfl,k,rfl,hK,hk,W⟩:=hcut;have M:=Hd (show G0 E g1 w6 k 70 (Adl O P Q S) from⟨hK,m.o.newer hk⟩);replace K:=Hd (K.o.below W);replace m:=Hd (m.o.pure W);replace j:=Hd (j.o.pure W);clear D G H I J;clear W;have D:=(m.o).c0;have G:=Be j.o.1;have H:=Bc j.o.1;have I:=Bb j.o.1;have J:=Bf j.o.1;clear hK hk;by_cases am:ee=0
     ·subst am;have ag:=V6 aj.o (by rw [HN.o];exact a8) L.o;have az:Cq E.l ⟨p,q,t,V⟩ i=⟨O,P,Q,S⟩:=by unfold Cq;simp only [HP.o,Y.o,HT.o,HV.o]
      rw [az] at ag;obtain⟨y2,a4⟩:∃y,go ⟨O,P,Q,S⟩ st=y:=⟨_,rfl⟩;have af:=Qp (l:=E.l) (r:=⟨p,q,t,V⟩) L.o ao.o az a4 a8 X.o;have a0:=b3.o _ st O P Q S w6 m.o (by omega) (by omega) (by have:=cg.o;omega) ag;have a1:=bq.o ⟨O,P,Q,S⟩ st;have ae:=b4.o ⟨O,P,Q,S⟩ st;rw [a4] at a0 a1 ae;have an:=Hd a0;have bf:=Hd a1;have bg:=Hd (GQ.trans bs.o ae);have aa:=Hd af;have k0:=Be M.o.1;have k1:=Bc M.o.1;have k2:=Bb M.o.1;have k3:=Bf M.o.1;clear ag az a4 af a0 a1 ae X;go_wp2_with fail;go_at_call 89;refine an.o.mono ?_;rintro e w7 ⟨rfl,g7,bm,ay⟩;replace K:=Hd (K.o.trans ay);replace j:=Hd (j.o.to ay);replace m:=Hd bm;clear D G H I J;clear bm ay;have D:=(m.o).c0;have G:=Be j.o.1;have H:=Bc j.o.1;have I:=Bb j.o.1;have J:=Bf j.o.1;clear M an k0 k1 k2 k3;by_cases B:y2.2=0
      ·have bj:=Hd B;rw [B];clear B;go_wp2_with fail;go_roundw
       case rel=>exact⟨i+1,y2.1,g7,by go_num,by omega,m.o,K.o,j.o,Int.le_trans bf.o.1.1 b0,by have:=bf.o.2 bj.o;omega,bg.o,aa.o.1 bj.o⟩
       case measure=>simp [intOf];omega
      ·have a9:(y2.2 != 0)=true:=by simpa using B
       have T:=Hd (aa.o.2 B);clear B;go_wp2_with fail;go_ret;rw [bh.o,T.o];exact⟨rfl,_,m.o,K.o⟩
     ·have a9:(ee != 0)=true:=by simpa using am
      have b1:=Hd (Qo (l:=E.l) (r:=⟨p,q,t,V⟩) L.o am ao.o a8 X.o);clear am X;go_wp2_with fail;go_ret;rw [bh.o,b1.o];exact⟨rfl,_,m.o,K.o⟩
   ·have c6:N-i=0:=by omega
    have br:=X.o;rw [c6] at br;have dp:=Hd (show F=(s1,0) from br.symm);clear br c6 X;have D:=(m.o).c0;have G:=Be j.o.1;have H:=Bc j.o.1;have I:=Bb j.o.1;have J:=Bf j.o.1;go_wp2_with fail;go_ret;rw [bh.o,dp.o];exact⟨rfl,_,m.o,K.o⟩
 ·have a9:(er != 0)=true:=by simpa using he
  have e:Dw E.l go ⟨p,q,t,v⟩ s=(s,er):=by
   unfold Dw;rw [aj.o,if_pos he]
  have T:=Hd e;clear e he;go_wp2_with fail;go_ret;rw [T.o];exact⟨rfl,_,m.o,K.o⟩
end Go.Proofs.YtejpbijeifjdeaaGreat
