/- Parts of the proof. -/
import Derived.Test.YtejpbijeifjdeaaGreatQv29
set_option maxHeartbeats 4000000
set_option maxRecDepth 100000
open Go.Value renaming int→Aa
open Go.IntKind renaming i64→Ab
open Nat renaming le_refl→Ae
open Go.RowKit.Below renaming refl→Af
open Go.IntWalk renaming i64_in→Ag
open List renaming length_append→Ak,length_cons→Av
open Int renaming toNat_natCast→Ao
open Go.Proofs.Tryz
open Go.Proofs.Tryz renaming prog→Ad
namespace Go.Proofs.YtejpbijeifjdeaaGreat
open Go.RowKit Go.Acc
variable {s:Bj}{t:Int}
def GQ(s s':Bj):Prop:=s'.had.length+s'.left.toNat≤s.had.length+s.left.toNat
theorem GQ.refl(s:Bj):GQ s s:=Ae _
theorem GQ.trans{s' s'':Bj}(h:GQ s s')(h':GQ s' s''):GQ s s'':=Nat.le_trans h' h
theorem K8(s:Bj)(a b c:Int):GQ s (s.tell a b c):=by unfold GQ;rw [Ia,E0];exact Ae _
def Pb(go:Rq→Bj→Bj×Int):Prop:=∀r s,GQ s (go r s).1
section
variable {l:List UInt8} {go:Rq→Bj→Bj×Int} (r:Rq)
theorem xN(s:Bj):GQ s (Cn l r s).1:=by
 unfold Cn
 (repeat' split) <;>first|exact GQ.refl s|exact K8 _ _ _ _|exact(K8 _ _ _ _).trans (K8 _ _ _ _)
theorem qW(s:Bj):GQ s (Ct l r s).1:=by
 unfold Ct;split
 ·exact K8 _ _ _ _
 ·exact GQ.refl s
theorem vX(hgo:Pb go)(s:Bj):GQ s (Fe l go r s).1:=by
 unfold Fe;split
 ·exact GQ.refl s
 ·split
  ·exact hgo _ _
  ·exact(hgo _ _).trans (K8 _ _ _ _)
theorem pW(i:Nat)(s:Bj):GQ s (D6 l r i s):=by
 unfold D6;split
 ·exact K8 _ _ _ _
 ·exact GQ.refl s
theorem oC(s:Bj):GQ s (Hl l r s):=by
 unfold Hl;split
 ·exact K8 _ _ _ _
 ·exact GQ.refl s
theorem Z6(hgo:Pb go):∀(k i:Nat) (s:Bj),GQ s (Du l go r k i s).1
 |0,i,s=>GQ.refl s
 |k+1,i,s=>by
  unfold Du;have ht:=pW (l:=l) r i s;split
  ·exact ht
  ·have hg:=hgo (G0 l r i) (D6 l r i s);split
   ·exact ht.trans hg
   ·exact(ht.trans hg).trans (Z6 hgo k (i+1) _)
theorem Ws(hgo:Pb go)(s:Bj):GQ s (Eg l go r s).1:=by
 unfold Eg;split
 ·exact vX r hgo s
 ·exact GQ.refl s
theorem wC(hgo:Pb go)(s:Bj):GQ s (Db l go r s).1:=by
 unfold Db;split
 ·exact GQ.refl s
 ·split
  ·exact Ws r hgo s
  ·exact((Ws r hgo s).trans (oC r _)).trans (Z6 r hgo _ _ _)
theorem vH(hgo:Pb go)(s:Bj):GQ s (Da l go r s).1:=by
 unfold Da;split
 ·exact xN r s
 ·split
  ·exact qW r s
  ·exact wC r hgo s
end
theorem fL(l:List UInt8):∀d,Pb (Ca l d)
 |0,r,s=>GQ.refl s
 |d+1,r,s=>by
  unfold Ca;split
  ·exact GQ.refl s
  ·rename_i hl;have h1:(Cw r s).had.length+(Cw r s).left.toNat+1=s.had.length+s.left.toNat:=by
    unfold Cw;rw [Ia,E0];unfold Bj.burn;simp only;omega
   have h2:GQ s (Cw r s):=by unfold GQ;omega
   have h3:GQ s ((Cw r s).see (F7 l r)):=by
    unfold GQ Bj.see;simp only [Ak,Av,List.length_nil];omega
   split
   ·exact h2
   ·split
    ·exact h2
    ·exact h3.trans (vH r (fL l d) _)
def Zq(E:Ie)(go:Rq→Bj→Bj×Int)(d:Nat):Prop:=∀(g:E9) (s:Bj) (p q t v:Int) (w:World),D4 E g s w→s.left.toNat<d→s.size≤900000000→s.had.length+s.left.toNat≤900000000→K6 E.l.length ⟨p,q,t,v⟩→
 Calls Ad 89 #[Aca E.bw,.agg (Ab9 p q t v)] w (iE E g w (go ⟨p,q,t,v⟩ s))
def lJ(E:Ie)(go:Rq→Bj→Bj×Int)(r:Rq)(N:Nat)(F:Bj×Int)(b:Nat)(w0:World)(g:E9)(s0:Bj)(u:Value)(wr:World):Prop:=
 ∃(i:Nat) (s:Bj) (g':E9),u= Aa Ab i∧i≤N∧D4 E g' s wr∧D9 E g g' w0 wr∧Gy E g' wr b 70 (Ab9 r.p r.q r.t r.v)∧
  s.left≤s0.left∧s.size≤s0.size+1∧GQ s0 s∧Du E.l go r (N-i) i s=F
theorem eV(E:Ie)(go:Rq→Bj→Bj×Int)(d:Nat)(hgo:Zq E go d)(hgoes:Pa go)(hhg:Pb go)(g:E9)(s:Bj)(p q t v a:Int)(w:World)(h:D4 E g s w)(hd:s.left.toNat<d)(hs:s.size≤899999993)(hhs:s.had.length+s.left.toNat≤900000000)(ha:By E.l p q t v=a):
  Calls Ad 167 #[Aca E.bw,.agg (Ab9 p q t v),Aa Ab a] w (iE E g w (Db E.l go ⟨p,q,t,v⟩ s)):=by
 have m:=Hd (h.alloc (.cells (Ab9 p q t v) 70));have j:=Hd (h.lone 70 (Ab9 p q t v));have K:=Hd ((D9.refl E g w).alloc (.cells (Ab9 p q t v) 70));have b2:=Hd hgo;have bp:=Hd hgoes;have b3:=Hd hhg;obtain⟨f,hf⟩:∃f:Int,(lsFrom E.l p q t v:Int)=f:=⟨_,rfl⟩;obtain⟨a',c1⟩:∃a:Int,(lsAt E.l p q t v:Int)=a:=⟨_,rfl⟩;obtain⟨o,ho⟩:∃a:Int,(lsTo E.l p q t v:Int)=a:=⟨_,rfl⟩;obtain⟨N,hN⟩:∃N:Nat,lsLen E.l p q t v=N:=⟨_,rfl⟩;obtain⟨er,he⟩:∃a,Cp E.l p q t v=a:=⟨_,rfl⟩;have HF:=Hd hf;have dm:=Hd ha;have Y:=Hd c1;have HO:=Hd ho;have HN:=Hd hN;have ds:=Hd (show(lsLen E.l p q t v:Int)=(N:Int) by rw [hN]);have ai:=Hd he;have e5:=h.ok.hn;have ec:=h.len;clear h hf ha c1 ho hN he hgo hgoes hhg;have D:=(m.o).c0;have G:=Bg j.o.1;have H:=Bf j.o.1;have I:=Be j.o.1;have J:=Bh j.o.1;go_enter func167,ntmps167;go_wp2_with fail;go_region_held3 (fun w'=>w'.cell? ⟨E.bw,0,none⟩=some (.slice E.A E.n E.c)∧(w'.cell? ⟨w.heap.size,0,none⟩=some (Aa Ab p)∧w'.cell? ⟨w.heap.size,1,none⟩=some (Aa Ab q)∧w'.cell? ⟨w.heap.size,2,none⟩=some (Aa Ab t)∧w'.cell? ⟨w.heap.size,3,none⟩=some (Aa Ab v))) (first|with_reducible exact⟨D,G,H,I,J⟩|with_reducible exact⟨Bk D,Bk G,Bk H,Bk I,Bk J⟩) (first|(go_at_call 182;(with_reducible refine(pJ E.A E.n E.c p q t v f a' o er E.l _ m.o.drew.b (by omega) HF.o Y.o HO.o ai.o).mono ?_);rintro e w1 ⟨rfl,aj⟩;replace K:=Hd (K.o.drew.below aj);replace m:=Hd (m.o.drew.pure aj);replace j:=Hd (j.o.drew.pure aj);clear D G H I J;clear aj;have D:=(m.o).c0;have G:=Bg j.o.1;have H:=Bf j.o.1;have I:=Be j.o.1;have J:=Bh j.o.1));by_cases he:er=0
 ·subst he;obtain⟨e7,e8,a1,bm⟩:=Ml ai.o;have d0:a'=a:=by
   have h1:=Y.o;have h2:=dm.o;unfold lsAt at h1;rw [if_pos ai.o,h2] at h1;have h3:0≤a:=by
    rw [←h2];by_cases g:B8 E.l p q t v=0
    ·exact(L0 g).1
    ·unfold By;rw [if_neg g];exact Int.le_refl _
   omega
  subst d0;obtain⟨V,rfl⟩:∃V:Nat,v=V:=⟨v.toNat,by omega⟩;rw [Ao,HN.o] at bm;rw [Ao] at a1;have cu:N*V≤N*(V+tgs t):=Nat.mul_le_mul_left _ (Nat.le_add_right _ _);have dr:=Hd bm;have dt:=Hd cu;have cj:=Hd a1;have e0:0≤a':=by have:=Y.o;omega
  have e1:a'≤4294967296:=by have:=Y.o;omega
  have e3:0≤f:=by have:=HF.o;omega
  have bq:f≤4294967296:=by have h1:=HF.o;have h2:=Y.o;omega
  clear bm cu a1;go_wp2_with fail;go_region_held3 (fun w'=>w'.cell? ⟨E.bw,0,none⟩=some (.slice E.A E.n E.c)∧(w'.cell? ⟨w.heap.size,0,none⟩=some (Aa Ab p)∧w'.cell? ⟨w.heap.size,1,none⟩=some (Aa Ab q)∧w'.cell? ⟨w.heap.size,2,none⟩=some (Aa Ab t)∧w'.cell? ⟨w.heap.size,3,none⟩=some (Aa Ab V))) (first|with_reducible exact⟨D,G,H,I,J⟩|with_reducible exact⟨Bk D,Bk G,Bk H,Bk I,Bk J⟩) (first|(go_at_call 103;(with_reducible refine(xD E.A E.n E.c p q t V N 0 E.l _ m.o.drew.b (by omega) ds.o ai.o).mono ?_);rintro e w1 ⟨rfl,aj⟩;replace K:=Hd (K.o.drew.below aj);replace m:=Hd (m.o.drew.pure aj);replace j:=Hd (j.o.drew.pure aj);clear D G H I J;clear aj;have D:=(m.o).c0;have G:=Bg j.o.1;have H:=Bf j.o.1;have I:=Be j.o.1;have J:=Bh j.o.1));obtain⟨y,hy⟩:∃y,Eg E.l go ⟨p,q,t,V⟩ s=y:=⟨_,rfl⟩;have HY:=Hd hy;clear hy;go_upto_if 45 with fail
  go_cut [] (fun wx=>∃wy,wy=wx∧y.2=0∧∃g',D4 E g' y.1 wx∧D9 E g g' w wx∧Gy E g' wx w.heap.size 70 (Ab9 p q t V))
  case first=>
   have db:y.2≠0→Db E.l go ⟨p,q,t,V⟩ s=y:=fun h=>by
    unfold Db;rw [if_neg (by rw [ai.o];decide),HY.o,if_pos h]
   have ci:=Hd db;clear db;by_cases h9:t=9
   ·subst h9;have hy:=HY.o;unfold Eg at hy;rw [if_pos rfl] at hy;obtain⟨O,ap⟩:∃a,Vc E.l p q 9 V=a:=⟨_,rfl⟩;obtain⟨P,aq⟩:∃a,Vd E.l p q 9 V=a:=⟨_,rfl⟩;obtain⟨Q,ar⟩:∃a,Yf E.l p q 9 V=a:=⟨_,rfl⟩;obtain⟨kv,au⟩:∃a,Yg E.l p q 9 V=a:=⟨_,rfl⟩;obtain⟨er,he⟩:∃a,J8 E.l p q 9 V=a:=⟨_,rfl⟩;have HP:=Hd ap;have X:=Hd aq;have HT:=Hd ar;have HV:=Hd au;have L:=Hd he;have cn:=Hd hy;clear ap aq ar au he hy;go_upto_region 6 with fail
    go_cut [13,14] (fun u7 u8 wx=>∃wy,wy=wx∧u8= Aa Ab er∧∃k,u7= Aca k∧Bb wx k 70 (Ab9 O P Q kv)∧w1.heap.size≤k∧Below w1.heap.size w1 wx)
    case first=>
     have C:=Hd (Af w1.heap.size w1);have HL:=Hd m.o.b;obtain⟨Ah,nh,ch,Al,nl,cl,hW,_⟩:=m.o.R;have HW:=Hd hW;have S:=Hd j.o.1;have c7:E.bw≠w1.heap.size:=by have:=HW.o.lt;omega
     have c8:w.heap.size≠w1.heap.size:=by have:=S.o.lt;omega
     clear j K m hW;clear D G H I J;have D:_=some (Value.slice E.A E.n E.c):=HW.o.cell 0;obtain ⟨G,H,I,J⟩:=S.o.c4;go_region_held3 (fun w'=>w'.cell? ⟨E.bw,0,none⟩=some (.slice E.A E.n E.c)∧(w'.cell? ⟨w.heap.size,0,none⟩=some (Aa Ab p)∧w'.cell? ⟨w.heap.size,1,none⟩=some (Aa Ab q)∧w'.cell? ⟨w.heap.size,2,none⟩=some (Aa Ab 9)∧w'.cell? ⟨w.heap.size,3,none⟩=some (Aa Ab V))) ((with_reducible refine⟨?_,?_,?_,?_,?_⟩) <;>(repeat (first|with_reducible assumption|with_reducible refine Bw ?_|with_reducible refine Dj _ ?_|with_reducible refine Sg ?_ ?_)))
      (first|(go_at_call 102;(first|(with_reducible refine(Yr E.A E.n E.c p q 9 V O P Q kv er E.l _ (HL.o.pure C.o.drew) (by omega) HP.o X.o HT.o HV.o L.o).mono ?_)|(with_reducible refine(Yr E.A E.n E.c p q 9 V O P Q kv er E.l _ (HL.o.pure (C.o.alloc C.o.size _).drew) (by omega) HP.o X.o HT.o HV.o L.o).mono ?_));rintro e w3 ⟨rfl,U⟩;(first|(with_reducible replace C:=Hd (A6 C.o.drew U))|((with_reducible have M:=Hd ((Bb.new w1 70 (Ab9 0 0 0 0)).drew.pure U));(with_reducible replace C:=Hd (A6 (C.o.alloc C.o.size _).drew U));obtain ⟨q0,q1,q2,q3⟩:=M.o.c4;obtain ⟨p0,p1,p2⟩:=M.o.f3;have p3:=M.o.frozen 3));replace HW:=Hd (HW.o.pure C.o);replace S:=Hd (S.o.pure C.o);clear D G H I J;have D:_=some (Value.slice E.A E.n E.c):=HW.o.cell 0;obtain ⟨G,H,I,J⟩:=S.o.c4;have c9:E.bw≠w3.heap.size:=(by have:=HW.o.lt;omega);have da:w.heap.size≠w3.heap.size:=(by have:=S.o.lt;omega);clear U))
     all_goals
      go_wp2_with fail;go_meet
      first
       |with_reducible exact⟨_,rfl,rfl,_,rfl,Bb.new _ _ _,C.o.size,C.o.alloc C.o.size _⟩
       |exact⟨_,rfl,rfl,_,rfl,(((M.o.set_ 0 _).set_ 1 _).set_ 2 _).set_ 3 _,Ae _,B9 _ C.o (Ae _) _ _ _ _⟩
    case rest=>
    obtain⟨w3,rfl,rfl,k,rfl,hK,hk,U⟩:=hcut;have M:=Hd (show Gy E g w3 k 70 (Ab9 O P Q kv) from⟨hK,m.o.newer hk⟩);replace K:=Hd (K.o.below U);replace m:=Hd (m.o.pure U);replace j:=Hd (j.o.pure U);clear D G H I J;clear U;have D:=(m.o).c0;have G:=Bg j.o.1;have H:=Bf j.o.1;have I:=Be j.o.1;have J:=Bh j.o.1;clear hK hk;by_cases he:er=0
    ·subst he;obtain⟨_,_,af,bm,_,_⟩:=jW L.o;have k0:=Bg M.o.1;have k1:=Bf M.o.1;have k2:=Be M.o.1;have k3:=Bh M.o.1;have du:=Hd (show K6 E.l.length ⟨O,P,Q,kv⟩ by have:=af;unfold Gf at this;rw [HP.o,X.o,HT.o,HV.o] at this;exact this);have c2:Gf E.l ⟨p,q,9,V⟩=⟨O,P,Q,kv⟩:=by unfold Gf;rw [HP.o,X.o,HT.o,HV.o]
     have cb:y=if(go ⟨O,P,Q,kv⟩ s).2≠0 then go ⟨O,P,Q,kv⟩ s else((go ⟨O,P,Q,kv⟩ s).1.tell (f+V) (f+2*V) 7,0):=by
      rw [←cn.o];unfold Fe;rw [L.o,if_neg (by decide),c2,HF.o]
     obtain⟨y1,hy⟩:∃y,go ⟨O,P,Q,kv⟩ s=y:=⟨_,rfl⟩;rw [hy] at cb;have fc:y1.1.o.length≤900000000:=by
      have h1:=(bp.o ⟨O,P,Q,kv⟩ s).1.2;rw [hy] at h1;have:=Dw y1.1;omega
     have b4:=Hd cb;have ak:=b2.o g s O P Q kv w3 m.o hd (by omega) hhs du.o;rw [hy] at ak;have am:=Hd ak;clear af c2 cb hy ak bm;go_wp2_with fail;go_at_call 89;refine am.o.mono ?_;rintro e w4 ⟨rfl,g4,cs,b5⟩;replace K:=Hd (K.o.trans b5);replace j:=Hd (j.o.to b5);replace m:=Hd cs;clear D G H I J;clear cs b5;have D:=(m.o).c0;have G:=Bg j.o.1;have H:=Bf j.o.1;have I:=Be j.o.1;have J:=Bh j.o.1;clear M am k0 k1 k2 k3;by_cases B:y1.2=0
     ·have h1:=b4.o;rw [B,if_neg (by decide)] at h1;subst h1;rw [B];clear b4 B;have w1:IntKind.i64.wrap (f+V)=f+V:=Ag _ (by omega);have w2:IntKind.i64.wrap (2*(V:Int))=2*V:=Ag _ (by omega);have w3:IntKind.i64.wrap (f+2*V)=f+2*V:=Ag _ (by omega);go_wp2_with (go_at_call 88;(with_reducible refine(D1 E _ _ (f+V) (f+2*V) 7 _ m.o (by omega) (by omega)).mono ?_);rintro e w2 ⟨rfl,g2,aa,T⟩;replace K:=Hd (K.o.trans T);replace j:=Hd (j.o.to T);replace m:=Hd aa;clear D G H I J;clear aa T;have D:=(m.o).c0;have G:=Bg j.o.1;have H:=Bf j.o.1;have I:=Be j.o.1;have J:=Bh j.o.1);go_meet;exact⟨_,rfl,trivial,_,m.o,K.o,j.o⟩
     ·have a8:(y1.2 != 0)=true:=by simpa using B
      have h1:=b4.o;rw [if_pos B] at h1;subst h1;have S:=Hd (ci.o B);clear B;go_wp2_with fail;go_ret;rw [S.o];exact⟨rfl,_,m.o,K.o⟩
    ·have a8:(er != 0)=true:=by simpa using he
     have d3:y=(s,er):=by
      rw [←cn.o];unfold Fe;rw [L.o,if_pos he]
     subst d3;have S:=Hd (ci.o he);clear he;go_wp2_with fail;go_ret;rw [S.o];exact⟨rfl,_,m.o,K.o⟩
   ·have hy:=HY.o;unfold Eg at hy;rw [if_neg h9] at hy;subst hy;have e9:(t==9)=false:=beq_eq_false_iff_ne.mpr h9;clear h9;go_wp2_with fail;go_meet;exact⟨_,rfl,trivial,g,m.o,K.o,j.o⟩
  case rest=>
  obtain⟨w2,rfl,B,g2,aa,T,cy⟩:=hcut;clear D G H I J;replace m:=Hd aa;replace K:=Hd T;replace j:=Hd cy;clear aa T cy;have D:=(m.o).c0;have G:=Bg j.o.1;have H:=Bf j.o.1;have I:=Be j.o.1;have J:=Bh j.o.1;obtain⟨z,hz⟩:∃z,Hl E.l ⟨p,q,t,V⟩ y.1=z:=⟨_,rfl⟩;have HZ:=Hd hz;have ab:=Nx (l:=E.l) ⟨p,q,t,V⟩ bp.o s;rw [HY.o] at ab;have a4:=Tx (l:=E.l) ⟨p,q,t,V⟩ y.1;rw [hz] at a4;have b7:=(Ws (l:=E.l) ⟨p,q,t,V⟩ b3.o s).trans (by rw [HY.o];exact oC (l:=E.l) ⟨p,q,t,V⟩ y.1);rw [hz] at b7;have d4:z.left≤s.left:=Int.le_trans a4.1 ab.1;have d5:z.size≤s.size+1:=by have:=a4.2;have:=ab.2;omega
  have fb:y.1.o.length≤899999993:=by have:=Dw y.1;have:=ab.2;omega
  have dq:=Hd b7;have dw:=Hd B;clear hz ab a4 b7 B;go_wp2_with fail;go_at_call 274;obtain⟨ah,b6⟩:∃x,aheadT t=x:=⟨_,rfl⟩;refine(Zr t ah _ b6).mono ?_;rintro e w3 ⟨rfl,rfl⟩;have b8:=cj.o;rw [b6] at b8;have bh:=Hd b8;clear b6 b8 cj;go_upto_if 78 with fail
  go_cut [] (fun wx=>∃wy,wy=wx∧∃g',D4 E g' z wx∧D9 E g g' w wx∧Gy E g' wx w.heap.size 70 (Ab9 p q t V))
  case first=>
   by_cases hc:0<ah
   ·have e4:f<a':=by
     have h1:=bh.o;have h2:=HF.o;have h3:=Y.o;have h4:1*V≤ah*V:=Nat.mul_le_mul_right _ hc;omega
    have e2:(V:Int)≤a':=by
     have h1:=bh.o;have h2:=HF.o;have h3:=Y.o;have h4:1*V≤ah*V:=Nat.mul_le_mul_right _ hc;omega
    have hz:=HZ.o;unfold Hl at hz;rw [if_pos (by have h1:=HF.o;have h2:=Y.o;simp only;omega)] at hz;have dc:y.1.tell (a'-V) a' 6=z:=by rw [←hz];simp only [Y.o]
    replace HZ:=Hd dc;have fa:IntKind.i64.wrap (a'-V)=a'-V:=Ag _ (by omega);clear hz dc;go_wp2_with (go_at_call 88;(with_reducible refine(D1 E _ _ (a'-V) a' 6 _ m.o (by omega) (by omega)).mono ?_);rintro e w2 ⟨rfl,g2,aa,T⟩;replace K:=Hd (K.o.trans T);replace j:=Hd (j.o.to T);replace m:=Hd aa;clear D G H I J;clear aa T;have D:=(m.o).c0;have G:=Bg j.o.1;have H:=Bf j.o.1;have I:=Be j.o.1;have J:=Bh j.o.1);go_meet;rw [←HZ.o];exact⟨_,rfl,_,m.o,K.o,j.o⟩
   ·obtain rfl:ah=0:=by omega
    have e:z=y.1:=by
     have hz:=HZ.o;subst hz;unfold Hl;rw [if_neg];have h1:=bh.o;simp only [Nat.zero_mul,Nat.add_zero] at h1;simp only;omega
    subst e;clear hc;go_wp2_with fail;go_meet;exact⟨_,rfl,_,m.o,K.o,j.o⟩
  case rest=>
  obtain⟨w4,rfl,g3,cr,cw,cz⟩:=hcut;obtain⟨F,hF⟩:∃F,Du E.l go ⟨p,q,t,V⟩ N 0 z=F:=⟨_,rfl⟩;have hrel:lJ E go ⟨p,q,t,V⟩ N F w.heap.size w g s (Aa Ab 0) w4:=⟨0,z,g3,rfl,Nat.zero_le _,cr,cw,cz,d4,d5,dq.o,hF⟩;have bt:=Hd hrel;have c6:Db E.l go ⟨p,q,t,V⟩ s=F:=by
   unfold Db;rw [if_neg (by rw [ai.o];decide),HY.o,if_neg (by rw [dw.o];decide),HZ.o,←hF];simp only [HN.o]
  have bg:=Hd c6;have dv:=Hd (show(N:Int)*(V:Int)≤4294967296∧(0:Int)≤(N:Int)*(V:Int)∧N≤4294967296 from by
   have h1:=dr.o;have h2:=dt.o;have h3:=Y.o;have h5:((N*V:Nat):Int)=(N:Int)*(V:Int):=Int.natCast_mul _ _;have h6:N≤N*V:=Nat.le_mul_of_pos_right _ (by omega);refine⟨by omega,by omega,by omega⟩)
  clear hF hrel cr cw cz c6;clear D G H I J;clear m j K;go_wp2_with fail;go_loopw [16] (fun u wr=>lJ E go ⟨p,q,t,V⟩ N F w.heap.size w g s u wr) (fun u _=>N-(intOf u).toNat)
  case atStart=>exact bt.o
  case round=>
   clear bt;obtain⟨i,s1,g1,rfl,hi,cq,cv,cx,d2,e6,c3,ct⟩:=hrel;have m:=Hd cq;have K:=Hd cv;have j:=Hd cx;have W:=Hd ct;have dp:=Hd c3;clear cq cv cx ct c3;obtain⟨ez,ey,ex⟩:=dv.o;by_cases a7:i<N
   ·obtain⟨st,b9⟩:∃st,D6 E.l ⟨p,q,t,V⟩ i s1=st:=⟨_,rfl⟩;have a5:=Ql (l:=E.l) ⟨p,q,t,V⟩ i s1;have a6:=dp.o.trans (pW (l:=E.l) ⟨p,q,t,V⟩ i s1);rw [b9] at a5 a6;have bz:st.left≤s.left:=Int.le_trans a5.1 d2;have eg:st.size≤s.size+2:=by have:=a5.2;omega
    have ef:s1.o.length≤899999999:=by have:=Dw s1;omega
    have an:=Hd b9;have cf:=Hd (show st.had.length+st.left.toNat≤900000000 from Nat.le_trans a6 hhs);have br:=Hd a6;clear b9 a5 a6;have D:=(m.o).c0;have G:=Bg j.o.1;have H:=Bf j.o.1;have I:=Be j.o.1;have J:=Bh j.o.1;obtain⟨tg,ca⟩:∃x,Dk t=x:=⟨_,rfl⟩;have a2:=D0 t wr;rw [ca] at a2;have ck:=Hd ca;have cm:=Hd a2;clear ca a2;go_wp2_with fail;go_at_call 184;refine cm.o.mono ?_;rintro e w8 ⟨rfl,rfl⟩;clear cm;cases tg with
    |true=>
     have e:s1.tell (a'+(N:Int)*(V:Int)+(i:Int)) (a'+(N:Int)*(V:Int)+(i:Int)+1) 8=st:=by
      rw [←an.o];unfold D6;rw [if_pos ck.o];simp only [Y.o,HN.o]
     have HE:=Hd e;clear e;go_wp2_with (go_at_call 88;(with_reducible refine(D1 E _ _ (a'+(N:Int)*(V:Int)+(i:Int)) (a'+(N:Int)*(V:Int)+(i:Int)+1) 8 _ m.o (by omega) (by omega)).mono ?_);rintro e w2 ⟨rfl,hD⟩;rw [HE.o] at hD;obtain⟨g2,aa,T⟩:=hD;replace K:=Hd (K.o.trans T);replace j:=Hd (j.o.to T);replace m:=Hd aa;clear D G H I J;clear aa T;have D:=(m.o).c0;have G:=Bg j.o.1;have H:=Bf j.o.1;have I:=Be j.o.1;have J:=Bh j.o.1);obtain⟨O,ap⟩:∃x,Q4 E.l p q t V i=x:=⟨_,rfl⟩;obtain⟨P,aq⟩:∃x,Q5 E.l p q t V i=x:=⟨_,rfl⟩;obtain⟨Q,ar⟩:∃x,Sp E.l p q t V i=x:=⟨_,rfl⟩;obtain⟨kv,au⟩:∃x,Sq E.l p q t V i=x:=⟨_,rfl⟩;obtain⟨ee,ao⟩:∃x,Fz E.l p q t V i=x:=⟨_,rfl⟩;have HP:=Hd ap;have X:=Hd aq;have HT:=Hd ar;have HV:=Hd au;have L:=Hd ao;clear ap aq ar au ao;go_upto_region 20 with fail
     go_cut [17,18] (fun u7 u8 wx=>∃wy,wy=wx∧u8= Aa Ab ee∧∃k,u7= Aca k∧Bb wx k 70 (Ab9 O P Q kv)∧w2.heap.size≤k∧Below w2.heap.size w2 wx)
     case first=>
      have C:=Hd (Af w2.heap.size w2);have HL:=Hd m.o.b;obtain⟨Ah,nh,ch,Al,nl,cl,hW,_⟩:=m.o.R;have HW:=Hd hW;have S:=Hd j.o.1;have c7:E.bw≠w2.heap.size:=by have:=HW.o.lt;omega
      have c8:w.heap.size≠w2.heap.size:=by have:=S.o.lt;omega
      clear j K m hW W an;clear D G H I J;have D:_=some (Value.slice E.A E.n E.c):=HW.o.cell 0;obtain ⟨G,H,I,J⟩:=S.o.c4;go_region_held3 (fun w'=>w'.cell? ⟨E.bw,0,none⟩=some (.slice E.A E.n E.c)∧(w'.cell? ⟨w.heap.size,0,none⟩=some (Aa Ab p)∧w'.cell? ⟨w.heap.size,1,none⟩=some (Aa Ab q)∧w'.cell? ⟨w.heap.size,2,none⟩=some (Aa Ab t)∧w'.cell? ⟨w.heap.size,3,none⟩=some (Aa Ab V))) ((with_reducible refine⟨?_,?_,?_,?_,?_⟩) <;>(repeat (first|with_reducible assumption|with_reducible refine Bw ?_|with_reducible refine Dj _ ?_|with_reducible refine Sg ?_ ?_)))
       (first|(go_at_call 104;(first|(with_reducible refine(Vw E.A E.n E.c p q t V i O P Q kv ee E.l _ (HL.o.pure C.o.drew) (by omega) HP.o X.o HT.o HV.o L.o).mono ?_)|(with_reducible refine(Vw E.A E.n E.c p q t V i O P Q kv ee E.l _ (HL.o.pure (C.o.alloc C.o.size _).drew) (by omega) HP.o X.o HT.o HV.o L.o).mono ?_));rintro e w5 ⟨rfl,U⟩;(first|(with_reducible replace C:=Hd (A6 C.o.drew U))|((with_reducible have M:=Hd ((Bb.new w2 70 (Ab9 0 0 0 0)).drew.pure U));(with_reducible replace C:=Hd (A6 (C.o.alloc C.o.size _).drew U));obtain ⟨q0,q1,q2,q3⟩:=M.o.c4;obtain ⟨p0,p1,p2⟩:=M.o.f3;have p3:=M.o.frozen 3));replace HW:=Hd (HW.o.pure C.o);replace S:=Hd (S.o.pure C.o);clear D G H I J;have D:_=some (Value.slice E.A E.n E.c):=HW.o.cell 0;obtain ⟨G,H,I,J⟩:=S.o.c4;have c9:E.bw≠w5.heap.size:=(by have:=HW.o.lt;omega);have da:w.heap.size≠w5.heap.size:=(by have:=S.o.lt;omega);clear U))
      all_goals
       go_wp2_with fail;go_meet
       first
        |with_reducible exact⟨_,rfl,rfl,_,rfl,Bb.new _ _ _,C.o.size,C.o.alloc C.o.size _⟩
        |exact⟨_,rfl,rfl,_,rfl,(((M.o.set_ 0 _).set_ 1 _).set_ 2 _).set_ 3 _,Ae _,B9 _ C.o (Ae _) _ _ _ _⟩
     case rest=>
     obtain⟨w6,rfl,rfl,k,rfl,hK,hk,U⟩:=hcut;have M:=Hd (show Gy E g2 w6 k 70 (Ab9 O P Q kv) from⟨hK,m.o.newer hk⟩);replace K:=Hd (K.o.below U);replace m:=Hd (m.o.pure U);replace j:=Hd (j.o.pure U);clear D G H I J;clear U;have D:=(m.o).c0;have G:=Bg j.o.1;have H:=Bf j.o.1;have I:=Be j.o.1;have J:=Bh j.o.1;clear hK hk;by_cases al:ee=0
     ·subst al;have af:=Uo ai.o (by rw [HN.o];exact a7) L.o;have ay:G0 E.l ⟨p,q,t,V⟩ i=⟨O,P,Q,kv⟩:=by unfold G0;simp only [HP.o,X.o,HT.o,HV.o]
      rw [ay] at af;obtain⟨y2,a3⟩:∃y,go ⟨O,P,Q,kv⟩ st=y:=⟨_,rfl⟩;have ae:=Pu (l:=E.l) (r:=⟨p,q,t,V⟩) L.o an.o ay a3 a7 W.o;have az:=b2.o _ st O P Q kv w6 m.o (by omega) (by omega) (by have:=cf.o;omega) af;have a0:=bp.o ⟨O,P,Q,kv⟩ st;have ad:=b3.o ⟨O,P,Q,kv⟩ st;rw [a3] at az a0 ad;have am:=Hd az;have be:=Hd a0;have bf:=Hd (GQ.trans br.o ad);have Z:=Hd ae;have k0:=Bg M.o.1;have k1:=Bf M.o.1;have k2:=Be M.o.1;have k3:=Bh M.o.1;clear af ay a3 ae az a0 ad W;go_wp2_with fail;go_at_call 89;refine am.o.mono ?_;rintro e w7 ⟨rfl,g7,bl,ax⟩;replace K:=Hd (K.o.trans ax);replace j:=Hd (j.o.to ax);replace m:=Hd bl;clear D G H I J;clear bl ax;have D:=(m.o).c0;have G:=Bg j.o.1;have H:=Bf j.o.1;have I:=Be j.o.1;have J:=Bh j.o.1;clear M am k0 k1 k2 k3;by_cases B:y2.2=0
      ·have bi:=Hd B;rw [B];clear B;go_wp2_with fail;go_roundw
       case rel=>exact⟨i+1,y2.1,g7,by go_num,by omega,m.o,K.o,j.o,Int.le_trans be.o.1.1 bz,by have:=be.o.2 bi.o;omega,bf.o,Z.o.1 bi.o⟩
       case measure=>simp [intOf];omega
      ·have a8:(y2.2 != 0)=true:=by simpa using B
       have S:=Hd (Z.o.2 B);clear B;go_wp2_with fail;go_ret;rw [bg.o,S.o];exact⟨rfl,_,m.o,K.o⟩
     ·have a8:(ee != 0)=true:=by simpa using al
      have b0:=Hd (Pt (l:=E.l) (r:=⟨p,q,t,V⟩) L.o al an.o a7 W.o);clear al W;go_wp2_with fail;go_ret;rw [bg.o,b0.o];exact⟨rfl,_,m.o,K.o⟩
    |false=>
     have e:st=s1:=by
      rw [←an.o];unfold D6;rw [if_neg (by rw [ck.o];decide)]
     subst e;obtain⟨O,ap⟩:∃x,Q4 E.l p q t V i=x:=⟨_,rfl⟩;obtain⟨P,aq⟩:∃x,Q5 E.l p q t V i=x:=⟨_,rfl⟩;obtain⟨Q,ar⟩:∃x,Sp E.l p q t V i=x:=⟨_,rfl⟩;obtain⟨kv,au⟩:∃x,Sq E.l p q t V i=x:=⟨_,rfl⟩;obtain⟨ee,ao⟩:∃x,Fz E.l p q t V i=x:=⟨_,rfl⟩;have HP:=Hd ap;have X:=Hd aq;have HT:=Hd ar;have HV:=Hd au;have L:=Hd ao;clear ap aq ar au ao;go_upto_region 20 with fail
     go_cut [17,18] (fun u7 u8 wx=>∃wy,wy=wx∧u8= Aa Ab ee∧∃k,u7= Aca k∧Bb wx k 70 (Ab9 O P Q kv)∧wr.heap.size≤k∧Below wr.heap.size wr wx)
     case first=>
      have C:=Hd (Af wr.heap.size wr);have HL:=Hd m.o.b;obtain⟨Ah,nh,ch,Al,nl,cl,hW,_⟩:=m.o.R;have HW:=Hd hW;have S:=Hd j.o.1;have c7:E.bw≠wr.heap.size:=by have:=HW.o.lt;omega
      have c8:w.heap.size≠wr.heap.size:=by have:=S.o.lt;omega
      clear j K m hW W an;clear D G H I J;have D:_=some (Value.slice E.A E.n E.c):=HW.o.cell 0;obtain ⟨G,H,I,J⟩:=S.o.c4;go_region_held3 (fun w'=>w'.cell? ⟨E.bw,0,none⟩=some (.slice E.A E.n E.c)∧(w'.cell? ⟨w.heap.size,0,none⟩=some (Aa Ab p)∧w'.cell? ⟨w.heap.size,1,none⟩=some (Aa Ab q)∧w'.cell? ⟨w.heap.size,2,none⟩=some (Aa Ab t)∧w'.cell? ⟨w.heap.size,3,none⟩=some (Aa Ab V))) ((with_reducible refine⟨?_,?_,?_,?_,?_⟩) <;>(repeat (first|with_reducible assumption|with_reducible refine Bw ?_|with_reducible refine Dj _ ?_|with_reducible refine Sg ?_ ?_)))
       (first|(go_at_call 104;(first|(with_reducible refine(Vw E.A E.n E.c p q t V i O P Q kv ee E.l _ (HL.o.pure C.o.drew) (by omega) HP.o X.o HT.o HV.o L.o).mono ?_)|(with_reducible refine(Vw E.A E.n E.c p q t V i O P Q kv ee E.l _ (HL.o.pure (C.o.alloc C.o.size _).drew) (by omega) HP.o X.o HT.o HV.o L.o).mono ?_));rintro e w5 ⟨rfl,U⟩;(first|(with_reducible replace C:=Hd (A6 C.o.drew U))|((with_reducible have M:=Hd ((Bb.new wr 70 (Ab9 0 0 0 0)).drew.pure U));(with_reducible replace C:=Hd (A6 (C.o.alloc C.o.size _).drew U));obtain ⟨q0,q1,q2,q3⟩:=M.o.c4;obtain ⟨p0,p1,p2⟩:=M.o.f3;have p3:=M.o.frozen 3));replace HW:=Hd (HW.o.pure C.o);replace S:=Hd (S.o.pure C.o);clear D G H I J;have D:_=some (Value.slice E.A E.n E.c):=HW.o.cell 0;obtain ⟨G,H,I,J⟩:=S.o.c4;have c9:E.bw≠w5.heap.size:=(by have:=HW.o.lt;omega);have da:w.heap.size≠w5.heap.size:=(by have:=S.o.lt;omega);clear U))
      all_goals
       go_wp2_with fail;go_meet
       first
        |with_reducible exact⟨_,rfl,rfl,_,rfl,Bb.new _ _ _,C.o.size,C.o.alloc C.o.size _⟩
        |exact⟨_,rfl,rfl,_,rfl,(((M.o.set_ 0 _).set_ 1 _).set_ 2 _).set_ 3 _,Ae _,B9 _ C.o (Ae _) _ _ _ _⟩
     case rest=>
     obtain⟨w6,rfl,rfl,k,rfl,hK,hk,U⟩:=hcut;have M:=Hd (show Gy E g1 w6 k 70 (Ab9 O P Q kv) from⟨hK,m.o.newer hk⟩);replace K:=Hd (K.o.below U);replace m:=Hd (m.o.pure U);replace j:=Hd (j.o.pure U);clear D G H I J;clear U;have D:=(m.o).c0;have G:=Bg j.o.1;have H:=Bf j.o.1;have I:=Be j.o.1;have J:=Bh j.o.1;clear hK hk;by_cases al:ee=0
     ·subst al;have af:=Uo ai.o (by rw [HN.o];exact a7) L.o;have ay:G0 E.l ⟨p,q,t,V⟩ i=⟨O,P,Q,kv⟩:=by unfold G0;simp only [HP.o,X.o,HT.o,HV.o]
      rw [ay] at af;obtain⟨y2,a3⟩:∃y,go ⟨O,P,Q,kv⟩ st=y:=⟨_,rfl⟩;have ae:=Pu (l:=E.l) (r:=⟨p,q,t,V⟩) L.o an.o ay a3 a7 W.o;have az:=b2.o _ st O P Q kv w6 m.o (by omega) (by omega) (by have:=cf.o;omega) af;have a0:=bp.o ⟨O,P,Q,kv⟩ st;have ad:=b3.o ⟨O,P,Q,kv⟩ st;rw [a3] at az a0 ad;have am:=Hd az;have be:=Hd a0;have bf:=Hd (GQ.trans br.o ad);have Z:=Hd ae;have k0:=Bg M.o.1;have k1:=Bf M.o.1;have k2:=Be M.o.1;have k3:=Bh M.o.1;clear af ay a3 ae az a0 ad W;go_wp2_with fail;go_at_call 89;refine am.o.mono ?_;rintro e w7 ⟨rfl,g7,bl,ax⟩;replace K:=Hd (K.o.trans ax);replace j:=Hd (j.o.to ax);replace m:=Hd bl;clear D G H I J;clear bl ax;have D:=(m.o).c0;have G:=Bg j.o.1;have H:=Bf j.o.1;have I:=Be j.o.1;have J:=Bh j.o.1;clear M am k0 k1 k2 k3;by_cases B:y2.2=0
      ·have bi:=Hd B;rw [B];clear B;go_wp2_with fail;go_roundw
       case rel=>exact⟨i+1,y2.1,g7,by go_num,by omega,m.o,K.o,j.o,Int.le_trans be.o.1.1 bz,by have:=be.o.2 bi.o;omega,bf.o,Z.o.1 bi.o⟩
       case measure=>simp [intOf];omega
      ·have a8:(y2.2 != 0)=true:=by simpa using B
       have S:=Hd (Z.o.2 B);clear B;go_wp2_with fail;go_ret;rw [bg.o,S.o];exact⟨rfl,_,m.o,K.o⟩
     ·have a8:(ee != 0)=true:=by simpa using al
      have b0:=Hd (Pt (l:=E.l) (r:=⟨p,q,t,V⟩) L.o al an.o a7 W.o);clear al W;go_wp2_with fail;go_ret;rw [bg.o,b0.o];exact⟨rfl,_,m.o,K.o⟩
   ·have c5:N-i=0:=by omega
    have bq:=W.o;rw [c5] at bq;have dn:=Hd (show F=(s1,0) from bq.symm);clear bq c5 W;have D:=(m.o).c0;have G:=Bg j.o.1;have H:=Bf j.o.1;have I:=Be j.o.1;have J:=Bh j.o.1;go_wp2_with fail;go_ret;rw [bg.o,dn.o];exact⟨rfl,_,m.o,K.o⟩
 ·have a8:(er != 0)=true:=by simpa using he
  have e:Db E.l go ⟨p,q,t,v⟩ s=(s,er):=by
   unfold Db;rw [ai.o,if_pos he]
  have S:=Hd e;clear e he;go_wp2_with fail;go_ret;rw [S.o];exact⟨rfl,_,m.o,K.o⟩
theorem vS(h:Bt t=true):(if t=0 then(1:Int) else if t=1 then 2 else if t=2 then 3 else 4)=Ej t:=by
 rcases cJ (Yc h) with rfl|rfl|rfl|rfl|rfl|rfl
 ·rfl
 ·rfl
 ·rfl
 ·exact absurd h (by decide)
 ·exact absurd h (by decide)
 ·rfl
theorem zG(h:Bt t=false):Ej t=5:=by
 have h0:t≠0:=by rintro rfl;exact absurd h (by decide)
 have h1:t≠1:=by rintro rfl;exact absurd h (by decide)
 have h2:t≠2:=by rintro rfl;exact absurd h (by decide)
 have h3:t≠26:=by rintro rfl;exact absurd h (by decide)
 unfold Ej;rw [if_neg h0,if_neg h1,if_neg h2,if_neg h3]
theorem xC(t r:Int)(w:World)(h:(if t=0 then(1:Int) else if t=1 then 2 else if t=2 then 3 else 4)=r):Calls Ad 163 #[Aa Ab t] w (Ab5 (Aa Ab r) w):=by
 subst h;exact(pE t w).mono fun e w' ⟨h1,h2⟩=>⟨h1,by subst h2;exact Af _ _⟩
theorem Vx(t:Int)(b:Bool)(w:World)(h:Bt t=b):Calls Ad 97 #[Aa Ab t] w (Ab5 (.bool b) w):=by
 subst h;exact(Ni t w).mono fun e w' ⟨h1,h2⟩=>⟨h1,by subst h2;exact Af _ _⟩
theorem kO(A:Option Addr)(n c:Nat)(p q t v a er:Int)(l:List UInt8)(w:World)(hl:B4 w A n l)(hn:n≤1099511627776)(h1:By l p q t v=a)(h2:B8 l p q t v=er):
  Calls Ad 99 #[.slice A n c,.agg (Ab9 p q t v)] w (Ab5 (.tuple #[Aa Ab a,Aa Ab er]) w):=by
 subst h1 h2;exact Fj A n c p q t v l w hl (by omega)
theorem Vz(A:Option Addr)(n c:Nat)(p q t v a x er:Int)(l:List UInt8)(w:World)(hl:B4 w A n l)(hn:n≤1099511627776)(h1:Hr l p q t v=a)(h2:Jl l p q t v=x)(h3:Gu l p q t v=er):
  Calls Ad 166 #[.slice A n c,.agg (Ab9 p q t v)] w (Ab5 (.tuple #[Aa Ab a,Aa Ab x,Aa Ab er]) w):=by
 subst h1 h2 h3;exact cQ A n c p q t v l w hl (by omega)
theorem vB{E:Ie}{g:E9}{w:World}(h:D4 E g s w){x:Int}(hx:s.left-1=x):D4 E g s.burn (w.setCell ⟨E.bw,1,none⟩ (Aa Ab x))∧D9 E g g w (w.setCell ⟨E.bw,1,none⟩ (Aa Ab x)):=by
 subst hx;have d:Fr (fun k=>k=E.bw) w (w.setCell ⟨E.bw,1,none⟩ (Aa Ab (s.left-1))):=Fr.setCell (S:=fun k=>k=E.bw) (Fr.refl _ _) (fun _=>rfl) _;have f:=h.ok;have q:=f.w0;have r:=f.w2;obtain⟨i,t,l,j,u,m,h1,h2,h3,n,o⟩:=h.R;refine⟨⟨f,h.b.fr d ?_,⟨i,t,l,j,u,m,h1.set_ 1 _,h2.fr d ?_,h3.fr d ?_,n,o⟩,Nat.le_trans h.sz d.size⟩,d.mono ?_,fun _ _ h=>h⟩
 ·intro c a e;have:=f.hA c a;have e:c.block=E.bw:=e;omega
 ·intro c a e;have:=(h2.addr c a).2.1;have e:c.block=E.bw:=e;omega
 ·intro c a e;have:=(h3.addr c a).2.1;have e:c.block=E.bw:=e;omega
 ·rintro k _ rfl p;exact p.1 rfl
theorem gD{l:List UInt8}{p q v:Int}(h:Gu l p q t v=0)(hi:Bt t=false):Hr l p q t v=By l p q t v:=by
 unfold Hr;rw [if_pos h,if_neg (by rw [hi];decide)]
theorem S1(E:Ie):∀d,Zq E (Ca E.l d) d
 |0=>fun g s p q t v w h hd hs hhs hr=>absurd hd (Nat.not_lt_zero _)
 |d+1=>fun g s p q t v w h hd hs hhs hr=>by
  have ih:=S1 E d;have bm:=Hd ih;have k:=Hd (h.alloc (.cells (Ab9 p q t v) 70));have f:=Hd (h.lone 70 (Ab9 p q t v));have m:=Hd ((D9.refl E g w).alloc (.cells (Ab9 p q t v) 70));have ck:=h.ok.hn;have cb:=h.len;obtain⟨b1,b3,b4,b2⟩:=hr;simp only at b1 b3 b4 b2;clear ih h;have a4:8*s.left.toNat≤900000000:=by unfold Bj.size at hs;omega
  have c1:=k.o.c1;have u:=(k.o).c0;have z:=Bg f.o.1;have B:=Bf f.o.1;have C:=Be f.o.1;have D:=Bh f.o.1;by_cases hl:s.left<1
  ·have hR:Ca E.l (d+1) ⟨p,q,t,v⟩ s=(s,260):=by unfold Ca;rw [if_pos hl]
   have R:=Hd hR;clear hR;go_enter func89,ntmps89;go_wp2_with fail;go_ret;rw [R.o];exact⟨rfl,_,k.o,m.o⟩
  ·have b7:IntKind.i64.wrap (s.left-1)=s.left-1:=Ag _ (by omega);have cl:IntKind.i64.wrap (p+q)=p+q:=Ag _ (by omega);have b5:s.burn.size+8=s.size:=by unfold Bj.size Bj.burn;simp only;omega
   have bj:=N5 s.burn p (p+q) (Ej t);have ab:=E0 s.burn p (p+q) (Ej t);have am:=Ia s.burn p (p+q) (Ej t);have HL:=Hd (show 1≤s.left by omega);have f1:=k.o.frozen 1;have ba:=vB k.o (x:=s.left-1) rfl;have ap:=Hd ba;have bb:s.burn.o.length≤1073741824:=by have:=Dw s.burn;omega
   clear ba;go_enter func89,ntmps89;go_upto_region 4 with fail
   replace k:=Hd ap.o.1;replace f:=Hd (f.o.to ap.o.2);replace m:=Hd (m.o.trans ap.o.2);clear ap f1 c1;generalize (w.alloc (.cells (Ab9 p q t v) 70)).setCell ⟨E.bw,1,none⟩ (Aa Ab (s.left-1))=w1 at k f m⊢;clear u z B C D;have u:=(k.o).c0;have z:=Bg f.o.1;have B:=Bf f.o.1;have C:=Be f.o.1;have D:=Bh f.o.1;obtain⟨s1,aw⟩:∃s1,s.burn.tell p (p+q) (Ej t)=s1:=⟨_,rfl⟩;rw [aw] at bj ab am;have bi:Cw ⟨p,q,t,v⟩ s=s1:=aw;have ay:s1.left.toNat<d:=by rw [ab];unfold Bj.burn;simp only;omega
   have az:s1.size≤899999993:=by omega
   have bg:s1.had.length+s1.left.toNat+1≤900000000:=by rw [ab,am];unfold Bj.burn;simp only;omega
   have aq:=Hd bi;have a5:=Hd aw;clear bj ab am bi aw b5 b7 hs hd a4 hhs hl;go_wp2_with fail;go_at_call 97;by_cases hi:Bt t=true
   ·refine(Vx t true _ hi).mono ?_;rintro e w4 ⟨rfl,F⟩;replace m:=Hd (m.o.below F);replace k:=Hd (k.o.pure F);replace f:=Hd (f.o.pure F);clear u z B C D;clear F;have u:=(k.o).c0;have z:=Bg f.o.1;have B:=Bf f.o.1;have C:=Be f.o.1;have D:=Bh f.o.1;have hR:Ca E.l (d+1) ⟨p,q,t,v⟩ s=(s1,0):=by unfold Ca;rw [if_neg (Int.not_lt.mpr HL.o),if_pos hi,aq.o]
    have R:=Hd hR;have bn:=Hd (vS hi);clear hR hi;go_wp2_with fail;go_region_held3 (fun w'=>w'.cell? ⟨E.bw,0,none⟩=some (.slice E.A E.n E.c)∧(w'.cell? ⟨w.heap.size,0,none⟩=some (Aa Ab p)∧w'.cell? ⟨w.heap.size,1,none⟩=some (Aa Ab q)∧w'.cell? ⟨w.heap.size,2,none⟩=some (Aa Ab t)∧w'.cell? ⟨w.heap.size,3,none⟩=some (Aa Ab v))) (first|with_reducible exact⟨u,z,B,C,D⟩|with_reducible exact⟨Bk u,Bk z,Bk B,Bk C,Bk D⟩) (first|(go_at_call 163;(with_reducible refine(xC t (Ej t) _ bn.o).mono ?_);rintro e w5 ⟨rfl,F⟩;replace m:=Hd (m.o.drew.below F);replace k:=Hd (k.o.drew.pure F);replace f:=Hd (f.o.drew.pure F);clear u z B C D;clear F;have u:=(k.o).c0;have z:=Bg f.o.1;have B:=Bf f.o.1;have C:=Be f.o.1;have D:=Bh f.o.1)|(go_at_call 88;(with_reducible refine(D1 E _ _ p (p+q) (Ej t) _ k.o (by omega) bb).mono ?_);rintro e w6 ⟨rfl,hD⟩;rw [a5.o] at hD;obtain⟨g3,ae,V⟩:=hD;replace m:=Hd (m.o.trans V);replace f:=Hd (f.o.to V);replace k:=Hd ae;clear u z B C D;clear ae V;have u:=(k.o).c0;have z:=Bg f.o.1;have B:=Bf f.o.1;have C:=Be f.o.1;have D:=Bh f.o.1));go_wp2_with fail;go_ret;rw [R.o];exact⟨rfl,_,k.o,m.o⟩
   ·have a3:Bt t=false:=by simpa using hi
    refine(Vx t false _ a3).mono ?_;rintro e w4 ⟨rfl,F⟩;replace m:=Hd (m.o.below F);replace k:=Hd (k.o.pure F);replace f:=Hd (f.o.pure F);clear u z B C D;clear F;have u:=(k.o).c0;have z:=Bg f.o.1;have B:=Bf f.o.1;have C:=Be f.o.1;have D:=Bh f.o.1;have HI:=Hd hi;have ak:=a5.o;rw [zG a3] at ak;have bp:=Hd ak;obtain⟨a,ha⟩:∃a,By E.l p q t v=a:=⟨_,rfl⟩;obtain⟨er,Y⟩:∃a,B8 E.l p q t v=a:=⟨_,rfl⟩;have HA:=Hd ha;have a0:=Hd Y;clear hi a3 ha Y ak;go_wp2_with (go_at_call 88;(with_reducible refine(D1 E _ _ p (p+q) 5 _ k.o (by omega) bb).mono ?_);rintro e w6 ⟨rfl,hD⟩;rw [bp.o] at hD;obtain⟨g3,ae,V⟩:=hD;replace m:=Hd (m.o.trans V);replace f:=Hd (f.o.to V);replace k:=Hd ae;clear u z B C D;clear ae V;have u:=(k.o).c0;have z:=Bg f.o.1;have B:=Bf f.o.1;have C:=Be f.o.1;have D:=Bh f.o.1);go_region_held3 (fun w'=>w'.cell? ⟨E.bw,0,none⟩=some (.slice E.A E.n E.c)∧(w'.cell? ⟨w.heap.size,0,none⟩=some (Aa Ab p)∧w'.cell? ⟨w.heap.size,1,none⟩=some (Aa Ab q)∧w'.cell? ⟨w.heap.size,2,none⟩=some (Aa Ab t)∧w'.cell? ⟨w.heap.size,3,none⟩=some (Aa Ab v))) (first|with_reducible exact⟨u,z,B,C,D⟩|with_reducible exact⟨Bk u,Bk z,Bk B,Bk C,Bk D⟩) (first|(go_at_call 99;(with_reducible refine(kO E.A E.n E.c p q t v a er E.l _ k.o.drew.b (by omega) HA.o a0.o).mono ?_);rintro e w5 ⟨rfl,F⟩;replace m:=Hd (m.o.drew.below F);replace k:=Hd (k.o.drew.pure F);replace f:=Hd (f.o.drew.pure F);clear u z B C D;clear F;have u:=(k.o).c0;have z:=Bg f.o.1;have B:=Bf f.o.1;have C:=Be f.o.1;have D:=Bh f.o.1));have bh:F7 E.l ⟨p,q,t,v⟩=(a,t,v):=by unfold F7;simp only [HA.o]
    have bk:Ca E.l (d+1) ⟨p,q,t,v⟩ s=if er≠0∨(a,t,v)∈s1.had then(s1,er) else Da E.l (Ca E.l d) ⟨p,q,t,v⟩ (s1.see (a,t,v)):=by
     unfold Ca;rw [if_neg (Int.not_lt.mpr HL.o),if_neg HI.o,aq.o,bh,a0.o];have:s1.had=s.had:=by rw [←aq.o];exact Ia _ _ _ _
     rw [this]
    have ar:=Hd bk;clear bh bk;by_cases Y:er=0
    ·subst Y;have a6:=Hd a0.o;by_cases hm:(a,t,v)∈s1.had
     ·have hr:=ar.o;rw [if_pos (.inr hm)] at hr;have R:=Hd hr;have au:=Hd (fun(g5:E9) (W:World) (h:D4 E g5 s1 W)=>gJ E g5 s1 s1 true p q t v a W h (by omega) (decide_eq_true hm) (if_pos hm));clear hr hm;go_wp2_with fail;go_at_call 164;refine(au.o _ _ k.o).mono ?_;rintro e w7 ⟨rfl,g7,af,X⟩;replace m:=Hd (m.o.trans X);replace f:=Hd (f.o.to X);replace k:=Hd af;clear u z B C D;clear af X;have u:=(k.o).c0;have z:=Bg f.o.1;have B:=Bf f.o.1;have C:=Be f.o.1;have D:=Bh f.o.1;go_wp2_with fail;go_ret;rw [R.o];exact⟨rfl,_,k.o,m.o⟩
     ·have hr:=ar.o;rw [if_neg (by simp [hm])] at hr;have R:=Hd hr;have au:=Hd (fun(g5:E9) (W:World) (h:D4 E g5 s1 W)=>gJ E g5 s1 (s1.see (a,t,v)) false p q t v a W h (by omega) (decide_eq_false hm) (if_neg hm));clear hr hm;go_wp2_with fail;go_at_call 164;refine(au.o _ _ k.o).mono ?_;rintro e w7 ⟨rfl,g7,af,X⟩;replace m:=Hd (m.o.trans X);replace f:=Hd (f.o.to X);replace k:=Hd af;clear u z B C D;clear af X;have u:=(k.o).c0;have z:=Bg f.o.1;have B:=Bf f.o.1;have C:=Be f.o.1;have D:=Bh f.o.1;obtain⟨s2,al⟩:∃s2,s1.see (a,t,v)=s2:=⟨_,rfl⟩;have b0:s2.left.toNat<d:=by subst al;exact ay
      have cm:s2.size≤899999993:=by subst al;exact az
      have bz:s2.had.length+s2.left.toNat≤900000000:=by
       subst al;unfold Bj.see;simp only [Ak,Av,List.length_nil];omega
      rw [al] at k R;clear al ay az bg ar aq HL au;by_cases h4:t=4
      ·subst h4;obtain⟨y,Z⟩:∃y,Cn E.l ⟨p,q,4,v⟩ s2=y:=⟨_,rfl⟩;have j:=Oi E _ s2 p q 4 v a _ k.o (by have:=Dw s2;omega) HA.o;rw [Z] at j;have i:=R.o.trans (show Da E.l (Ca E.l d) ⟨p,q,4,v⟩ s2=Cn E.l ⟨p,q,4,v⟩ s2 from rfl);rw [Z] at i;have I:=Hd j;have G:=Hd i;clear Z j i;go_wp2_with fail;go_at_call 165;refine I.o.mono ?_;rintro e w8 ⟨rfl,g8,J,K⟩;have P:=Hd J;have T:=Hd K;clear u z B C D;clear J K I;go_wp2_with fail;go_ret;rw [G.o];exact⟨rfl,_,P.o,m.o.trans T.o⟩
      have e4:(t==4)=false:=beq_eq_false_iff_ne.mpr h4;by_cases h5:t=5
      ·subst h5;obtain⟨y,Z⟩:∃y,Cn E.l ⟨p,q,5,v⟩ s2=y:=⟨_,rfl⟩;have j:=Oi E _ s2 p q 5 v a _ k.o (by have:=Dw s2;omega) HA.o;rw [Z] at j;have i:=R.o.trans (show Da E.l (Ca E.l d) ⟨p,q,5,v⟩ s2=Cn E.l ⟨p,q,5,v⟩ s2 from rfl);rw [Z] at i;have I:=Hd j;have G:=Hd i;clear Z j i;go_wp2_with fail;go_at_call 165;refine I.o.mono ?_;rintro e w8 ⟨rfl,g8,J,K⟩;have P:=Hd J;have T:=Hd K;clear u z B C D;clear J K I;go_wp2_with fail;go_ret;rw [G.o];exact⟨rfl,_,P.o,m.o.trans T.o⟩
      have e5:(t==5)=false:=beq_eq_false_iff_ne.mpr h5;by_cases a1:t=25
      ·subst a1;obtain⟨y,Z⟩:∃y,Cn E.l ⟨p,q,25,v⟩ s2=y:=⟨_,rfl⟩;have j:=Oi E _ s2 p q 25 v a _ k.o (by have:=Dw s2;omega) HA.o;rw [Z] at j;have i:=R.o.trans (show Da E.l (Ca E.l d) ⟨p,q,25,v⟩ s2=Cn E.l ⟨p,q,25,v⟩ s2 from rfl);rw [Z] at i;have I:=Hd j;have G:=Hd i;clear Z j i;go_wp2_with fail;go_at_call 165;refine I.o.mono ?_;rintro e w8 ⟨rfl,g8,J,K⟩;have P:=Hd J;have T:=Hd K;clear u z B C D;clear J K I;go_wp2_with fail;go_ret;rw [G.o];exact⟨rfl,_,P.o,m.o.trans T.o⟩
      have cf:(t==25)=false:=beq_eq_false_iff_ne.mpr a1;by_cases h6:t=6
      ·subst h6;obtain⟨n0,ai⟩:∃x,Jl E.l p q 6 v=x:=⟨_,rfl⟩;obtain⟨ef,ah⟩:∃x,Gu E.l p q 6 v=x:=⟨_,rfl⟩;obtain⟨pa,aj⟩:∃x,Hr E.l p q 6 v=x:=⟨_,rfl⟩;have Q:=Hd ai;have H:=Hd ah;have M:=Hd aj;have i:=R.o.trans (show Da E.l (Ca E.l d) ⟨p,q,6,v⟩ s2=Ct E.l ⟨p,q,6,v⟩ s2 from rfl);have G:=Hd i;have O:=Ke a6.o;rw [HA.o] at O;have bv:=O.1;have bx:a≤4294967296:=by have:=O.2;omega
       clear ai ah aj i O;go_wp2_with fail;go_region_held3 (fun w'=>w'.cell? ⟨E.bw,0,none⟩=some (.slice E.A E.n E.c)∧(w'.cell? ⟨w.heap.size,0,none⟩=some (Aa Ab p)∧w'.cell? ⟨w.heap.size,1,none⟩=some (Aa Ab q)∧w'.cell? ⟨w.heap.size,2,none⟩=some (Aa Ab 6)∧w'.cell? ⟨w.heap.size,3,none⟩=some (Aa Ab v))) (first|with_reducible exact⟨u,z,B,C,D⟩|with_reducible exact⟨Bk u,Bk z,Bk B,Bk C,Bk D⟩) (first|(go_at_call 166;(with_reducible refine(Vz E.A E.n E.c p q 6 v pa n0 ef E.l _ k.o.drew.b (by omega) M.o Q.o H.o).mono ?_);rintro e w9 ⟨rfl,F⟩;replace m:=Hd (m.o.drew.below F);replace k:=Hd (k.o.drew.pure F);replace f:=Hd (f.o.drew.pure F);clear u z B C D;clear F;have u:=(k.o).c0;have z:=Bg f.o.1;have B:=Bf f.o.1;have C:=Be f.o.1;have D:=Bh f.o.1));by_cases N:ef=0
       ·subst N;have r:=Pd H.o;have an:=gD H.o (show Bt 6=false by decide);rw [M.o,HA.o] at an;subst an;rw [M.o,Q.o] at r;have bd:=r.2.2;have be:n0≤4294967296:=by have:=r.2.1;omega
        have b6:IntKind.i64.wrap (pa+n0)=pa+n0:=Ag _ (by omega);have L:Ct E.l ⟨p,q,6,v⟩ s2=(s2.tell pa (pa+n0) 12,0):=by
         unfold Ct;simp only [H.o,M.o,Q.o,if_true]
         (try rfl)
        have S:=Hd L;clear r L;go_wp2_with (go_at_call 88;(with_reducible refine(D1 E _ _ pa (pa+n0) 12 _ k.o (by omega) (by have:=Dw s2;omega)).mono ?_);rintro e w2 ⟨rfl,g2,ad,U⟩;replace m:=Hd (m.o.trans U);replace f:=Hd (f.o.to U);replace k:=Hd ad;clear u z B C D;clear ad U;have u:=(k.o).c0;have z:=Bg f.o.1;have B:=Bf f.o.1;have C:=Be f.o.1;have D:=Bh f.o.1);go_ret;rw [G.o,S.o];exact⟨rfl,_,k.o,m.o⟩
       ·have bf:(ef != 0)=true:=by simpa using N
        have L:Ct E.l ⟨p,q,6,v⟩ s2=(s2,ef):=by
         unfold Ct;simp only [H.o];rw [if_neg N]
        have S:=Hd L;clear L N;go_wp2_with fail;go_ret;rw [G.o,S.o];exact⟨rfl,_,k.o,m.o⟩
      have e6:(t==6)=false:=beq_eq_false_iff_ne.mpr h6;by_cases h7:t=7
      ·subst h7;obtain⟨n0,ai⟩:∃x,Jl E.l p q 7 v=x:=⟨_,rfl⟩;obtain⟨ef,ah⟩:∃x,Gu E.l p q 7 v=x:=⟨_,rfl⟩;obtain⟨pa,aj⟩:∃x,Hr E.l p q 7 v=x:=⟨_,rfl⟩;have Q:=Hd ai;have H:=Hd ah;have M:=Hd aj;have i:=R.o.trans (show Da E.l (Ca E.l d) ⟨p,q,7,v⟩ s2=Ct E.l ⟨p,q,7,v⟩ s2 from rfl);have G:=Hd i;have O:=Ke a6.o;rw [HA.o] at O;have bv:=O.1;have bx:a≤4294967296:=by have:=O.2;omega
       clear ai ah aj i O;go_wp2_with fail;go_region_held3 (fun w'=>w'.cell? ⟨E.bw,0,none⟩=some (.slice E.A E.n E.c)∧(w'.cell? ⟨w.heap.size,0,none⟩=some (Aa Ab p)∧w'.cell? ⟨w.heap.size,1,none⟩=some (Aa Ab q)∧w'.cell? ⟨w.heap.size,2,none⟩=some (Aa Ab 7)∧w'.cell? ⟨w.heap.size,3,none⟩=some (Aa Ab v))) (first|with_reducible exact⟨u,z,B,C,D⟩|with_reducible exact⟨Bk u,Bk z,Bk B,Bk C,Bk D⟩) (first|(go_at_call 166;(with_reducible refine(Vz E.A E.n E.c p q 7 v pa n0 ef E.l _ k.o.drew.b (by omega) M.o Q.o H.o).mono ?_);rintro e w9 ⟨rfl,F⟩;replace m:=Hd (m.o.drew.below F);replace k:=Hd (k.o.drew.pure F);replace f:=Hd (f.o.drew.pure F);clear u z B C D;clear F;have u:=(k.o).c0;have z:=Bg f.o.1;have B:=Bf f.o.1;have C:=Be f.o.1;have D:=Bh f.o.1));by_cases N:ef=0
       ·subst N;have r:=Pd H.o;have an:=gD H.o (show Bt 7=false by decide);rw [M.o,HA.o] at an;subst an;rw [M.o,Q.o] at r;have bd:=r.2.2;have be:n0≤4294967296:=by have:=r.2.1;omega
        have b6:IntKind.i64.wrap (pa+n0)=pa+n0:=Ag _ (by omega);have L:Ct E.l ⟨p,q,7,v⟩ s2=(s2.tell pa (pa+n0) 13,0):=by
         unfold Ct;simp only [H.o,M.o,Q.o,if_true]
         (try rfl)
        have S:=Hd L;clear r L;go_wp2_with (go_at_call 88;(with_reducible refine(D1 E _ _ pa (pa+n0) 13 _ k.o (by omega) (by have:=Dw s2;omega)).mono ?_);rintro e w2 ⟨rfl,g2,ad,U⟩;replace m:=Hd (m.o.trans U);replace f:=Hd (f.o.to U);replace k:=Hd ad;clear u z B C D;clear ad U;have u:=(k.o).c0;have z:=Bg f.o.1;have B:=Bf f.o.1;have C:=Be f.o.1;have D:=Bh f.o.1);go_ret;rw [G.o,S.o];exact⟨rfl,_,k.o,m.o⟩
       ·have bf:(ef != 0)=true:=by simpa using N
        have L:Ct E.l ⟨p,q,7,v⟩ s2=(s2,ef):=by
         unfold Ct;simp only [H.o];rw [if_neg N]
        have S:=Hd L;clear L N;go_wp2_with fail;go_ret;rw [G.o,S.o];exact⟨rfl,_,k.o,m.o⟩
      have e7:(t==7)=false:=beq_eq_false_iff_ne.mpr h7;have ag:Da E.l (Ca E.l d) ⟨p,q,t,v⟩ s2=Db E.l (Ca E.l d) ⟨p,q,t,v⟩ s2:=by
       unfold Da;rw [if_neg (by simp [Kr];omega),if_neg (by simp only;omega)]
      have bl:=Hd ag;clear ag h4 h5 a1 h6 h7;obtain⟨y,Z⟩:∃y,Db E.l (Ca E.l d) ⟨p,q,t,v⟩ s2=y:=⟨_,rfl⟩;have j:=eV E _ d bm.o (Ns E.l d) (fL E.l d) _ s2 p q t v a _ k.o b0 (by omega) bz HA.o;rw [Z] at j;have i:=R.o.trans (show Da E.l (Ca E.l d) ⟨p,q,t,v⟩ s2=Db E.l (Ca E.l d) ⟨p,q,t,v⟩ s2 from bl.o);rw [Z] at i;have I:=Hd j;have G:=Hd i;clear Z j i;go_wp2_with fail;go_at_call 167;refine I.o.mono ?_;rintro e w8 ⟨rfl,g8,J,K⟩;have P:=Hd J;have T:=Hd K;clear u z B C D;clear J K I;go_wp2_with fail;go_ret;rw [G.o];exact⟨rfl,_,P.o,m.o.trans T.o⟩
    ·have bf:(er != 0)=true:=by simpa using Y
     have hr:=ar.o;rw [if_pos (.inl Y)] at hr;have R:=Hd hr;clear hr Y;go_wp2_with fail;go_ret;rw [R.o];exact⟨rfl,_,k.o,m.o⟩
end Go.Proofs.YtejpbijeifjdeaaGreat
