/- Parts of the proof. -/
import Derived.Test.YtejpbijeifjdeaaGreatQf17
import Derived.Lib.BytesEntry
set_option maxHeartbeats 4000000
set_option maxRecDepth 100000
open Go.Value renaming int→Aa
open Go.IntKind renaming i64→Ab,u64→Ac
open Nat renaming le_refl→Ae,lt_of_lt_of_le→Ax
open Go.RowKit.Below renaming refl→Af
open List renaming getElem?_eq_getElem→Ag,length_append→Ah,replicate→Al,mem_of_getElem?→Aq,length_take→Az,take_of_length_le→Bb,take_succ_eq_append_getElem→Bc
open UInt8 renaming ofNat→An
open Go.IntWalk renaming i64_in→Ao
open Go.Proofs.Tryz
open Go.Proofs.Tryz renaming prog→Ad
namespace Go.Proofs.YtejpbijeifjdeaaGreat
variable {c:List Tr}{b:Bd}{ks:List (List UInt8)}{j k n a:Nat}{t:Tr}{l:List UInt8}{w:World}{A:Option Addr}
section
open Go.RowKit Go.Acc
def M0(t:Tr):Prop:=∀(M:Bp) (fl:Int) (b:Bd) (x:Nv) (w:World) (o:Nat→Nat) (p:Nat→Prop),BM M fl w o b→Dr b→Jd b→Ck w p x t→(∀k,p k→k<w.heap.size∧o k=0)→b.size+t.cost≤65000→
 Calls Ad 70 #[Afh M.β,.agg (Afe x)] w (Dq M fl (Bd.calls (bits fl) t b) w o)
theorem rY(f:Nat)(hO:∀t∈c,Hk t)(hg:Dr b)(hn:Jd b)(hm:b.size+Tr.costL c≤65000)(j:Nat):
  Dr (Bd.callsL f (c.take j) b)∧Jd (Bd.callsL f (c.take j) b)∧(∀t,c[j]?=some t→(Bd.callsL f (c.take j) b).size+t.cost≤65000):=by
 have a:∀t∈c.take j,Pj f t:=fun t ht=>F6 f t (hO t (List.mem_of_mem_take ht)).ok
 obtain⟨vs,_,_,g,_⟩:=Lk f (c.take j) a b hg;refine⟨g.2,(N9 f (c.take j) a (fun t ht=>Pn f t (hO t (List.mem_of_mem_take ht)).ok) b hg hn).ok,fun t ht=>?_⟩;have h1:=Mv f (c.take j) a (fun t ht=>J5 f t (hO t (List.mem_of_mem_take ht)).ok) b hg;obtain⟨d,e⟩:=List.getElem?_eq_some_iff.1 ht;have h2:Tr.costL c=Tr.costL (c.take j)+(40+t.cost+Tr.costL (c.drop (j+1))):=by
  conv=>lhs;rw [←List.take_append_drop j c,List.drop_eq_getElem_cons d,e]
  rw [Si,Tr.costL]
 omega
theorem aD(n:Int)(u:Nat)(s:List UInt8)(ks:List (List UInt8))(c:List Tr)(hO:∀t∈c,Hk t)(hD:∀t∈c,M0 t):M0 (.mk 10 n u s ks c):=by
 intro M V b x w o p h hg hn hR hp hm;obtain⟨f,hf⟩:∃f,bits V=f:=⟨_,rfl⟩;rw [hf];obtain⟨hk,_,_,_,_,y⟩:=hR.fields;have hk:10=x.k:=hk;have y:c.length=x.bn:=y;have S:b.size+Tr.costL c≤65000:=by unfold Tr.cost at hm;omega
 have ax:=Kz c;generalize ht:Tr.mk 10 n u s ks c=t0 at hR;cases hR with
 | @mk _ ks' l' vs _ _ _ _ hI E _ _ hl hc=>
  injection ht with e1 e2 e3 e4 e5 e6
  subst e6;obtain⟨k,xn,xu,xs,XA,G,F,Q,xbn,H⟩:=x;obtain rfl:10=k:=hk;clear e1 e2 e3 e4 e5;have y:c.length=xbn:=y;have hI:Gj w Q xbn vs:=hI;have E:∀ad,Q=some ad→p ad.block:=E;have HI:=Hd hI;have ao:=Hd (show ∀(i:Nat) v t,vs[i]?=some v→c[i]?=some t→Ck w p v t from hc);have HD:=Hd hD;have HP:=Hd hp;have ar:=Hd E;have HF:=Hd hf;have I:=Hd y;have av:=Hd hl;have L:=Hd (fun j=>rY f hO hg hn S j);have bl:=Hd (show b.s.length≤65000 by unfold Bd.size at S;omega);have hB:=Bu w (.cells #[Afh M.β] 104) (.cells (Afe (⟨10,xn,xu,xs,XA,G,F,Q,xbn,H⟩:Nv)) 34);have N:=Hd (To.fresh Dd hB o 0);have B:=Hd (h.fresh hB 0);have a:=Hd (Ky M ⟨10,xn,xu,xs,XA,G,F,Q,xbn,H⟩ w o);obtain⟨m,z⟩:∃m,b.s.length=m:=⟨_,rfl⟩;have aq:=Hd z;have bu:xbn≤65000:=by omega
  obtain⟨vs',es,ls,ss,rs⟩:=Lk f c (fun t ht=>F6 f t (hO t ht).ok) b hg;have a3:=Mv f c (fun t ht=>F6 f t (hO t ht).ok) (fun t ht=>J5 f t (hO t ht).ok) b hg;have A:=Hd (show m≤(Bd.callsL f c b).s.length∧(Bd.callsL f c b).s.length≤65536∧m<65536∧E5 ((Bd.callsL f c b).s.drop m) (Bd.callsL f c b).b by
   have e1:(Bd.callsL f c b).s.drop m=vs':=by rw [es,←z];simp
   have e2:(Bd.callsL f c b).s.length=m+vs'.length:=by rw [es,Ah,z]
   have e3:(Bd.callsL f c b).b.length≤(Bd.callsL f c b).size:=by unfold Bd.size;omega
   have e4:m≤b.size:=by unfold Bd.size;omega
   rw [e1];exact⟨by omega,by omega,by omega,kQ ls rs (fun t ht=>(hO t ht).fix) (by omega)⟩)
  have an:=Hd (show Bd.calls f (.mk 10 xn xu xs ks' c) b=(Bd.callsL f c b).endVec m by rw [Bd.calls,if_pos rfl,z]);clear h hg hn hp hm hI E hl hc hD hO hf hB z es ls ss rs a3 S ax;go_enter func70,ntmps70;go_upto_region 1 with fail
  generalize (w.alloc (.cells #[Afh M.β] 104)).alloc (.cells (Afe (⟨10,xn,xu,xs,XA,G,F,Q,xbn,H⟩:Nv)) 34)=w1 at N B a⊢;generalize Br o w.heap.size 0=o1 at N B a;generalize w.heap.size+1=bn at a⊢;generalize w.heap.size=bx at a⊢;obtain⟨x0,x1,x2,x3,x4,x5,x6⟩:=a.o.cells;go_wp2_with fail;go_at_call 122;refine(qO M V b m _ o1 B.o aq.o).mono ?_;rintro e w' ⟨rfl,rfl⟩;go_wp2_with fail;go_loopw [58] (fun uu wr=>∃j:Nat,j≤xbn∧uu= Aa Ab (j:Int)∧∃o',BM M V wr o' (Bd.callsL f (c.take j) b)∧To Dd w o wr o'∧Vw M ⟨10,xn,xu,xs,XA,G,F,Q,xbn,H⟩ bx bn wr o') (fun uu _=>xbn-(intOf uu).toNat)
  case atStart=>exact⟨0,Nat.zero_le _,rfl,o1,by rw [List.take_zero];exact B.o,N.o,a.o⟩
  case round=>
   obtain⟨j,hj,rfl,o',Y,aa,W⟩:=hrel;have K:=Hd Y;have P:=Hd aa;have U:=Hd W;clear Y aa W x0 x1 x2 x3 x4 x5 x6;obtain⟨x0,x1,x2,x3,x4,x5,x6⟩:=U.o.cells;by_cases bt:j<xbn
   ·obtain⟨v,hv⟩:∃v,vs[j]?=some v:=⟨_,Ag (by have h1:=av.o;have h2:=I.o;omega)⟩;obtain⟨t,ht⟩:∃t,c[j]?=some t:=⟨_,Ag (by have h2:=I.o;omega)⟩;have l:∀q,p q→q<w.heap.size∧o q=0:=HP.o;have X:Gj wr Q xbn vs:=HI.o.fr P.o.fr (fun ad e=>by rw [(l _ (ar.o ad e)).2];exact Cl);obtain⟨g,bv,e,v0,v1,v2,v3,v4,v5⟩:=H9 X hv;have D:=(Af wr.heap.size wr).alloc (Ae _) (.cells (Afe v) 34);have ap:=Hd (K.o.fresh D 0);have C:=Hd (P.o.trans (To.fresh Dd D o' 0));have T:=Hd (U.o.to_ (To.fresh Dd D o' 0) Cl);have Z:Ck (wr.alloc (.cells (Afe v) 34)) p v t:=(ao.o j v t hv ht).to_ C.o (fun q hq=>by rw [(l q hq).2];exact Cl);have R:=HD.o t (Aq ht) M V _ v _ _ p ap.o (L.o j).1 (L.o j).2.1 Z (fun q hq=>⟨Ax (l q hq).1 C.o.size,(C.o.ow _ (l q hq).1).trans (l q hq).2⟩) ((L.o j).2.2 t ht);rw [HF.o] at R;have al:=Hd R;have au:=Hd (show Bd.callsL f (c.take (j+1)) b=Bd.calls f t (Bd.callsL f (c.take j) b) by
     obtain⟨q1,q2⟩:=List.getElem?_eq_some_iff.1 ht;rw [Bc q1,q2,Uf])
    have br:(0:Int)≤(j:Int):=by omega
    have bs:(j:Int)<(xbn:Int):=by omega
    rw [e] at x6⊢;have am:=Hd e;have a0:(wr.alloc (.cells (Afe v) 34)).cell? ⟨bx,0,none⟩=some (Afh M.β):=T.o.cells.1;clear hv ht l X D Z R e;go_wp2_with fail;go_at_call 70;refine al.o.mono ?_;rintro e w2 ⟨rfl,o2,r,d⟩;have J:=Hd r;have O:=Hd (C.o.trans d);have ak:=Hd (T.o.to_ d Cl);clear r d x0 x1 x2 x3 x4 x5 x6;go_wp2_with fail;go_roundw
    case rel=>exact⟨j+1,by omega,by go_num,o2,by rw [au.o];exact J.o,O.o,by rw [←am.o];exact ak.o⟩
    case measure=>simp [intOf];omega
   ·obtain rfl:j=xbn:=by omega
    have ab:c.take j=c:=Bb (by have h2:=I.o;omega);rw [ab] at K;clear ab;go_wp2_with fail;go_at_call 123;refine(iO M V (Bd.callsL f c b) m _ o' K.o A.o.1 A.o.2.1 A.o.2.2.1 A.o.2.2.2).mono ?_;rintro e w2 ⟨rfl,o2,r,d⟩;have J:=Hd r;have O:=Hd (P.o.trans d);clear r d;go_wp2_with fail;go_end0;exact⟨rfl,o2,by rw [an.o];exact J.o,O.o⟩
theorem nD(M:Bp)(fl:Int)(b:Bd)(x v:Nv)(t:Tr)(s:List UInt8)(j g1 o1 g2 o2 bx bn:Nat)(w:World)(o:Nat→Nat)(p:Nat→Prop)(h:BM M fl w o b)(hg:Dr b)(hn:Jd b)(hC:Vw M x bx bn w o)(hp:∀k,p k→k<w.heap.size∧o k=0)
  (eA:x.A=some ⟨g1,o1,none⟩) (eB:x.B=some ⟨g2,o2,none⟩) (pA:p g1) (pB:p g2) (hja:j<x.an) (hjb:j<x.bn) (hs:w.cell? ⟨g1,o1+j,none⟩=some (.string ⟨s.toArray⟩))
  (hv:∀i u,#[Aa Ab v.k,Aa Ab v.n,Aa Ac (v.u:Int),.string ⟨v.s.toArray⟩,.slice v.A v.an v.ac,.slice v.B v.bn v.bc][i]?=some u→w.cell? ⟨g2,o2+j*6+i,none⟩=some u) (hR:Ck w p v t) (hD:M0 t) (hz:Ci s=false) (hk:Qk b s) (hm:(b.key (bits fl) s).size+t.cost≤65000):
  Calls Ad 125 #[Aa Ab (j:Int),Afh bx,Afh bn] w (Dq M fl (Bd.calls (bits fl) t (b.key (bits fl) s)) w o):=by
 obtain⟨f,Z⟩:∃f,bits fl=f:=⟨_,rfl⟩;have E:=Y3 M fl b s w.drew o h.drew hk hz;rw [Z] at E hm⊢;have gk:Dr (b.key f s):=(P4 f s b hg).elim fun _ h=>h.2.1.2
 have nk:Jd (b.key f s):=⟨(La f s b hn).1.ok.1,(La f s b hn).1.ok.2⟩;have O:=Hd E;have HG:=Hd gk;have HN:=Hd nk;have HM:=Hd hm;have HD:=Hd hD;have HR:=Hd hR;have r:=Hd hp;have m:=Hd (And.intro pA pB);have HC:=Hd hC;have HF:=Hd Z;have HV:=Hd hv;obtain⟨F,_,_,_,_,K,_⟩:=hC.cells;rw [eA] at K;have az:(0:Int)≤(j:Int):=by omega
 have ad:(j:Int)<(x.an:Int):=by omega
 have ae:(j:Int)<(x.bn:Int):=by omega
 have P:=Hd eB;clear h hg hn hC hp pA pB hv hR hD hz hk hm E gk nk Z eA eB;go_enter func125,ntmps125;go_wp2_with fail;go_region_held3 (fun w'=>w'.cell? ⟨bx,0,none⟩=some (Afh M.β)∧w'.cell? ⟨bn,4,none⟩=some (.slice (some ⟨g1,o1,none⟩) x.an x.ac)∧w'.cell? ⟨g1,o1+j,none⟩=some (.string ⟨s.toArray⟩)) (first|with_reducible exact⟨F,K,hs⟩|with_reducible exact⟨Bj F,Bj K,Bj hs⟩|with_reducible exact⟨y0,y5,ys⟩) (first
  |(go_at_call 126;(with_reducible refine O.o.mono ?_);rintro e l ⟨rfl,oo,G,I⟩;have c:=I.from_drew;have z:=HC.o.to_ c Cl;have y0:=z.cells.1;have y5:l.cell? ⟨bn,4,none⟩=some (.slice (some ⟨g1,o1,none⟩) x.an x.ac):=Dv c K (by rw [HC.o.on];exact Cl);have ys:l.cell? ⟨g1,o1+j,none⟩=some (.string ⟨s.toArray⟩):=Dv c hs (by rw [(r.o _ m.o.1).2];exact Cl);have y:=Hd z;have Q:=Hd G;have d:=Hd c;clear G I c z))
 clear F K y0 y5 ys;obtain⟨F,_,_,_,_,_,L⟩:=y.o.cells;rw [P.o] at L;have C:∀i u,#[Aa Ab v.k,Aa Ab v.n,Aa Ac (v.u:Int),.string ⟨v.s.toArray⟩,.slice v.A v.an v.ac,.slice v.B v.bn v.bc][i]?=some u→l.cell? ⟨g2,o2+j*6+i,none⟩=some u:=fun i u e=>Dv d.o (HV.o i u e) (by rw [(r.o _ m.o.2).2];exact Cl)
 have T:l.cell? ⟨g2,o2+j*6,none⟩=some (Aa Ab v.k):=C 0 _ rfl;have U:l.cell? ⟨g2,o2+j*6+1,none⟩=some (Aa Ab v.n):=C 1 _ rfl;have V:l.cell? ⟨g2,o2+j*6+2,none⟩=some (Aa Ac (v.u:Int)):=C 2 _ rfl;have W:l.cell? ⟨g2,o2+j*6+3,none⟩=some (.string ⟨v.s.toArray⟩):=C 3 _ rfl;have X:l.cell? ⟨g2,o2+j*6+4,none⟩=some (.slice v.A v.an v.ac):=C 4 _ rfl;have Y:l.cell? ⟨g2,o2+j*6+5,none⟩=some (.slice v.B v.bn v.bc):=C 5 _ rfl;have D:=HD.o M fl (b.key f s) v l.drew oo p Q.o.drew HG.o HN.o ((HR.o.to_ d.o (fun q hq=>by rw [(r.o q hq).2];exact Cl)).pure (Af _ _).drew) (fun q hq=>⟨Ax (r.o q hq).1 d.o.size,(d.o.ow _ (r.o q hq).1).trans (r.o q hq).2⟩) HM.o;rw [HF.o] at D;have N:=Hd D;clear C D;go_wp2_with fail;go_region_held3 (fun w'=>w'.cell? ⟨bx,0,none⟩=some (Afh M.β)∧w'.cell? ⟨bn,5,none⟩=some (.slice (some ⟨g2,o2,none⟩) x.bn x.bc)∧w'.cell? ⟨g2,o2+j*6,none⟩=some (Aa Ab v.k)∧w'.cell? ⟨g2,o2+j*6+1,none⟩=some (Aa Ab v.n)∧w'.cell? ⟨g2,o2+j*6+2,none⟩=some (Aa Ac (v.u:Int))∧w'.cell? ⟨g2,o2+j*6+3,none⟩=some (.string ⟨v.s.toArray⟩)∧w'.cell? ⟨g2,o2+j*6+4,none⟩=some (.slice v.A v.an v.ac)∧w'.cell? ⟨g2,o2+j*6+5,none⟩=some (.slice v.B v.bn v.bc)) (first|with_reducible exact⟨F,L,T,U,V,W,X,Y⟩|with_reducible exact⟨Bj F,Bj L,Bj T,Bj U,Bj V,Bj W,Bj X,Bj Y⟩|with_reducible exact⟨z0,z6,d0,d1,d2,d3,d4,d5⟩) (first
  |(go_at_call 70;(with_reducible refine N.o.mono ?_);rintro e w3 ⟨rfl,o3,H,J⟩;have a:=J.from_drew;have g:¬Dd (oo g2):=by { rw [(d.o.ow _ (r.o _ m.o.2).1),(r.o _ m.o.2).2];exact Cl};have z0:=(y.o.to_ a Cl).cells.1;have z6:=Dv a L (by rw [y.o.on];exact Cl);have d0:=Dv a T g;have d1:=Dv a U g;have d2:=Dv a V g;have d3:=Dv a W g;have d4:=Dv a X g;have d5:=Dv a Y g;have R:=Hd H;have S:=Hd (d.o.trans a);clear H J a))
 go_wp2_with fail;go_end0;exact⟨rfl,o3,R.o,S.o⟩
end
section
open Go.Acc
theorem Ug(f:Nat):∀(l:List Tr) (ks:List (List UInt8)) (t:Tr) (s:List UInt8) (b:Bd),ks.length=l.length→Bd.callsM f (ks++ [s]) (l++ [t]) b=Bd.calls f t ((Bd.callsM f ks l b).key f s)
 | [],ks,t,s,b,h=>by
  obtain rfl:ks=[]:=List.eq_nil_of_length_eq_zero h;simp [Bd.callsM]
 |x::r,[],t,s,b,h=>by simp at h
 |x::r,k::ks,t,s,b,h=>by
  rw [List.cons_append,List.cons_append,Bd.callsM,Bd.callsM];exact Ug f r ks t s _ (by simpa using h)
theorem Ady{kvs vs st:List Bv}(hg:Dr b)(hk:Dp b.b ks kvs)(h0:∀x∈ks,Ci x=false)(hv:E5 vs b.b)(hl:vs.length=kvs.length)(hm:b.size+100+18*kvs.length≤1000000)(hs:st.length<65536):lU (Dg ks) kvs vs { b with s:=st}:=by
 have l:b.b.length+b.lists.length+b.vals.length≤b.size:=by unfold Bd.size;omega
 have k:kvs.length=ks.length:=hk.1;obtain⟨hok,a⟩:=Zj hk (by omega);have g:=Qm 14 true false kvs b.b;obtain⟨m,d⟩:=Mt 14 true false kvs b.b;have c:b.b.length≤(Cd 14 true false kvs b.b).1.length:=by rw [d,Ah];omega
 refine⟨hok,a,hv,⟨hv.legal,hv.own,fun v h=>(hv.fit v h).mono c,?_⟩,K3 (fun x e=>by cases e) hok.fit,?_,fun i e=>?_,?_,?_,hs⟩
 ·show(Cd 14 true false kvs b.b).1.length+40+9*vs.length≤1048576;omega
 ·have h:=Rt 14 true false kvs b.b [];rw [List.append_nil] at h;exact h
 ·obtain⟨n,j,h1,_,h3⟩:=hg.lists ks (fun s hs=>Nw (h0 s hs)) i e;have hf:=h3.fit;obtain⟨o,p,_,f,h4⟩:=h3;exact⟨n,h1,by rw [f];rfl,by rw [f];exact K3 (fun x e=>by cases e) h4,hf⟩
 ·show b.lists.length≤1048575;omega
 ·show b.vals.length≤1048576;omega
theorem iS{s:List UInt8}(hs:ks[j]?=some s):Cc (ks.take j)+(s.length+20)≤Cc ks:=by
 obtain⟨hj,e⟩:=List.getElem?_eq_some_iff.1 hs;have h:Cc ks=Cc (ks.take j)+(s.length+20+Cc (ks.drop (j+1))):=by
  conv=>lhs;rw [←List.take_append_drop j ks,List.drop_eq_getElem_cons hj,e]
  rw [S3];rfl
 omega
theorem vO(ht:c[j]?=some t):Tr.costL (c.take j)+(40+t.cost)≤Tr.costL c:=by
 obtain⟨hj,e⟩:=List.getElem?_eq_some_iff.1 ht;have h:Tr.costL c=Tr.costL (c.take j)+(40+t.cost+Tr.costL (c.drop (j+1))):=by
  conv=>lhs;rw [←List.take_append_drop j c,List.drop_eq_getElem_cons hj,e]
  rw [Si,Tr.costL]
 omega
theorem dG(f:Nat)(hl:ks.length=c.length)(hO:∀t∈c,Hk t)(hg:Dr b)(hn:Jd b)(hm:b.size+Cc ks+Tr.costL c≤65000)(j:Nat):
  Dr (Bd.callsM f (ks.take j) (c.take j) b)∧Jd (Bd.callsM f (ks.take j) (c.take j) b)∧(∀t s,c[j]?=some t→ks[j]?=some s→Qk (Bd.callsM f (ks.take j) (c.take j) b) s∧((Bd.callsM f (ks.take j) (c.take j) b).key f s).size+t.cost≤65000):=by
 have d:∀t∈c.take j,Pj f t:=fun t ht=>F6 f t (hO t (List.mem_of_mem_take ht)).ok
 have a:(ks.take j).length=(c.take j).length:=by rw [Az,Az,hl]
 obtain⟨e,vs,_,_,g,_,_⟩:=J4 f (c.take j) (ks.take j) a d b hg;refine⟨g.2,(Ll f (c.take j) (ks.take j) a d (fun t ht=>Pn f t (hO t (List.mem_of_mem_take ht)).ok) b hg hn).1.ok,fun t s ht hs=>?_⟩;have h1:=Mw f (c.take j) (ks.take j) a d (fun t ht=>J5 f t (hO t (List.mem_of_mem_take ht)).ok) b hg;have h2:=iS hs;have h3:=vO ht;have h:=Va f s (Bd.callsM f (ks.take j) (c.take j) b);have i:(Bd.callsM f (ks.take j) (c.take j) b).b.length+(Bd.callsM f (ks.take j) (c.take j) b).s.length+(Bd.callsM f (ks.take j) (c.take j) b).keys.length+(Bd.callsM f (ks.take j) (c.take j) b).names.length≤(Bd.callsM f (ks.take j) (c.take j) b).size:=by unfold Bd.size;omega
 exact⟨⟨by omega,by omega,by omega,by omega⟩,by omega⟩
theorem Aef(f:Nat)(hl:ks.length=c.length)(h0:∀x∈ks,Ci x=false)(hu:ks.Pairwise (· < ·))(hO:∀t∈c,Hk t)(hg:Dr b)(hn:Jd b)(hm:b.size+Cc ks+Tr.costL c≤65000):
  ∃kvs vs,aT ks kvs vs b.s.length (Bd.callsM f ks c b):=by
 have e:∀t∈c,Pj f t:=fun t ht=>F6 f t (hO t ht).ok
 obtain⟨kvs,vs,d,w,B,i,A⟩:=J4 f c ks hl e b hg;obtain⟨y,kvs',vs',l,F,G,z⟩:=Ll f c ks hl e (fun t ht=>Pn f t (hO t ht).ok) b hg hn;have v:=Mw f c ks hl e (fun t ht=>J5 f t (hO t ht).ok) b hg;have g:kvs.length=ks.length:=i.1;have a:vs.length=kvs.length:=by omega
 have m:E6 kvs vs=E6 kvs' vs':=List.append_cancel_left (d.symm.trans l);obtain⟨j,C⟩:=I7 kvs vs a.symm;obtain⟨k,D⟩:=I7 kvs' vs' (by omega);obtain rfl:kvs=kvs':=by rw [←j,m,k]
 have q:(Bd.callsM f ks c b).s.drop b.s.length=E6 kvs vs:=by rw [d];simp
 have n:=Qq kvs vs a.symm;have E:(Bd.callsM f ks c b).s.length=b.s.length+2*kvs.length:=by rw [d,Ah,n]
 have o:b.s.length≤b.size:=by unfold Bd.size;omega
 have u:(Bd.callsM f ks c b).s.length+(Bd.callsM f ks c b).b.length≤(Bd.callsM f ks c b).size:=by unfold Bd.size;omega
 have p:=Kz c;have r:=Ww ks;have h:E5 vs (Bd.callsM f ks c b).b:=kQ w A (fun t ht=>(hO t ht).fix) (by omega);refine⟨kvs,vs,q,g,by omega,z,fun x hx=>?_,hu,by omega,by omega,by omega,by omega,?_⟩
 ·have:=y.ok.lt x hx;omega
 ·exact Ady B.2 i h0 h a (by omega) (by rw [Az];omega)
end
section
open Go.RowKit Go.Acc
theorem aC(n:Int)(u:Nat)(s:List UInt8)(ks:List (List UInt8))(c:List Tr)(hkc:ks.length=c.length)(h0:∀x∈ks,Ci x=false)(hu:ks.Pairwise (· < ·))(hO:∀t∈c,Hk t)(hD:∀t∈c,M0 t):M0 (.mk 17 n u s ks c):=by
 intro M Z b x w o p h hg hn hR hp hm;obtain⟨f,hf⟩:∃f,bits Z=f:=⟨_,rfl⟩;rw [hf];obtain⟨hk,_,_,_,_,A⟩:=hR.fields;have hk:17=x.k:=hk;have A:c.length=x.bn:=A;have G:b.size+Cc ks+Tr.costL c≤65000:=by unfold Tr.cost at hm;omega
 have a3:=Kz c;generalize ht:Tr.mk 17 n u s ks c=t0 at hR;cases hR with
 | @mk _ ks' l' vs y F _ _ hI I _ _ hl hc=>
  injection ht with e1 e2 e3 e4 e5 e6
  subst e5 e6;obtain⟨k,V,W,xs,J,xan,C,K,xbn,D⟩:=x;obtain rfl:17=k:=hk;clear e1 e2 e3 e4;have A:c.length=xbn:=A;have hI:Gj w K xbn vs:=hI;have I:∀ad,K=some ad→p ad.block:=I;have HI:=Hd hI;have y:Fs w J xan ks:=y;have F:∀ad,J=some ad→p ad.block:=F;have aw:=Hd y;have X:=Hd F;have N:=Hd (show ks.length=c.length from hkc);have a1:=Hd (show ks.length=xan by have:=y.1;simpa using this);have HZ:=Hd h0;have av:=Hd (show ∀(i:Nat) v t,vs[i]?=some v→c[i]?=some t→Ck w p v t from hc);have HD:=Hd hD;have HP:=Hd hp;have Y:=Hd I;have HF:=Hd hf;have r:=Hd A;have a0:=Hd hl;have az:=Hd (fun j=>dG f hkc hO hg hn G j);have bz:=Hd (show b.s.length≤65000 by unfold Bd.size at G;omega);have hB:=Bu w (.cells #[Afh M.β] 104) (.cells (Afe (⟨17,V,W,xs,J,xan,C,K,xbn,D⟩:Nv)) 34);have Q:=Hd (To.fresh Dd hB o 0);have E:=Hd (h.fresh hB 0);have g:=Hd (Ky M ⟨17,V,W,xs,J,xan,C,K,xbn,D⟩ w o);obtain⟨m,H⟩:∃m,b.s.length=m:=⟨_,rfl⟩;have ax:=Hd H;have b8:xbn≤65000:=by omega
  obtain⟨bd,bf,T⟩:=Aef f hkc h0 hu hO hg hn G;rw [H] at T;have aq:=Hd T;have ar:=Hd (show Bd.calls f (.mk 17 V W xs ks c) b=(Bd.callsM f ks c b).endMap f ks m by rw [Bd.calls,if_neg (by omega),if_pos rfl,H]);clear h hg hn hp hm hI I hl hc hD hO hf hB H T G a3 y F h0 hu hkc;go_enter func70,ntmps70;go_upto_region 1 with fail
  generalize (w.alloc (.cells #[Afh M.β] 104)).alloc (.cells (Afe (⟨17,V,W,xs,J,xan,C,K,xbn,D⟩:Nv)) 34)=w1 at Q E g⊢;generalize Br o w.heap.size 0=o1 at Q E g;generalize w.heap.size+1=bn at g⊢;generalize w.heap.size=bx at g⊢;obtain⟨x0,x1,x2,x3,x4,x5,x6⟩:=g.o.cells;go_wp2_with fail;go_at_call 124;refine(qF M Z b m _ o1 E.o ax.o).mono ?_;rintro e w' ⟨rfl,rfl⟩;go_wp2_with fail;go_loopw [77] (fun uu wr=>∃j:Nat,j≤xbn∧uu= Aa Ab (j:Int)∧∃o',BM M Z wr o' (Bd.callsM f (ks.take j) (c.take j) b)∧To Dd w o wr o'∧Vw M ⟨17,V,W,xs,J,xan,C,K,xbn,D⟩ bx bn wr o') (fun uu _=>xbn-(intOf uu).toNat)
  case atStart=>exact⟨0,Nat.zero_le _,rfl,o1,by rw [List.take_zero,List.take_zero];exact E.o,Q.o,g.o⟩
  case round=>
   obtain⟨j,hj,rfl,o',af,ag,aa⟩:=hrel;have P:=Hd af;have a:=Hd ag;have L:=Hd aa;clear af ag aa x0 x1 x2 x3 x4 x5 x6;obtain⟨x0,x1,x2,x3,x4,x5,x6⟩:=L.o.cells;by_cases a9:j<xbn
   ·obtain⟨v,hv⟩:∃v,vs[j]?=some v:=⟨_,Ag (by have h1:=a0.o;have h2:=r.o;omega)⟩;obtain⟨t,ht⟩:∃t,c[j]?=some t:=⟨_,Ag (by have h2:=r.o;omega)⟩;have d:∀q,p q→q<w.heap.size∧o q=0:=HP.o;have ab:Gj wr K xbn vs:=HI.o.fr a.o.fr (fun ad e=>by rw [(d _ (Y.o ad e)).2];exact Cl);have ae:Fs wr J xan ks:=aw.o.fr a.o.fr (fun ad e=>by rw [(d _ (X.o ad e)).2];exact Cl);have ai:j<xan:=by have h1:=a1.o;have h2:=N.o;have h3:=r.o;omega
    obtain⟨g2,o2,e,v0,v1,v2,v3,v4,v5⟩:=H9 ab hv;obtain⟨g1,be,eA,aj,hs⟩:=G4 ae ai;have U:ks[j]?=some ks[j]:=Ag aj;have B:=az.o j;have hE:=nD M Z (Bd.callsM f (ks.take j) (c.take j) b) ⟨17,V,W,xs,J,xan,C,K,xbn,D⟩ v t ks[j] j g1 be g2 o2 bx bn wr o' p P.o B.1 B.2.1 L.o (fun q hq=>⟨Ax (d q hq).1 a.o.size,(a.o.ow _ (d q hq).1).trans (d q hq).2⟩) eA e (X.o _ eA) (Y.o _ e) ai a9 hs
     (fun i u hu=>by match i,hu with
      |0,hu=>simp at hu;rw [←hu];exact v0
      |1,hu=>simp at hu;rw [←hu];exact v1
      |2,hu=>simp at hu;rw [←hu];exact v2
      |3,hu=>simp at hu;rw [←hu];exact v3
      |4,hu=>simp at hu;rw [←hu];exact v4
      |5,hu=>simp at hu;rw [←hu];exact v5
      |i+6,hu=>simp at hu)
     ((av.o j v t hv ht).to_ a.o (fun q hq=>by rw [(d q hq).2];exact Cl)) (HD.o t (Aq ht)) (HZ.o _ (List.getElem_mem _)) (B.2.2 t _ ht U).1 (by rw [HF.o];exact(B.2.2 t _ ht U).2)
    rw [HF.o] at hE;have ao:=Hd hE;have ay:=Hd (show Bd.callsM f (ks.take (j+1)) (c.take (j+1)) b=Bd.calls f t ((Bd.callsM f (ks.take j) (c.take j) b).key f ks[j]) by
     obtain⟨q1,q2⟩:=List.getElem?_eq_some_iff.1 ht;rw [Bc q1,q2,Bc aj,Ug f _ _ _ _ _ (by rw [Az,Az,N.o])])
    have b6:(0:Int)≤(j:Int):=by omega
    have b7:(j:Int)<(xbn:Int):=by omega
    clear hv ht d ab ae hE B U hs v0 v1 v2 v3 v4 v5 e eA;go_wp2_with fail;go_at_call 125;refine ao.o.mono ?_;rintro e w2 ⟨rfl,o2,z,l⟩;have O:=Hd z;have R:=Hd (a.o.trans l);have an:=Hd (L.o.to_ l Cl);clear z l x0 x1 x2 x3 x4 x5 x6;go_wp2_with fail;go_roundw
    case rel=>exact⟨j+1,by omega,by go_num,o2,by rw [ay.o];exact O.o,R.o,an.o⟩
    case measure=>simp [intOf];omega
   ·obtain rfl:j=xbn:=by omega
    have ah:c.take j=c:=Bb (by have h2:=r.o;omega);have ak:ks.take j=ks:=Bb (by have h2:=r.o;have h3:=N.o;omega);rw [ah,ak] at P;clear ah ak;have S:=iN M Z (Bd.callsM f ks c b) ks bd bf m wr o' P.o aq.o;rw [HF.o] at S;have ap:=Hd S;clear S;go_wp2_with fail;go_at_call 127;refine ap.o.mono ?_;rintro e w2 ⟨rfl,o2,z,l⟩;have O:=Hd z;have R:=Hd (a.o.trans l);clear z l;go_wp2_with fail;go_end0;exact⟨rfl,o2,by rw [ar.o];exact O.o,R.o⟩
theorem pZ(h:Hk t):M0 t:=by
 induction h with
 | @leaf k n u s ks c h1 h2 hn hz=>
  intro M a b x w o p d i j f l g;have e:Bd.calls (bits a) (.mk k n u s ks c) b=b.leaf (bits a) k n u s:=by rw [Bd.calls,if_neg (by omega),if_neg (by omega),if_pos h2]
  rw [e];exact eH M a b x k n u s ks c w o p d f h1 h2 hn hz (by unfold Tr.cost at g;omega)
 | @flat k c n u s ks h1 h2 hn hz hf=>
  intro M a b x w o p d i j f l g;have e:Bd.calls (bits a) (.mk k n u s ks c) b=b.flat (bits a) k c:=by rw [Bd.calls,if_neg (by omega),if_neg (by omega),if_neg (by omega)]
  rw [e];exact rG M a b x k n u s ks c w o p d i f h1 h2 hn hz hf (by unfold Tr.cost at g;omega)
 | @vec c n u s ks h ih=>exact aD n u s ks c h ih
 | @map c ks n u s hl h0 hu h ih=>exact aC n u s ks c hl h0 hu h ih
def zeroAt(l:List UInt8)(a:Nat):Nat:=a+(l.drop a).findIdx (· ==0)
theorem pF(hk:k<l.length)(h:l[k]=0):zeroAt l k=k:=by
 unfold zeroAt;rw [List.drop_eq_getElem_cons hk,List.findIdx_cons,h];rfl
theorem jE(hk:k<l.length)(h:l[k]≠0):zeroAt l (k+1)=zeroAt l k:=by
 unfold zeroAt;rw [List.drop_eq_getElem_cons hk,List.findIdx_cons];have:(l[k]==0)=false:=by simpa using h
 rw [this];simp only [cond_false];omega
theorem pE(l:List UInt8):zeroAt l l.length=l.length:=by
 unfold zeroAt;simp
theorem aB(hk:k≤l.length):k≤zeroAt l k∧zeroAt l k≤l.length:=by
 unfold zeroAt;have:=List.findIdx_le_length (xs:=l.drop k) (p:=(· ==0));rw [List.length_drop] at this;omega
theorem U4(A:Option Addr)(n c a:Nat)(l:List UInt8)(w:World)(h:Cv w A n l)(ha:a≤n)(hn:n≤9223372036854775807):
  Calls Ad 347 #[.slice A n c,Aa Ab a] w (Afd (.tuple #[Aa Ab (zeroAt l a:Nat),.bool (decide (zeroAt l a<n))]) w):=by
 have g:=h.1;subst g;have p:=Hd h;clear h;go_enter func347,ntmps347;go_wp2;go_step3;go_wp2;go_step3;go_wp2;go_loop [6] (fun i=>∃k:Nat,k≤l.length∧i= Aa Ab k∧zeroAt l k=zeroAt l a) (fun i=>l.length-(intOf i).toNat)
 case atStart=>exact⟨a,ha,rfl,rfl⟩
 case round=>
  obtain⟨k,u,rfl,m⟩:=hrel;have j:=Hd m;clear m;by_cases d:k<l.length
  ·obtain⟨b,s,rfl,r,q⟩:=Je p.o d;by_cases h0:l[k]=0
   ·have f:=Hd (show zeroAt l a=k by rw [←j.o,pF d h0]);rw [h0] at q;clear h0;go_wp2
    try rw [Exit.noGoto_ret]
    go_ret2;rw [f.o];exact⟨by simp [d],rfl⟩
   ·have f:=Hd ((jE d h0).trans j.o);have t:(l[k].toNat==0)=false:=by
     rw [beq_eq_false_iff_ne];intro e;exact h0 (UInt8.toNat_inj.1 e)
    clear h0;go_wp2;go_round
    case rel=>exact⟨k+1,by omega,by go_num,f.o⟩
    case measure=>simp [intOf];omega
  ·obtain rfl:l.length=k:=by omega
   have f:=Hd (show zeroAt l a=l.length by rw [←j.o,pE]);go_wp2
   try rw [Exit.noGoto_ret]
   go_ret2;rw [f.o];exact⟨by simp,rfl⟩
theorem Ue(A B:Option Addr)(n n' c d:Nat)(l m:List UInt8)(w:World)(ha:Cv w A n l)(hb:Cv w B n' m):
  Calls Ad 348 #[.slice A n c,.slice B n' d] w (Afd (.bool (qX l m)) w):=by
 have h1:=Lb (c:=c) ha;have h2:=Lb (c:=d) hb;have H:=Hd (show(l==m)=qX l m by unfold qX;rw [Bool.eq_iff_iff];simp);clear ha hb;go_enter func348,ntmps348;go_wp2;go_ret;exact⟨Dw H.o,rfl⟩
theorem Ac6(l:List UInt8)(c:UInt8): -1≤Lib.indexByte l c:=by
 induction l with
 |nil=>simp [Lib.indexByte]
 |cons b l ih=>
  unfold Lib.indexByte;split
  ·omega
  ·split <;>omega
theorem Aaq(l:List UInt8)(c:UInt8):decide (Lib.indexByte l c<0)=!(l.contains c):=by
 induction l with
 |nil=>simp [Lib.indexByte]
 |cons b l ih=>
  have g:=Ac6 l c;unfold Lib.indexByte;by_cases a:b=c
  ·subst a;simp
  ·have d:(b==c)=false:=by simpa using a
   have f:(c==b)=false:=by simpa using fun e:c=b=>a e.symm
   rw [d,List.contains_cons,f,Bool.false_or,←ih,if_neg (by simp)];split
   ·rename_i h;simp only [beq_iff_eq] at h;rw [h]
   ·rename_i h;simp only [beq_iff_eq] at h;rw [Bool.eq_iff_iff];simp only [decide_eq_true_eq];omega
theorem pQ(A:Option Addr)(n c:Nat)(l:List UInt8)(x:UInt8)(v:Int)(w:World)(h:Cv w A n l)(hn:0<n)(hv:v=(x.toNat:Int)):
  Calls Ad 301 #[.slice A n c,.int .u8 v] w (Afd (Aa Ab (Lib.indexByte l x)) w):=by
 subst hv;have a:=h.1;subst a;obtain⟨b,d,rfl,_⟩:=Je h hn;have j:∀i,i<l.length→w.cell? ⟨b,d+i,none⟩=some (.int .u8 ((l.map fun x:UInt8=>(x.toNat:Int)).getD i 0)):=by
  intro i o;obtain⟨q,m,e,p,j⟩:=Je h o;injection e with e
  injection e with f g
  subst f g;rw [j];simp [List.getD_eq_getElem?_getD,p]
 have k:=Lib.run_indexByteSlice (P:=Ad) w b d l.length c (l.map fun x:UInt8=>(x.toNat:Int)) (by simp) j (x.toNat:Int);have f:Lib.bytesOf (l.map fun x:UInt8=>(x.toNat:Int))=l:=by
  unfold Lib.bytesOf;rw [List.map_map]
  conv=>rhs;rw [←List.map_id l]
  exact List.map_congr_left (fun x _=>by simp)
 have g:((x.toNat:Int)).toNat.toUInt8=x:=by simp
 rw [f,g] at k;clear j f g h;go_enter func301,ntmps301;go_wp2;rw [run_callFunc_extern func346 (by kernel_rfl) (by kernel_rfl) (by kernel_rfl) (e:=Extern.BytealgIndexByte.indexByte) (by kernel_rfl),k];simp only [Result.andThen];rw [Oper.upon_value];go_wp2;go_ret;exact⟨rfl,rfl⟩
def tc(x:Nat):List Value:=[Aa Ab (x:Int)]
theorem Aeo{l:List Nat}(h:Is tc w A n l)(hk:k<n):∃b off,A=some ⟨b,off,none⟩∧∃hk:k<l.length,w.cell? ⟨b,off+k,none⟩=some (Aa Ab (l[k]:Nat)):=by
 obtain⟨b,off,e,hk',hc⟩:=h.at_ (fun _=>rfl) (sz:=1) (by omega) hk;have:=hc 0 (by omega);rw [Nat.mul_one,Nat.add_zero] at this;exact⟨b,off,e,hk',this⟩
theorem uW(A:Option Addr)(n c:Nat)(ts:List Nat)(w:World)(h:Is tc w A n ts)(hn:n≤100)(ht:∀t∈ts,t<256):
  Calls Ad 302 #[.slice A n c] w (Tq w (ts.map An)):=by
 have l:=h.1;subst l;have z:=Hd h;have B:=Hd ht;clear h ht;go_enter func302,ntmps302;go_wp2;go_loopw [2,4,7] (fun o _ i wr=>∃(k:Nat) (A0:Option Addr) (c0:Nat),k≤ts.length∧i= Aa Ab k∧o= .slice A0 k c0∧I5 wr w.heap.size A0 k c0 ((ts.take k).map An)∧Below w.heap.size w wr) (fun _ _ i _=>ts.length-(intOf i).toNat)
 case atStart=>exact⟨0,none,0,by omega,rfl,rfl,Own.nil _ _,Af _ _⟩
 case round=>
  obtain⟨k,A0,c0,I,rfl,rfl,x,v⟩:=hrel;have p:=Hd x;have a:=Hd v;clear x v;by_cases u:k<ts.length
  ·obtain⟨b,H,rfl,g,E⟩:=Aeo (z.o.pure a.o) u;have G:=B.o ts[k] (List.getElem_mem g);have m:(ts.take (k+1)).map An=(ts.take k).map An++ [An ts[k]]:=by
    rw [Bc g,List.map_append];rfl
   have e:=Hd m;clear m;generalize ts[k]=t at E G e;have F:IntKind.u8.wrap (t:Int)=((An t).toNat:Int):=by
    rw [IntKind.wrap_u8,UInt8.toNat_ofNat'];omega
   go_wp2_with (at_builtin;refine Eb _ rfl (.tmp 11) (.tmp 14) _ rfl 5 _ 1 1 underlying22 P1 rfl (by omega) D1 Sc _ _ _ _ _ rfl (p.o.pure ((Af _ _).alloc (Ae _) _)) _ _ _ _ rfl (Aas _ _ (An t) F) (by omega) (by have:=a.o.size;simp;omega) ?_;intro y D J d f s;have r:=Hd d;have q:=Hd f;clear d f s);exact⟨⟨k+1,y,D,by omega,by go_num,rfl,by rw [e.o];exact r.o,Cq (a.o.alloc a.o.size _) q.o (by rintro j ⟨C,h,rfl⟩;exact(p.o.addr C h).2.1)⟩,by simp [intOf];omega⟩
  ·obtain rfl:k=ts.length:=by omega
   go_wp2;go_ret;rw [List.take_length] at p;exact⟨A0,_,c0,rfl,p.o,a.o⟩
def Lu(l:List UInt8)(a:Nat):Int:=if zeroAt l a<l.length then 0 else 213
def G2(l:List UInt8)(a v k:Nat):Int:=
 if a % v≠0 then 212 else if a<v then 211 else if l.length<a+loadU l ((a:Int)-v) v+k then 211
 else if((l.drop (a+loadU l ((a:Int)-v) v)).take k)=Al k 0 then 0 else 213
def cntL(l:List UInt8)(a v:Nat):List UInt8:=(l.drop a).take (loadU l ((a:Int)-v) v)
def Om(l:List UInt8)(a:Nat):List UInt8:=(l.drop a).take (zeroAt l a-a)
def R5(w:World)(A0:Option Addr)(n0:Nat)(l:List UInt8)(a:Int)(m:List UInt8)(er:Int)(e:Ending)(w':World):Prop:=
 ∃A n c,e= .returned (.tuple #[.agg #[Aa Ab a,.slice A n c],Aa Ab er])∧(∀w0,Cv w0 A0 n0 l→Cv w0 A n m)∧n≤c∧Below w.heap.size w w'
theorem Aav(h:¬zeroAt l a<l.length):Lu l a=213:=if_neg h
theorem dT(h:zeroAt l a<l.length):Lu l a=0:=if_pos h
theorem wO(A:Option Addr)(n c a:Nat)(l:List UInt8)(w:World)(h:Cv w A n l)(hc:n≤c)(ha:a≤n)(hn:n≤9223372036854775807):
  Calls Ad 303 #[.slice A n c,Aa Ab a] w (R5 w A n l (if Lu l a=0 then a else 0) (if Lu l a=0 then Om l a else []) (Lu l a)):=by
 have g:=h.1;subst g;have j:=Hd (h.alloc (.cells #[Aa Ab 0,.slice none 0 0] 271));have r:=Hd h;clear h;by_cases k:zeroAt l a<l.length
 ·rw [dT k,if_pos rfl,if_pos rfl];have i:=aB (l:=l) ha;have m:=i.1;have s:=Hd (show Om l a=(l.drop a).take (zeroAt l a-a) from rfl);rw [s.o];obtain⟨z,b⟩:∃z,zeroAt l a=z:=⟨_,rfl⟩;have d:=Hd b;rw [b] at k m⊢;clear i b;by_cases f:z=a
  ·subst f;go_enter func303,ntmps303;go_wp2_with fail;go_at_call 347;refine(U4 A _ c z l _ j.o ha hn).mono ?_;rw [d.o];rintro e q ⟨rfl,rfl⟩;go_wp2;refine bodyPost_ret (v:= .tuple #[.agg #[Aa Ab z,.slice A 0 0],Aa Ab 0]) (by simp [results,results303,go_sem]) rfl ⟨A,0,0,rfl,?_,Ae _,?_⟩
   ·rw [Nat.sub_self,List.take_zero];exact fun _ _=>Is.nil _ _
   ·exact(Af _ _).alloc (Ae _) _
  ·have t:a<z:=by omega
   have u:¬z=a:=f;go_enter func303,ntmps303;go_wp2_with fail;go_at_call 347;refine(U4 A _ c a l _ j.o ha hn).mono ?_;rw [d.o];rintro e q ⟨rfl,rfl⟩;go_wp2;refine bodyPost_ret (v:= .tuple #[.agg #[Aa Ab a,.slice (A.map fun p=>p.add a) (z-a) (z-a)],Aa Ab 0]) (by simp [results,results303,go_sem]) rfl ⟨_,_,_,rfl,?_,Ae _,?_⟩
   ·exact fun _ h=>Oj h (by omega)
   ·exact(Af _ _).alloc (Ae _) _
 ·rw [Aav k,if_neg (by decide),if_neg (by decide)];go_enter func303,ntmps303;go_wp2_with fail;go_at_call 347;refine(U4 A _ c a l _ j.o ha hn).mono ?_;rintro e q ⟨rfl,rfl⟩;go_wp2;refine bodyPost_ret (v:= .tuple #[.agg #[Aa Ab 0,.slice none 0 0],Aa Ab 213]) (by simp [results,results303,go_sem]) rfl ⟨none,0,0,rfl,fun _ _=>Is.nil _ _,Ae _,?_⟩;exact(Af _ _).alloc (Ae _) _
theorem jT(A:Option Addr)(n c lo hi:Nat)(h1:lo≤hi)(h2:hi≤n)(hc:n≤c):∃X,(∀w,(Instr.sliceAt 22 (.slice A n c) (some (Aa Ab lo)) (some (Aa Ab hi)) none).run Ad w= .ok (.slice X (hi-lo) (c-lo)) w)∧
  ∀w l,Cv w A n l→Cv w X (hi-lo) ((l.drop lo).take (hi-lo)):=by
 refine⟨if c=lo then A else A.map (·.add lo),fun w=>?_,fun w l h=>?_⟩
 ·have ht:Ad.underlying 22=some (.slice (Ad.elem 22)):=by kernel_rfl
  have a:(sizeOf (Ad.elem 22)).run Ad w= .ok 1 w:=by kernel_rfl
  rw [run_sliceAt_slice (h:=ht),run_slice_lh (ht:=ht) (h0:=by omega) (h1:=by omega) (h2:=by omega),a];simp [Result.andThen,sliced]
 ·split
  ·have e:hi-lo=0:=by omega
   rw [e,List.take_zero];exact Is.nil _ _
  ·exact Oj h (by omega)
theorem cL(A:Option Addr)(n c lo hi:Nat)(h1:lo≤hi)(h2:hi≤n)(hc:n≤c):∃X,(∀w,(Instr.sliceAt 22 (.slice A n c) (some (Aa Ab lo)) (some (Aa Ab hi)) (some (Aa Ab hi))).run Ad w= .ok (.slice X (hi-lo) (hi-lo)) w)∧
  ∀w l,Cv w A n l→Cv w X (hi-lo) ((l.drop lo).take (hi-lo)):=by
 refine⟨if hi=lo then A else A.map (·.add lo),fun w=>?_,fun w l h=>?_⟩
 ·have ht:Ad.underlying 22=some (.slice (Ad.elem 22)):=by kernel_rfl
  have a:(sizeOf (Ad.elem 22)).run Ad w= .ok 1 w:=by kernel_rfl
  rw [run_sliceAt_slice (h:=ht),run_slice_lhm (ht:=ht) (h0:=by omega) (h1:=by omega) (h2:=by omega) (h3:=by omega),a];simp [Result.andThen,sliced]
 ·split
  ·have e:hi-lo=0:=by omega
   rw [e,List.take_zero];exact Is.nil _ _
  ·exact Oj h (by omega)
theorem kB{α:Type}{f:α→List Value}{l:List α}(h:Is f w A n l):Is f w.drew A n l:=h
theorem qI(l:List UInt8)(a v k u:Nat)(hu:loadU l ((a:Int)-v) v=u):
  (a % v≠0∧G2 l a v k=212)∨(a % v=0∧a<v∧G2 l a v k=211)∨(a % v=0∧v≤a∧l.length<a+u+k∧G2 l a v k=211)∨
  (a % v=0∧v≤a∧a+u+k≤l.length∧(l.drop (a+u)).take k=Al k 0∧G2 l a v k=0)∨(a % v=0∧v≤a∧a+u+k≤l.length∧¬(l.drop (a+u)).take k=Al k 0∧G2 l a v k=213):=by
 unfold G2;rw [hu];by_cases h1:a % v=0
 ·rw [if_neg (by simpa using h1)];by_cases h2:a<v
  ·rw [if_pos h2];exact .inr (.inl ⟨h1,h2,rfl⟩)
  ·rw [if_neg h2];by_cases h3:l.length<a+u+k
   ·rw [if_pos h3];exact .inr (.inr (.inl ⟨h1,by omega,h3,rfl⟩))
   ·rw [if_neg h3];by_cases b:(l.drop (a+u)).take k=Al k 0
    ·rw [if_pos b];exact .inr (.inr (.inr (.inl ⟨h1,by omega,by omega,b,rfl⟩)))
    ·rw [if_neg b];exact .inr (.inr (.inr (.inr ⟨h1,by omega,by omega,b,rfl⟩)))
 ·rw [if_pos h1];exact .inl ⟨h1,rfl⟩
theorem bZ(A:Option Addr)(n c a v k:Nat)(l:List UInt8)(w:World)(h:Cv w A n l)(hc:n≤c)(ha:a≤n)(hn:n≤1099511627776)(hv:Bz (v:Int)=true)(hk:k≤1):
  Calls Ad 304 #[.slice A n c,Aa Ab a,Aa Ab v,Aa Ab k] w (R5 w A n l (if G2 l a v k=0 then a else 0) (if G2 l a v k=0 then cntL l a v else []) (G2 l a v k)):=by
 have aa:=h.1;subst aa;have x:=Hd (h.alloc (.cells #[Aa Ab 0,.slice none 0 0] 271));have g:=Hd ((Af w.heap.size w).alloc (Ae _) (.cells #[Aa Ab 0,.slice none 0 0] 271));have m:=Hd (Bk.new w 271 #[Aa Ab 0,.slice none 0 0]);clear h;obtain⟨u,hu⟩:∃u,loadU l ((a:Int)-v) v=u:=⟨_,rfl⟩;have HU:=Hd hu;have M:1≤v∧v≤8:=by have:=Cr.1 hv;omega
 have a3:=M.1;have a4:=M.2;have aq:=qI l a v k u hu;clear hu M;have a5:(v==0)=false:=beq_eq_false_iff_ne.mpr (by omega);rcases aq with⟨h1,t⟩|⟨h1,h2,t⟩|⟨h1,h2,h3,t⟩|⟨h1,h2,h3,W,t⟩|⟨h1,h2,h3,W,t⟩
 ·rw [t,if_neg (by decide),if_neg (by decide)];have hm:((a:Int) % (v:Int) != 0)=true:=by simp;omega
  clear t h1;go_enter func304,ntmps304;go_wp2;refine bodyPost_ret (v:= .tuple #[.agg #[Aa Ab 0,.slice none 0 0],Aa Ab 212]) (by simp [results,results304,go_sem]) rfl ⟨none,0,0,rfl,fun _ _=>Is.nil _ _,Ae _,g.o⟩
 ·rw [t,if_neg (by decide),if_neg (by decide)];have hm:((a:Int) % (v:Int) != 0)=false:=by simp;omega
  clear t h1;go_enter func304,ntmps304;go_wp2;refine bodyPost_ret (v:= .tuple #[.agg #[Aa Ab 0,.slice none 0 0],Aa Ab 211]) (by simp [results,results304,go_sem]) rfl ⟨none,0,0,rfl,fun _ _=>Is.nil _ _,Ae _,g.o⟩
 ·rw [t,if_neg (by decide),if_neg (by decide)];clear t;have hm:((a:Int) % (v:Int) != 0)=false:=by simp;omega
  have hx:decide ((a:Int)<(v:Int))=false:=by simp;omega
  clear h1;go_enter func304,ntmps304;go_wp2_with fail;go_at_call 149;refine(K7 A _ c ((a:Int)-v) v l _ x.o hc (by omega)).mono ?_;rw [HU.o];obtain⟨er,d⟩:∃er,Cy l.length ((a:Int)-v) v=er:=⟨_,rfl⟩;rw [d];rintro e Q ⟨rfl,s⟩;have g:=Hd (Bi g.o s);have x:=Hd (x.o.pure s);have m:=Hd (m.o.pure s);obtain ⟨q,r⟩:=m.o.c2;obtain ⟨f0,f1⟩:=m.o.f2;have f:l.length≤9223372036854775807:=by omega
  have y:=Hd (De (l.length:Int) (by omega));clear s d;by_cases ab:l.length<u
  ·have P:=y.o;have hd:decide ((l.length:Int)<(u:Int))=true:=by simpa using ab
   go_wp2;refine bodyPost_ret (v:= .tuple #[.agg #[Aa Ab 0,.slice none 0 0],Aa Ab 211]) (by simp [results,results304,go_sem,q,r]) rfl ⟨none,0,0,rfl,fun _ _=>Is.nil _ _,Ae _,((g.o.setCell (Ae _) _).setCell (Ae _) _)⟩
  ·have hd:decide ((l.length:Int)<(u:Int))=false:=by simpa using ab
   have U:=Hd (Ek (u:Int) (by omega));have V:=Hd (Ek ((u:Int)+k) (by omega));have z:=Hd (show H8 l.length a ((u:Int)+k)=false from decide_eq_false (by omega));have ad:=U.o;have F:=V.o;have P:=y.o;go_wp2_with fail;go_at_call 246;refine(D5 A _ c a ((u:Int)+k) _ f).mono ?_;rw [z.o];rintro e w2 ⟨rfl,rfl⟩;go_wp2;refine bodyPost_ret (v:= .tuple #[.agg #[Aa Ab 0,.slice none 0 0],Aa Ab 211]) (by simp [results,results304,go_sem,q,r]) rfl ⟨none,0,0,rfl,fun _ _=>Is.nil _ _,Ae _,((g.o.setCell (Ae _) _).setCell (Ae _) _)⟩
 ·rw [t,if_pos rfl,if_pos rfl];clear t;have R:=Hd (show qX ((l.drop (a+u)).take k) (Al k 0)=true from decide_eq_true W);clear W;have hm:((a:Int) % (v:Int) != 0)=false:=by simp;omega
  have hx:decide ((a:Int)<(v:Int))=false:=by simp;omega
  clear h1;go_enter func304,ntmps304;go_wp2_with fail;go_at_call 149;refine(K7 A _ c ((a:Int)-v) v l _ x.o hc (by omega)).mono ?_;rw [HU.o];obtain⟨er,d⟩:∃er,Cy l.length ((a:Int)-v) v=er:=⟨_,rfl⟩;rw [d];rintro e Q ⟨rfl,s⟩;have g:=Hd (Bi g.o s);have x:=Hd (x.o.pure s);have m:=Hd (m.o.pure s);obtain ⟨q,r⟩:=m.o.c2;obtain ⟨f0,f1⟩:=m.o.f2;have f:l.length≤9223372036854775807:=by omega
  have y:=Hd (De (l.length:Int) (by omega));clear s d;have hd:decide (l.length<u)=false:=decide_eq_false (by omega);have au:u≤l.length:=by omega
  obtain⟨T,K⟩:∃T,T=a+u:=⟨_,rfl⟩;obtain⟨T2,B⟩:∃T2,T2=T+k:=⟨_,rfl⟩;obtain⟨Z,L,E,av⟩:=eQ k (by omega);obtain⟨X,C,i⟩:=jT A l.length c T T2 (by omega) (by omega) hc;obtain⟨Y,D,j⟩:=cL A l.length c a T (by omega) (by omega) hc;have z:=Hd (show H8 l.length a ((u:Int)+k)=true from Eh.2 ⟨by omega,by omega,by omega⟩);have U:=Hd (Ek (u:Int) (by omega));have V:=Hd (Ek ((u:Int)+k) (by omega));have W4:=Hd ((Ek ((a:Int)+u) (by omega)).trans (show(a:Int)+u=(T:Int) by omega));have W5:=Hd ((Ao ((T:Int)+(k:Int)) (by omega)).trans (show(T:Int)+k=(T2:Int) by omega));have W6:=Hd ((Ek ((T:Int)+(k:Int)) (by omega)).trans (show(T:Int)+k=(T2:Int) by omega));have s0:(0:Int)≤T:=by omega
  have s1:(T:Int)≤T2:=by omega
  have s2:(T2:Int)≤c:=by omega
  have s3:(0:Int)≤k:=by omega
  rw [show T2-T=k by omega] at C i;rw [show T-a=u by omega] at D j;have I:=Hd i;have S:=Hd j;have J:=Hd E;have G:=Hd (show(a:Int)+u=(T:Int) by omega);have HT:=Hd K;rw [←K] at R;have ak:=Hd B;clear i j L E K B h3;have ad:=U.o;have F:=V.o;have P:=y.o;go_wp2_with fail;go_at_call 246;refine(D5 A _ c a ((u:Int)+k) _ f).mono ?_;rw [z.o];rintro e w2 ⟨rfl,rfl⟩;clear F;have ax:=W4.o;have N:=W5.o;have O:=W6.o;go_wp2_with fail;rw [←G.o] at C D N O;have H:=Hd (kB x.o);go_region_held3 (fun w'=>w'.cell? ⟨w.heap.size,0,none⟩=some (Aa Ab 0)∧w'.cell? ⟨w.heap.size,1,none⟩=some (.slice none 0 0)) (first|assumption|exact⟨q,r⟩|exact⟨Bl ((Af _ _).alloc (Ae _) _).drew q,Bl ((Af _ _).alloc (Ae _) _).drew r⟩|exact⟨Bl ((Af _ _).alloc (Ae _) _) q,Bl ((Af _ _).alloc (Ae _) _) r⟩)
   (first|(go_at_call 348;refine(Ue X _ k k _ _ ((l.drop T).take k) (Al k 0) _ (I.o _ _ (H.o.alloc _)) (kC _ Z (Al k 0) k (by simp) J.o)).mono ?_;rw [R.o];rintro e w5 ⟨rfl,rfl⟩))
  have b:=(Af Q.heap.size Q).alloc (Ae _) (.cells Z 5);have d0:=Bl b (p:=⟨w.heap.size,0,none⟩) (u:= Aa Ab 0) q;have d1:=Bl b (p:=⟨w.heap.size,1,none⟩) (u:= .slice none 0 0) r;have HF:=Hd (m.o.pure b);obtain ⟨g0,g1⟩:=HF.o.f2;have g:=Hd (Bi g.o b.drew);have aj:=Hd (x.o.pure b.drew);clear b q r f0 f1;go_wp2;refine bodyPost_ret (v:= .tuple #[.agg #[Aa Ab a,.slice Y u u],Aa Ab 0]) (by simp [results,results304,go_sem,d0,d1]) rfl ⟨Y,u,u,rfl,?_,Ae _,(g.o.setCell (Ae _) _).setCell (Ae _) _⟩;unfold cntL;rw [HU.o];exact fun _ h=>S.o _ _ h
 ·rw [t,if_neg (by decide),if_neg (by decide)];clear t;have R:=Hd (show qX ((l.drop (a+u)).take k) (Al k 0)=false from decide_eq_false W);clear W;have hm:((a:Int) % (v:Int) != 0)=false:=by simp;omega
  have hx:decide ((a:Int)<(v:Int))=false:=by simp;omega
  clear h1;go_enter func304,ntmps304;go_wp2_with fail;go_at_call 149;refine(K7 A _ c ((a:Int)-v) v l _ x.o hc (by omega)).mono ?_;rw [HU.o];obtain⟨er,d⟩:∃er,Cy l.length ((a:Int)-v) v=er:=⟨_,rfl⟩;rw [d];rintro e Q ⟨rfl,s⟩;have g:=Hd (Bi g.o s);have x:=Hd (x.o.pure s);have m:=Hd (m.o.pure s);obtain ⟨q,r⟩:=m.o.c2;obtain ⟨f0,f1⟩:=m.o.f2;have f:l.length≤9223372036854775807:=by omega
  have y:=Hd (De (l.length:Int) (by omega));clear s d;have hd:decide (l.length<u)=false:=decide_eq_false (by omega);have au:u≤l.length:=by omega
  obtain⟨T,K⟩:∃T,T=a+u:=⟨_,rfl⟩;obtain⟨T2,B⟩:∃T2,T2=T+k:=⟨_,rfl⟩;obtain⟨Z,L,E,av⟩:=eQ k (by omega);obtain⟨X,C,i⟩:=jT A l.length c T T2 (by omega) (by omega) hc;obtain⟨Y,D,j⟩:=cL A l.length c a T (by omega) (by omega) hc;have z:=Hd (show H8 l.length a ((u:Int)+k)=true from Eh.2 ⟨by omega,by omega,by omega⟩);have U:=Hd (Ek (u:Int) (by omega));have V:=Hd (Ek ((u:Int)+k) (by omega));have W4:=Hd ((Ek ((a:Int)+u) (by omega)).trans (show(a:Int)+u=(T:Int) by omega));have W5:=Hd ((Ao ((T:Int)+(k:Int)) (by omega)).trans (show(T:Int)+k=(T2:Int) by omega));have W6:=Hd ((Ek ((T:Int)+(k:Int)) (by omega)).trans (show(T:Int)+k=(T2:Int) by omega));have s0:(0:Int)≤T:=by omega
  have s1:(T:Int)≤T2:=by omega
  have s2:(T2:Int)≤c:=by omega
  have s3:(0:Int)≤k:=by omega
  rw [show T2-T=k by omega] at C i;rw [show T-a=u by omega] at D j;have I:=Hd i;have S:=Hd j;have J:=Hd E;have G:=Hd (show(a:Int)+u=(T:Int) by omega);have HT:=Hd K;rw [←K] at R;have ak:=Hd B;clear i j L E K B h3;have ad:=U.o;have F:=V.o;have P:=y.o;go_wp2_with fail;go_at_call 246;refine(D5 A _ c a ((u:Int)+k) _ f).mono ?_;rw [z.o];rintro e w2 ⟨rfl,rfl⟩;clear F;have ax:=W4.o;have N:=W5.o;have O:=W6.o;go_wp2_with fail;rw [←G.o] at C D N O;have H:=Hd (kB x.o);go_region_held3 (fun w'=>w'.cell? ⟨w.heap.size,0,none⟩=some (Aa Ab 0)∧w'.cell? ⟨w.heap.size,1,none⟩=some (.slice none 0 0)) (first|assumption|exact⟨q,r⟩|exact⟨Bl ((Af _ _).alloc (Ae _) _).drew q,Bl ((Af _ _).alloc (Ae _) _).drew r⟩|exact⟨Bl ((Af _ _).alloc (Ae _) _) q,Bl ((Af _ _).alloc (Ae _) _) r⟩)
   (first|(go_at_call 348;refine(Ue X _ k k _ _ ((l.drop T).take k) (Al k 0) _ (I.o _ _ (H.o.alloc _)) (kC _ Z (Al k 0) k (by simp) J.o)).mono ?_;rw [R.o];rintro e w5 ⟨rfl,rfl⟩))
  have b:=(Af Q.heap.size Q).alloc (Ae _) (.cells Z 5);have d0:=Bl b (p:=⟨w.heap.size,0,none⟩) (u:= Aa Ab 0) q;have d1:=Bl b (p:=⟨w.heap.size,1,none⟩) (u:= .slice none 0 0) r;have HF:=Hd (m.o.pure b);obtain ⟨g0,g1⟩:=HF.o.f2;have g:=Hd (Bi g.o b.drew);have aj:=Hd (x.o.pure b.drew);clear b q r f0 f1;go_wp2;refine bodyPost_ret (v:= .tuple #[.agg #[Aa Ab 0,.slice none 0 0],Aa Ab 213]) (by simp [results,results304,go_sem,d0,d1]) rfl ⟨none,0,0,rfl,fun _ _=>Is.nil _ _,Ae _,(g.o.setCell (Ae _) _).setCell (Ae _) _⟩
end
end Go.Proofs.YtejpbijeifjdeaaGreat
