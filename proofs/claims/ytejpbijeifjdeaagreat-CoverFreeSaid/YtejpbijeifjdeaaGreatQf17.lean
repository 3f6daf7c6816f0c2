/- Parts of the proof. -/
import Derived.Test.YtejpbijeifjdeaaGreatQf16
set_option maxHeartbeats 4000000
set_option maxRecDepth 100000
open Go.Value renaming int→Aa
open Go.IntKind renaming i64→Ab,u64→Ac
open Nat renaming le_refl→Ae,lt_of_lt_of_le→Ax
open Go.RowKit.Below renaming refl→Af
open List renaming getElem?_eq_getElem→Ag,length_append→Ah,length_map→As
open Go.Proofs.Tryz
open Go.Proofs.Tryz renaming prog→Ad
namespace Go.Proofs.YtejpbijeifjdeaaGreat
variable {vs:List Bv}{I:Nat→Prop}{w w':World}{M:Bp}{x:Nv}{bx bn:Nat}{o:Nat→Nat}{t:Tr}
section
open Go.RowKit Go.Acc
structure aT(keys:List (List UInt8))(kvs vs:List Bv)(k:Nat)(b:Bd):Prop where
 cut:b.s.drop k=E6 kvs vs
 kl:kvs.length=keys.length
 vl:vs.length=keys.length
 named:∀(i:Nat) s v,keys[i]?=some s→kvs[i]?=some v→uR b.names s v
 nlt:∀x∈b.names,x.1<18446744073709551616
 up:keys.Pairwise (· < ·)
 hk:k≤b.s.length
 hs:b.s.length≤65536
 hks:k<65536
 len:(Dg keys).length≤1048576
 tab:lU (Dg keys) kvs vs { b with s:=b.s.take k}
theorem aT.namedV{keys:List (List UInt8)}{kvs:List Bv}{k:Nat}{b:Bd}(h:aT keys kvs vs k b):pJ b.names keys (b.s.drop k):=by
 have hl:kvs.length=vs.length:=h.kl.trans h.vl.symm;refine⟨by rw [h.cut,Qq _ _ hl,h.kl],fun i s v hs hv=>?_⟩;rw [h.cut,(Qp kvs vs i hl).1] at hv;obtain⟨h1,h2⟩:=h.named i s v hs hv;exact⟨h1,h2,h.nlt _ (List.mem_of_find?_eq_some h2)⟩
structure R2(M:Bp)(A:Option Addr)(m c:Nat)(vl:List Bv)(AN:Option Addr)(nk:Nat)(keys:List (List UInt8))(AP:Option Addr)(cP bx bl bp:Nat)(w:World)(o:Nat→Nat):Prop where
 x:Bk w bx 104 #[Afh M.β]
 l:Bk w bl 144 #[.slice A m c]
 p:Bk w bp 118 #[.slice AP nk cP]
 ox:o bx=0
 ol:o bl=0
 op:o bp=0
 iv:Fh w A m (vl.map vv)
 is_:Fs w AN nk keys
 ip:Is K4 w AP nk (List.range nk)
 oa:∀ad,A=some ad→ad.block<w.heap.size∧o ad.block=0
 on:∀ad,AN=some ad→ad.block<w.heap.size∧o ad.block=0
 oq:∀ad,AP=some ad→ad.block<w.heap.size∧o ad.block=0
section
variable {M:Bp} {A:Option Addr} {m c:Nat} {l:List Bv} {AN:Option Addr} {nk:Nat} {keys:List (List UInt8)} {AP:Option Addr} {cP bx bl bp:Nat} {w w':World} {o o':Nat→Nat}
theorem R2.to_(h:R2 M A m c l AN nk keys AP cP bx bl bp w o)(ht:To I w o w' o')(h0:¬I 0):R2 M A m c l AN nk keys AP cP bx bl bp w' o':=by
 have a:∀{B:Option Addr},(∀ad,B=some ad→ad.block<w.heap.size∧o ad.block=0)→∀ad,B=some ad→ad.block<w'.heap.size∧o' ad.block=0:=fun hB ad e=>⟨Ax (hB ad e).1 ht.size,(ht.ow _ (hB ad e).1).trans (hB ad e).2⟩
 exact⟨h.x.to_ ht (by rw [h.ox];exact h0),h.l.to_ ht (by rw [h.ol];exact h0),h.p.to_ ht (by rw [h.op];exact h0),(ht.ow _ h.x.lt).trans h.ox,(ht.ow _ h.l.lt).trans h.ol,(ht.ow _ h.p.lt).trans h.op,
  h.iv.fr ht.fr (fun ad e=>by rw [(h.oa ad e).2];exact h0),h.is_.fr ht.fr (fun ad e=>by rw [(h.on ad e).2];exact h0),h.ip.fr ht.fr (fun ad e=>by rw [(h.oq ad e).2];exact h0),a h.oa,a h.on,a h.oq⟩
theorem R2.cells(h:R2 M A m c l AN nk keys AP cP bx bl bp w o):w.cell? ⟨bx,0,none⟩=some (Afh M.β)∧w.cell? ⟨bl,0,none⟩=some (.slice A m c)∧w.cell? ⟨bp,0,none⟩=some (.slice AP nk cP):=⟨h.x.cell 0,h.l.cell 0,h.p.cell 0⟩
theorem R2.pure(h:R2 M A m c l AN nk keys AP cP bx bl bp w o)(hb:Below w.heap.size w w'):R2 M A m c l AN nk keys AP cP bx bl bp w' (Br o w.heap.size 0):=h.to_ (To.fresh (fun _=>False) hb o 0) id
end
theorem dE(M:Bp)(fl:Int)(b:Bd)(keys:List (List UInt8))(kvs vs:List Bv)(k bx bk:Nat)(w:World)(o:Nat→Nat)(h:BM M fl w o b)(hx:Bk w bx 104 #[Afh M.β])(hb:Bk w bk 3 #[Aa Ab (k:Int)])(hox:o bx=0)(hE:aT keys kvs vs k b):
  Calls Ad 204 #[Afh bx,Afh bk] w (Dq M fl (Bd.table (bits fl) (Dg keys) kvs vs { b with s:=b.s.take k}) w o):=by
 have HM:=Hd h;have HX:=Hd hx;have cg:=Hd hox;have H:=Hd hE;obtain⟨m,hm⟩:∃m,(b.s.drop k).length=m:=⟨_,rfl⟩;obtain⟨nk,ax⟩:∃n,keys.length=n:=⟨_,rfl⟩;have ce:=Hd hm;have t:=Hd ax;have bu:m≤b.s.length∧b.s.length-m=k:=by have h1:=hE.hk;rw [List.length_drop] at hm;omega
 have a9:=Hd bu;have P:=Hd (show m=2*nk by have h1:=Qq kvs vs (hE.kl.trans hE.vl.symm);rw [←hE.cut,hm,hE.kl,ax] at h1;exact h1);have r:=Hd (show m≤65536 by have:=hE.hs;omega);have f:w.cell? ⟨bx,0,none⟩=some (Afh M.β):=hx.cell 0;have y:w.cell? ⟨bk,0,none⟩=some (Aa Ab (k:Int)):=hb.cell 0;clear h hx hb hox hE hm bu ax;go_enter func204,ntmps204;go_wp2_with fail;go_at_call 200;refine(V9 M fl b k _ o HM.o H.o.hk).mono ?_;rintro e w1 ⟨A,c,rfl,hO,hb⟩;rw [ce.o] at hO⊢;have a:=hb.alloc hb.size (.cells #[.slice A m c] 144);have C:=Hd (Bk.new w1 144 #[.slice A m c]);have ah:=Hd (hO.is.pure ((Af w1.heap.size w1).alloc (Ae _) (.cells #[.slice A m c] 144)));have z:=Hd (show(∀ad,A=some ad→ad.block<(w1.alloc (.cells #[.slice A m c] 144)).heap.size∧Br o w.heap.size 0 ad.block=0) from fun ad e=>⟨by have h1:=(hO.addr ad e).2.2;rw [Ku];omega,Bt (hO.addr ad e).2.1⟩);have N:=Hd (HM.o.fresh a 0);have Q:=Hd (HX.o.pure a);have an:=Hd (To.fresh Dd a o 0);have X:=Hd (show Br o w.heap.size 0 bx=0 from(B4 HX.o.lt).trans cg.o);have D:=Hd (show Br o w.heap.size 0 w1.heap.size=0 from Bt hb.size);clear hO hb a f y;go_upto_region 1 with fail
 generalize w1.alloc (.cells #[.slice A m c] 144)=w2 at C ah z N Q an⊢;generalize Br o w.heap.size 0=o1 at z N an X D;generalize w1.heap.size=bl at C D⊢;have f:w2.cell? ⟨bx,0,none⟩=some (Afh M.β):=Q.o.cell 0;have I:w2.cell? ⟨bl,0,none⟩=some (.slice A m c):=C.o.cell 0;go_wp2_with fail;go_at_call 205;refine(oB M fl b A m c (b.s.drop k) keys _ o1 N.o ah.o (by have:=r.o;omega) H.o.namedV).mono ?_;rintro e w3 ⟨AN,cN,rfl,E,hb⟩;rw [t.o] at E⊢;have a7:=Hd (N.o.fresh hb 0);have bf:=Hd (Q.o.pure hb);have a6:=Hd (C.o.pure hb);have a3:=Hd (ah.o.pure hb);have g:=Hd (show(∀ad,A=some ad→ad.block<w3.heap.size∧Br o1 w2.heap.size 0 ad.block=0) from fun ad e=>⟨Ax (z.o ad e).1 hb.size,(B4 (z.o ad e).1).trans (z.o ad e).2⟩);have d:=Hd (show(∀ad,AN=some ad→ad.block<w3.heap.size∧Br o1 w2.heap.size 0 ad.block=0) from fun ad e=>⟨(E.addr ad e).2.2,Bt (E.addr ad e).2.1⟩);have V:=Hd E.is;have be:=Hd (an.o.trans (To.fresh Dd hb o1 0));have Y:=Hd (show Br o1 w2.heap.size 0 bx=0 from(B4 Q.o.lt).trans X.o);have U:=Hd (show Br o1 w2.heap.size 0 bl=0 from(B4 C.o.lt).trans D.o);clear E hb f I;generalize Br o1 w2.heap.size 0=o3 at a7 g d be Y U;go_wp2_with fail;go_at_call 145;refine(Xg AN nk cN keys w3 V.o (fun ad e=>(d.o ad e).1) (by have h1:=P.o;have h2:=r.o;omega) (H.o.up.imp fun h e=>by rw [e] at h;exact List.lt_irrefl _ h)).mono ?_;rintro e w4 ⟨T,Z,ps,rfl,F,hp,ha,hb⟩;obtain rfl:ps=List.range nk:=xS keys t.o (by rw [←t.o];exact hp) ha H.o.up;rw [t.o] at F⊢;have a:=hb.alloc hb.size (.cells #[.slice T nk Z] 118);have B:=Hd (show R2 M A m c (b.s.drop k) AN nk keys T Z bx bl w4.heap.size (w4.alloc (.cells #[.slice T nk Z] 118)) (Br o3 w3.heap.size 0) from
  ⟨bf.o.pure a,a6.o.pure a,Bk.new _ _ _,(B4 bf.o.lt).trans Y.o,(B4 a6.o.lt).trans U.o,Bt hb.size,a3.o.pure a,V.o.pure a,F.is.pure ((Af _ _).alloc (Ae _) _),
   fun ad e=>⟨Ax (g.o ad e).1 a.size,(B4 (g.o ad e).1).trans (g.o ad e).2⟩,fun ad e=>⟨Ax (d.o ad e).1 a.size,(B4 (d.o ad e).1).trans (d.o ad e).2⟩,fun ad e=>⟨by have h1:=(F.addr ad e).2.2;rw [Ku];omega,Bt (F.addr ad e).2.1⟩⟩)
 have aj:=Hd (a7.o.fresh a 0);have ao:=Hd (be.o.trans (To.fresh Dd a o3 0));clear hb F hp ha a;go_upto_region 3 with fail
 generalize w4.alloc (.cells #[.slice T nk Z] 118)=w5 at B aj ao⊢;generalize Br o3 w3.heap.size 0=o5 at B aj ao;generalize w4.heap.size=bp at B⊢;obtain⟨f,y,I⟩:=B.o.cells;go_wp2_with fail;go_at_call 131;refine(Iq aj.o).mono ?_;rintro e w6 ⟨rfl,o6,bg,ar⟩;have ak:=Hd bg;have a1:=Hd (B.o.to_ ar Cl);have cl:=Hd (ao.o.trans ar);clear bg ar f y I;obtain⟨f,y,I⟩:=a1.o.cells;obtain⟨c0,c1,c2,c9,_⟩:=ak.o.head.cells;go_wp2_with fail;go_region_held3 (fun w'=>w'.cell? ⟨bx,0,none⟩=some (Afh M.β)∧w'.cell? ⟨M.β,1,none⟩=some (Afh M.sb)∧w'.cell? ⟨bl,0,none⟩=some (.slice A m c)) (first|with_reducible exact⟨f,c1,y⟩|with_reducible exact⟨Bj f,Bj c1,Bj y⟩|with_reducible exact⟨y0,d1,y1⟩) (first|(go_at_call 201;(with_reducible refine(lC M.sb m b.s _ o6 ak.o.drew.stk a9.o.1 r.o).mono ?_);rintro e q ⟨⟨A7,n7,c7,rfl⟩,o7,bj,bm⟩;have i:=bm.from_drew;have ap:=a1.o.to_ i (by omega);obtain⟨y0,y1,_⟩:=ap.cells;have aq:=ak.o.stk_ i bj;have d1:=aq.head.cells.2.1;have a8:=Hd aq;have L:=Hd ap;have cm:=Hd (cl.o.trans (i.mono fun _ h=>mC h));clear bj bm i ap aq));clear f y I c0 c1 c2 c9 y0 y1 d1;rw [a9.o.2] at a8;have bn:=(Af q.heap.size q).alloc (Ae _) (.cells #[.pointer none,.slice none 0 0] 237);have al:=Hd (Ado q);have aa:=Hd bn;clear bn;obtain⟨f,y,I⟩:=L.o.cells;go_upto_region 8 with fail
 generalize q.alloc (.cells #[.pointer none,.slice none 0 0] 237)=w8 at al aa⊢;obtain⟨f,y,I⟩:=(L.o.pure aa.o).cells;generalize br:q.heap.size=bb at al⊢;have J:=Hd br;have cy:nk≤65536:=by have h1:=P.o;have h2:=r.o;omega
 clear br;go_wp2_with fail;go_loopw [43] (fun u wr=>∃j:Nat,j≤nk∧u= Aa Ab (j:Int)∧jI wr bb bb (Dg (keys.take j))∧Below q.heap.size q wr) (fun u _=>nk-(intOf u).toNat)
 case atStart=>exact⟨0,Nat.zero_le _,rfl,al.o,aa.o⟩
 case round=>
  obtain⟨j,hj,rfl,bw,av⟩:=hrel;have am:=Hd bw;have K:=Hd av;have ag:=Hd (L.o.pure av);clear bw av f y I;obtain⟨f,y,I⟩:=ag.o.cells;by_cases bt:j<nk
  ·obtain⟨g1,dn,e1,cw,y0⟩:=S1 ag.o.ip bt;rw [List.getElem_range] at y0;obtain⟨g2,dp,e2,bs,y1⟩:=G4 ag.o.is_ bt;obtain⟨s,hs⟩:∃s,keys[j]=s:=⟨_,rfl⟩;rw [hs] at y1;have HT:=Hd (show Dg (keys.take (j+1))=Dg (keys.take j)++(s++ [0]) by rw [List.take_succ_eq_append_getElem bs,hs,Wv,nS]);have aw:(Dg (keys.take j)).length+(s++ [0]).length≤1048576:=by
    have h1:=H.o.len;rw [←List.take_append_drop (j+1) keys,Wv,HT.o,Ah,Ah] at h1;omega
   have ca:=Hd aw;have dm:s.length≤1048576:=by rw [Ah] at aw;omega
   have dk:(0:Int)≤(j:Int):=by omega
   have dl:(j:Int)<(nk:Int):=by omega
   have dd:=Hd (And.intro e1 e2);rw [e1,e2];clear hs cw bs e1 e2 aw;go_wp2_with fail;go_at_call 207;refine(uO bb bb (Dg (keys.take j)) (s++ [0]) wr am.o ca.o (by rw [←J.o];exact K.o.size)).mono ?_;rintro e w9 ⟨⟨x,rfl⟩,bv,bo⟩;have cj:=Hd bv;have b6:=Hd (show Below q.heap.size q w9 from K.o.trans (by rw [J.o];exact bo));clear bv bo;go_wp2_with fail;go_roundw
   case rel=>exact⟨j+1,by omega,by go_num,by rw [HT.o];exact cj.o,b6.o⟩
   case measure=>simp [intOf];omega
  ·obtain rfl:j=nk:=by omega
   have b8:=Hd (show keys.take j=keys from List.take_of_length_le (by rw [t.o];exact Ae _));rw [b8.o] at am;have cx:=K.o.size;have bd:=Hd (show jI wr.drew bb bb (Dg keys) from am.o);have b7:=Hd (show ∀wa,Below bb wr.drew wa→Below q.heap.size q wa from fun wa h=>K.o.drew.trans (by rw [J.o];exact h));have ba:=Hd (show(List.range j).map (Pf (b.s.drop k) 0)=kvs∧(List.range j).map (Pf (b.s.drop k) 1)=vs by
    have h1:=tC kvs vs (H.o.kl.trans H.o.vl.symm);rw [H.o.kl,t.o] at h1;rw [H.o.cut];exact h1)
   have ch:=Hd (show ∀W O,R2 M A m c (b.s.drop k) AN j keys T Z bx bl bp W O→Calls Ad 206 #[Aa Ab 0,Afh bp,Afh bl] W (lX W j kvs) from fun W O h=>by
    have h1:=Wk bp bl 0 T j Z (List.range j) A m c (b.s.drop k) W h.p h.l h.ip h.iv (by omega) (by omega) (fun p hp=>by have h2:=List.mem_range.1 hp;have h3:=P.o;omega) (by have:=r.o;omega);rw [ba.o.1] at h1;exact h1)
   have ci:=Hd (show ∀W O,R2 M A m c (b.s.drop k) AN j keys T Z bx bl bp W O→Calls Ad 206 #[Aa Ab 1,Afh bp,Afh bl] W (lX W j vs) from fun W O h=>by
    have h1:=Wk bp bl 1 T j Z (List.range j) A m c (b.s.drop k) W h.p h.l h.ip h.iv (by omega) (by omega) (fun p hp=>by have h2:=List.mem_range.1 hp;have h3:=P.o;omega) (by have:=r.o;omega);rw [ba.o.2] at h1;exact h1)
   have ck:=Hd (show bb≤wr.drew.heap.size by rw [←J.o];exact cx);clear y I;go_wp2_with fail;go_region_held3 (fun w'=>w'.cell? ⟨bx,0,none⟩=some (Afh M.β)) (first|with_reducible exact f|with_reducible exact Bj f|with_reducible exact y0|with_reducible exact z0|with_reducible exact q0|with_reducible exact r0) (first
    |(go_at_call 209;(with_reducible refine(bF bb bb (Dg keys) wr.drew bd.o ck.o).mono ?_);rintro e wa ⟨rfl,bq⟩;have ab:=Hd (b7.o wa bq);have ae:=Hd (L.o.pure ab.o);have cb:=Hd (a8.o.fresh ab.o 0);have cn:=Hd (cm.o.trans (To.fresh Dd ab.o o7 0));have y0:=ae.o.cells.1;clear bq)
    |(go_at_call 206;(with_reducible refine(ch.o wa _ ae.o).mono ?_);rintro e wb ⟨AK,cK,rfl,R,G⟩;have dc:=Hd G;have b9:=Hd R.is;have ai:=Hd (show ∀ad,AK=some ad→ad.block<wb.heap.size∧Br (Br o7 q.heap.size 0) wa.heap.size 0 ad.block=0 from fun ad e=>⟨(R.addr ad e).2.2,Bt (R.addr ad e).2.1⟩);have af:=Hd (ae.o.pure G);have cc:=Hd (cb.o.fresh G 0);have co:=Hd (cn.o.trans (To.fresh Dd G _ 0));have z0:=af.o.cells.1;clear R G)
    |(go_at_call 206;(with_reducible refine(ci.o wb _ af.o).mono ?_);rintro e wc ⟨AV,cV,rfl,S,v⟩;have cs:=Hd S.is;have cr:=Hd (show ∀ad,AV=some ad→ad.block<wc.heap.size∧Br (Br (Br o7 q.heap.size 0) wa.heap.size 0) wb.heap.size 0 ad.block=0 from fun ad e=>⟨(S.addr ad e).2.2,Bt (S.addr ad e).2.1⟩);have a5:=Hd (b9.o.pure v);have a4:=Hd (show ∀ad,AK=some ad→ad.block<wc.heap.size∧Br (Br (Br o7 q.heap.size 0) wa.heap.size 0) wb.heap.size 0 ad.block=0 from fun ad e=>⟨Ax (ai.o ad e).1 v.size,(B4 (ai.o ad e).1).trans (ai.o ad e).2⟩);have a2:=Hd (af.o.pure v);have cd:=Hd (cc.o.fresh v 0);have cp:=Hd (co.o.trans (To.fresh Dd v _ 0));have q0:=a2.o.cells.1;clear S v)
    |(go_at_call 208;(with_reducible refine(oQ M fl { b with s:=b.s.take k} (Dg keys) AK j cK kvs AV j cV vs wc _ cd.o a5.o a4.o cs.o cr.o H.o.tab).mono ?_);rintro e wz ⟨rfl,oz,bh,au⟩;have r0:wz.cell? ⟨bx,0,none⟩=some (Afh M.β):=(a2.o.to_ au Cl).cells.1;have cf:=Hd bh;have cq:=Hd (cp.o.trans au);clear bh au))
   go_wp2_with fail;go_end0;exact⟨rfl,oz,cf.o,cq.o⟩
theorem iN(M:Bp)(fl:Int)(b:Bd)(keys:List (List UInt8))(kvs vs:List Bv)(k:Nat)(w:World)(o:Nat→Nat)(h:BM M fl w o b)(hE:aT keys kvs vs k b):
  Calls Ad 127 #[Afh M.β,Aa Ab (k:Int)] w (Dq M fl (b.endMap (bits fl) keys k) w o):=by
 have a:=Bu w (.cells #[Afh M.β] 104) (.cells #[Aa Ab (k:Int)] 3);have f:=Hd a;have i:=Hd (h.fresh a 0);have d:b.endMap (bits fl) keys k=Bd.table (bits fl) (Dg keys) kvs vs { b with s:=b.s.take k}:=by
  obtain⟨h1,h2⟩:=I7 kvs vs (hE.kl.trans hE.vl.symm);rw [dD,hE.cut,h1,h2]
 rw [d];have g:=Hd (dE M fl b keys kvs vs k w.heap.size (w.heap.size+1) _ (Br o w.heap.size 0) (h.fresh a 0) ((Bk.new w 104 #[Afh M.β]).alloc _) (Db w _ 3 #[Aa Ab (k:Int)]) (Bt (by omega)) hE);clear h hE a d;go_enter func127,ntmps127;go_wp2_with fail;go_at_call 193;refine(Ej M fl 204 _ _ (Br o w.heap.size 0) b.vals _ i.o.head Tryz.call204 (g.o.mono fun e w' h=>⟨h.1,h⟩)).mono ?_;rintro e w' c;obtain rfl:=c.1;have j:=Hd (c.from_fresh f.o);clear c;go_wp2;go_end0;exact j.o
theorem mM(M:Bp)(fl:Int)(b:Bd)(s:List UInt8)(bx bs:Nat)(w:World)(o:Nat→Nat)(h:BM M fl w o b)(hc:V0 M s bx bs w o)(hr:Qk b s)(hz:Ci s=false):
  Calls Ad 202 #[Afh bx,Afh bs] w (Dq M fl (b.key (bits fl) s) w o):=by
 have J:=Hd h;have K:=Hd hr;have f:=Hd hc;have L:=Hd hz;have q:=Hd (fun(a:Nat) (x:Bd) (W:World) (O:Nat→Nat) (hM:BM M fl W O x) (hs:x.s.length<65536)=>(show Calls Ad 203 #[Afh M.β,.agg #[Aa Ab 4,Aa Ab 1,Aa Ac (a:Int)]] W (Dq M fl (x.push ⟨4,1,a⟩) W O) from Ov M fl x 4 1 a W O hM hs));have t:=Hd (show(b.put (bits fl) s).1.s.length<65536 by
  have:=hr.st;unfold Bd.put;split <;>exact this)
 obtain⟨G,H⟩:=hc.cells;clear h hr hc hz;go_enter func202,ntmps202;go_wp2_with fail;go_region_held3 (fun w'=>w'.cell? ⟨bx,0,none⟩=some (Afh M.β)∧w'.cell? ⟨bs,0,none⟩=some (.string ⟨s.toArray⟩)) (first|with_reducible exact⟨G,H⟩|with_reducible exact⟨Bj G,Bj H⟩|with_reducible exact⟨N,P⟩|with_reducible exact⟨Q,R⟩) (first|(go_at_call 196;(with_reducible refine(Y9 M fl b s _ o J.o.drew K.o L.o).mono ?_);rintro e F ⟨a,D,rfl,z,j,c⟩;have i:=f.o.x.to_ c.from_drew (by rw [f.o.ox];exact Cl);have g:=f.o.s.to_ c.from_drew (by rw [f.o.os];exact Cl);have N:F.cell? ⟨bx,0,none⟩=some (Afh M.β):=i.cell 0;have P:F.cell? ⟨bs,0,none⟩=some (.string ⟨s.toArray⟩):=g.cell 0;have B:z bx=0:=(c.from_drew.ow _ f.o.x.lt).trans f.o.ox;have A:z bs=0:=(c.from_drew.ow _ f.o.s.lt).trans f.o.os;have y:=Hd i;have r:=Hd g;have n:=Hd j;have u:=Hd c.from_drew;have I:=Hd D;clear j c i g D)|(go_at_call 203;(with_reducible refine(q.o a _ _ z n.o t.o).mono ?_);rintro e C ⟨rfl,E,k,d⟩;have m:=y.o.to_ d (by rw [B];exact Cl);have l:=r.o.to_ d (by rw [A];exact Cl);have Q:C.cell? ⟨bx,0,none⟩=some (Afh M.β):=m.cell 0;have R:C.cell? ⟨bs,0,none⟩=some (.string ⟨s.toArray⟩):=l.cell 0;have p:=Hd k;have v:=Hd (u.o.trans d);clear k d m l));go_wp2;go_end0;refine⟨rfl,E,?_,v.o⟩;show BM M fl C E ((b.put (bits fl) s).1.push (b.put (bits fl) s).2);rw [I.o];exact p.o
theorem Y3(M:Bp)(fl:Int)(b:Bd)(s:List UInt8)(w:World)(o:Nat→Nat)(h:BM M fl w o b)(hr:Qk b s)(hz:Ci s=false):
  Calls Ad 126 #[Afh M.β,.string ⟨s.toArray⟩] w (Dq M fl (b.key (bits fl) s) w o):=by
 have a:=Hd hr;have j:=Hd hz;have c:=Bu w (.cells #[Afh M.β] 104) (.cells #[.string ⟨s.toArray⟩] 9);have g:=Hd c;have f:=Hd (h.fresh c 0);have i:=Hd (Yw M s w o);clear h hr c hz;go_enter func126,ntmps126;go_wp2_with fail;go_at_call 193;refine(Ej M fl 202 _ _ (Br o w.heap.size 0) b.vals _ f.o.head Tryz.call202 ((mM M fl b s w.heap.size (w.heap.size+1) _ (Br o w.heap.size 0) f.o i.o a.o j.o).mono fun e w' h=>⟨h.1,h⟩)).mono ?_;rintro e w' d;obtain rfl:=d.1;have a:=Hd (d.from_fresh g.o);clear d;go_wp2;go_end0;exact a.o
def aR(w:World)(m:List UInt8)(e:Ending)(w':World):Prop:=∃A n c,e= .returned (.tuple #[.slice A n c,Aa Ab 0])∧I5 w' w.heap.size A n c m∧Below w.heap.size w w'
theorem qV{W:World}{m:List UInt8}{e:Ending}(hB:Below w.heap.size w W)(h:aR W m e w'):aR w m e w':=by
 obtain⟨A,n,c,he,hO,hB'⟩:=h;exact⟨A,n,c,he,hO.rebase hB.size,C1 hB hB'⟩
theorem nQ(M:Bp)(fl:Int)(b:Bd)(k n:Int)(u:Nat)(s:List UInt8)(A:Option Addr)(an ac:Nat)(B:Option Addr)(bn bc:Nat)(w:World)(o:Nat→Nat)(h:BM M fl w o b)(hrs:Vy b s)(hrk:Qk b s)
  (hk:k=5∨k=6∨k=7) (hz:k=5→Ci s=false):
  Calls Ad 128 #[Afh M.β,.agg (Aff k n u s A an ac B bn bc)] w (Dq M fl (b.leaf (bits fl) k n u s) w o):=by
 have d:=Hd (show Below w.heap.size w (w.alloc (.cells (Aff k n u s A an ac B bn bc) 34)) from(Af _ _).alloc (Ae _) _);have f:=Hd (h.pure d.o);have g:=Hd hrs;have j:=Hd hrk;have l:=Hd hz;clear h hrs hrk hz;rcases hk with rfl|rfl|rfl
 ·go_enter func128,ntmps128;go_wp2_with fail;go_at_call 126;refine(Y3 M fl b s _ o f.o j.o (l.o (by first|rfl|trivial))).mono ?_;rintro e i a;obtain rfl:=a.1;have c:=Hd (a.from_pure d.o);clear a;go_wp2_with fail;go_end0;have h:=c.o;unfold Bd.leaf;simpa using h
 ·go_enter func128,ntmps128;go_wp2_with fail;go_at_call 216;refine(qL M fl b s _ o f.o g.o).mono ?_;rintro e i a;obtain rfl:=a.1;have c:=Hd (a.from_pure d.o);clear a;go_wp2_with fail;go_end0;have h:=c.o;unfold Bd.leaf;simpa using h
 ·go_enter func128,ntmps128;go_wp2_with fail;go_at_call 217;refine(mH M fl b s _ o f.o g.o).mono ?_;rintro e i a;obtain rfl:=a.1;have c:=Hd (a.from_pure d.o);clear a;go_wp2_with fail;go_end0;have h:=c.o;unfold Bd.leaf;simpa using h
structure Vw(M:Bp)(x:Nv)(bx bn:Nat)(w:World)(o:Nat→Nat):Prop where
 bx_:Bk w bx 104 #[Afh M.β]
 bn_:Bk w bn 34 (Afe x)
 ox:o bx=0
 on:o bn=0
theorem Vw.to_{o':Nat→Nat}(h:Vw M x bx bn w o)(ht:To I w o w' o')(h0:¬I 0):Vw M x bx bn w' o':=
 ⟨h.bx_.to_ ht (by rw [h.ox];exact h0),h.bn_.to_ ht (by rw [h.on];exact h0),(ht.ow _ h.bx_.lt).trans h.ox,(ht.ow _ h.bn_.lt).trans h.on⟩
theorem Vw.cells(h:Vw M x bx bn w o):w.cell? ⟨bx,0,none⟩=some (Afh M.β)∧w.cell? ⟨bn,0,none⟩=some (Aa Ab x.k)∧w.cell? ⟨bn,1,none⟩=some (Aa Ab x.n)∧w.cell? ⟨bn,2,none⟩=some (Aa Ac (x.u:Int))∧w.cell? ⟨bn,3,none⟩=some (.string ⟨x.s.toArray⟩)∧w.cell? ⟨bn,4,none⟩=some (.slice x.A x.an x.ac)∧w.cell? ⟨bn,5,none⟩=some (.slice x.B x.bn x.bc):=
 ⟨h.bx_.cell 0,h.bn_.cell 0,h.bn_.cell 1,h.bn_.cell 2,h.bn_.cell 3,h.bn_.cell 4,h.bn_.cell 5⟩
theorem Ky(M:Bp)(x:Nv)(w:World)(o:Nat→Nat):Vw M x w.heap.size (w.heap.size+1) ((w.alloc (.cells #[Afh M.β] 104)).alloc (.cells (Afe x) 34)) (Br o w.heap.size 0):=
 ⟨(Bk.new w 104 #[Afh M.β]).alloc _,Db w _ 34 (Afe x),Bt (Ae _),Bt (by omega)⟩
theorem vD(M:Bp)(fl:Int)(b:Bd)(x:Nv)(vs:List Nv)(w:World)(o:Nat→Nat)(h:BM M fl w o b)(hI:Gj w x.B x.bn vs)(hk:x.k=11)(hn:x.bn≤1000000)(hs:b.s.length<65536)(hbd:∀y∈vs.map Nv.n, -9223372036854775808≤y∧y≤9223372036854775807)(hl:b.b.length+40+9*(vs.map Nv.n).length≤1048576):
  Calls Ad 70 #[Afh M.β,.agg (Afe x)] w (Dq M fl (b.vec 11 true false ((vs.map Nv.n).map C5)) w o):=by
 obtain⟨k,n,u,s,t,g,f,v,d,i⟩:=x;obtain rfl:11=k:=hk.symm;have W:=Hd hn;have K:=Hd hs;have H:=Hd hl;have E:=Hd hbd;have C:=Bu w (.cells #[Afh M.β] 104) (.cells (Afe (⟨11,n,u,s,t,g,f,v,d,i⟩:Nv)) 34);have m:=Hd (To.fresh Dd C o 0);have l:=Hd (h.fresh C 0);have a:=Hd (Ky M ⟨11,n,u,s,t,g,f,v,d,i⟩ w o);have r:=Hd (Xr ⟨11,n,u,s,t,g,f,v,d,i⟩ vs _ (hI.pure C.drew) hn);clear h hI hk hn hs hl hbd C;go_enter func70,ntmps70;go_upto_region 1 with fail
 generalize (w.alloc (.cells #[Afh M.β] 104)).alloc (.cells (Afe (⟨11,n,u,s,t,g,f,v,d,i⟩:Nv)) 34)=w1 at m l a r⊢;generalize Br o w.heap.size 0=o1 at m l a;generalize w.heap.size+1=bn at a⊢;generalize w.heap.size=bx at a⊢;obtain⟨P,Q,R,S,T,U,V⟩:=a.o.cells;go_wp2_with fail;go_region_held3 (fun w'=>w'.cell? ⟨bx,0,none⟩=some (Afh M.β)∧w'.cell? ⟨bn,0,none⟩=some (Aa Ab 11)∧w'.cell? ⟨bn,1,none⟩=some (Aa Ab n)∧w'.cell? ⟨bn,2,none⟩=some (Aa Ac (u:Int))∧w'.cell? ⟨bn,3,none⟩=some (.string ⟨s.toArray⟩)∧w'.cell? ⟨bn,4,none⟩=some (.slice t g f)∧w'.cell? ⟨bn,5,none⟩=some (.slice v d i)) (first|with_reducible exact⟨P,Q,R,S,T,U,V⟩|with_reducible exact⟨Bj P,Bj Q,Bj R,Bj S,Bj T,Bj U,Bj V⟩|with_reducible exact⟨Z,y1,y2,y3,y4,y5,y6⟩|with_reducible exact⟨z0,z1,z2,z3,z4,z5,z6⟩) (first
  |(go_at_call 109;(with_reducible refine r.o.mono ?_);rintro e wa ⟨A,c,rfl,D,O⟩;have j:Below w1.heap.size w1 wa:=((Af w1.heap.size w1).drew).trans O;have q:=a.o.to_ (To.fresh Dd j o1 0) Cl;obtain⟨Z,y1,y2,y3,y4,y5,y6⟩:=q.cells;have F:=Hd q;have I:=Hd (l.o.fresh j 0);have L:=Hd (m.o.trans (To.fresh Dd j o1 0));have G:=Hd D.is;have X:=Hd (show ∀ad,A=some ad→ad.block<wa.heap.size∧Br o1 w1.heap.size 0 ad.block=0 from fun ad e=>⟨(D.addr ad e).2.2,Bt (D.addr ad e).2.1⟩);clear D O j q)
  |(go_at_call 108;(with_reducible refine(rS M fl b A d c (vs.map Nv.n) wa _ I.o G.o W.o K.o E.o H.o).mono ?_);rintro e wz ⟨rfl,Y,z,p⟩;obtain⟨z0,z1,z2,z3,z4,z5,z6⟩:=(F.o.to_ p Cl).cells;have J:=Hd z;have N:=Hd (L.o.trans p);clear z p))
 go_wp2_with fail;go_end0;refine⟨rfl,Y,?_,N.o⟩;rw [←List.map_map];exact J.o
theorem vE(M:Bp)(fl:Int)(b:Bd)(x:Nv)(vs:List Nv)(w:World)(o:Nat→Nat)(h:BM M fl w o b)(hI:Gj w x.B x.bn vs)(hk:x.k=12)(hn:x.bn≤1000000)(hs:b.s.length<65536)(hbd:∀y∈vs.map Nv.u,y<18446744073709551616)(hl:b.b.length+40+9*(vs.map Nv.u).length≤1048576):
  Calls Ad 70 #[Afh M.β,.agg (Afe x)] w (Dq M fl (b.vec 12 true false ((vs.map Nv.u).map C9)) w o):=by
 obtain⟨k,n,u,s,t,g,f,v,d,i⟩:=x;obtain rfl:12=k:=hk.symm;have W:=Hd hn;have K:=Hd hs;have H:=Hd hl;have E:=Hd hbd;have C:=Bu w (.cells #[Afh M.β] 104) (.cells (Afe (⟨12,n,u,s,t,g,f,v,d,i⟩:Nv)) 34);have m:=Hd (To.fresh Dd C o 0);have l:=Hd (h.fresh C 0);have a:=Hd (Ky M ⟨12,n,u,s,t,g,f,v,d,i⟩ w o);have r:=Hd (Xs ⟨12,n,u,s,t,g,f,v,d,i⟩ vs _ (hI.pure C.drew) hn);clear h hI hk hn hs hl hbd C;go_enter func70,ntmps70;go_upto_region 1 with fail
 generalize (w.alloc (.cells #[Afh M.β] 104)).alloc (.cells (Afe (⟨12,n,u,s,t,g,f,v,d,i⟩:Nv)) 34)=w1 at m l a r⊢;generalize Br o w.heap.size 0=o1 at m l a;generalize w.heap.size+1=bn at a⊢;generalize w.heap.size=bx at a⊢;obtain⟨P,Q,R,S,T,U,V⟩:=a.o.cells;go_wp2_with fail;go_region_held3 (fun w'=>w'.cell? ⟨bx,0,none⟩=some (Afh M.β)∧w'.cell? ⟨bn,0,none⟩=some (Aa Ab 12)∧w'.cell? ⟨bn,1,none⟩=some (Aa Ab n)∧w'.cell? ⟨bn,2,none⟩=some (Aa Ac (u:Int))∧w'.cell? ⟨bn,3,none⟩=some (.string ⟨s.toArray⟩)∧w'.cell? ⟨bn,4,none⟩=some (.slice t g f)∧w'.cell? ⟨bn,5,none⟩=some (.slice v d i)) (first|with_reducible exact⟨P,Q,R,S,T,U,V⟩|with_reducible exact⟨Bj P,Bj Q,Bj R,Bj S,Bj T,Bj U,Bj V⟩|with_reducible exact⟨Z,y1,y2,y3,y4,y5,y6⟩|with_reducible exact⟨z0,z1,z2,z3,z4,z5,z6⟩) (first
  |(go_at_call 112;(with_reducible refine r.o.mono ?_);rintro e wa ⟨A,c,rfl,D,O⟩;have j:Below w1.heap.size w1 wa:=((Af w1.heap.size w1).drew).trans O;have q:=a.o.to_ (To.fresh Dd j o1 0) Cl;obtain⟨Z,y1,y2,y3,y4,y5,y6⟩:=q.cells;have F:=Hd q;have I:=Hd (l.o.fresh j 0);have L:=Hd (m.o.trans (To.fresh Dd j o1 0));have G:=Hd D.is;have X:=Hd (show ∀ad,A=some ad→ad.block<wa.heap.size∧Br o1 w1.heap.size 0 ad.block=0 from fun ad e=>⟨(D.addr ad e).2.2,Bt (D.addr ad e).2.1⟩);clear D O j q)
  |(go_at_call 111;(with_reducible refine(oX M fl b A d c (vs.map Nv.u) wa _ I.o G.o W.o K.o E.o H.o).mono ?_);rintro e wz ⟨rfl,Y,z,p⟩;obtain⟨z0,z1,z2,z3,z4,z5,z6⟩:=(F.o.to_ p Cl).cells;have J:=Hd z;have N:=Hd (L.o.trans p);clear z p))
 go_wp2_with fail;go_end0;refine⟨rfl,Y,?_,N.o⟩;rw [←List.map_map];exact J.o
theorem vG(M:Bp)(fl:Int)(b:Bd)(x:Nv)(vs:List Nv)(w:World)(o:Nat→Nat)(h:BM M fl w o b)(hI:Gj w x.B x.bn vs)(hk:x.k=14)(hn:x.bn≤1000000)(hs:b.s.length<65536)(hbd:∀y∈vs.map (fun v:Nv=>decide (v.n=1)),y=true∨y=false)(hl:b.b.length+40+9*(vs.map (fun v:Nv=>decide (v.n=1))).length≤1048576):
  Calls Ad 70 #[Afh M.β,.agg (Afe x)] w (Dq M fl (b.vec 36 true false ((vs.map (fun v:Nv=>decide (v.n=1))).map Ho)) w o):=by
 obtain⟨k,n,u,s,t,g,f,z,d,i⟩:=x;obtain rfl:14=k:=hk.symm;have X:=Hd hn;have L:=Hd hs;have I:=Hd hl;have F:=Hd hbd;have D:=Bu w (.cells #[Afh M.β] 104) (.cells (Afe (⟨14,n,u,s,t,g,f,z,d,i⟩:Nv)) 34);have m:=Hd (To.fresh Dd D o 0);have l:=Hd (h.fresh D 0);have a:=Hd (Ky M ⟨14,n,u,s,t,g,f,z,d,i⟩ w o);have r:=Hd (oS ⟨14,n,u,s,t,g,f,z,d,i⟩ vs _ (hI.pure D.drew) hn);clear h hI hk hn hs hl hbd D;go_enter func70,ntmps70;go_upto_region 1 with fail
 generalize (w.alloc (.cells #[Afh M.β] 104)).alloc (.cells (Afe (⟨14,n,u,s,t,g,f,z,d,i⟩:Nv)) 34)=w1 at m l a r⊢;generalize Br o w.heap.size 0=o1 at m l a;generalize w.heap.size+1=bn at a⊢;generalize w.heap.size=bx at a⊢;obtain⟨Q,R,S,T,U,V,W⟩:=a.o.cells;go_wp2_with fail;go_region_held3 (fun w'=>w'.cell? ⟨bx,0,none⟩=some (Afh M.β)∧w'.cell? ⟨bn,0,none⟩=some (Aa Ab 14)∧w'.cell? ⟨bn,1,none⟩=some (Aa Ab n)∧w'.cell? ⟨bn,2,none⟩=some (Aa Ac (u:Int))∧w'.cell? ⟨bn,3,none⟩=some (.string ⟨s.toArray⟩)∧w'.cell? ⟨bn,4,none⟩=some (.slice t g f)∧w'.cell? ⟨bn,5,none⟩=some (.slice z d i)) (first|with_reducible exact⟨Q,R,S,T,U,V,W⟩|with_reducible exact⟨Bj Q,Bj R,Bj S,Bj T,Bj U,Bj V,Bj W⟩|with_reducible exact⟨y0,y1,y2,y3,y4,y5,y6⟩|with_reducible exact⟨z0,z1,z2,z3,z4,z5,z6⟩) (first
  |(go_at_call 115;(with_reducible refine r.o.mono ?_);rintro e wa ⟨A,c,rfl,E,P⟩;have j:Below w1.heap.size w1 wa:=((Af w1.heap.size w1).drew).trans P;have q:=a.o.to_ (To.fresh Dd j o1 0) Cl;obtain⟨y0,y1,y2,y3,y4,y5,y6⟩:=q.cells;have G:=Hd q;have J:=Hd (l.o.fresh j 0);have N:=Hd (m.o.trans (To.fresh Dd j o1 0));have H:=Hd E.is;have Y:=Hd (show ∀ad,A=some ad→ad.block<wa.heap.size∧Br o1 w1.heap.size 0 ad.block=0 from fun ad e=>⟨(E.addr ad e).2.2,Bt (E.addr ad e).2.1⟩);clear E P j q)
  |(go_at_call 114;(with_reducible refine(mE M fl b A d c (vs.map (fun v:Nv=>decide (v.n=1))) wa _ J.o H.o X.o L.o F.o I.o).mono ?_);rintro e wz ⟨rfl,Z,C,p⟩;obtain⟨z0,z1,z2,z3,z4,z5,z6⟩:=(G.o.to_ p Cl).cells;have K:=Hd C;have O:=Hd (N.o.trans p);clear C p))
 go_wp2_with fail;go_end0;refine⟨rfl,Z,?_,O.o⟩;exact K.o
theorem vH(M:Bp)(fl:Int)(b:Bd)(x:Nv)(vs:List Nv)(w:World)(o:Nat→Nat)(h:BM M fl w o b)(hI:Gj w x.B x.bn vs)(hk:x.k=15)(hn3:x.bn=2∨x.bn=3∨x.bn=4)(hs:b.s.length<65536)(hbd:∀y∈vs.map Nv.n, -9223372036854775808≤y∧y≤9223372036854775807)(hl:b.b.length+40+9*(vs.map Nv.n).length≤1048576):
  Calls Ad 70 #[Afh M.β,.agg (Afe x)] w (Dq M fl (b.vec (10+3*x.bn) false false ((vs.map Nv.n).map C5)) w o):=by
 have K:=Hd hn3;have P:x.bn≤1000000:=by omega
 clear hn3;obtain⟨k,n,u,s,t,g,f,v,d,i⟩:=x;obtain rfl:15=k:=hk.symm;have HN:=Hd P;have L:=Hd hs;have H:=Hd hl;have E:=Hd hbd;have C:=Bu w (.cells #[Afh M.β] 104) (.cells (Afe (⟨15,n,u,s,t,g,f,v,d,i⟩:Nv)) 34);have m:=Hd (To.fresh Dd C o 0);have l:=Hd (h.fresh C 0);have a:=Hd (Ky M ⟨15,n,u,s,t,g,f,v,d,i⟩ w o);have r:=Hd (Xr ⟨15,n,u,s,t,g,f,v,d,i⟩ vs _ (hI.pure C.drew) P);clear h hI hk P hs hl hbd C;go_enter func70,ntmps70;go_upto_region 1 with fail
 generalize (w.alloc (.cells #[Afh M.β] 104)).alloc (.cells (Afe (⟨15,n,u,s,t,g,f,v,d,i⟩:Nv)) 34)=w1 at m l a r⊢;generalize Br o w.heap.size 0=o1 at m l a;generalize w.heap.size+1=bn at a⊢;generalize w.heap.size=bx at a⊢;obtain⟨R,S,T,U,V,W,X⟩:=a.o.cells;go_wp2_with fail;go_region_held3 (fun w'=>w'.cell? ⟨bx,0,none⟩=some (Afh M.β)∧w'.cell? ⟨bn,0,none⟩=some (Aa Ab 15)∧w'.cell? ⟨bn,1,none⟩=some (Aa Ab n)∧w'.cell? ⟨bn,2,none⟩=some (Aa Ac (u:Int))∧w'.cell? ⟨bn,3,none⟩=some (.string ⟨s.toArray⟩)∧w'.cell? ⟨bn,4,none⟩=some (.slice t g f)∧w'.cell? ⟨bn,5,none⟩=some (.slice v d i)) (first|with_reducible exact⟨R,S,T,U,V,W,X⟩|with_reducible exact⟨Bj R,Bj S,Bj T,Bj U,Bj V,Bj W,Bj X⟩|with_reducible exact⟨y0,y1,y2,y3,y4,y5,y6⟩|with_reducible exact⟨z0,z1,z2,z3,z4,z5,z6⟩) (first
  |(go_at_call 109;(with_reducible refine r.o.mono ?_);rintro e wa ⟨A,c,rfl,D,Q⟩;have j:Below w1.heap.size w1 wa:=((Af w1.heap.size w1).drew).trans Q;have q:=a.o.to_ (To.fresh Dd j o1 0) Cl;obtain⟨y0,y1,y2,y3,y4,y5,y6⟩:=q.cells;have F:=Hd q;have I:=Hd (l.o.fresh j 0);have N:=Hd (m.o.trans (To.fresh Dd j o1 0));have G:=Hd D.is;have Y:=Hd (show ∀ad,A=some ad→ad.block<wa.heap.size∧Br o1 w1.heap.size 0 ad.block=0 from fun ad e=>⟨(D.addr ad e).2.2,Bt (D.addr ad e).2.1⟩);clear D Q j q)
  |(go_at_call 120;(with_reducible refine(dK M fl b A d c (vs.map Nv.n) wa _ I.o G.o K.o L.o E.o H.o).mono ?_);rintro e wz ⟨rfl,Z,z,p⟩;obtain⟨z0,z1,z2,z3,z4,z5,z6⟩:=(F.o.to_ p Cl).cells;have J:=Hd z;have O:=Hd (N.o.trans p);clear z p))
 go_wp2_with fail;go_end0;refine⟨rfl,Z,?_,O.o⟩;rw [←List.map_map];exact J.o
theorem vI(M:Bp)(fl:Int)(b:Bd)(x:Nv)(vs:List Nv)(w:World)(o:Nat→Nat)(h:BM M fl w o b)(hI:Gj w x.B x.bn vs)(hk:x.k=16)(hn3:x.bn=2∨x.bn=3∨x.bn=4)(hs:b.s.length<65536)(hbd:∀y∈vs.map Nv.u,y<18446744073709551616)(hl:b.b.length+40+9*(vs.map Nv.u).length≤1048576):
  Calls Ad 70 #[Afh M.β,.agg (Afe x)] w (Dq M fl (b.vec (11+3*x.bn) false false ((vs.map Nv.u).map C9)) w o):=by
 have K:=Hd hn3;have P:x.bn≤1000000:=by omega
 clear hn3;obtain⟨k,n,u,s,t,g,f,v,d,i⟩:=x;obtain rfl:16=k:=hk.symm;have HN:=Hd P;have L:=Hd hs;have H:=Hd hl;have E:=Hd hbd;have C:=Bu w (.cells #[Afh M.β] 104) (.cells (Afe (⟨16,n,u,s,t,g,f,v,d,i⟩:Nv)) 34);have m:=Hd (To.fresh Dd C o 0);have l:=Hd (h.fresh C 0);have a:=Hd (Ky M ⟨16,n,u,s,t,g,f,v,d,i⟩ w o);have r:=Hd (Xs ⟨16,n,u,s,t,g,f,v,d,i⟩ vs _ (hI.pure C.drew) P);clear h hI hk P hs hl hbd C;go_enter func70,ntmps70;go_upto_region 1 with fail
 generalize (w.alloc (.cells #[Afh M.β] 104)).alloc (.cells (Afe (⟨16,n,u,s,t,g,f,v,d,i⟩:Nv)) 34)=w1 at m l a r⊢;generalize Br o w.heap.size 0=o1 at m l a;generalize w.heap.size+1=bn at a⊢;generalize w.heap.size=bx at a⊢;obtain⟨R,S,T,U,V,W,X⟩:=a.o.cells;go_wp2_with fail;go_region_held3 (fun w'=>w'.cell? ⟨bx,0,none⟩=some (Afh M.β)∧w'.cell? ⟨bn,0,none⟩=some (Aa Ab 16)∧w'.cell? ⟨bn,1,none⟩=some (Aa Ab n)∧w'.cell? ⟨bn,2,none⟩=some (Aa Ac (u:Int))∧w'.cell? ⟨bn,3,none⟩=some (.string ⟨s.toArray⟩)∧w'.cell? ⟨bn,4,none⟩=some (.slice t g f)∧w'.cell? ⟨bn,5,none⟩=some (.slice v d i)) (first|with_reducible exact⟨R,S,T,U,V,W,X⟩|with_reducible exact⟨Bj R,Bj S,Bj T,Bj U,Bj V,Bj W,Bj X⟩|with_reducible exact⟨y0,y1,y2,y3,y4,y5,y6⟩|with_reducible exact⟨z0,z1,z2,z3,z4,z5,z6⟩) (first
  |(go_at_call 112;(with_reducible refine r.o.mono ?_);rintro e wa ⟨A,c,rfl,D,Q⟩;have j:Below w1.heap.size w1 wa:=((Af w1.heap.size w1).drew).trans Q;have q:=a.o.to_ (To.fresh Dd j o1 0) Cl;obtain⟨y0,y1,y2,y3,y4,y5,y6⟩:=q.cells;have F:=Hd q;have I:=Hd (l.o.fresh j 0);have N:=Hd (m.o.trans (To.fresh Dd j o1 0));have G:=Hd D.is;have Y:=Hd (show ∀ad,A=some ad→ad.block<wa.heap.size∧Br o1 w1.heap.size 0 ad.block=0 from fun ad e=>⟨(D.addr ad e).2.2,Bt (D.addr ad e).2.1⟩);clear D Q j q)
  |(go_at_call 121;(with_reducible refine(aE M fl b A d c (vs.map Nv.u) wa _ I.o G.o K.o L.o E.o H.o).mono ?_);rintro e wz ⟨rfl,Z,z,p⟩;obtain⟨z0,z1,z2,z3,z4,z5,z6⟩:=(F.o.to_ p Cl).cells;have J:=Hd z;have O:=Hd (N.o.trans p);clear z p))
 go_wp2_with fail;go_end0;refine⟨rfl,Z,?_,O.o⟩;rw [←List.map_map];exact J.o
theorem vF(M:Bp)(fl:Int)(b:Bd)(x:Nv)(vs:List Nv)(w:World)(o:Nat→Nat)(h:BM M fl w o b)(hI:Gj w x.B x.bn vs)(hk:x.k=13)(hn:x.bn≤1000000)(hs:Tt b (vs.map Nv.s))(hbd:∀y∈vs.map Nv.s,Ci y=false)(hl:Dr b∧b.b.length+Cc (vs.map Nv.s)+40+9*(vs.map Nv.s).length≤1048576):
  Calls Ad 70 #[Afh M.β,.agg (Afe x)] w (Dq M fl ((b.puts (bits fl) (vs.map Nv.s)).1.vec 14 true false (b.puts (bits fl) (vs.map Nv.s)).2) w o):=by
 obtain⟨k,n,u,s,v,g,f,z,d,i⟩:=x;obtain rfl:13=k:=hk.symm;have X:=Hd hn;have L:=Hd hs;have r:=Hd hl;have F:=Hd hbd;have D:=Bu w (.cells #[Afh M.β] 104) (.cells (Afe (⟨13,n,u,s,v,g,f,z,d,i⟩:Nv)) 34);have m:=Hd (To.fresh Dd D o 0);have l:=Hd (h.fresh D 0);have a:=Hd (Ky M ⟨13,n,u,s,v,g,f,z,d,i⟩ w o);have t:=Hd (oT ⟨13,n,u,s,v,g,f,z,d,i⟩ vs _ (hI.pure D.drew) hn);clear h hI hk hn hs hl hbd D;go_enter func70,ntmps70;go_upto_region 1 with fail
 generalize (w.alloc (.cells #[Afh M.β] 104)).alloc (.cells (Afe (⟨13,n,u,s,v,g,f,z,d,i⟩:Nv)) 34)=w1 at m l a t⊢;generalize Br o w.heap.size 0=o1 at m l a;generalize w.heap.size+1=bn at a⊢;generalize w.heap.size=bx at a⊢;obtain⟨Q,R,S,T,U,V,W⟩:=a.o.cells;go_wp2_with fail;go_region_held3 (fun w'=>w'.cell? ⟨bx,0,none⟩=some (Afh M.β)∧w'.cell? ⟨bn,0,none⟩=some (Aa Ab 13)∧w'.cell? ⟨bn,1,none⟩=some (Aa Ab n)∧w'.cell? ⟨bn,2,none⟩=some (Aa Ac (u:Int))∧w'.cell? ⟨bn,3,none⟩=some (.string ⟨s.toArray⟩)∧w'.cell? ⟨bn,4,none⟩=some (.slice v g f)∧w'.cell? ⟨bn,5,none⟩=some (.slice z d i)) (first|with_reducible exact⟨Q,R,S,T,U,V,W⟩|with_reducible exact⟨Bj Q,Bj R,Bj S,Bj T,Bj U,Bj V,Bj W⟩|with_reducible exact⟨Z,y1,y2,y3,y4,y5,y6⟩|with_reducible exact⟨z0,z1,z2,z3,z4,z5,z6⟩) (first
  |(go_at_call 118;(with_reducible refine t.o.mono ?_);rintro e wa ⟨A,c,rfl,E,P⟩;have j:Below w1.heap.size w1 wa:=((Af w1.heap.size w1).drew).trans P;have q:=a.o.to_ (To.fresh Dd j o1 0) Cl;obtain⟨Z,y1,y2,y3,y4,y5,y6⟩:=q.cells;have G:=Hd q;have I:=Hd (l.o.fresh j 0);have N:=Hd (m.o.trans (To.fresh Dd j o1 0));have H:=Hd E.is;have K:=Hd (show ∀ad,A=some ad→ad.block<wa.heap.size∧Br o1 w1.heap.size 0 ad.block=0 from fun ad e=>⟨(E.addr ad e).2.2,Bt (E.addr ad e).2.1⟩);clear E P j q)
  |(go_at_call 117;(with_reducible refine(mN M fl b A d c (vs.map Nv.s) wa _ I.o H.o K.o X.o L.o F.o r.o.1 r.o.2).mono ?_);rintro e wz ⟨rfl,Y,C,p⟩;obtain⟨z0,z1,z2,z3,z4,z5,z6⟩:=(G.o.to_ p Cl).cells;have J:=Hd C;have O:=Hd (N.o.trans p);clear C p))
 go_wp2_with fail;go_end0;exact⟨rfl,Y,J.o,O.o⟩
def aK(t:Tr):Prop:=(-9223372036854775808≤t.n∧t.n≤9223372036854775807)∧t.u<18446744073709551616
inductive Hk:Tr→Prop
 |leaf {k n:Int} {u:Nat} (s:List UInt8) (ks c) (h1:1≤k) (h2:k≤9) (hn:(-9223372036854775808≤n∧n≤9223372036854775807)∧u<18446744073709551616) (hz:k=5→Ci s=false):Hk (.mk k n u s ks c)
 |flat {k:Int} {c:List Tr} (n u s ks) (h1:11≤k) (h2:k≤16) (hn:∀t∈c,aK t) (hz:k=13→∀t∈c,Ci t.s=false) (hf:k=15∨k=16→c.length=2∨c.length=3∨c.length=4):Hk (.mk k n u s ks c)
 |vec {c:List Tr} (n u s ks) (h:∀t∈c,Hk t):Hk (.mk 10 n u s ks c)
 |map {c:List Tr} {ks:List (List UInt8)} (n u s) (hl:ks.length=c.length) (h0:∀x∈ks,Ci x=false) (hu:ks.Pairwise (· < ·)) (h:∀t∈c,Hk t):Hk (.mk 17 n u s ks c)
theorem Vb{α:Type}{p:Nat→Prop}{vs:List Nv}{l:List Tr}(hl:vs.length=l.length)(hc:∀(i:Nat) v t,vs[i]?=some v→l[i]?=some t→Ck w p v t){f:Tr→α}{g:Nv→α}(hfg:∀v t,Ck w p v t→f t=g v):l.map f=vs.map g:=by
 apply List.ext_getElem (by simp [hl]);intro i h1 h2;rw [List.getElem_map,List.getElem_map];exact hfg _ _ (hc i _ _ (Ag (by simpa using h2)) (Ag (by simpa using h1)))
theorem We:∀(l:List Tr),Cc (l.map Tr.s)+40*l.length≤Tr.costL l
 | []=>by simp [Cc,Tr.costL]
 | .mk k n u s ks c::r=>by
  have h1:=We r;simp only [List.map_cons,Cc,Tr.costL,Tr.cost,List.length_cons,Tr.s];omega
theorem rG(M:Bp)(fl:Int)(b:Bd)(x:Nv)(k n:Int)(u:Nat)(s:List UInt8)(ks:List (List UInt8))(c:List Tr)(w:World)(o:Nat→Nat)(p:Nat→Prop)(h:BM M fl w o b)(hg:Dr b)(hR:Ck w p x (.mk k n u s ks c))(h1:11≤k)(h2:k≤16)
  (hn:∀t∈c,aK t) (hz:k=13→∀t∈c,Ci t.s=false) (hf:k=15∨k=16→c.length=2∨c.length=3∨c.length=4) (hm:b.size+Tr.costL c≤65000):
  Calls Ad 70 #[Afh M.β,.agg (Afe x)] w (Dq M fl (b.flat (bits fl) k c) w o):=by
 obtain⟨H,_,_,_,_,i⟩:=hR.fields;have H:k=x.k:=H;have i:c.length=x.bn:=i;cases hR with
 | @mk _ _ _ vs _ _ _ _ hI _ _ _ hl hc=>
  have F:=Vb hl hc (f:=Tr.n) (g:=Nv.n) (fun v t r=>r.fields.2.1);have G:=Vb hl hc (f:=Tr.u) (g:=Nv.u) (fun v t r=>r.fields.2.2.1);have C:=Vb hl hc (f:=Tr.s) (g:=Nv.s) (fun v t r=>r.fields.2.2.2.1);have J:=Kz c;have K:b.b.length+b.s.length+b.keys.length+b.names.length≤b.size:=by unfold Bd.size;omega
  have m:∀y∈vs.map Nv.n, -9223372036854775808≤y∧y≤9223372036854775807:=by
   rw [←F];intro y B;obtain⟨t,ht,rfl⟩:=List.mem_map.1 B;exact(hn t ht).1
  have q:∀y∈vs.map Nv.u,y<18446744073709551616:=by
   rw [←G];intro y B;obtain⟨t,ht,rfl⟩:=List.mem_map.1 B;exact(hn t ht).2
  have z:b.b.length+40+9*(vs.map Nv.n).length≤1048576:=by rw [As];omega
  have A:b.b.length+40+9*(vs.map Nv.u).length≤1048576:=by rw [As];omega
  have d:x.bn≤1000000:=by omega
  have j:b.s.length<65536:=by omega
  have E:∀{β:Type} (g:Int→β),c.map (fun t=>g t.n)=(vs.map Nv.n).map g:=fun g=>by rw [←F,List.map_map];rfl
  have I:∀{β:Type} (g:Nat→β),c.map (fun t=>g t.u)=(vs.map Nv.u).map g:=fun g=>by rw [←G,List.map_map];rfl
  have l:x.k=11∨x.k=12∨x.k=13∨x.k=14∨x.k=15∨x.k=16:=by omega
  rcases l with a|a|a|a|a|a
  ·have e:b.flat (bits fl) x.k c=b.vec 11 true false ((vs.map Nv.n).map C5):=by
    rw [a,←E];rfl
   rw [e];exact vD M fl b x vs w o h hI a d j m z
  ·have e:b.flat (bits fl) x.k c=b.vec 12 true false ((vs.map Nv.u).map C9):=by
    rw [a,←I];rfl
   rw [e];exact vE M fl b x vs w o h hI a d j q A
  ·have e:b.flat (bits fl) x.k c=(b.puts (bits fl) (vs.map Nv.s)).1.vec 14 true false (b.puts (bits fl) (vs.map Nv.s)).2:=by
    rw [a,←C];rfl
   rw [e];have D:=We c;rw [C] at D;refine vF M fl b x vs w o h hI a d ⟨j,by omega,by rw [As];omega,by rw [As];omega⟩ ?_ ⟨hg,by rw [As];omega⟩;rw [←C];intro y B;obtain⟨t,ht,rfl⟩:=List.mem_map.1 B;exact hz a t ht
  ·have e:b.flat (bits fl) x.k c=b.vec 36 true false ((vs.map (fun v:Nv=>decide (v.n=1))).map Ho):=by
    have L:c.map (fun t=>Dh t.n)=(vs.map (fun v:Nv=>decide (v.n=1))).map Ho:=by
     rw [E Dh,List.map_map,List.map_map];apply List.map_congr_left;intro v _;simp [Dh,Ho]
    rw [a,←L];rfl
   rw [e];exact vG M fl b x vs w o h hI a d j (fun y _=>by cases y <;>simp) (by rw [As];omega)
  ·have e:b.flat (bits fl) x.k c=b.vec (10+3*x.bn) false false ((vs.map Nv.n).map C5):=by
    rw [a,←E,←i];rfl
   rw [e];exact vH M fl b x vs w o h hI a (by rw [←i];exact hf (.inl a)) j m z
  ·have e:b.flat (bits fl) x.k c=b.vec (11+3*x.bn) false false ((vs.map Nv.u).map C9):=by
    rw [a,←I,←i];rfl
   rw [e];exact vI M fl b x vs w o h hI a (by rw [←i];exact hf (.inr a)) j q A
end
section
open Go.Acc
theorem G0.ok(h:G0 t):aK t:=by
 cases h with
 |mk h1 h2 _=>exact⟨h1,h2⟩
theorem Ye{s:List UInt8}(h:(0:UInt8)∉s):Ci s=false:=by
 cases hz:Ci s with
 |false=>rfl
 |true=>
  obtain⟨c,hc,e⟩:=List.any_eq_true.1 hz;exact absurd (by simpa using(beq_iff_eq.1 e)▸hc) h
theorem Acm(h:Ft t):G0 t→Hk (By t):=by
 induction h with
 |mk h1 h2 h3 h4 hl ih=>
  rename_i k n u s ks l;intro hN;cases hN with
  |mk n1 n2 nl=>
   have o:∀t∈Cp l,Hk t:=by
    intro t ht;rw [Cx] at ht;obtain⟨x,hx,rfl⟩:=List.mem_map.1 ht;exact ih x hx (nl x hx)
   have b:=O1 (Ft.mk h1 h2 h3 h4 hl);simp only [Ep,Bool.and_eq_true,decide_eq_true_eq] at h1;obtain⟨⟨⟨⟨⟨⟨⟨⟨⟨d,m⟩,_⟩,_⟩,_⟩,_⟩,_⟩,a⟩,_⟩,z⟩:=h1;have d:1≤k:=d;have m:k≤17:=m;rw [By] at b⊢;by_cases g:k=17
   ·rw [if_pos g];subst g;have p:=Eo (ks.zip (Cp l));have a:ks.length=l.length:=a rfl;have B:(Cp l).length=l.length:=by rw [Cx,As]
    refine .map n u s (by simp) (fun x hx=>?_) ?_ (fun t ht=>?_)
    ·obtain⟨y,j,rfl⟩:=List.mem_map.1 hx;exact Ye (h3 _ (List.of_mem_zip (p.mem_iff.1 j)).1)
    ·rw [List.pairwise_map];exact O0 _ (by rw [List.map_fst_zip (by omega)];exact h4)
    ·obtain⟨y,j,rfl⟩:=List.mem_map.1 ht;exact o _ (List.of_mem_zip (p.mem_iff.1 j)).2
   ·rw [if_neg g] at b⊢;by_cases f:k=10
    ·subst f;exact .vec n u s ks o
    ·by_cases A:k≤9
     ·exact .leaf s ks _ d A ⟨n1,n2⟩ (fun e=>Ye (h2 e))
     ·refine .flat n u s ks (by omega) (by omega) (fun t ht=>?_) (fun e t ht=>?_) (fun e=>b e)
      ·rw [Cx] at ht;obtain⟨x,hx,rfl⟩:=List.mem_map.1 ht;obtain⟨q,r,_⟩:=fY x;unfold aK;rw [q,r];exact(nl x hx).ok
      ·rw [Cx] at ht;obtain⟨x,hx,rfl⟩:=List.mem_map.1 ht;obtain⟨_,_,v⟩:=fY x;rw [v];have i:x.k=5:=by
        have c:=List.all_eq_true.1 z x hx;have c:=of_decide_eq_true c;have w:B5 k=5:=by subst e;rfl
        have c:B5 k=0∨x.k=B5 k:=c;rw [w] at c;omega
       cases hl x hx with
       |mk _ q2 _ _ _=>exact Ye (q2 i)
end
section
open Go.RowKit Go.Acc
theorem eH(M:Bp)(fl:Int)(b:Bd)(x:Nv)(k n:Int)(u:Nat)(s:List UInt8)(ks:List (List UInt8))(c:List Tr)(w:World)(o:Nat→Nat)(p:Nat→Prop)(h:BM M fl w o b)(hR:Ck w p x (.mk k n u s ks c))(h1:1≤k)(h2:k≤9)
  (hn:(-9223372036854775808≤n∧n≤9223372036854775807)∧u<18446744073709551616) (hz:k=5→Ci s=false) (hm:b.size+64+s.length≤65000):
  Calls Ad 70 #[Afh M.β,.agg (Afe x)] w (Dq M fl (b.leaf (bits fl) k n u s) w o):=by
 obtain⟨g,d,f,e,_,_⟩:=hR.fields;have g:k=x.k:=g;have d:n=x.n:=d;have f:u=x.u:=f;have e:s=x.s:=e;subst g d f e;have j:b.b.length+b.s.length+b.keys.length+b.texts.length+b.names.length≤b.size:=by unfold Bd.size;omega
 refine X3 M fl _ x.k x.n x.u x.s x.A x.an x.ac x.B x.bn x.bc w o ⟨h1,h2⟩ (fun W hB=>?_);have a:(x.k=1∨x.k=2∨x.k=3∨x.k=4∨x.k=8∨x.k=9)∨(x.k=5∨x.k=6∨x.k=7):=by omega
 rcases a with i|i
 ·exact nP M fl _ b x.k x.n x.u x.s x.A x.an x.ac x.B x.bn x.bc W o (h.pure hB) (by omega) (by omega) hn.1 hn.2 i
 ·exact nQ M fl b x.k x.n x.u x.s x.A x.an x.ac x.B x.bn x.bc W o (h.pure hB) ⟨by omega,by omega,by omega⟩ ⟨by omega,by omega,by omega,by omega⟩ i hz
end
section
open Go.Acc
theorem Hk.ok(h:Hk t):Ok t:=by
 induction h with
 |leaf s ks c h1 h2 hn hz=>exact .leaf _ _ _ _ _ h1 h2
 |flat n u s ks h1 h2 hn hz hf=>exact .flat _ _ _ _ _ h1 h2
 |vec n u s ks h ih=>exact .vec _ _ _ _ ih
 |map n u s hl h0 hu h ih=>exact .map _ _ _ hl (fun x hx=>Nw (h0 x hx)) ih
theorem Hk.fix(h:Hk t):Ts t:=by
 cases h with
 |leaf s ks c h1 h2 hn hz=>
  rename_i k n u;intro hk;have hk:k=15∨k=16:=hk;omega
 |flat n u s ks h1 h2 hn hz hf=>exact fun hk=>hf hk
 |vec n u s ks h=>
  intro hk;have hk:(10:Int)=15∨(10:Int)=16:=hk;omega
 |map n u s hl h0 hu h=>
  intro hk;have hk:(17:Int)=15∨(17:Int)=16:=hk;omega
theorem Uf(f:Nat):∀(l:List Tr) (t:Tr) (b:Bd),Bd.callsL f (l++ [t]) b=Bd.calls f t (Bd.callsL f l b)
 | [],t,b=>by simp [Bd.callsL]
 |x::r,t,b=>by rw [List.cons_append,Bd.callsL,Uf f r t,Bd.callsL]
theorem Si:∀(l m:List Tr),Tr.costL (l++m)=Tr.costL l+Tr.costL m
 | [],m=>by simp [Tr.costL]
 |x::r,m=>by rw [List.cons_append,Tr.costL,Tr.costL,Si r m];omega
theorem kQ{l:List UInt8}{c:List Tr}(hl:vs.length=c.length)(h:∀(i:Nat) x t,vs[i]?=some x→c[i]?=some t→E4 l x t)(hf:∀t∈c,Ts t)(hm:l.length+40+9*vs.length≤1048576):E5 vs l:=by
 have a:∀v∈vs,∃t∈c,E4 l v t:=by
  intro v a;obtain⟨i,b,e⟩:=List.getElem_of_mem a;exact⟨c[i]'(by omega),List.getElem_mem _,h i v _ (by rw [Ag b,e]) (Ag (by omega))⟩
 refine⟨fun v hm=>?_,fun v hm=>?_,Ow hl h,hm⟩
 ·obtain⟨t,ht,r⟩:=a v hm;exact(r.legal (hf t ht)).1
 ·obtain⟨t,ht,r⟩:=a v hm;exact(r.legal (hf t ht)).2.1
end
end Go.Proofs.YtejpbijeifjdeaaGreat
