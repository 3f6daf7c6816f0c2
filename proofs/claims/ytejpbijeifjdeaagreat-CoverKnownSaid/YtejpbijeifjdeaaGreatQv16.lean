/- Parts of the proof. -/
import Derived.Test.YtejpbijeifjdeaaGreatQv15
set_option maxHeartbeats 4000000
set_option maxRecDepth 100000
open Go.Value renaming int→Aa
open Go.IntKind renaming i64→Ab,u64→Ac
open Nat renaming le_refl→Ae,lt_of_lt_of_le→Ar
open Go.RowKit.Below renaming refl→Af
open List renaming getElem?_eq_getElem→Ai,length_append→Ak,length_take→Au,take_of_length_le→Aw,getD_eq_getElem?_getD→Ay,take_succ_eq_append_getElem→Az
open Go.Proofs.Tryz
open Go.Proofs.Tryz renaming prog→Ad
namespace Go.Proofs.YtejpbijeifjdeaaGreat
variable {kvs vs:List Bv}{b:Bd}{I:Nat→Prop}{w w':World}{M:Bp}{x:Nv}{bx bn j:Nat}{o:Nat→Nat}{t:Tr}{c:List Tr}{ks:List (List UInt8)}
section
open Go.Acc
theorem tC{n:Nat}{ps:List Nat}(l:List (List UInt8))(hl:l.length=n)(hp:ps.Perm (List.range n))(ha:∀(i j:Nat) (hi:i<ps.length) (hj:j<ps.length),i<j→l.getD ps[i] []<l.getD ps[j] [])(hs:l.Pairwise (· < ·)):ps=List.range n:=by
 have k:∀p∈ps,p<n:=fun p h=>List.mem_range.1 (hp.mem_iff.1 h)
 have g:∀p (h:p<n),l.getD p []=l[p]:=fun p h=>by rw [Ay,Ai];rfl
 have h1:ps.Pairwise (· < ·):=by
  rw [List.pairwise_iff_getElem];intro i j hi hj d;have h2:=ha i j hi hj d;have e:=k ps[i] (List.getElem_mem _);have f:=k ps[j] (List.getElem_mem _);rw [g _ e,g _ f] at h2;rcases Nat.lt_trichotomy ps[i] ps[j] with h3|h3|h3
  ·exact h3
  ·rw [getElem_congr_idx (c:=l) h3] at h2;exact absurd h2 (List.lt_irrefl _)
  ·rw [List.pairwise_iff_getElem] at hs;exact absurd h2 (List.lt_asymm (hs _ _ (by omega) (by omega) h3))
 exact hp.eq_of_pairwise (fun a b _ _ h h'=>absurd h (Nat.lt_asymm h')) h1 List.pairwise_lt_range
theorem Pj:∀(ks vs:List Bv) (i:Nat),ks.length=vs.length→(Fc ks vs)[2*i]?=ks[i]?∧(Fc ks vs)[2*i+1]?=vs[i]?
 | [],[],i,_=>⟨by simp [Fc],by simp [Fc]⟩
 | [],_::_,_,h=>by simp at h
 |_::_,[],_,h=>by simp at h
 |k::r,v::q,0,_=>⟨rfl,rfl⟩
 |k::r,v::q,i+1,h=>by
  obtain⟨h1,h2⟩:=Pj r q i (by simpa using h);have a:2*(i+1)=2*i+1+1:=by omega
  have b:2*(i+1)+1=2*i+1+1+1:=by omega
  rw [b,a];simp only [Fc,List.getElem?_cons_succ];exact⟨h1,h2⟩
theorem Pk:∀(ks vs:List Bv),ks.length=vs.length→(Fc ks vs).length=2*ks.length
 | [],[],_=>rfl
 | [],_::_,h=>by simp at h
 |_::_,[],h=>by simp at h
 |k::r,v::q,h=>by
  have:=Pk r q (by simpa using h);simp only [Fc,List.length_cons,this];omega
theorem oT(ks vs:List Bv)(h:ks.length=vs.length):(List.range ks.length).map (fun p=>(Fc ks vs).getD (2*p+0) ⟨0,0,0⟩)=ks∧(List.range ks.length).map (fun p=>(Fc ks vs).getD (2*p+1) ⟨0,0,0⟩)=vs:=by
 refine⟨?_,?_⟩
 ·apply List.ext_getElem (by simp);intro i h1 h2;rw [List.getElem_map,List.getElem_range,Ay,Nat.add_zero,(Pj ks vs i h).1,Ai h2];rfl
 ·apply List.ext_getElem (by simp [h]);intro i h1 h2;rw [List.getElem_map,List.getElem_range,Ay,(Pj ks vs i h).2,Ai h2];rfl
theorem Vh(a b:List (List UInt8)):C3 (a++b)=C3 a++C3 b:=by simp [C3]
theorem kB(s:List UInt8):C3 [s]=s++ [0]:=by simp [C3]
theorem Vj:∀(l:List (List UInt8)),(C3 l).length≤Ci l
 | []=>by simp [C3]
 |s::r=>by
  have:=Vj r;simp only [C3,List.flatMap_cons,Ak,List.length_singleton,Ci] at this⊢;omega
end
section
open Go.RowKit Go.Acc
structure Zm(keys:List (List UInt8))(kvs vs:List Bv)(k:Nat)(b:Bd):Prop where
 cut:b.s.drop k=Fc kvs vs
 kl:kvs.length=keys.length
 vl:vs.length=keys.length
 named:∀(i:Nat) s v,keys[i]?=some s→kvs[i]?=some v→qS b.names s v
 nlt:∀x∈b.names,x.1<18446744073709551616
 up:keys.Pairwise (· < ·)
 hk:k≤b.s.length
 hs:b.s.length≤65536
 hks:k<65536
 len:(C3 keys).length≤1048576
 tab:iG (C3 keys) kvs vs { b with s:=b.s.take k}
theorem Zm.namedV{keys:List (List UInt8)}{k:Nat}(h:Zm keys kvs vs k b):lI b.names keys (b.s.drop k):=by
 have hl:kvs.length=vs.length:=h.kl.trans h.vl.symm;refine⟨by rw [h.cut,Pk _ _ hl,h.kl],fun i s v hs hv=>?_⟩;rw [h.cut,(Pj kvs vs i hl).1] at hv;obtain⟨h1,h2⟩:=h.named i s v hs hv;exact⟨h1,h2,h.nlt _ (List.mem_of_find?_eq_some h2)⟩
structure Qv(M:Bp)(A:Option Addr)(m c:Nat)(vl:List Bv)(AN:Option Addr)(nk:Nat)(keys:List (List UInt8))(AP:Option Addr)(cP bx bl bp:Nat)(w:World)(o:Nat→Nat):Prop where
 x:Bb w bx 104 #[Aca M.β]
 l:Bb w bl 144 #[.slice A m c]
 p:Bb w bp 118 #[.slice AP nk cP]
 ox:o bx=0
 ol:o bl=0
 op:o bp=0
 iv:Ef w A m (vl.map vv)
 is_:Fm w AN nk keys
 ip:Is J7 w AP nk (List.range nk)
 oa:∀ad,A=some ad→ad.block<w.heap.size∧o ad.block=0
 on:∀ad,AN=some ad→ad.block<w.heap.size∧o ad.block=0
 oq:∀ad,AP=some ad→ad.block<w.heap.size∧o ad.block=0
section
variable {M:Bp} {A:Option Addr} {m c:Nat} {l:List Bv} {AN:Option Addr} {nk:Nat} {keys:List (List UInt8)} {AP:Option Addr} {cP bx bl bp:Nat} {w w':World} {o o':Nat→Nat}
theorem Qv.to_(h:Qv M A m c l AN nk keys AP cP bx bl bp w o)(ht:To I w o w' o')(h0:¬I 0):Qv M A m c l AN nk keys AP cP bx bl bp w' o':=by
 have a:∀{B:Option Addr},(∀ad,B=some ad→ad.block<w.heap.size∧o ad.block=0)→∀ad,B=some ad→ad.block<w'.heap.size∧o' ad.block=0:=fun hB ad e=>⟨Ar (hB ad e).1 ht.size,(ht.ow _ (hB ad e).1).trans (hB ad e).2⟩
 exact⟨h.x.to_ ht (by rw [h.ox];exact h0),h.l.to_ ht (by rw [h.ol];exact h0),h.p.to_ ht (by rw [h.op];exact h0),(ht.ow _ h.x.lt).trans h.ox,(ht.ow _ h.l.lt).trans h.ol,(ht.ow _ h.p.lt).trans h.op,
  h.iv.fr ht.fr (fun ad e=>by rw [(h.oa ad e).2];exact h0),h.is_.fr ht.fr (fun ad e=>by rw [(h.on ad e).2];exact h0),h.ip.fr ht.fr (fun ad e=>by rw [(h.oq ad e).2];exact h0),a h.oa,a h.on,a h.oq⟩
theorem Qv.cells(h:Qv M A m c l AN nk keys AP cP bx bl bp w o):w.cell? ⟨bx,0,none⟩=some (Aca M.β)∧w.cell? ⟨bl,0,none⟩=some (.slice A m c)∧w.cell? ⟨bp,0,none⟩=some (.slice AP nk cP):=⟨h.x.cell 0,h.l.cell 0,h.p.cell 0⟩
theorem Qv.pure(h:Qv M A m c l AN nk keys AP cP bx bl bp w o)(hb:Below w.heap.size w w'):Qv M A m c l AN nk keys AP cP bx bl bp w' (Bl o w.heap.size 0):=h.to_ (To.fresh (fun _=>False) hb o 0) id
end
theorem aA(M:Bp)(fl:Int)(b:Bd)(keys:List (List UInt8))(kvs vs:List Bv)(k bx bk:Nat)(w:World)(o:Nat→Nat)(h:BM M fl w o b)(hx:Bb w bx 104 #[Aca M.β])(hb:Bb w bk 3 #[Aa Ab (k:Int)])(hox:o bx=0)(hE:Zm keys kvs vs k b):
  Calls Ad 204 #[Aca bx,Aca bk] w (D3 M fl (Bd.table (bits fl) (C3 keys) kvs vs { b with s:=b.s.take k}) w o):=by
 have HM:=Hd h;have HX:=Hd hx;have cg:=Hd hox;have H:=Hd hE;obtain⟨m,hm⟩:∃m,(b.s.drop k).length=m:=⟨_,rfl⟩;obtain⟨nk,ax⟩:∃n,keys.length=n:=⟨_,rfl⟩;have ce:=Hd hm;have t:=Hd ax;have bu:m≤b.s.length∧b.s.length-m=k:=by have h1:=hE.hk;rw [List.length_drop] at hm;omega
 have a9:=Hd bu;have P:=Hd (show m=2*nk by have h1:=Pk kvs vs (hE.kl.trans hE.vl.symm);rw [←hE.cut,hm,hE.kl,ax] at h1;exact h1);have r:=Hd (show m≤65536 by have:=hE.hs;omega);have f:w.cell? ⟨bx,0,none⟩=some (Aca M.β):=hx.cell 0;have y:w.cell? ⟨bk,0,none⟩=some (Aa Ab (k:Int)):=hb.cell 0;clear h hx hb hox hE hm bu ax;go_enter func204,ntmps204;go_wp2_with fail;go_at_call 200;refine(Us M fl b k _ o HM.o H.o.hk).mono ?_;rintro e w1 ⟨A,c,rfl,hO,hb⟩;rw [ce.o] at hO⊢;have a:=hb.alloc hb.size (.cells #[.slice A m c] 144);have C:=Hd (Bb.new w1 144 #[.slice A m c]);have ah:=Hd (hO.is.pure ((Af w1.heap.size w1).alloc (Ae _) (.cells #[.slice A m c] 144)));have z:=Hd (show(∀ad,A=some ad→ad.block<(w1.alloc (.cells #[.slice A m c] 144)).heap.size∧Bl o w.heap.size 0 ad.block=0) from fun ad e=>⟨by have h1:=(hO.addr ad e).2.2;rw [J3];omega,Bo (hO.addr ad e).2.1⟩);have N:=Hd (HM.o.fresh a 0);have Q:=Hd (HX.o.pure a);have an:=Hd (To.fresh Dg a o 0);have X:=Hd (show Bl o w.heap.size 0 bx=0 from(Bs HX.o.lt).trans cg.o);have D:=Hd (show Bl o w.heap.size 0 w1.heap.size=0 from Bo hb.size);clear hO hb a f y;go_upto_region 1 with fail
 generalize w1.alloc (.cells #[.slice A m c] 144)=w2 at C ah z N Q an⊢;generalize Bl o w.heap.size 0=o1 at z N an X D;generalize w1.heap.size=bl at C D⊢;have f:w2.cell? ⟨bx,0,none⟩=some (Aca M.β):=Q.o.cell 0;have I:w2.cell? ⟨bl,0,none⟩=some (.slice A m c):=C.o.cell 0;go_wp2_with fail;go_at_call 205;refine(kG M fl b A m c (b.s.drop k) keys _ o1 N.o ah.o (by have:=r.o;omega) H.o.namedV).mono ?_;rintro e w3 ⟨AN,cN,rfl,E,hb⟩;rw [t.o] at E⊢;have a7:=Hd (N.o.fresh hb 0);have bf:=Hd (Q.o.pure hb);have a6:=Hd (C.o.pure hb);have a3:=Hd (ah.o.pure hb);have g:=Hd (show(∀ad,A=some ad→ad.block<w3.heap.size∧Bl o1 w2.heap.size 0 ad.block=0) from fun ad e=>⟨Ar (z.o ad e).1 hb.size,(Bs (z.o ad e).1).trans (z.o ad e).2⟩);have d:=Hd (show(∀ad,AN=some ad→ad.block<w3.heap.size∧Bl o1 w2.heap.size 0 ad.block=0) from fun ad e=>⟨(E.addr ad e).2.2,Bo (E.addr ad e).2.1⟩);have V:=Hd E.is;have be:=Hd (an.o.trans (To.fresh Dg hb o1 0));have Y:=Hd (show Bl o1 w2.heap.size 0 bx=0 from(Bs Q.o.lt).trans X.o);have U:=Hd (show Bl o1 w2.heap.size 0 bl=0 from(Bs C.o.lt).trans D.o);clear E hb f I;generalize Bl o1 w2.heap.size 0=o3 at a7 g d be Y U;go_wp2_with fail;go_at_call 145;refine(Vt AN nk cN keys w3 V.o (fun ad e=>(d.o ad e).1) (by have h1:=P.o;have h2:=r.o;omega) (H.o.up.imp fun h e=>by rw [e] at h;exact List.lt_irrefl _ h)).mono ?_;rintro e w4 ⟨T,Z,ps,rfl,F,hp,ha,hb⟩;obtain rfl:ps=List.range nk:=tC keys t.o (by rw [←t.o];exact hp) ha H.o.up;rw [t.o] at F⊢;have a:=hb.alloc hb.size (.cells #[.slice T nk Z] 118);have B:=Hd (show Qv M A m c (b.s.drop k) AN nk keys T Z bx bl w4.heap.size (w4.alloc (.cells #[.slice T nk Z] 118)) (Bl o3 w3.heap.size 0) from
  ⟨bf.o.pure a,a6.o.pure a,Bb.new _ _ _,(Bs bf.o.lt).trans Y.o,(Bs a6.o.lt).trans U.o,Bo hb.size,a3.o.pure a,V.o.pure a,F.is.pure ((Af _ _).alloc (Ae _) _),
   fun ad e=>⟨Ar (g.o ad e).1 a.size,(Bs (g.o ad e).1).trans (g.o ad e).2⟩,fun ad e=>⟨Ar (d.o ad e).1 a.size,(Bs (d.o ad e).1).trans (d.o ad e).2⟩,fun ad e=>⟨by have h1:=(F.addr ad e).2.2;rw [J3];omega,Bo (F.addr ad e).2.1⟩⟩)
 have aj:=Hd (a7.o.fresh a 0);have ao:=Hd (be.o.trans (To.fresh Dg a o3 0));clear hb F hp ha a;go_upto_region 3 with fail
 generalize w4.alloc (.cells #[.slice T nk Z] 118)=w5 at B aj ao⊢;generalize Bl o3 w3.heap.size 0=o5 at B aj ao;generalize w4.heap.size=bp at B⊢;obtain⟨f,y,I⟩:=B.o.cells;go_wp2_with fail;go_at_call 131;refine(Ho aj.o).mono ?_;rintro e w6 ⟨rfl,o6,bg,ar⟩;have ak:=Hd bg;have a1:=Hd (B.o.to_ ar Co);have cl:=Hd (ao.o.trans ar);clear bg ar f y I;obtain⟨f,y,I⟩:=a1.o.cells;obtain⟨c0,c1,c2,c9,_⟩:=ak.o.head.cells;go_wp2_with fail;go_region_held3 (fun w'=>w'.cell? ⟨bx,0,none⟩=some (Aca M.β)∧w'.cell? ⟨M.β,1,none⟩=some (Aca M.sb)∧w'.cell? ⟨bl,0,none⟩=some (.slice A m c)) (first|with_reducible exact⟨f,c1,y⟩|with_reducible exact⟨Bc f,Bc c1,Bc y⟩|with_reducible exact⟨y0,d1,y1⟩) (first|(go_at_call 201;(with_reducible refine(gQ M.sb m b.s _ o6 ak.o.drew.stk a9.o.1 r.o).mono ?_);rintro e q ⟨⟨A7,n7,c7,rfl⟩,o7,bj,bm⟩;have i:=bm.from_drew;have ap:=a1.o.to_ i (by omega);obtain⟨y0,y1,_⟩:=ap.cells;have aq:=ak.o.stk_ i bj;have d1:=aq.head.cells.2.1;have a8:=Hd aq;have L:=Hd ap;have cm:=Hd (cl.o.trans (i.mono fun _ h=>iP h));clear bj bm i ap aq));clear f y I c0 c1 c2 c9 y0 y1 d1;rw [a9.o.2] at a8;have bn:=(Af q.heap.size q).alloc (Ae _) (.cells #[.pointer none,.slice none 0 0] 237);have al:=Hd (zZ q);have aa:=Hd bn;clear bn;obtain⟨f,y,I⟩:=L.o.cells;go_upto_region 8 with fail
 generalize q.alloc (.cells #[.pointer none,.slice none 0 0] 237)=w8 at al aa⊢;obtain⟨f,y,I⟩:=(L.o.pure aa.o).cells;generalize br:q.heap.size=bb at al⊢;have J:=Hd br;have cy:nk≤65536:=by have h1:=P.o;have h2:=r.o;omega
 clear br;go_wp2_with fail;go_loopw [43] (fun u wr=>∃j:Nat,j≤nk∧u= Aa Ab (j:Int)∧fG wr bb bb (C3 (keys.take j))∧Below q.heap.size q wr) (fun u _=>nk-(intOf u).toNat)
 case atStart=>exact⟨0,Nat.zero_le _,rfl,al.o,aa.o⟩
 case round=>
  obtain⟨j,hj,rfl,bw,av⟩:=hrel;have am:=Hd bw;have K:=Hd av;have ag:=Hd (L.o.pure av);clear bw av f y I;obtain⟨f,y,I⟩:=ag.o.cells;by_cases bt:j<nk
  ·obtain⟨g1,dn,e1,cw,y0⟩:=Rm ag.o.ip bt;rw [List.getElem_range] at y0;obtain⟨g2,dp,e2,bs,y1⟩:=Gc ag.o.is_ bt;obtain⟨s,hs⟩:∃s,keys[j]=s:=⟨_,rfl⟩;rw [hs] at y1;have HT:=Hd (show C3 (keys.take (j+1))=C3 (keys.take j)++(s++ [0]) by rw [Az bs,hs,Vh,kB]);have aw:(C3 (keys.take j)).length+(s++ [0]).length≤1048576:=by
    have h1:=H.o.len;rw [←List.take_append_drop (j+1) keys,Vh,HT.o,Ak,Ak] at h1;omega
   have ca:=Hd aw;have dm:s.length≤1048576:=by rw [Ak] at aw;omega
   have dk:(0:Int)≤(j:Int):=by omega
   have dl:(j:Int)<(nk:Int):=by omega
   have dd:=Hd (And.intro e1 e2);rw [e1,e2];clear hs cw bs e1 e2 aw;go_wp2_with fail;go_at_call 207;refine(qQ bb bb (C3 (keys.take j)) (s++ [0]) wr am.o ca.o (by rw [←J.o];exact K.o.size)).mono ?_;rintro e w9 ⟨⟨x,rfl⟩,bv,bo⟩;have cj:=Hd bv;have b6:=Hd (show Below q.heap.size q w9 from K.o.trans (by rw [J.o];exact bo));clear bv bo;go_wp2_with fail;go_roundw
   case rel=>exact⟨j+1,by omega,by go_num,by rw [HT.o];exact cj.o,b6.o⟩
   case measure=>simp [intOf];omega
  ·obtain rfl:j=nk:=by omega
   have b8:=Hd (show keys.take j=keys from Aw (by rw [t.o];exact Ae _));rw [b8.o] at am;have cx:=K.o.size;have bd:=Hd (show fG wr.drew bb bb (C3 keys) from am.o);have b7:=Hd (show ∀wa,Below bb wr.drew wa→Below q.heap.size q wa from fun wa h=>K.o.drew.trans (by rw [J.o];exact h));have ba:=Hd (show(List.range j).map (N0 (b.s.drop k) 0)=kvs∧(List.range j).map (N0 (b.s.drop k) 1)=vs by
    have h1:=oT kvs vs (H.o.kl.trans H.o.vl.symm);rw [H.o.kl,t.o] at h1;rw [H.o.cut];exact h1)
   have ch:=Hd (show ∀W O,Qv M A m c (b.s.drop k) AN j keys T Z bx bl bp W O→Calls Ad 206 #[Aa Ab 0,Aca bp,Aca bl] W (iI W j kvs) from fun W O h=>by
    have h1:=U5 bp bl 0 T j Z (List.range j) A m c (b.s.drop k) W h.p h.l h.ip h.iv (by omega) (by omega) (fun p hp=>by have h2:=List.mem_range.1 hp;have h3:=P.o;omega) (by have:=r.o;omega);rw [ba.o.1] at h1;exact h1)
   have ci:=Hd (show ∀W O,Qv M A m c (b.s.drop k) AN j keys T Z bx bl bp W O→Calls Ad 206 #[Aa Ab 1,Aca bp,Aca bl] W (iI W j vs) from fun W O h=>by
    have h1:=U5 bp bl 1 T j Z (List.range j) A m c (b.s.drop k) W h.p h.l h.ip h.iv (by omega) (by omega) (fun p hp=>by have h2:=List.mem_range.1 hp;have h3:=P.o;omega) (by have:=r.o;omega);rw [ba.o.2] at h1;exact h1)
   have ck:=Hd (show bb≤wr.drew.heap.size by rw [←J.o];exact cx);clear y I;go_wp2_with fail;go_region_held3 (fun w'=>w'.cell? ⟨bx,0,none⟩=some (Aca M.β)) (first|with_reducible exact f|with_reducible exact Bc f|with_reducible exact y0|with_reducible exact z0|with_reducible exact q0|with_reducible exact r0) (first
    |(go_at_call 209;(with_reducible refine(Zv bb bb (C3 keys) wr.drew bd.o ck.o).mono ?_);rintro e wa ⟨rfl,bq⟩;have ab:=Hd (b7.o wa bq);have ae:=Hd (L.o.pure ab.o);have cb:=Hd (a8.o.fresh ab.o 0);have cn:=Hd (cm.o.trans (To.fresh Dg ab.o o7 0));have y0:=ae.o.cells.1;clear bq)
    |(go_at_call 206;(with_reducible refine(ch.o wa _ ae.o).mono ?_);rintro e wb ⟨AK,cK,rfl,R,G⟩;have dc:=Hd G;have b9:=Hd R.is;have ai:=Hd (show ∀ad,AK=some ad→ad.block<wb.heap.size∧Bl (Bl o7 q.heap.size 0) wa.heap.size 0 ad.block=0 from fun ad e=>⟨(R.addr ad e).2.2,Bo (R.addr ad e).2.1⟩);have af:=Hd (ae.o.pure G);have cc:=Hd (cb.o.fresh G 0);have co:=Hd (cn.o.trans (To.fresh Dg G _ 0));have z0:=af.o.cells.1;clear R G)
    |(go_at_call 206;(with_reducible refine(ci.o wb _ af.o).mono ?_);rintro e wc ⟨AV,cV,rfl,S,v⟩;have cs:=Hd S.is;have cr:=Hd (show ∀ad,AV=some ad→ad.block<wc.heap.size∧Bl (Bl (Bl o7 q.heap.size 0) wa.heap.size 0) wb.heap.size 0 ad.block=0 from fun ad e=>⟨(S.addr ad e).2.2,Bo (S.addr ad e).2.1⟩);have a5:=Hd (b9.o.pure v);have a4:=Hd (show ∀ad,AK=some ad→ad.block<wc.heap.size∧Bl (Bl (Bl o7 q.heap.size 0) wa.heap.size 0) wb.heap.size 0 ad.block=0 from fun ad e=>⟨Ar (ai.o ad e).1 v.size,(Bs (ai.o ad e).1).trans (ai.o ad e).2⟩);have a2:=Hd (af.o.pure v);have cd:=Hd (cc.o.fresh v 0);have cp:=Hd (co.o.trans (To.fresh Dg v _ 0));have q0:=a2.o.cells.1;clear S v)
    |(go_at_call 208;(with_reducible refine(kX M fl { b with s:=b.s.take k} (C3 keys) AK j cK kvs AV j cV vs wc _ cd.o a5.o a4.o cs.o cr.o H.o.tab).mono ?_);rintro e wz ⟨rfl,oz,bh,au⟩;have r0:wz.cell? ⟨bx,0,none⟩=some (Aca M.β):=(a2.o.to_ au Co).cells.1;have cf:=Hd bh;have cq:=Hd (cp.o.trans au);clear bh au))
   go_wp2_with fail;go_end0;exact⟨rfl,oz,cf.o,cq.o⟩
theorem eC(M:Bp)(fl:Int)(b:Bd)(keys:List (List UInt8))(kvs vs:List Bv)(k:Nat)(w:World)(o:Nat→Nat)(h:BM M fl w o b)(hE:Zm keys kvs vs k b):
  Calls Ad 127 #[Aca M.β,Aa Ab (k:Int)] w (D3 M fl (b.endMap (bits fl) keys k) w o):=by
 have a:=Bq w (.cells #[Aca M.β] 104) (.cells #[Aa Ab (k:Int)] 3);have f:=Hd a;have i:=Hd (h.fresh a 0);have d:b.endMap (bits fl) keys k=Bd.table (bits fl) (C3 keys) kvs vs { b with s:=b.s.take k}:=by
  obtain⟨h1,h2⟩:=Je kvs vs (hE.kl.trans hE.vl.symm);rw [Z9,hE.cut,h1,h2]
 rw [d];have g:=Hd (aA M fl b keys kvs vs k w.heap.size (w.heap.size+1) _ (Bl o w.heap.size 0) (h.fresh a 0) ((Bb.new w 104 #[Aca M.β]).alloc _) (Cv w _ 3 #[Aa Ab (k:Int)]) (Bo (by omega)) hE);clear h hE a d;go_enter func127,ntmps127;go_wp2_with fail;go_at_call 193;refine(Eb M fl 204 _ _ (Bl o w.heap.size 0) b.vals _ i.o.head Tryz.call204 (g.o.mono fun e w' h=>⟨h.1,h⟩)).mono ?_;rintro e w' c;obtain rfl:=c.1;have j:=Hd (c.from_fresh f.o);clear c;go_wp2;go_end0;exact j.o
theorem iW(M:Bp)(fl:Int)(b:Bd)(s:List UInt8)(bx bs:Nat)(w:World)(o:Nat→Nat)(h:BM M fl w o b)(hc:Ul M s bx bs w o)(hr:R7 b s)(hz:Cl s=false):
  Calls Ad 202 #[Aca bx,Aca bs] w (D3 M fl (b.key (bits fl) s) w o):=by
 have J:=Hd h;have K:=Hd hr;have f:=Hd hc;have L:=Hd hz;have q:=Hd (fun(a:Nat) (x:Bd) (W:World) (O:Nat→Nat) (hM:BM M fl W O x) (hs:x.s.length<65536)=>(show Calls Ad 203 #[Aca M.β,.agg #[Aa Ab 4,Aa Ab 1,Aa Ac (a:Int)]] W (D3 M fl (x.push ⟨4,1,a⟩) W O) from Nh M fl x 4 1 a W O hM hs));have t:=Hd (show(b.put (bits fl) s).1.s.length<65536 by
  have:=hr.st;unfold Bd.put;split <;>exact this)
 obtain⟨G,H⟩:=hc.cells;clear h hr hc hz;go_enter func202,ntmps202;go_wp2_with fail;go_region_held3 (fun w'=>w'.cell? ⟨bx,0,none⟩=some (Aca M.β)∧w'.cell? ⟨bs,0,none⟩=some (.string ⟨s.toArray⟩)) (first|with_reducible exact⟨G,H⟩|with_reducible exact⟨Bc G,Bc H⟩|with_reducible exact⟨N,P⟩|with_reducible exact⟨Q,R⟩) (first|(go_at_call 196;(with_reducible refine(mD M fl b s _ o J.o.drew K.o L.o).mono ?_);rintro e F ⟨a,D,rfl,z,j,c⟩;have i:=f.o.x.to_ c.from_drew (by rw [f.o.ox];exact Co);have g:=f.o.s.to_ c.from_drew (by rw [f.o.os];exact Co);have N:F.cell? ⟨bx,0,none⟩=some (Aca M.β):=i.cell 0;have P:F.cell? ⟨bs,0,none⟩=some (.string ⟨s.toArray⟩):=g.cell 0;have B:z bx=0:=(c.from_drew.ow _ f.o.x.lt).trans f.o.ox;have A:z bs=0:=(c.from_drew.ow _ f.o.s.lt).trans f.o.os;have y:=Hd i;have r:=Hd g;have n:=Hd j;have u:=Hd c.from_drew;have I:=Hd D;clear j c i g D)|(go_at_call 203;(with_reducible refine(q.o a _ _ z n.o t.o).mono ?_);rintro e C ⟨rfl,E,k,d⟩;have m:=y.o.to_ d (by rw [B];exact Co);have l:=r.o.to_ d (by rw [A];exact Co);have Q:C.cell? ⟨bx,0,none⟩=some (Aca M.β):=m.cell 0;have R:C.cell? ⟨bs,0,none⟩=some (.string ⟨s.toArray⟩):=l.cell 0;have p:=Hd k;have v:=Hd (u.o.trans d);clear k d m l));go_wp2;go_end0;refine⟨rfl,E,?_,v.o⟩;show BM M fl C E ((b.put (bits fl) s).1.push (b.put (bits fl) s).2);rw [I.o];exact p.o
theorem Xw(M:Bp)(fl:Int)(b:Bd)(s:List UInt8)(w:World)(o:Nat→Nat)(h:BM M fl w o b)(hr:R7 b s)(hz:Cl s=false):
  Calls Ad 126 #[Aca M.β,.string ⟨s.toArray⟩] w (D3 M fl (b.key (bits fl) s) w o):=by
 have a:=Hd hr;have j:=Hd hz;have c:=Bq w (.cells #[Aca M.β] 104) (.cells #[.string ⟨s.toArray⟩] 9);have g:=Hd c;have f:=Hd (h.fresh c 0);have i:=Hd (Xm M s w o);clear h hr c hz;go_enter func126,ntmps126;go_wp2_with fail;go_at_call 193;refine(Eb M fl 202 _ _ (Bl o w.heap.size 0) b.vals _ f.o.head Tryz.call202 ((iW M fl b s w.heap.size (w.heap.size+1) _ (Bl o w.heap.size 0) f.o i.o a.o j.o).mono fun e w' h=>⟨h.1,h⟩)).mono ?_;rintro e w' d;obtain rfl:=d.1;have a:=Hd (d.from_fresh g.o);clear d;go_wp2;go_end0;exact a.o
def iB(w:World)(m:List UInt8)(e:Ending)(w':World):Prop:=∃A n c,e= .returned (.tuple #[.slice A n c,Aa Ab 0])∧Gp w' w.heap.size A n c m∧Below w.heap.size w w'
theorem mP{W:World}{m:List UInt8}{e:Ending}(hB:Below w.heap.size w W)(h:iB W m e w'):iB w m e w':=by
 obtain⟨A,n,c,he,hO,hB'⟩:=h;exact⟨A,n,c,he,hO.rebase hB.size,B5 hB hB'⟩
theorem jZ(M:Bp)(fl:Int)(b:Bd)(k n:Int)(u:Nat)(s:List UInt8)(A:Option Addr)(an ac:Nat)(B:Option Addr)(bn bc:Nat)(w:World)(o:Nat→Nat)(h:BM M fl w o b)(hrs:Uk b s)(hrk:R7 b s)
  (hk:k=5∨k=6∨k=7) (hz:k=5→Cl s=false):
  Calls Ad 128 #[Aca M.β,.agg (Ab8 k n u s A an ac B bn bc)] w (D3 M fl (b.leaf (bits fl) k n u s) w o):=by
 have d:=Hd (show Below w.heap.size w (w.alloc (.cells (Ab8 k n u s A an ac B bn bc) 34)) from(Af _ _).alloc (Ae _) _);have f:=Hd (h.pure d.o);have g:=Hd hrs;have j:=Hd hrk;have l:=Hd hz;clear h hrs hrk hz;rcases hk with rfl|rfl|rfl
 ·go_enter func128,ntmps128;go_wp2_with fail;go_at_call 126;refine(Xw M fl b s _ o f.o j.o (l.o (by first|rfl|trivial))).mono ?_;rintro e i a;obtain rfl:=a.1;have c:=Hd (a.from_pure d.o);clear a;go_wp2_with fail;go_end0;have h:=c.o;unfold Bd.leaf;simpa using h
 ·go_enter func128,ntmps128;go_wp2_with fail;go_at_call 216;refine(mE M fl b s _ o f.o g.o).mono ?_;rintro e i a;obtain rfl:=a.1;have c:=Hd (a.from_pure d.o);clear a;go_wp2_with fail;go_end0;have h:=c.o;unfold Bd.leaf;simpa using h
 ·go_enter func128,ntmps128;go_wp2_with fail;go_at_call 217;refine(iS M fl b s _ o f.o g.o).mono ?_;rintro e i a;obtain rfl:=a.1;have c:=Hd (a.from_pure d.o);clear a;go_wp2_with fail;go_end0;have h:=c.o;unfold Bd.leaf;simpa using h
structure Ui(M:Bp)(x:Nv)(bx bn:Nat)(w:World)(o:Nat→Nat):Prop where
 bx_:Bb w bx 104 #[Aca M.β]
 bn_:Bb w bn 34 (Ab7 x)
 ox:o bx=0
 on:o bn=0
theorem Ui.to_{o':Nat→Nat}(h:Ui M x bx bn w o)(ht:To I w o w' o')(h0:¬I 0):Ui M x bx bn w' o':=
 ⟨h.bx_.to_ ht (by rw [h.ox];exact h0),h.bn_.to_ ht (by rw [h.on];exact h0),(ht.ow _ h.bx_.lt).trans h.ox,(ht.ow _ h.bn_.lt).trans h.on⟩
theorem Ui.cells(h:Ui M x bx bn w o):w.cell? ⟨bx,0,none⟩=some (Aca M.β)∧w.cell? ⟨bn,0,none⟩=some (Aa Ab x.k)∧w.cell? ⟨bn,1,none⟩=some (Aa Ab x.n)∧w.cell? ⟨bn,2,none⟩=some (Aa Ac (x.u:Int))∧w.cell? ⟨bn,3,none⟩=some (.string ⟨x.s.toArray⟩)∧w.cell? ⟨bn,4,none⟩=some (.slice x.A x.an x.ac)∧w.cell? ⟨bn,5,none⟩=some (.slice x.B x.bn x.bc):=
 ⟨h.bx_.cell 0,h.bn_.cell 0,h.bn_.cell 1,h.bn_.cell 2,h.bn_.cell 3,h.bn_.cell 4,h.bn_.cell 5⟩
theorem Wk(M:Bp)(x:Nv)(w:World)(o:Nat→Nat):Ui M x w.heap.size (w.heap.size+1) ((w.alloc (.cells #[Aca M.β] 104)).alloc (.cells (Ab7 x) 34)) (Bl o w.heap.size 0):=
 ⟨(Bb.new w 104 #[Aca M.β]).alloc _,Cv w _ 34 (Ab7 x),Bo (Ae _),Bo (by omega)⟩
theorem rC(M:Bp)(fl:Int)(b:Bd)(x:Nv)(vs:List Nv)(w:World)(o:Nat→Nat)(h:BM M fl w o b)(hI:It w x.B x.bn vs)(hk:x.k=16)(hn3:x.bn=2∨x.bn=3∨x.bn=4)(hs:b.s.length<65536)(hbd:∀y∈vs.map Nv.u,y<18446744073709551616)(hl:b.b.length+40+9*(vs.map Nv.u).length≤1048576):
  Calls Ad 70 #[Aca M.β,.agg (Ab7 x)] w (D3 M fl (b.vec (11+3*x.bn) false false ((vs.map Nv.u).map Ds)) w o):=by
 have K:=Hd hn3;have P:x.bn≤1000000:=by omega
 clear hn3;obtain⟨k,n,u,s,t,g,f,v,d,i⟩:=x;obtain rfl:16=k:=hk.symm;have HN:=Hd P;have L:=Hd hs;have H:=Hd hl;have E:=Hd hbd;have C:=Bq w (.cells #[Aca M.β] 104) (.cells (Ab7 (⟨16,n,u,s,t,g,f,v,d,i⟩:Nv)) 34);have m:=Hd (To.fresh Dg C o 0);have l:=Hd (h.fresh C 0);have a:=Hd (Wk M ⟨16,n,u,s,t,g,f,v,d,i⟩ w o);have r:=Hd (lA ⟨16,n,u,s,t,g,f,v,d,i⟩ vs _ (hI.pure C.drew) P);clear h hI hk P hs hl hbd C;go_enter func70,ntmps70;go_upto_region 1 with fail
 generalize (w.alloc (.cells #[Aca M.β] 104)).alloc (.cells (Ab7 (⟨16,n,u,s,t,g,f,v,d,i⟩:Nv)) 34)=w1 at m l a r⊢;generalize Bl o w.heap.size 0=o1 at m l a;generalize w.heap.size+1=bn at a⊢;generalize w.heap.size=bx at a⊢;obtain⟨R,S,T,U,V,W,X⟩:=a.o.cells;go_wp2_with fail;go_region_held3 (fun w'=>w'.cell? ⟨bx,0,none⟩=some (Aca M.β)∧w'.cell? ⟨bn,0,none⟩=some (Aa Ab 16)∧w'.cell? ⟨bn,1,none⟩=some (Aa Ab n)∧w'.cell? ⟨bn,2,none⟩=some (Aa Ac (u:Int))∧w'.cell? ⟨bn,3,none⟩=some (.string ⟨s.toArray⟩)∧w'.cell? ⟨bn,4,none⟩=some (.slice t g f)∧w'.cell? ⟨bn,5,none⟩=some (.slice v d i)) (first|with_reducible exact⟨R,S,T,U,V,W,X⟩|with_reducible exact⟨Bc R,Bc S,Bc T,Bc U,Bc V,Bc W,Bc X⟩|with_reducible exact⟨y0,y1,y2,y3,y4,y5,y6⟩|with_reducible exact⟨z0,z1,z2,z3,z4,z5,z6⟩) (first
  |(go_at_call 112;(with_reducible refine r.o.mono ?_);rintro e wa ⟨A,c,rfl,D,Q⟩;have j:Below w1.heap.size w1 wa:=((Af w1.heap.size w1).drew).trans Q;have q:=a.o.to_ (To.fresh Dg j o1 0) Co;obtain⟨y0,y1,y2,y3,y4,y5,y6⟩:=q.cells;have F:=Hd q;have I:=Hd (l.o.fresh j 0);have N:=Hd (m.o.trans (To.fresh Dg j o1 0));have G:=Hd D.is;have Y:=Hd (show ∀ad,A=some ad→ad.block<wa.heap.size∧Bl o1 w1.heap.size 0 ad.block=0 from fun ad e=>⟨(D.addr ad e).2.2,Bo (D.addr ad e).2.1⟩);clear D Q j q)
  |(go_at_call 121;(with_reducible refine(Za M fl b A d c (vs.map Nv.u) wa _ I.o G.o K.o L.o E.o H.o).mono ?_);rintro e wz ⟨rfl,Z,z,p⟩;obtain⟨z0,z1,z2,z3,z4,z5,z6⟩:=(F.o.to_ p Co).cells;have J:=Hd z;have O:=Hd (N.o.trans p);clear z p))
 go_wp2_with fail;go_end0;refine⟨rfl,Z,?_,O.o⟩;rw [←List.map_map];exact J.o
def iD(t:Tr):Prop:=(-9223372036854775808≤t.n∧t.n≤9223372036854775807)∧t.u<18446744073709551616
inductive F0:Tr→Prop
 |leaf {k n:Int} {u:Nat} (s:List UInt8) (ks c) (h1:1≤k) (h2:k≤9) (hn:(-9223372036854775808≤n∧n≤9223372036854775807)∧u<18446744073709551616) (hz:k=5→Cl s=false):F0 (.mk k n u s ks c)
 |flat {k:Int} {c:List Tr} (n u s ks) (h1:11≤k) (h2:k≤16) (hn:∀t∈c,iD t) (hz:k=13→∀t∈c,Cl t.s=false) (hf:k=15∨k=16→c.length=2∨c.length=3∨c.length=4):F0 (.mk k n u s ks c)
 |vec {c:List Tr} (n u s ks) (h:∀t∈c,F0 t):F0 (.mk 10 n u s ks c)
 |map {c:List Tr} {ks:List (List UInt8)} (n u s) (hl:ks.length=c.length) (h0:∀x∈ks,Cl x=false) (hu:ks.Pairwise (· < ·)) (h:∀t∈c,F0 t):F0 (.mk 17 n u s ks c)
theorem sB{α:Type}{p:Nat→Prop}{vs:List Nv}{l:List Tr}(hl:vs.length=l.length)(hc:∀(i:Nat) v t,vs[i]?=some v→l[i]?=some t→B7 w p v t){f:Tr→α}{g:Nv→α}(hfg:∀v t,B7 w p v t→f t=g v):l.map f=vs.map g:=by
 apply List.ext_getElem (by simp [hl]);intro i h1 h2;rw [List.getElem_map,List.getElem_map];exact hfg _ _ (hc i _ _ (Ai (by simpa using h2)) (Ai (by simpa using h1)))
end
section
open Go.Acc
end
section
open Go.RowKit Go.Acc
theorem aW(M:Bp)(fl:Int)(b:Bd)(x:Nv)(k n:Int)(u:Nat)(s:List UInt8)(ks:List (List UInt8))(c:List Tr)(w:World)(o:Nat→Nat)(p:Nat→Prop)(h:BM M fl w o b)(hR:B7 w p x (.mk k n u s ks c))(h1:1≤k)(h2:k≤9)
  (hn:(-9223372036854775808≤n∧n≤9223372036854775807)∧u<18446744073709551616) (hz:k=5→Cl s=false) (hm:b.size+64+s.length≤65000):
  Calls Ad 70 #[Aca M.β,.agg (Ab7 x)] w (D3 M fl (b.leaf (bits fl) k n u s) w o):=by
 obtain⟨g,d,f,e,_,_⟩:=hR.fields;have g:k=x.k:=g;have d:n=x.n:=d;have f:u=x.u:=f;have e:s=x.s:=e;subst g d f e;have j:b.b.length+b.s.length+b.keys.length+b.texts.length+b.names.length≤b.size:=by unfold Bd.size;omega
 refine Wi M fl _ x.k x.n x.u x.s x.A x.an x.ac x.B x.bn x.bc w o ⟨h1,h2⟩ (fun W hB=>?_);have a:(x.k=1∨x.k=2∨x.k=3∨x.k=4∨x.k=8∨x.k=9)∨(x.k=5∨x.k=6∨x.k=7):=by omega
 rcases a with i|i
 ·exact jY M fl _ b x.k x.n x.u x.s x.A x.an x.ac x.B x.bn x.bc W o (h.pure hB) (by omega) (by omega) hn.1 hn.2 i
 ·exact jZ M fl b x.k x.n x.u x.s x.A x.an x.ac x.B x.bn x.bc W o (h.pure hB) ⟨by omega,by omega,by omega⟩ ⟨by omega,by omega,by omega,by omega⟩ i hz
end
section
open Go.Acc
theorem F0.ok(h:F0 t):Ok t:=by
 induction h with
 |leaf s ks c h1 h2 hn hz=>exact .leaf _ _ _ _ _ h1 h2
 |flat n u s ks h1 h2 hn hz hf=>exact .flat _ _ _ _ _ h1 h2
 |vec n u s ks h ih=>exact .vec _ _ _ _ ih
 |map n u s hl h0 hu h ih=>exact .map _ _ _ hl (fun x hx=>Mg (h0 x hx)) ih
theorem F0.fix(h:F0 t):Zg t:=by
 cases h with
 |leaf s ks c h1 h2 hn hz=>
  rename_i k n u;intro hk;have hk:k=15∨k=16:=hk;omega
 |flat n u s ks h1 h2 hn hz hf=>exact fun hk=>hf hk
 |vec n u s ks h=>
  intro hk;have hk:(10:Int)=15∨(10:Int)=16:=hk;omega
 |map n u s hl h0 hu h=>
  intro hk;have hk:(17:Int)=15∨(17:Int)=16:=hk;omega
theorem Ss(f:Nat):∀(l:List Tr) (t:Tr) (b:Bd),Bd.callsL f (l++ [t]) b=Bd.calls f t (Bd.callsL f l b)
 | [],t,b=>by simp [Bd.callsL]
 |x::r,t,b=>by rw [List.cons_append,Bd.callsL,Ss f r t,Bd.callsL]
theorem Rb:∀(l m:List Tr),Tr.costL (l++m)=Tr.costL l+Tr.costL m
 | [],m=>by simp [Tr.costL]
 |x::r,m=>by rw [List.cons_append,Tr.costL,Tr.costL,Rb r m];omega
theorem gH{l:List UInt8}(hl:vs.length=c.length)(h:∀(i:Nat) x t,vs[i]?=some x→c[i]?=some t→Ft l x t)(hf:∀t∈c,Zg t)(hm:l.length+40+9*vs.length≤1048576):E5 vs l:=by
 have a:∀v∈vs,∃t∈c,Ft l v t:=by
  intro v a;obtain⟨i,b,e⟩:=List.getElem_of_mem a;exact⟨c[i]'(by omega),List.getElem_mem _,h i v _ (by rw [Ai b,e]) (Ai (by omega))⟩
 refine⟨fun v hm=>?_,fun v hm=>?_,Qg hl h,hm⟩
 ·obtain⟨t,ht,r⟩:=a v hm;exact(r.legal (hf t ht)).1
 ·obtain⟨t,ht,r⟩:=a v hm;exact(r.legal (hf t ht)).2.1
end
section
open Go.RowKit Go.Acc
def Ew(t:Tr):Prop:=∀(M:Bp) (fl:Int) (b:Bd) (x:Nv) (w:World) (o:Nat→Nat) (p:Nat→Prop),BM M fl w o b→Dh b→Ic b→B7 w p x t→(∀k,p k→k<w.heap.size∧o k=0)→b.size+t.cost≤65000→
 Calls Ad 70 #[Aca M.β,.agg (Ab7 x)] w (D3 M fl (Bd.calls (bits fl) t b) w o)
theorem nR(f:Nat)(hO:∀t∈c,F0 t)(hg:Dh b)(hn:Ic b)(hm:b.size+Tr.costL c≤65000)(j:Nat):
  Dh (Bd.callsL f (c.take j) b)∧Ic (Bd.callsL f (c.take j) b)∧(∀t,c[j]?=some t→(Bd.callsL f (c.take j) b).size+t.cost≤65000):=by
 have a:∀t∈c.take j,N6 f t:=fun t ht=>Ey f t (hO t (List.mem_of_mem_take ht)).ok
 obtain⟨vs,_,_,g,_⟩:=Kk f (c.take j) a b hg;refine⟨g.2,(Mu f (c.take j) a (fun t ht=>N9 f t (hO t (List.mem_of_mem_take ht)).ok) b hg hn).ok,fun t ht=>?_⟩;have h1:=Li f (c.take j) a (fun t ht=>Km f t (hO t (List.mem_of_mem_take ht)).ok) b hg;obtain⟨d,e⟩:=List.getElem?_eq_some_iff.1 ht;have h2:Tr.costL c=Tr.costL (c.take j)+(40+t.cost+Tr.costL (c.drop (j+1))):=by
  conv=>lhs;rw [←List.take_append_drop j c,List.drop_eq_getElem_cons d,e]
  rw [Rb,Tr.costL]
 omega
theorem Y2(n:Int)(u:Nat)(s:List UInt8)(ks:List (List UInt8))(c:List Tr)(hO:∀t∈c,F0 t)(hD:∀t∈c,Ew t):Ew (.mk 10 n u s ks c):=by
 intro M V b x w o p h hg hn hR hp hm;obtain⟨f,hf⟩:∃f,bits V=f:=⟨_,rfl⟩;rw [hf];obtain⟨hk,_,_,_,_,y⟩:=hR.fields;have hk:10=x.k:=hk;have y:c.length=x.bn:=y;have S:b.size+Tr.costL c≤65000:=by unfold Tr.cost at hm;omega
 have ax:=J4 c;generalize ht:Tr.mk 10 n u s ks c=t0 at hR;cases hR with
 | @mk _ ks' l' vs _ _ _ _ hI E _ _ hl hc=>
  injection ht with e1 e2 e3 e4 e5 e6
  subst e6;obtain⟨k,xn,xu,xs,XA,G,F,Q,xbn,H⟩:=x;obtain rfl:10=k:=hk;clear e1 e2 e3 e4 e5;have y:c.length=xbn:=y;have hI:It w Q xbn vs:=hI;have E:∀ad,Q=some ad→p ad.block:=E;have HI:=Hd hI;have ao:=Hd (show ∀(i:Nat) v t,vs[i]?=some v→c[i]?=some t→B7 w p v t from hc);have HD:=Hd hD;have HP:=Hd hp;have ar:=Hd E;have HF:=Hd hf;have I:=Hd y;have av:=Hd hl;have L:=Hd (fun j=>nR f hO hg hn S j);have bl:=Hd (show b.s.length≤65000 by unfold Bd.size at S;omega);have hB:=Bq w (.cells #[Aca M.β] 104) (.cells (Ab7 (⟨10,xn,xu,xs,XA,G,F,Q,xbn,H⟩:Nv)) 34);have N:=Hd (To.fresh Dg hB o 0);have B:=Hd (h.fresh hB 0);have a:=Hd (Wk M ⟨10,xn,xu,xs,XA,G,F,Q,xbn,H⟩ w o);obtain⟨m,z⟩:∃m,b.s.length=m:=⟨_,rfl⟩;have aq:=Hd z;have bu:xbn≤65000:=by omega
  obtain⟨vs',es,ls,ss,rs⟩:=Kk f c (fun t ht=>Ey f t (hO t ht).ok) b hg;have a3:=Li f c (fun t ht=>Ey f t (hO t ht).ok) (fun t ht=>Km f t (hO t ht).ok) b hg;have A:=Hd (show m≤(Bd.callsL f c b).s.length∧(Bd.callsL f c b).s.length≤65536∧m<65536∧E5 ((Bd.callsL f c b).s.drop m) (Bd.callsL f c b).b by
   have e1:(Bd.callsL f c b).s.drop m=vs':=by rw [es,←z];simp
   have e2:(Bd.callsL f c b).s.length=m+vs'.length:=by rw [es,Ak,z]
   have e3:(Bd.callsL f c b).b.length≤(Bd.callsL f c b).size:=by unfold Bd.size;omega
   have e4:m≤b.size:=by unfold Bd.size;omega
   rw [e1];exact⟨by omega,by omega,by omega,gH ls rs (fun t ht=>(hO t ht).fix) (by omega)⟩)
  have an:=Hd (show Bd.calls f (.mk 10 xn xu xs ks' c) b=(Bd.callsL f c b).endVec m by rw [Bd.calls,if_pos rfl,z]);clear h hg hn hp hm hI E hl hc hD hO hf hB z es ls ss rs a3 S ax;go_enter func70,ntmps70;go_upto_region 1 with fail
  generalize (w.alloc (.cells #[Aca M.β] 104)).alloc (.cells (Ab7 (⟨10,xn,xu,xs,XA,G,F,Q,xbn,H⟩:Nv)) 34)=w1 at N B a⊢;generalize Bl o w.heap.size 0=o1 at N B a;generalize w.heap.size+1=bn at a⊢;generalize w.heap.size=bx at a⊢;obtain⟨x0,x1,x2,x3,x4,x5,x6⟩:=a.o.cells;go_wp2_with fail;go_at_call 122;refine(mI M V b m _ o1 B.o aq.o).mono ?_;rintro e w' ⟨rfl,rfl⟩;go_wp2_with fail;go_loopw [58] (fun uu wr=>∃j:Nat,j≤xbn∧uu= Aa Ab (j:Int)∧∃o',BM M V wr o' (Bd.callsL f (c.take j) b)∧To Dg w o wr o'∧Ui M ⟨10,xn,xu,xs,XA,G,F,Q,xbn,H⟩ bx bn wr o') (fun uu _=>xbn-(intOf uu).toNat)
  case atStart=>exact⟨0,Nat.zero_le _,rfl,o1,by rw [List.take_zero];exact B.o,N.o,a.o⟩
  case round=>
   obtain⟨j,hj,rfl,o',Y,aa,W⟩:=hrel;have K:=Hd Y;have P:=Hd aa;have U:=Hd W;clear Y aa W x0 x1 x2 x3 x4 x5 x6;obtain⟨x0,x1,x2,x3,x4,x5,x6⟩:=U.o.cells;by_cases bt:j<xbn
   ·obtain⟨v,hv⟩:∃v,vs[j]?=some v:=⟨_,Ai (by have h1:=av.o;have h2:=I.o;omega)⟩;obtain⟨t,ht⟩:∃t,c[j]?=some t:=⟨_,Ai (by have h2:=I.o;omega)⟩;have l:∀q,p q→q<w.heap.size∧o q=0:=HP.o;have X:It wr Q xbn vs:=HI.o.fr P.o.fr (fun ad e=>by rw [(l _ (ar.o ad e)).2];exact Co);obtain⟨g,bv,e,v0,v1,v2,v3,v4,v5⟩:=Hp X hv;have D:=(Af wr.heap.size wr).alloc (Ae _) (.cells (Ab7 v) 34);have ap:=Hd (K.o.fresh D 0);have C:=Hd (P.o.trans (To.fresh Dg D o' 0));have T:=Hd (U.o.to_ (To.fresh Dg D o' 0) Co);have Z:B7 (wr.alloc (.cells (Ab7 v) 34)) p v t:=(ao.o j v t hv ht).to_ C.o (fun q hq=>by rw [(l q hq).2];exact Co);have R:=HD.o t (List.mem_of_getElem? ht) M V _ v _ _ p ap.o (L.o j).1 (L.o j).2.1 Z (fun q hq=>⟨Ar (l q hq).1 C.o.size,(C.o.ow _ (l q hq).1).trans (l q hq).2⟩) ((L.o j).2.2 t ht);rw [HF.o] at R;have al:=Hd R;have au:=Hd (show Bd.callsL f (c.take (j+1)) b=Bd.calls f t (Bd.callsL f (c.take j) b) by
     obtain⟨q1,q2⟩:=List.getElem?_eq_some_iff.1 ht;rw [Az q1,q2,Ss])
    have br:(0:Int)≤(j:Int):=by omega
    have bs:(j:Int)<(xbn:Int):=by omega
    rw [e] at x6⊢;have am:=Hd e;have a0:(wr.alloc (.cells (Ab7 v) 34)).cell? ⟨bx,0,none⟩=some (Aca M.β):=T.o.cells.1;clear hv ht l X D Z R e;go_wp2_with fail;go_at_call 70;refine al.o.mono ?_;rintro e w2 ⟨rfl,o2,r,d⟩;have J:=Hd r;have O:=Hd (C.o.trans d);have ak:=Hd (T.o.to_ d Co);clear r d x0 x1 x2 x3 x4 x5 x6;go_wp2_with fail;go_roundw
    case rel=>exact⟨j+1,by omega,by go_num,o2,by rw [au.o];exact J.o,O.o,by rw [←am.o];exact ak.o⟩
    case measure=>simp [intOf];omega
   ·obtain rfl:j=xbn:=by omega
    have ab:c.take j=c:=Aw (by have h2:=I.o;omega);rw [ab] at K;clear ab;go_wp2_with fail;go_at_call 123;refine(eD M V (Bd.callsL f c b) m _ o' K.o A.o.1 A.o.2.1 A.o.2.2.1 A.o.2.2.2).mono ?_;rintro e w2 ⟨rfl,o2,r,d⟩;have J:=Hd r;have O:=Hd (P.o.trans d);clear r d;go_wp2_with fail;go_end0;exact⟨rfl,o2,by rw [an.o];exact J.o,O.o⟩
theorem jL(M:Bp)(fl:Int)(b:Bd)(x v:Nv)(t:Tr)(s:List UInt8)(j g1 o1 g2 o2 bx bn:Nat)(w:World)(o:Nat→Nat)(p:Nat→Prop)(h:BM M fl w o b)(hg:Dh b)(hn:Ic b)(hC:Ui M x bx bn w o)(hp:∀k,p k→k<w.heap.size∧o k=0)
  (eA:x.A=some ⟨g1,o1,none⟩) (eB:x.B=some ⟨g2,o2,none⟩) (pA:p g1) (pB:p g2) (hja:j<x.an) (hjb:j<x.bn) (hs:w.cell? ⟨g1,o1+j,none⟩=some (.string ⟨s.toArray⟩))
  (hv:∀i u,#[Aa Ab v.k,Aa Ab v.n,Aa Ac (v.u:Int),.string ⟨v.s.toArray⟩,.slice v.A v.an v.ac,.slice v.B v.bn v.bc][i]?=some u→w.cell? ⟨g2,o2+j*6+i,none⟩=some u) (hR:B7 w p v t) (hD:Ew t) (hz:Cl s=false) (hk:R7 b s) (hm:(b.key (bits fl) s).size+t.cost≤65000):
  Calls Ad 125 #[Aa Ab (j:Int),Aca bx,Aca bn] w (D3 M fl (Bd.calls (bits fl) t (b.key (bits fl) s)) w o):=by
 obtain⟨f,Z⟩:∃f,bits fl=f:=⟨_,rfl⟩;have E:=Xw M fl b s w.drew o h.drew hk hz;rw [Z] at E hm⊢;have gk:Dh (b.key f s):=(Ov f s b hg).elim fun _ h=>h.2.1.2
 have nk:Ic (b.key f s):=⟨(Kd f s b hn).1.ok.1,(Kd f s b hn).1.ok.2⟩;have O:=Hd E;have HG:=Hd gk;have HN:=Hd nk;have HM:=Hd hm;have HD:=Hd hD;have HR:=Hd hR;have r:=Hd hp;have m:=Hd (And.intro pA pB);have HC:=Hd hC;have HF:=Hd Z;have HV:=Hd hv;obtain⟨F,_,_,_,_,K,_⟩:=hC.cells;rw [eA] at K;have az:(0:Int)≤(j:Int):=by omega
 have ad:(j:Int)<(x.an:Int):=by omega
 have ae:(j:Int)<(x.bn:Int):=by omega
 have P:=Hd eB;clear h hg hn hC hp pA pB hv hR hD hz hk hm E gk nk Z eA eB;go_enter func125,ntmps125;go_wp2_with fail;go_region_held3 (fun w'=>w'.cell? ⟨bx,0,none⟩=some (Aca M.β)∧w'.cell? ⟨bn,4,none⟩=some (.slice (some ⟨g1,o1,none⟩) x.an x.ac)∧w'.cell? ⟨g1,o1+j,none⟩=some (.string ⟨s.toArray⟩)) (first|with_reducible exact⟨F,K,hs⟩|with_reducible exact⟨Bc F,Bc K,Bc hs⟩|with_reducible exact⟨y0,y5,ys⟩) (first
  |(go_at_call 126;(with_reducible refine O.o.mono ?_);rintro e l ⟨rfl,oo,G,I⟩;have c:=I.from_drew;have z:=HC.o.to_ c Co;have y0:=z.cells.1;have y5:l.cell? ⟨bn,4,none⟩=some (.slice (some ⟨g1,o1,none⟩) x.an x.ac):=C7 c K (by rw [HC.o.on];exact Co);have ys:l.cell? ⟨g1,o1+j,none⟩=some (.string ⟨s.toArray⟩):=C7 c hs (by rw [(r.o _ m.o.1).2];exact Co);have y:=Hd z;have Q:=Hd G;have d:=Hd c;clear G I c z))
 clear F K y0 y5 ys;obtain⟨F,_,_,_,_,_,L⟩:=y.o.cells;rw [P.o] at L;have C:∀i u,#[Aa Ab v.k,Aa Ab v.n,Aa Ac (v.u:Int),.string ⟨v.s.toArray⟩,.slice v.A v.an v.ac,.slice v.B v.bn v.bc][i]?=some u→l.cell? ⟨g2,o2+j*6+i,none⟩=some u:=fun i u e=>C7 d.o (HV.o i u e) (by rw [(r.o _ m.o.2).2];exact Co)
 have T:l.cell? ⟨g2,o2+j*6,none⟩=some (Aa Ab v.k):=C 0 _ rfl;have U:l.cell? ⟨g2,o2+j*6+1,none⟩=some (Aa Ab v.n):=C 1 _ rfl;have V:l.cell? ⟨g2,o2+j*6+2,none⟩=some (Aa Ac (v.u:Int)):=C 2 _ rfl;have W:l.cell? ⟨g2,o2+j*6+3,none⟩=some (.string ⟨v.s.toArray⟩):=C 3 _ rfl;have X:l.cell? ⟨g2,o2+j*6+4,none⟩=some (.slice v.A v.an v.ac):=C 4 _ rfl;have Y:l.cell? ⟨g2,o2+j*6+5,none⟩=some (.slice v.B v.bn v.bc):=C 5 _ rfl;have D:=HD.o M fl (b.key f s) v l.drew oo p Q.o.drew HG.o HN.o ((HR.o.to_ d.o (fun q hq=>by rw [(r.o q hq).2];exact Co)).pure (Af _ _).drew) (fun q hq=>⟨Ar (r.o q hq).1 d.o.size,(d.o.ow _ (r.o q hq).1).trans (r.o q hq).2⟩) HM.o;rw [HF.o] at D;have N:=Hd D;clear C D;go_wp2_with fail;go_region_held3 (fun w'=>w'.cell? ⟨bx,0,none⟩=some (Aca M.β)∧w'.cell? ⟨bn,5,none⟩=some (.slice (some ⟨g2,o2,none⟩) x.bn x.bc)∧w'.cell? ⟨g2,o2+j*6,none⟩=some (Aa Ab v.k)∧w'.cell? ⟨g2,o2+j*6+1,none⟩=some (Aa Ab v.n)∧w'.cell? ⟨g2,o2+j*6+2,none⟩=some (Aa Ac (v.u:Int))∧w'.cell? ⟨g2,o2+j*6+3,none⟩=some (.string ⟨v.s.toArray⟩)∧w'.cell? ⟨g2,o2+j*6+4,none⟩=some (.slice v.A v.an v.ac)∧w'.cell? ⟨g2,o2+j*6+5,none⟩=some (.slice v.B v.bn v.bc)) (first|with_reducible exact⟨F,L,T,U,V,W,X,Y⟩|with_reducible exact⟨Bc F,Bc L,Bc T,Bc U,Bc V,Bc W,Bc X,Bc Y⟩|with_reducible exact⟨z0,z6,d0,d1,d2,d3,d4,d5⟩) (first
  |(go_at_call 70;(with_reducible refine N.o.mono ?_);rintro e w3 ⟨rfl,o3,H,J⟩;have a:=J.from_drew;have g:¬Dg (oo g2):=by { rw [(d.o.ow _ (r.o _ m.o.2).1),(r.o _ m.o.2).2];exact Co};have z0:=(y.o.to_ a Co).cells.1;have z6:=C7 a L (by rw [y.o.on];exact Co);have d0:=C7 a T g;have d1:=C7 a U g;have d2:=C7 a V g;have d3:=C7 a W g;have d4:=C7 a X g;have d5:=C7 a Y g;have R:=Hd H;have S:=Hd (d.o.trans a);clear H J a))
 go_wp2_with fail;go_end0;exact⟨rfl,o3,R.o,S.o⟩
end
section
open Go.Acc
theorem Su(f:Nat):∀(l:List Tr) (ks:List (List UInt8)) (t:Tr) (s:List UInt8) (b:Bd),ks.length=l.length→Bd.callsM f (ks++ [s]) (l++ [t]) b=Bd.calls f t ((Bd.callsM f ks l b).key f s)
 | [],ks,t,s,b,h=>by
  obtain rfl:ks=[]:=List.eq_nil_of_length_eq_zero h;simp [Bd.callsM]
 |x::r,[],t,s,b,h=>by simp at h
 |x::r,k::ks,t,s,b,h=>by
  rw [List.cons_append,List.cons_append,Bd.callsM,Bd.callsM];exact Su f r ks t s _ (by simpa using h)
theorem Aal{st:List Bv}(hg:Dh b)(hk:F2 b.b ks kvs)(h0:∀x∈ks,Cl x=false)(hv:E5 vs b.b)(hl:vs.length=kvs.length)(hm:b.size+100+18*kvs.length≤1000000)(hs:st.length<65536):iG (C3 ks) kvs vs { b with s:=st}:=by
 have l:b.b.length+b.lists.length+b.vals.length≤b.size:=by unfold Bd.size;omega
 have k:kvs.length=ks.length:=hk.1;obtain⟨hok,a⟩:=nO hk (by omega);have g:=Pf 14 true false kvs b.b;obtain⟨m,d⟩:=Qn 14 true false kvs b.b;have c:b.b.length≤(Cu 14 true false kvs b.b).1.length:=by rw [d,Ak];omega
 refine⟨hok,a,hv,⟨hv.legal,hv.own,fun v h=>(hv.fit v h).mono c,?_⟩,Mj (fun x e=>by cases e) hok.fit,?_,fun i e=>?_,?_,?_,hs⟩
 ·show(Cu 14 true false kvs b.b).1.length+40+9*vs.length≤1048576;omega
 ·have h:=Uh 14 true false kvs b.b [];rw [List.append_nil] at h;exact h
 ·obtain⟨kv,j,h1,_,h3⟩:=hg.lists ks (fun s hs=>Mg (h0 s hs)) i e;have hf:=h3.fit;obtain⟨n,o,_,f,h4⟩:=h3;exact⟨kv,h1,by rw [f];rfl,by rw [f];exact Mj (fun x e=>by cases e) h4,hf⟩
 ·show b.lists.length≤1048575;omega
 ·show b.vals.length≤1048576;omega
theorem eH{s:List UInt8}(hs:ks[j]?=some s):Ci (ks.take j)+(s.length+20)≤Ci ks:=by
 obtain⟨hj,e⟩:=List.getElem?_eq_some_iff.1 hs;have h:Ci ks=Ci (ks.take j)+(s.length+20+Ci (ks.drop (j+1))):=by
  conv=>lhs;rw [←List.take_append_drop j ks,List.drop_eq_getElem_cons hj,e]
  rw [aO];rfl
 omega
theorem rF(ht:c[j]?=some t):Tr.costL (c.take j)+(40+t.cost)≤Tr.costL c:=by
 obtain⟨hj,e⟩:=List.getElem?_eq_some_iff.1 ht;have h:Tr.costL c=Tr.costL (c.take j)+(40+t.cost+Tr.costL (c.drop (j+1))):=by
  conv=>lhs;rw [←List.take_append_drop j c,List.drop_eq_getElem_cons hj,e]
  rw [Rb,Tr.costL]
 omega
theorem aC(f:Nat)(hl:ks.length=c.length)(hO:∀t∈c,F0 t)(hg:Dh b)(hn:Ic b)(hm:b.size+Ci ks+Tr.costL c≤65000)(j:Nat):
  Dh (Bd.callsM f (ks.take j) (c.take j) b)∧Ic (Bd.callsM f (ks.take j) (c.take j) b)∧(∀t s,c[j]?=some t→ks[j]?=some s→R7 (Bd.callsM f (ks.take j) (c.take j) b) s∧((Bd.callsM f (ks.take j) (c.take j) b).key f s).size+t.cost≤65000):=by
 have d:∀t∈c.take j,N6 f t:=fun t ht=>Ey f t (hO t (List.mem_of_mem_take ht)).ok
 have a:(ks.take j).length=(c.take j).length:=by rw [Au,Au,hl]
 obtain⟨e,vs,_,_,g,_,_⟩:=Jd f (c.take j) (ks.take j) a d b hg;refine⟨g.2,(Kl f (c.take j) (ks.take j) a d (fun t ht=>N9 f t (hO t (List.mem_of_mem_take ht)).ok) b hg hn).1.ok,fun t s ht hs=>?_⟩;have h1:=Lj f (c.take j) (ks.take j) a d (fun t ht=>Km f t (hO t (List.mem_of_mem_take ht)).ok) b hg;have h2:=eH hs;have h3:=rF ht;have h:=Tt f s (Bd.callsM f (ks.take j) (c.take j) b);have i:(Bd.callsM f (ks.take j) (c.take j) b).b.length+(Bd.callsM f (ks.take j) (c.take j) b).s.length+(Bd.callsM f (ks.take j) (c.take j) b).keys.length+(Bd.callsM f (ks.take j) (c.take j) b).names.length≤(Bd.callsM f (ks.take j) (c.take j) b).size:=by unfold Bd.size;omega
 exact⟨⟨by omega,by omega,by omega,by omega⟩,by omega⟩
theorem Aax(f:Nat)(hl:ks.length=c.length)(h0:∀x∈ks,Cl x=false)(hu:ks.Pairwise (· < ·))(hO:∀t∈c,F0 t)(hg:Dh b)(hn:Ic b)(hm:b.size+Ci ks+Tr.costL c≤65000):
  ∃kvs vs,Zm ks kvs vs b.s.length (Bd.callsM f ks c b):=by
 have e:∀t∈c,N6 f t:=fun t ht=>Ey f t (hO t ht).ok
 obtain⟨kvs,vs,d,v,A,i,z⟩:=Jd f c ks hl e b hg;obtain⟨w,kvs',vs',l,E,F,y⟩:=Kl f c ks hl e (fun t ht=>N9 f t (hO t ht).ok) b hg hn;have u:=Lj f c ks hl e (fun t ht=>Km f t (hO t ht).ok) b hg;have g:kvs.length=ks.length:=i.1;have a:vs.length=kvs.length:=by omega
 have m:Fc kvs vs=Fc kvs' vs':=List.append_cancel_left (d.symm.trans l);obtain⟨j,B⟩:=Je kvs vs a.symm;obtain⟨k,C⟩:=Je kvs' vs' (by omega);obtain rfl:kvs=kvs':=by rw [←j,m,k]
 have p:(Bd.callsM f ks c b).s.drop b.s.length=Fc kvs vs:=by rw [d];simp
 have n:=Pk kvs vs a.symm;have D:(Bd.callsM f ks c b).s.length=b.s.length+2*kvs.length:=by rw [d,Ak,n]
 have o:b.s.length≤b.size:=by unfold Bd.size;omega
 have r:(Bd.callsM f ks c b).s.length+(Bd.callsM f ks c b).b.length≤(Bd.callsM f ks c b).size:=by unfold Bd.size;omega
 have hcl:=J4 c;have q:=Vj ks;have h:E5 vs (Bd.callsM f ks c b).b:=gH v z (fun t ht=>(hO t ht).fix) (by omega);refine⟨kvs,vs,p,g,by omega,y,fun x hx=>?_,hu,by omega,by omega,by omega,by omega,?_⟩
 ·have:=w.ok.lt x hx;omega
 ·exact Aal A.2 i h0 h a (by omega) (by rw [Au];omega)
end
end Go.Proofs.YtejpbijeifjdeaaGreat
