/- Parts of the proof. -/
import Derived.Test.YtejpbijeifjdeaaGreatQv13
import Derived.Deep.RegionHeld3
set_option maxHeartbeats 8000000
set_option maxRecDepth 100000
open Go.Value renaming int→Aa
open Go.IntKind renaming i64→Ab,u64→Ac
open Nat renaming le_refl→Ae,zero_le→Am
open Go.RowKit.Below renaming refl→Af
open List renaming getElem?_eq_getElem→Ai,length_append→Ak,replicate→An,length_cons→Av,take_of_length_le→Aw,getD_eq_getElem?_getD→Ay,take_succ_eq_append_getElem→Az
open Go.Proofs.Tryz
open Go.Proofs.Tryz renaming prog→Ad
namespace Go.Proofs.YtejpbijeifjdeaaGreat
open Go.RowKit Go.Acc
variable {w W W0:World}{u v:Value}{α:Type}{n i bt br d:Nat}{p:Nat→Prop}{q:Nat→Nat→Prop}{A1 A:Option Addr}{vs:List Nv}{x:Nv}{t:Tr}{ys:List (Nat×Nv)}{T:List (Nat×Tr)}
theorem Aa4{p q:Addr}(h:w.cell? q=some v)(hne:q.block≠p.block):(w.setCell p u).cell? q=some v:=
 (World.cell?_of_block (w:=w) (Below.heap_setCell w p u q.block hne)).trans h
theorem uK(f:Nat→α)(z:α){ps:List Nat}{k:Nat}(hl:ps.length=n)(hk:k<n):((ps.take k).map f++An (n-k) z).set k (f (ps[k]'(by omega)))=(ps.take (k+1)).map f++An (n-(k+1)) z:=by
 have a:((ps.take k).map f).length=k:=by simp;omega
 have b:n-k=(n-(k+1))+1:=by omega
 rw [List.set_append_right _ _ (by omega),a,Nat.sub_self,b,List.replicate_succ,List.set_cons_zero,Az (by omega),List.map_append];simp
theorem vF{l:List α}(x:α)(h:i<l.length):l.take i++ [x]++l.drop (i+1)=l.set i x:=by
 rw [List.set_eq_take_append_cons_drop,if_pos h];simp
theorem Wq{l:List α}(d:α)(h:i<l.length):l.getD i d=l[i]:=by
 rw [Ay,Ai h];rfl
theorem nD{β:Type}(f:α→β)(l:List α)(i:Nat)(d:α):(l.map f).getD i (f d)=f (l.getD i d):=by
 rw [Ay,Ay,List.getElem?_map];cases l[i]? <;>rfl
theorem uL{g g' j:Nat}(h:w.cell? ⟨g,i,none⟩=some v)(hne:g≠g'):(w.setCell ⟨g',j,none⟩ u).cell? ⟨g,i,none⟩=some v:=Aa4 h hne
structure fH(W W0:World)(p:Nat→Prop)(q:Nat→Nat→Prop)(bt br:Nat)(A1 A:Option Addr):Prop where
 qs:∀i b,q i b→p b∧b<W.heap.size
 bts:W.heap.size=bt∧bt+1=br∧br<W0.heap.size
 off:∀ad,A=some ad→ad.block<W0.heap.size∧ad.block≠bt∧ad.block≠br∧(∀i,¬q i ad.block)∧(p ad.block∨W.heap.size≤ad.block)
 key:∀ad,A1=some ad→ad.block<W0.heap.size∧ad.block≠bt∧ad.block≠br∧(p ad.block∨W.heap.size≤ad.block)∧(∀i,¬q i ad.block)∧∀a,A=some a→ad.block≠a.block
 fr:Fr p W W0
 apart:∀i j b,i≠j→q i b→¬q j b
theorem fH.no(h:fH W W0 p q bt br A1 A){b:Nat}(hb:b=bt∨b=br):¬((∃i,q i b)∨∃ad,A=some ad∧b=ad.block):=by
 rintro(⟨i,hi⟩|⟨ad,e,rfl⟩)
 ·have h1:=(h.qs i b hi).2;have h2:=h.bts;omega
 ·have h1:=h.off ad e;omega
theorem fH.done{c n1 c1:Nat}{us:List Nv}{ts:List Tr}{ks:List (List UInt8)}(h:fH W W0 p q bt br A1 A)(hs:fI W0 w q A n c n vs ts us)(hk:Fm w A1 n1 ks)(hc:n1≤c1)(h1:n1≤1099511627776)(hn:n≤1099511627776)(hl:ts.length=n)
  (k m:Int) (u:Nat) (s:List UInt8) {w':World} (hF:Fr (fun j=>j=br) w w'):B7 w' (fun b=>p b∨(W.heap.size≤b∧b<w'.heap.size)) ⟨k,m,u,s,A1,n1,c1,A,n,c⟩ (.mk k m u s ks (ts.map Cs))∧Fr p W w':=by
 have f:=h.bts;have g:=hs.fr.size;have l:=hF.size;refine⟨B7.mk (x:=⟨k,m,u,s,A1,n1,c1,A,n,c⟩) (hk.fr hF fun ad e=>?_) (fun ad e=>?_) hc h1 (hs.own.is.fr hF fun ad e=>?_) (fun ad e=>?_) hs.own.cap.1 hn (by rw [List.length_map,hl];exact hs.own.1) (fun i v t hv ht=>?_),?_⟩
 ·have:=h.key ad e;omega
 ·have:=h.key ad e;rcases this.2.2.2.1 with hh|hh
  ·exact .inl hh
  ·exact .inr ⟨hh,by omega⟩
 ·have:=h.off ad e;omega
 ·have:=h.off ad e;rcases this.2.2.2.2 with hh|hh
  ·exact .inl hh
  ·exact .inr ⟨hh,by omega⟩
 ·have hi:i<n:=by
   have:=(List.getElem?_eq_some_iff.1 hv).1;rw [hs.own.1] at this;exact this
  rw [List.getElem?_map] at ht;cases hti:ts[i]? with
  |none=>rw [hti] at ht;simp at ht
  |some t'=>
   rw [hti] at ht;simp at ht;subst ht;refine((hs.done i v t' hi hv hti).keep fun a u hc hp=>Cq hF hc ?_).mono fun b hb=>?_
   ·rcases hp with hp|hp
    ·have:=(h.qs _ _ hp).2;omega
    ·omega
   ·rcases hb with hb|hb
    ·exact .inl (h.qs _ _ hb).1
    ·exact .inr ⟨by have:=h.fr.size;omega,by omega⟩
 ·refine(h.fr.trans hs.fr (fun i hi hh=>?_)).trans hF (fun i hi hh=>by omega);rcases hh with⟨j,d⟩|⟨ad,e,rfl⟩
  ·exact(h.qs _ _ d).1
  ·rcases(h.off ad e).2.2.2.2 with hh|hh
   ·exact hh
   ·omega
theorem eY{w0:World}(h:Jb w0 p x t):(∀k,p k→k<w0.heap.size)→Sn t→t.cost≤4000000→∀W,(∀b,p b→W.heap[b]?=w0.heap[b]?)→w0.heap.size≤W.heap.size→Calls Ad 74 #[.agg (Ab7 x)] W (qT W p t):=by
 induction h with
 | @mk p x ks l vs q h1 ha bz hx h2 hb hy bw hq hd hl hc ih=>
  intro hp hv G W hW ck;obtain⟨xk,N,xu,xs,X,xan,xac,R,xbn,C⟩:=x;have av:=Hd (show ∀i v t',vs[i]?=some v→l[i]?=some t'→∀W',(∀b,q i b→W'.heap[b]?=w0.heap[b]?)→w0.heap.size≤W'.heap.size→Calls Ad 74 #[.agg (Ab7 v)] W' (qT W' (q i) t') from fun i v t' hv' ht'=>ih i v t' hv' ht' (fun k hk=>hp k (hq i k hk)) (by
   cases hv with
   |mk _ _ _ _ hvl=>exact hvl t' (List.mem_of_getElem? ht')) (by
   have:=X2 (List.mem_of_getElem? ht');unfold Tr.cost at G;omega))
  replace h1:Fm w0 X xan ks:=h1;replace h2:Jj w0 0 R xbn C vs:=h2;replace ha:∀ad,X=some ad→p ad.block∧∀i,¬q i ad.block:=ha;replace hb:∀ad,R=some ad→p ad.block∧∀i,¬q i ad.block:=hb;replace bz:xan≤xac:=bz;replace hx:xan≤1099511627776:=hx;replace hy:xbn≤1099511627776:=hy;replace bw:∀a b,X=some a→R=some b→a.block≠b.block:=bw;have hK:Fm W X xan ks:=⟨h1.1,N4 h1.2 (fun ad e=>(ha ad e).1) fun a u hc hpa=>by rw [World.cell?_of_block (hW _ hpa)];exact hc⟩;have hO:Jj W 0 R xbn C vs:=Wx h2 fun ad e=>hW _ (hb ad e).1
  have bj:=Bq W (.cells (Ab8 xk N xu xs X xan xac R xbn C) 34) (.cells #[Aa Ab 0,Aa Ab 0,Aa Ac 0,.string ⟨#[]⟩,.slice none 0 0,.slice none 0 0] 34);have K:=Hd ((Bb.new W 34 (Ab8 xk N xu xs X xan xac R xbn C)).alloc (.cells #[Aa Ab 0,Aa Ab 0,Aa Ac 0,.string ⟨#[]⟩,.slice none 0 0,.slice none 0 0] 34));have J:=Hd (Bb.new_ (w:=W.alloc (.cells (Ab8 xk N xu xs X xan xac R xbn C) 34)) (g:=W.heap.size+1) (by simp) 34 #[Aa Ab 0,Aa Ab 0,Aa Ac 0,.string ⟨#[]⟩,.slice none 0 0,.slice none 0 0]);have T:=Hd bj;have ag:=Hd (hK.pure bj);have aw:=Hd (hO.pure bj);have ak:=Hd hl;have ah:=Hd (show vs.length=xbn from h2.1);have da:=Hd (show ks.length=xan from by have:=h1.1;simpa using this);have D:=Hd (show(∀k,p k→k<W.heap.size)∧(∀i k,q i k→p k)∧(∀i j k,i≠j→q i k→¬q j k) from⟨fun k hk=>Nat.lt_of_lt_of_le (hp k hk) ck,hq,hd⟩);have HA:=Hd ha;have d7:=Hd hb;have fc:=Hd bw;have b9:=Hd (And.intro hW ck);have he:=Hd hv;have g9:=Hd G;by_cases ce:xk=17
  ·obtain rfl:=ce;have e8:=hv;cases hv with
   |mk g1 _ _ hnd _=>
   have bi:ks.length=l.length:=by
    simp only [Hm,Bool.and_eq_true,decide_eq_true_eq] at g1;obtain⟨⟨⟨_,bi⟩,_⟩,_⟩:=g1;exact bi rfl
   have f8:xan=xbn:=by
    have a1:=da.o;have a2:=ah.o;omega
   subst f8;have ga:xan≤1000000:=by
    have h1:=J4 l;have h2:Tr.cost (.mk 17 N xu xs ks l)=64+xs.length+Ci ks+Tr.costL l:=by rw [Tr.cost]
    have h3:l.length=xan:=by rw [←hl];exact ah.o
    have G:Tr.cost (.mk 17 N xu xs ks l)≤4000000:=G;omega
   have ed:=Hd hnd;have cv:=Hd (show l.length=xan by rw [←hl];exact ah.o);obtain⟨Z,hZ,ey⟩:=zR xan (by omega);obtain⟨Y,hY,ez⟩:=wN xan (by omega);have HZ:=Hd hZ;have HY:=Hd hY;clear ih h1 ha h2 hb hy bw hq hd hl hc hp e8 G hW ck hK hO bj bz hx g1 hnd bi hZ hY;go_enter func74,ntmps74;go_upto_region 1 with fail
   generalize (W.alloc (.cells (Ab8 17 N xu xs X xan xac R xan C) 34)).alloc (.cells #[Aa Ab 0,Aa Ab 0,Aa Ac 0,.string ⟨#[]⟩,.slice none 0 0,.slice none 0 0] 34)=Wa at T K J ag aw⊢;generalize P:W.heap.size=bt at K J⊢;generalize b0:bt+1=br at J⊢;have U:=Hd (show W.heap.size=bt∧bt+1=br∧br<Wa.heap.size from⟨P,b0,J.o.lt⟩);have bd:=Hd (show(∀ad,X=some ad→ad.block<W.heap.size)∧∀ad,R=some ad→ad.block<W.heap.size from⟨fun ad e=>D.o.1 _ (HA.o ad e).1,fun ad e=>D.o.1 _ (d7.o ad e).1⟩);clear P b0;have c0:Wa.cell? ⟨bt,0,none⟩=some (Aa Ab 17):=K.o.cell 0;have c4:Wa.cell? ⟨bt,4,none⟩=some (.slice X xan xac):=K.o.cell 4;go_wp2_with fail;go_at_call 145;have ex:ks.length=xan:=da.o;refine(Vt X xan xac ks _ ag.o (fun ad e=>by have:=bd.o.1 ad e;have:=T.o.size;omega) ga ed.o).mono ?_;rintro e W1 ⟨Ap,cp,ps,rfl,ao,H,cy,am⟩;rw [ex] at ao H⊢;have b7:=Hd ao;have dd:=Hd H;have d5:=Hd cy;have b8:=Hd (show ps.length=xan by have:=H.length_eq;simpa using this);have eh:=Hd (show ∀p∈ps,p<xan from fun p h=>List.mem_range.1 (H.mem_iff.1 h));have fm:=Hd (show ps.Nodup from H.nodup_iff.2 List.nodup_range);have fe:=Hd (A6 T.o am);have em:=Hd (K.o.pure am);have el:=Hd (J.o.pure am);have d9:=Hd (ag.o.pure am);have cu:=Hd (aw.o.pure am);have I:=Hd (show Wa.heap.size≤W1.heap.size from am.size);clear ao H cy am c0 c4 ex K J ag aw;go_upto_region 3 with fail
   go_cut [5,6] (fun u5 u6 wx=>∃wy,wy=wx∧qV W1.heap.size xan (An xan []) (An xan Jo) u5 u6 wx∧Below W1.heap.size W1 wx)
   case first=>
    go_region_held3 (fun _=>True) (trivial) (fail)
    all_goals
     go_wp2_with fail;go_meet
     first
      |exact⟨_,rfl,Aao (by omega) HZ.o HY.o,(Bq _ _ _).drew⟩
      |exact⟨_,rfl,Aap (by omega) HZ.o HY.o,(Bq _ _ _).drew⟩
   case rest=>
   obtain⟨W2,rfl,⟨gk,gl,rfl,rfl,cf,cg,e0⟩,aa⟩:=hcut;have fi:=Hd cf;have fj:=Hd cg;have au:=Hd (show gk≠gl∧W1.heap.size≤gk∧W1.heap.size≤gl∧gk<W2.heap.size∧gl<W2.heap.size from⟨e0,(cf.addr _ rfl).2.1,(cg.addr _ rfl).2.1,(cf.addr _ rfl).2.2,(cg.addr _ rfl).2.2⟩);have d6:=Hd (A6 fe.o aa);have fp:=Hd (em.o.pure aa);have fo:=Hd (el.o.pure aa);have eb:=Hd (d9.o.pure aa);have ef:=Hd (cu.o.pure aa);have ei:=Hd (b7.o.pure aa);have go:=Hd (show W1.heap.size≤W2.heap.size from aa.size);have fd:=Hd (show ∀ad,Ap=some ad→ad.block<W1.heap.size∧Wa.heap.size≤ad.block from fun ad e=>⟨(b7.o.addr ad e).2.2,(b7.o.addr ad e).2.1⟩);clear cf cg e0 aa em el d9 cu b7 ey ez;go_upto_region 4 with fail
   go_wp2_with fail;go_loopw [28] (fun uu wr=>∃k:Nat,k≤xan∧uu= Aa Ab (k:Int)∧K5 wr 0 (some ⟨gk,0,none⟩) xan xan ((ps.take k).map (fun p=>ks.getD p [])++An (xan-k) [])∧Jj wr 0 (some ⟨gl,0,none⟩) xan xan ((ps.take k).map (fun p=>vs.getD p Jo)++An (xan-k) Jo)∧Fr (fun j=>j=gk∨j=gl) W2 wr) (fun uu _=>xan-(intOf uu).toNat)
   case atStart=>exact⟨0,Am _,rfl,by simpa using fi.o.rebase (Am _),by simpa using fj.o.rebase (Am _),Fr.refl _ _⟩
   case round=>
    obtain⟨k,hk,rfl,e4,e5,ap⟩:=hrel;have be:=Hd e4;have aq:=Hd e5;have c9:=Hd ap;have az:∀b,b<W1.heap.size→¬(b=gk∨b=gl):=fun b hb h=>by have h1:=au.o;omega
    have f:=Hd (fp.o.fr ap (az _ (by have h1:=U.o;have h2:=I.o;omega)));have ai:=Hd (fo.o.fr ap (az _ (by have h1:=U.o;have h2:=I.o;omega)));have ec:=Hd (eb.o.fr ap (fun ad e=>az _ (by have h1:=bd.o.1 ad e;have h2:=I.o;have h3:=U.o;omega)));have eg:=Hd (ef.o.fr ap (fun ad e=>az _ (by have h1:=bd.o.2 ad e;have h2:=I.o;have h3:=U.o;omega)));have ej:=Hd (ei.o.fr ap (fun ad e=>az _ (fd.o ad e).1));clear e4 e5 ap az;by_cases E:k<xan
    ·obtain⟨bp,op,ep,fz,y0⟩:=Rm ej.o.is E;have hp:=eh.o ps[k] (List.getElem_mem _);have b4:=uK (fun p=>ks.getD p []) [] b8.o E;have ci:=uK (fun p=>vs.getD p Jo) Jo b8.o E;generalize ps[k]=p' at y0 hp b4 ci;obtain⟨b1,o1,e1,eu,z⟩:=Gc ec.o hp;obtain⟨v,hv⟩:∃v,vs[p']?=some v:=⟨_,Ai (by have:=ah.o;omega)⟩;obtain⟨b2,o2,e2,v0,v1,v2,v3,v4,v5⟩:=Hp eg.o.is hv;have ek:ks.getD p' []=ks[p']:=Wq _ eu;have ev:vs.getD p' Jo=v:=by rw [Ay,hv];rfl
     rw [ek] at b4;rw [ev] at ci;generalize ks[p']=s at z b4;have fg:=Hd b4;have fh:=Hd ci;obtain⟨⟨a,ha⟩,fs,f6⟩:=Hc D5 be.o E s (.string ⟨s.toArray⟩) rfl;obtain⟨m,c,f7⟩:=Kw aq.o E v;obtain⟨a0,ab⟩:=m 0 (by omega);obtain⟨a1,bo⟩:=m 1 (by omega);obtain⟨a2,bq⟩:=m 2 (by omega);obtain⟨a3,bs⟩:=m 3 (by omega);obtain⟨a4,bu⟩:=m 4 (by omega);obtain⟨a5,bv⟩:=m 5 (by omega);rw [Nat.add_zero] at ab;have f0:=c (k*6);have f1:=c (k*6+1);have f2:=c (k*6+2);have f3:=c (k*6+3);have f4:=c (k*6+4);have f5:=c (k*6+5);have n1:b1≠gk∧b1≠gl:=by have h1:=bd.o.1 _ e1;have h2:=I.o;have h3:=U.o;have h4:=au.o;have h1:b1<W.heap.size:=h1;omega
     have n2:b2≠gk∧b2≠gl:=by have h1:=bd.o.2 _ e2;have h2:=I.o;have h3:=U.o;have h4:=au.o;have h1:b2<W.heap.size:=h1;omega
     have n3:bt≠gk∧bt≠gl:=by have h2:=I.o;have h3:=U.o;have h4:=au.o;omega
     obtain⟨n1,hu⟩:=n1;obtain⟨n2,hw⟩:=n2;obtain⟨n3,hz⟩:=n3;have n4:gk≠gl:=au.o.1;have gd:gl≠gk:=fun h=>n4 h.symm
     have c4:wr.cell? ⟨bt,4,none⟩=some (.slice (some ⟨b1,o1,none⟩) xan xac):=by rw [←e1];exact f.o.cell 4
     have c5:wr.cell? ⟨bt,5,none⟩=some (.slice (some ⟨b2,o2,none⟩) xan C):=by rw [←e2];exact f.o.cell 5
     have ho:(0:Int)≤(p':Int):=by omega
     have hr:(p':Int)<(xan:Int):=by omega
     have et:(0:Int)≤(k:Int):=by omega
     have ew:(k:Int)<(xan:Int):=by omega
     rw [ep];clear m c f6 f7 ek ev b4 ci hv ep e1 e2 fz eu hp;go_upto_region 7 with fail
     clear y0;go_region_held3 (fun w'=>w'.cell? ⟨bt,4,none⟩=some (.slice (some ⟨b1,o1,none⟩) xan xac)∧w'.cell? ⟨bt,5,none⟩=some (.slice (some ⟨b2,o2,none⟩) xan C)∧w'.cell? ⟨b1,o1+p',none⟩=some (.string ⟨s.toArray⟩)∧w'.cell? ⟨b2,o2+p'*6,none⟩=some (Aa Ab v.k)∧w'.cell? ⟨b2,o2+p'*6+1,none⟩=some (Aa Ab v.n)∧w'.cell? ⟨b2,o2+p'*6+2,none⟩=some (Aa Ac (v.u:Int))∧w'.cell? ⟨b2,o2+p'*6+3,none⟩=some (.string ⟨v.s.toArray⟩)∧w'.cell? ⟨b2,o2+p'*6+4,none⟩=some (.slice v.A v.an v.ac)∧w'.cell? ⟨b2,o2+p'*6+5,none⟩=some (.slice v.B v.bn v.bc)) ((with_reducible refine⟨?_,?_,?_,?_,?_,?_,?_,?_,?_⟩) <;>(repeat (first|with_reducible assumption|with_reducible refine Bc ?_|with_reducible refine uL ?_ ?_))) (fail);have ay:=Fr.setCell (S:=fun j=>j=gk) (Fr.refl _ wr) (p:=⟨gk,k,none⟩) (fun _=>rfl) (.string ⟨s.toArray⟩);have ao:=(Hc D5 be.o E s (.string ⟨s.toArray⟩) rfl).2.2;rw [vF _ (by rw [be.o.1];exact E),fg.o] at ao;have eo:=aq.o.fr ay (fun ad e=>by injection e with e;subst e;exact gd);have ch:=(Kw eo E v).2.2;rw [fh.o] at ch;have L:=aH (wr.setCell ⟨gk,k,none⟩ (.string ⟨s.toArray⟩)) gl (k*6) v;have dk:=(c9.o.trans ay (fun i _ e=> .inl e)).trans L (fun i _ e=> .inr e);have dl:=ao.fr L (fun ad e=>by injection e with e;subst e;exact n4);clear ay ao eo L fs f0 f1 f2 f3 f4 f5 ha ab bo bq bs bu bv c4 c5 z v0 v1 v2 v3 v4 v5;generalize ((((((((wr.setCell ⟨gk,k,none⟩ (.string ⟨s.toArray⟩))).setCell ⟨gl,k*6,none⟩ (Aa Ab (v).k)).setCell ⟨gl,k*6+1,none⟩ (Aa Ab (v).n)).setCell ⟨gl,k*6+2,none⟩ (Aa Ac ((v).u:Int))).setCell ⟨gl,k*6+3,none⟩ (.string ⟨(v).s.toArray⟩)).setCell ⟨gl,k*6+4,none⟩ (.slice (v).A (v).an (v).ac)).setCell ⟨gl,k*6+5,none⟩ (.slice (v).B (v).bn (v).bc))=wB at ch dk dl⊢;have fk:=Hd ch;have fl:=Hd dl;have ff:=Hd dk;clear ch dl dk;have cz:xan≤1099511627776:=by omega
     go_wp2_with fail;go_roundw
     case rel=>exact⟨k+1,by omega,by go_num,fl.o.pure (Af _ _).drew,fk.o.pure (Af _ _).drew,ff.o.drew⟩
     case measure=>simp [intOf];omega
    ·obtain rfl:xan=k:=by omega
     have c7:(xan-xan)=0:=Nat.sub_self xan;have e7:ps.take xan=ps:=Aw (by have:=b8.o;omega);rw [c7,e7,List.replicate_zero,List.append_nil] at be aq;have c4:wr.cell? ⟨bt,4,none⟩=some (.slice X xan xac):=f.o.cell 4;have c5:wr.cell? ⟨bt,5,none⟩=some (.slice R xan C):=f.o.cell 5;have f4:wr.frozen? ⟨bt,4,none⟩=false:=f.o.frozen 4;have f5:wr.frozen? ⟨bt,5,none⟩=false:=f.o.frozen 5;clear c7 e7;go_upto_region 10 with fail
     have ay:=Fr.setCell (S:=fun j=>j=bt) (Fr.refl _ wr) (p:=⟨bt,4,none⟩) (fun _=>rfl) (.slice (some ⟨gk,0,none⟩) xan xan);have L:=Fr.setCell (S:=fun j=>j=bt) ay (p:=⟨bt,5,none⟩) (fun _=>rfl) (.slice (some ⟨gl,0,none⟩) xan xan);have HX:=Hd (show Bb ((wr.setCell ⟨bt,4,none⟩ (.slice (some ⟨gk,0,none⟩) xan xan)).setCell ⟨bt,5,none⟩ (.slice (some ⟨gl,0,none⟩) xan xan)) bt 34 #[Aa Ab 17,Aa Ab N,Aa Ac (xu:Int),.string ⟨xs.toArray⟩,.slice (some ⟨gk,0,none⟩) xan xan,.slice (some ⟨gl,0,none⟩) xan xan] from(f.o.set_ 4 _).set_ 5 _);generalize (wr.setCell ⟨bt,4,none⟩ (.slice (some ⟨gk,0,none⟩) xan xan)).setCell ⟨bt,5,none⟩ (.slice (some ⟨gl,0,none⟩) xan xan)=W0 at HX L⊢;have P:=U.o;have er:=au.o;have f9:=I.o;have fy:=d6.o.size;have HR:=Hd (ai.o.fr L (by omega));have HK:=Hd ((be.o.is).fr L (fun ad e=>by injection e with e;subst e;show gk≠bt;omega));have HO:=Hd (aq.o.fr L (fun ad e=>by injection e with e;subst e;show gl≠bt;omega));have gc:=c9.o.size;have gb:=L.size;have ar:Below W.heap.size W W0:=(d6.o.trans (c9.o.belowB (fun i hi hh=>by omega) (by omega))).trans (L.belowB (fun i hi hh=>by omega) (by omega));obtain⟨q9,e6,cj⟩:∃q9:Nat→Nat→Prop,(∀i j,ps[i]?=some j→q9 i=q j)∧∀i b,q9 i b→∃j,ps[i]?=some j∧q j b:=⟨fun i b=>∃j,ps[i]?=some j∧q j b,fun i j e=>by
      funext b
      exact propext ⟨fun⟨j',e',h⟩=>by rw [e] at e';injection e' with e';rw [e'];exact h,fun h=>⟨j,e,h⟩⟩,fun i b h=>h⟩
     have a6:∀i b,q9 i b→p b∧b<W.heap.size:=fun i b h=>by
      obtain⟨j,_,hj⟩:=cj i b h;exact⟨D.o.2.1 j b hj,D.o.1 b (D.o.2.1 j b hj)⟩
     have F:=Hd (show fH W W0 p q9 bt br (some ⟨gk,0,none⟩) (some ⟨gl,0,none⟩) by
      refine⟨a6,⟨P.1,P.2.1,by omega⟩,fun ad e=>?_,fun ad e=>?_,Fr.of_below ar _,fun i i' b hii h h'=>?_⟩
      ·injection e with e
       subst e;refine⟨by show gl<_;omega,by show gl≠_;omega,by show gl≠_;omega,fun i h=>?_,.inr (by show _≤gl;omega)⟩;have:=(a6 i gl h).2;omega
      ·injection e with e
       subst e;refine⟨by show gk<_;omega,by show gk≠_;omega,by show gk≠_;omega,.inr (by show _≤gk;omega),fun i h=>?_,fun a ea=>?_⟩
       ·have:=(a6 i gk h).2;omega
       ·injection ea with ea
        subst ea;exact er.1
      ·obtain⟨j,e1,h1⟩:=cj i b h;obtain⟨j',e2,h2⟩:=cj i' b h';refine D.o.2.2 j j' b (fun e=>hii ?_) h1 h2;subst e;obtain⟨l1,e1⟩:=List.getElem?_eq_some_iff.1 e1;obtain⟨l2,e2⟩:=List.getElem?_eq_some_iff.1 e2;exact(List.getElem_inj fm.o).1 (e1.trans e2.symm))
     have bf:=Hd (show(∀i b,q9 i b→W0.heap[b]?=w0.heap[b]?)∧w0.heap.size≤W0.heap.size from⟨fun i b hb=>(ar.block b (a6 i b hb).2).trans (b9.o.1 b (a6 i b hb).1),Nat.le_trans b9.o.2 ar.size⟩);obtain⟨t0,_⟩:∃t0:Tr,True:=⟨.mk 0 0 0 [] [] [],trivial⟩;have ct:=Hd (show ∀i v t',(ps.map fun p=>vs.getD p Jo)[i]?=some v→(ps.map fun p=>l.getD p t0)[i]?=some t'→∀W',(∀b,q9 i b→W'.heap[b]?=w0.heap[b]?)→w0.heap.size≤W'.heap.size→Calls Ad 74 #[.agg (Ab7 v)] W' (qT W' (q9 i) t') from fun i v t' hv' ht'=>by
      rw [List.getElem?_map] at hv' ht';cases hj:ps[i]? with
      |none=>rw [hj] at hv';simp at hv'
      |some j=>
       rw [hj] at hv' ht';simp only [Option.map_some,Option.some.injEq] at hv' ht';have es:j<xan:=eh.o j (List.mem_of_getElem? hj);rw [e6 i j hj];refine av.o j v t' ?_ ?_
       ·rw [←hv',Wq Jo (by rw [ah.o];exact es),Ai]
       ·rw [←ht',Wq t0 (by rw [cv.o];exact es),Ai])
     have ba:=Hd (show Cs (.mk 17 N xu xs ks l)= .mk 17 N xu xs (ps.map fun p=>ks.getD p []) ((ps.map fun p=>l.getD p t0).map Cs) by
      have hs:=xK ks (Hf l) (Cs t0) da.o (by rw [I6,List.length_map];exact cv.o) ed.o dd.o d5.o;rw [Cs,if_pos rfl,←hs,List.map_map,List.map_map,List.map_map]
      congr 1
      apply List.map_congr_left;intro p _;show(Hf l).getD p (Cs t0)=Cs (l.getD p t0);rw [I6,nD])
     have O:=Hd (show xan≤xan∧xan≤1099511627776∧xan≤1099511627776 by omega);have al:=Hd (show(ps.map fun p=>vs.getD p Jo).length=xan by rw [List.length_map];exact b8.o);have ak:=Hd (show(ps.map fun p=>vs.getD p Jo).length=(ps.map fun p=>l.getD p t0).length by rw [List.length_map,List.length_map]);have av:=ct;clear c4 c5 f4 f5 ay L P er f9 fy gc gb ar e6 cj a6 ct;generalize (ps.map fun p=>vs.getD p Jo)=vs9 at av al ak HO;generalize (ps.map fun p=>l.getD p t0)=ts9 at av ak ba;generalize (ps.map fun p=>ks.getD p [])=ks9 at HK ba;generalize (some ⟨gl,0,none⟩:Option Addr)=A9 at HX HO F⊢;generalize (some ⟨gk,0,none⟩:Option Addr)=A8 at HX HK F⊢;have HC:=Hd (HX.o.cell 0);have c5:W0.cell? ⟨bt,5,none⟩=some (.slice A9 xan xan):=HX.o.cell 5;go_wp2_with fail;go_loopw [57] (fun uu wr=>∃k:Nat,k≤xan∧uu= Aa Ab (k:Int)∧∃us,fI W0 wr q9 A9 xan xan k vs9 ts9 us) (fun uu _=>xan-(intOf uu).toNat)
     case atStart=>exact⟨0,Am _,rfl,vs9,HO.o,fun _ _=>rfl,fun i _ _ hi=>by omega,Fr.refl _ _,fun _ _ _ _=>rfl⟩
     case round=>
      obtain⟨k,hk,rfl,us,hS⟩:=hrel;have V:=Hd hS;have f:=Hd (HX.o.fr hS.fr (F.o.no (.inl rfl)));have ai:=Hd (HR.o.fr hS.fr (F.o.no (.inr rfl)));have db:=Hd (HK.o.fr hS.fr (fun ad e=>by
       have h1:=F.o.key ad e;rintro(⟨i,hi⟩|⟨a,e2,e3⟩)
       ·exact h1.2.2.2.2.1 i hi
       ·exact h1.2.2.2.2.2 a e2 e3))
      clear hS c5;by_cases E:k<xan
      ·obtain⟨v,hv⟩:∃v,vs9[k]?=some v:=⟨_,Ai (by have:=al.o;omega)⟩;obtain⟨t',ht'⟩:∃t',ts9[k]?=some t':=⟨_,Ai (by have h1:=al.o;have h2:=ak.o;omega)⟩;obtain⟨g,dq,e,v0,v1,v2,v3,v4,v5⟩:=Hp V.o.own.is ((V.o.rest k (Ae _)).trans hv);obtain rfl:dq=0:=congrArg Addr.off (V.o.own.addr _ e).1;have e':A9=some ⟨g,0,none⟩:=e;clear e;subst e';rw [Nat.zero_add] at v0 v1 v2 v3 v4 v5;have Q:=F.o.off _ rfl;have af:=Hd Q;have et:(0:Int)≤(k:Int):=by omega
       have ew:(k:Int)<(xan:Int):=by omega
       have cz:xan≤1099511627776:=O.o.2.2;have c5:wr.cell? ⟨bt,5,none⟩=some (.slice (some ⟨g,0,none⟩) xan xan):=f.o.cell 5;have M:=(Af wr.heap.size wr).alloc (Ae _) (.cells (Ab7 v) 34);have bg:=Hd (f.o.pure M);have aj:=Hd (Bb.new wr 34 (Ab7 v));have ae:=Hd M;have dn:=F.o.bts;have dm:=V.o.fr.size;have d:=Hd (show wr.heap.size≠g∧(∀b,q9 k b→b≠wr.heap.size)∧¬q9 k bt∧bt≠g by
        refine⟨?_,fun b hb e=>?_,fun hb=>?_,?_⟩
        ·have h1:g<W0.heap.size:=Q.1;omega
        ·have h1:=(F.o.qs _ _ hb).2;omega
        ·have h1:=(F.o.qs _ _ hb).2;omega
        ·have h1:g≠bt:=Q.2.1;omega)
       have a9:=Hd (av.o k v t' hv ht' (wr.alloc (.cells (Ab7 v) 34)).drew (fun b hb=>by
        have h1:=(F.o.qs _ _ hb).2;have h2:(wr.alloc (.cells (Ab7 v) 34)).heap[b]?=wr.heap[b]?:=M.block b (by omega);exact h2.trans ((V.o.same k b (Ae _) hb).trans (bf.o.1 k b hb))) (by have h1:=bf.o.2;have h2:=M.size;show w0.heap.size≤(wr.alloc (.cells (Ab7 v) 34)).heap.size;omega))
       have de:=Hd ht';clear hv ht' M dn dm Q;go_upto_region 13 with fail
       generalize wr.alloc (.cells (Ab7 v) 34)=w5 at bg aj ae a9⊢;generalize wr.heap.size=bx at aj d⊢;clear v0 v1 v2 v3 v4 v5 c5;have y5:w5.cell? ⟨bt,5,none⟩=some (.slice (some ⟨g,0,none⟩) xan xan):=bg.o.cell 5;obtain ⟨z0,z1,z2,z3,z4,z5⟩:=aj.o.c6;go_region_held3 (fun w'=>w'.cell? ⟨bt,5,none⟩=some (.slice (some ⟨g,0,none⟩) xan xan)∧w'.cell? ⟨bx,0,none⟩=some (Aa Ab v.k)∧w'.cell? ⟨bx,1,none⟩=some (Aa Ab v.n)∧w'.cell? ⟨bx,2,none⟩=some (Aa Ac (v.u:Int))∧w'.cell? ⟨bx,3,none⟩=some (.string ⟨v.s.toArray⟩)∧w'.cell? ⟨bx,4,none⟩=some (.slice v.A v.an v.ac)∧w'.cell? ⟨bx,5,none⟩=some (.slice v.B v.bn v.bc)) (first|with_reducible exact⟨y5,z0,z1,z2,z3,z4,z5⟩|with_reducible exact⟨Bc y5,Bc z0,Bc z1,Bc z2,Bc z3,Bc z4,Bc z5⟩|with_reducible exact⟨x5,q0,q1,q2,q3,q4,q5⟩|exact⟨Ei x5 d.o.2.2.2,Ei q0 d.o.1,Ei q1 d.o.1,Ei q2 d.o.1,Ei q3 d.o.1,Ei q4 d.o.1,Ei q5 d.o.1⟩) (first|(go_at_call 74;(with_reducible refine a9.o.mono ?_);rintro e W6 ⟨y,rfl,bk,r⟩;have x5:=Cq r (Bc y5) d.o.2.2.1;have q0:=Cq r (Bc z0) (fun hh=>d.o.2.1 _ hh rfl);have q1:=Cq r (Bc z1) (fun hh=>d.o.2.1 _ hh rfl);have q2:=Cq r (Bc z2) (fun hh=>d.o.2.1 _ hh rfl);have q3:=Cq r (Bc z3) (fun hh=>d.o.2.1 _ hh rfl);have q4:=Cq r (Bc z4) (fun hh=>d.o.2.1 _ hh rfl);have q5:=Cq r (Bc z5) (fun hh=>d.o.2.1 _ hh rfl);have dc:=Hd bk;have bb:=Hd r;clear bk r;have bl:=(V.o.own.pure (ae.o.drew)).fr bb.o (fun ad e=>by injection e with e;subst e;exact af.o.2.2.2.1 k);obtain⟨m,c,b5⟩:=Kw bl E y;obtain⟨a0,ab⟩:=m 0 (by omega);obtain⟨a1,bo⟩:=m 1 (by omega);obtain⟨a2,bq⟩:=m 2 (by omega);obtain⟨a3,bs⟩:=m 3 (by omega);obtain⟨a4,bu⟩:=m 4 (by omega);obtain⟨a5,bv⟩:=m 5 (by omega);rw [Nat.add_zero] at ab;have f0:=c (k*6);have f1:=c (k*6+1);have f2:=c (k*6+2);have f3:=c (k*6+3);have f4:=c (k*6+4);have f5:=c (k*6+5);clear m c b5 bl));clear ab bo bq bs bu bv f0 f1 f2 f3 f4 f5 x5 q0 q1 q2 q3 q4 q5 y5 z0 z1 z2 z3 z4 z5;go_wp2_with fail;go_roundw
       case rel=>
        have dp:=V.o.step E de.o (fun i b hb=>⟨by have h1:=F.o.qs i b hb;have h2:=F.o.bts;omega,fun e=>af.o.2.2.2.1 i (by rw [e] at hb;exact hb)⟩) af.o.1 F.o.apart ae.o.drew dc.o bb.o;exact⟨k+1,by omega,by go_num,_,dp⟩
       case measure=>simp [intOf];omega
      ·obtain rfl:xan=k:=by omega
       have c0:wr.cell? ⟨bt,0,none⟩=some (Aa Ab 17):=f.o.cell 0;have fu:wr.cell? ⟨bt,1,none⟩=some (Aa Ab N):=f.o.cell 1;have c2:wr.cell? ⟨bt,2,none⟩=some (Aa Ac (xu:Int)):=f.o.cell 2;have c3:wr.cell? ⟨bt,3,none⟩=some (.string ⟨xs.toArray⟩):=f.o.cell 3;have c4:wr.cell? ⟨bt,4,none⟩=some (.slice A8 xan xan):=f.o.cell 4;have c5:wr.cell? ⟨bt,5,none⟩=some (.slice A9 xan xan):=f.o.cell 5;obtain ⟨r0,r1,r2,r3,r4,r5⟩:=ai.o.c6;have c:∀j,wr.frozen? ⟨br,j,none⟩=false:=fun j=>ai.o.frozen j
       have f0:=c 0;have f1:=c 1;have f2:=c 2;have f3:=c 3;have f4:=c 4;have f5:=c 5;clear c;go_wp2_with fail;refine bodyPost_ret (v:= .agg (Ab8 17 N xu xs A8 xan xan A9 xan xan)) (by simp [results,results74,go_sem,r0,r1,r2,r3,r4,r5]) rfl ?_;have hd:=F.o.done V.o db.o O.o.1 O.o.2.1 O.o.2.2 (by rw [←al.o];exact ak.o.symm) 17 N xu xs (Ij wr br (Aa Ab 17) (Aa Ab N) (Aa Ac (xu:Int)) (.string ⟨xs.toArray⟩) (.slice A8 xan xan) (.slice A9 xan xan));rw [←ba.o] at hd;exact⟨_,rfl,hd.1,hd.2⟩
  ·have ba:=Hd (show Cs (.mk xk N xu xs ks l)= .mk xk N xu xs ks (l.map Cs) by rw [Cs,if_neg ce,I6]);have fv:(xk==17)=false:=by simpa using ce
   have O:=Hd (And.intro bz (And.intro hx hy));clear ih h1 ha h2 hb hy bw hq hd hl hc hp hv G hW ck hK hO bj ce bz hx;go_enter func74,ntmps74;go_upto_region 1 with fail
   generalize (W.alloc (.cells (Ab8 xk N xu xs X xan xac R xbn C) 34)).alloc (.cells #[Aa Ab 0,Aa Ab 0,Aa Ac 0,.string ⟨#[]⟩,.slice none 0 0,.slice none 0 0] 34)=W0 at T K J ag aw⊢;generalize P:W.heap.size=bt at K J⊢;generalize b0:bt+1=br at J⊢;have F:=Hd (show fH W W0 p q bt br X R by
    have e1:=J.o.lt;have e2:=T.o.size;refine⟨fun i b hb=>⟨D.o.2.1 i b hb,D.o.1 b (D.o.2.1 i b hb)⟩,⟨P,b0,e1⟩,fun ad e=>?_,fun ad e=>?_,Fr.of_below T.o _,D.o.2.2⟩
    ·have h1:=d7.o ad e;have h2:=D.o.1 _ h1.1;exact⟨by omega,by omega,by omega,h1.2,.inl h1.1⟩
    ·have h1:=HA.o ad e;have h2:=D.o.1 _ h1.1;exact⟨by omega,by omega,by omega,.inl h1.1,h1.2,fun a ea=>fc.o ad a e ea⟩)
   clear P b0;have c0:W0.cell? ⟨bt,0,none⟩=some (Aa Ab xk):=K.o.cell 0;have bf:=Hd (show(∀i b,q i b→W0.heap[b]?=w0.heap[b]?)∧w0.heap.size≤W0.heap.size from⟨fun i b hb=>(T.o.block b (D.o.1 b (D.o.2.1 i b hb))).trans (b9.o.1 b (D.o.2.1 i b hb)),Nat.le_trans b9.o.2 T.o.size⟩);have al:=ah;have HX:=K;have HR:=J;have HK:=ag;have HO:=aw;clear K J ag aw;go_upto_region 10 with fail
   clear c0 fv;have HC:=Hd (HX.o.cell 0);have c5:W0.cell? ⟨bt,5,none⟩=some (.slice R xbn C):=HX.o.cell 5;go_wp2_with fail;go_loopw [57] (fun uu wr=>∃k:Nat,k≤xbn∧uu= Aa Ab (k:Int)∧∃us,fI W0 wr q R xbn C k vs l us) (fun uu _=>xbn-(intOf uu).toNat)
   case atStart=>exact⟨0,Am _,rfl,vs,HO.o,fun _ _=>rfl,fun i _ _ hi=>by omega,Fr.refl _ _,fun _ _ _ _=>rfl⟩
   case round=>
    obtain⟨k,hk,rfl,us,hS⟩:=hrel;have V:=Hd hS;have f:=Hd (HX.o.fr hS.fr (F.o.no (.inl rfl)));have ai:=Hd (HR.o.fr hS.fr (F.o.no (.inr rfl)));have db:=Hd (HK.o.fr hS.fr (fun ad e=>by
     have h1:=F.o.key ad e;rintro(⟨i,hi⟩|⟨a,e2,e3⟩)
     ·exact h1.2.2.2.2.1 i hi
     ·exact h1.2.2.2.2.2 a e2 e3))
    clear hS c5;by_cases E:k<xbn
    ·obtain⟨v,hv⟩:∃v,vs[k]?=some v:=⟨_,Ai (by have:=al.o;omega)⟩;obtain⟨t',ht'⟩:∃t',l[k]?=some t':=⟨_,Ai (by have h1:=al.o;have h2:=ak.o;omega)⟩;obtain⟨g,dq,e,v0,v1,v2,v3,v4,v5⟩:=Hp V.o.own.is ((V.o.rest k (Ae _)).trans hv);obtain rfl:dq=0:=congrArg Addr.off (V.o.own.addr _ e).1;have e':R=some ⟨g,0,none⟩:=e;clear e;subst e';rw [Nat.zero_add] at v0 v1 v2 v3 v4 v5;have Q:=F.o.off _ rfl;have af:=Hd Q;have et:(0:Int)≤(k:Int):=by omega
     have ew:(k:Int)<(xbn:Int):=by omega
     have cz:xbn≤1099511627776:=O.o.2.2;have c5:wr.cell? ⟨bt,5,none⟩=some (.slice (some ⟨g,0,none⟩) xbn C):=f.o.cell 5;have M:=(Af wr.heap.size wr).alloc (Ae _) (.cells (Ab7 v) 34);have bg:=Hd (f.o.pure M);have aj:=Hd (Bb.new wr 34 (Ab7 v));have ae:=Hd M;have dn:=F.o.bts;have dm:=V.o.fr.size;have d:=Hd (show wr.heap.size≠g∧(∀b,q k b→b≠wr.heap.size)∧¬q k bt∧bt≠g by
      refine⟨?_,fun b hb e=>?_,fun hb=>?_,?_⟩
      ·have h1:g<W0.heap.size:=Q.1;omega
      ·have h1:=(F.o.qs _ _ hb).2;omega
      ·have h1:=(F.o.qs _ _ hb).2;omega
      ·have h1:g≠bt:=Q.2.1;omega)
     have a9:=Hd (av.o k v t' hv ht' (wr.alloc (.cells (Ab7 v) 34)).drew (fun b hb=>by
      have h1:=(F.o.qs _ _ hb).2;have h2:(wr.alloc (.cells (Ab7 v) 34)).heap[b]?=wr.heap[b]?:=M.block b (by omega);exact h2.trans ((V.o.same k b (Ae _) hb).trans (bf.o.1 k b hb))) (by have h1:=bf.o.2;have h2:=M.size;show w0.heap.size≤(wr.alloc (.cells (Ab7 v) 34)).heap.size;omega))
     have de:=Hd ht';clear hv ht' M dn dm Q;go_upto_region 13 with fail
     generalize wr.alloc (.cells (Ab7 v) 34)=w5 at bg aj ae a9⊢;generalize wr.heap.size=bx at aj d⊢;clear v0 v1 v2 v3 v4 v5 c5;have y5:w5.cell? ⟨bt,5,none⟩=some (.slice (some ⟨g,0,none⟩) xbn C):=bg.o.cell 5;obtain ⟨z0,z1,z2,z3,z4,z5⟩:=aj.o.c6;go_region_held3 (fun w'=>w'.cell? ⟨bt,5,none⟩=some (.slice (some ⟨g,0,none⟩) xbn C)∧w'.cell? ⟨bx,0,none⟩=some (Aa Ab v.k)∧w'.cell? ⟨bx,1,none⟩=some (Aa Ab v.n)∧w'.cell? ⟨bx,2,none⟩=some (Aa Ac (v.u:Int))∧w'.cell? ⟨bx,3,none⟩=some (.string ⟨v.s.toArray⟩)∧w'.cell? ⟨bx,4,none⟩=some (.slice v.A v.an v.ac)∧w'.cell? ⟨bx,5,none⟩=some (.slice v.B v.bn v.bc)) (first|with_reducible exact⟨y5,z0,z1,z2,z3,z4,z5⟩|with_reducible exact⟨Bc y5,Bc z0,Bc z1,Bc z2,Bc z3,Bc z4,Bc z5⟩|with_reducible exact⟨x5,q0,q1,q2,q3,q4,q5⟩|exact⟨Ei x5 d.o.2.2.2,Ei q0 d.o.1,Ei q1 d.o.1,Ei q2 d.o.1,Ei q3 d.o.1,Ei q4 d.o.1,Ei q5 d.o.1⟩) (first|(go_at_call 74;(with_reducible refine a9.o.mono ?_);rintro e W6 ⟨y,rfl,bk,r⟩;have x5:=Cq r (Bc y5) d.o.2.2.1;have q0:=Cq r (Bc z0) (fun hh=>d.o.2.1 _ hh rfl);have q1:=Cq r (Bc z1) (fun hh=>d.o.2.1 _ hh rfl);have q2:=Cq r (Bc z2) (fun hh=>d.o.2.1 _ hh rfl);have q3:=Cq r (Bc z3) (fun hh=>d.o.2.1 _ hh rfl);have q4:=Cq r (Bc z4) (fun hh=>d.o.2.1 _ hh rfl);have q5:=Cq r (Bc z5) (fun hh=>d.o.2.1 _ hh rfl);have dc:=Hd bk;have bb:=Hd r;clear bk r;have bl:=(V.o.own.pure (ae.o.drew)).fr bb.o (fun ad e=>by injection e with e;subst e;exact af.o.2.2.2.1 k);obtain⟨m,c,b5⟩:=Kw bl E y;obtain⟨a0,ab⟩:=m 0 (by omega);obtain⟨a1,bo⟩:=m 1 (by omega);obtain⟨a2,bq⟩:=m 2 (by omega);obtain⟨a3,bs⟩:=m 3 (by omega);obtain⟨a4,bu⟩:=m 4 (by omega);obtain⟨a5,bv⟩:=m 5 (by omega);rw [Nat.add_zero] at ab;have f0:=c (k*6);have f1:=c (k*6+1);have f2:=c (k*6+2);have f3:=c (k*6+3);have f4:=c (k*6+4);have f5:=c (k*6+5);clear m c b5 bl));clear ab bo bq bs bu bv f0 f1 f2 f3 f4 f5 x5 q0 q1 q2 q3 q4 q5 y5 z0 z1 z2 z3 z4 z5;go_wp2_with fail;go_roundw
     case rel=>
      have dp:=V.o.step E de.o (fun i b hb=>⟨by have h1:=F.o.qs i b hb;have h2:=F.o.bts;omega,fun e=>af.o.2.2.2.1 i (by rw [e] at hb;exact hb)⟩) af.o.1 F.o.apart ae.o.drew dc.o bb.o;exact⟨k+1,by omega,by go_num,_,dp⟩
     case measure=>simp [intOf];omega
    ·obtain rfl:xbn=k:=by omega
     have c0:wr.cell? ⟨bt,0,none⟩=some (Aa Ab xk):=f.o.cell 0;have fu:wr.cell? ⟨bt,1,none⟩=some (Aa Ab N):=f.o.cell 1;have c2:wr.cell? ⟨bt,2,none⟩=some (Aa Ac (xu:Int)):=f.o.cell 2;have c3:wr.cell? ⟨bt,3,none⟩=some (.string ⟨xs.toArray⟩):=f.o.cell 3;have c4:wr.cell? ⟨bt,4,none⟩=some (.slice X xan xac):=f.o.cell 4;have c5:wr.cell? ⟨bt,5,none⟩=some (.slice R xbn C):=f.o.cell 5;obtain ⟨r0,r1,r2,r3,r4,r5⟩:=ai.o.c6;have c:∀j,wr.frozen? ⟨br,j,none⟩=false:=fun j=>ai.o.frozen j
     have f0:=c 0;have f1:=c 1;have f2:=c 2;have f3:=c 3;have f4:=c 4;have f5:=c 5;clear c;go_wp2_with fail;refine bodyPost_ret (v:= .agg (Ab8 xk N xu xs X xan xac R xbn C)) (by simp [results,results74,go_sem,r0,r1,r2,r3,r4,r5]) rfl ?_;have hd:=F.o.done V.o db.o O.o.1 O.o.2.1 O.o.2.2 (by rw [←ah.o];exact ak.o.symm) xk N xu xs (Ij wr br (Aa Ab xk) (Aa Ab N) (Aa Ac (xu:Int)) (.string ⟨xs.toArray⟩) (.slice X xan xac) (.slice R xbn C));rw [←ba.o] at hd;exact⟨_,rfl,hd.1,hd.2⟩
def Ji:Zn:=⟨5,61,60,70,71⟩
def Na(c d:Nat)(t:Tr):Int:=if 4096<c+1 then 5 else if 64≤d then 61 else if Hm t=false then 60 else I3 70 71 t
def Iz:List (Nat×Tr)→Nat→Int
 | [],_=>0
 |x::r,c=>if Na c x.1 x.2≠0 then Na c x.1 x.2 else Iz r (c+1)
theorem Tn:∀(a b:List (Nat×Tr)) (c:Nat),Iz (a++b) c=if Iz a c≠0 then Iz a c else Iz b (c+a.length)
 | [],b,c=>by simp [Iz]
 |x::r,b,c=>by
  rw [List.cons_append,Iz,Iz,Tn r b (c+1),Av];by_cases h:Na c x.1 x.2=0
  ·have hn:¬Na c x.1 x.2≠0:=fun e=>e h
   simp only [if_neg hn];rw [show c+1+r.length=c+(r.length+1) by omega]
  ·have hp:Na c x.1 x.2≠0:=h;simp only [if_pos hp]
mutual
theorem fK:∀(t:Tr) (d c:Nat),(Jm Ji d t c).1=Iz (Tr.pre d t) c∧((Jm Ji d t c).1=0→(Jm Ji d t c).2=c+(Tr.pre d t).length)
 | .mk k n u s ks l,d,c=>by
  obtain⟨f,g⟩:=Zw l (d+1) (c+1);rw [Jm,Tr.pre,Iz];simp only [];by_cases h1:c+1>4096
  ·have e:Na c d (.mk k n u s ks l)=5:=if_pos h1;rw [if_pos h1,e,if_pos (by decide)];exact⟨rfl,fun h=>absurd h (show ¬(_:Int)=0 from by simp [Ji])⟩
  rw [if_neg h1];by_cases h2:d≥64
  ·have e:Na c d (.mk k n u s ks l)=61:=by unfold Na;rw [if_neg h1,if_pos h2]
   rw [if_pos h2,e,if_pos (by decide)];exact⟨rfl,fun h=>absurd h (show ¬(_:Int)=0 from by simp [Ji])⟩
  rw [if_neg h2];by_cases h3:Hm (.mk k n u s ks l)=false
  ·have e:Na c d (.mk k n u s ks l)=60:=by unfold Na;rw [if_neg h1,if_neg h2,if_pos h3]
   rw [if_pos h3,e,if_pos (by decide)];exact⟨rfl,fun h=>absurd h (show ¬(_:Int)=0 from by simp [Ji])⟩
  rw [if_neg h3];have e:Na c d (.mk k n u s ks l)=I3 70 71 (.mk k n u s ks l):=by unfold Na;rw [if_neg h1,if_neg h2,if_neg h3]
  rw [e];by_cases b:I3 Ji.key Ji.twice (.mk k n u s ks l)≠0
  ·have a:I3 70 71 (.mk k n u s ks l)≠0:=b;rw [if_pos b,if_pos a];exact⟨rfl,fun h=>absurd h b⟩
  ·have a:¬I3 70 71 (.mk k n u s ks l)≠0:=b;rw [if_neg b,if_neg a];refine⟨f,fun h=>?_⟩;rw [g h,Av];omega
theorem Zw:∀(l:List Tr) (d c:Nat),(Pm Ji d l c).1=Iz (Tr.pre.Tr.preL d l) c∧((Pm Ji d l c).1=0→(Pm Ji d l c).2=c+(Tr.pre.Tr.preL d l).length)
 | [],d,c=>by rw [Pm,Tr.pre.Tr.preL];exact⟨rfl,fun _=>rfl⟩
 |t::r,d,c=>by
  obtain⟨b,a⟩:=fK t d c;rw [Pm,Tr.pre.Tr.preL,Tn,←b];by_cases h:(Jm Ji d t c).1≠0
  ·rw [if_pos h,if_pos h];exact⟨rfl,fun e=>absurd e h⟩
  ·rw [if_neg h,if_neg h];have a:=a (by simpa using h);rw [a];obtain⟨f,g⟩:=Zw r d (c+(Tr.pre d t).length);refine⟨f,fun e=>?_⟩;rw [g e,Ak];omega
end
theorem U6{f:Nat→Int}{T:List (Nat×Tr)}(h:∀i x,T[i]?=some x→f i=Na i x.1 x.2):∀m,m≤T.length→Iy f m=Iz (T.take m) 0
 |0,_=>by simp [Iy,Iz]
 |m+1,hm=>by
  rw [Az (by omega),Tn,Iy,U6 h m (by omega)];have e:Iz [T[m]] (0+(T.take m).length)=f m:=by
   rw [Iz,Iz,h m T[m] (Ai (by omega)),List.length_take,Nat.min_eq_left (by omega),Nat.zero_add];by_cases h0:Na m T[m].1 T[m].2=0
   ·rw [if_neg (by simp [h0]),h0]
   ·rw [if_pos h0]
  rw [e]
def Lp(w:World)(p:Nat→Prop)(ys:List (Nat×Nv))(T:List (Nat×Tr)):Prop:=ys.length=T.length∧∀(i:Nat) y,ys[i]?=some y→∃t',T[i]?=some (y.1,t')∧B7 w p y.2 t'
theorem Lp.app{zs:List (Nat×Nv)}{U:List (Nat×Tr)}(h:Lp w p ys T)(k:Lp w p zs U):Lp w p (ys++zs) (T++U):=by
 refine⟨by rw [Ak,Ak,h.1,k.1],fun i y hy=>?_⟩;rcases Nat.lt_or_ge i ys.length with a|a
 ·rw [List.getElem?_append_left a] at hy;rw [List.getElem?_append_left (by rw [←h.1];exact a)];exact h.2 i y hy
 ·rw [List.getElem?_append_right a] at hy;rw [List.getElem?_append_right (by rw [←h.1];exact a),←h.1];exact k.2 _ y hy
theorem Sy{w:World}{p:Nat→Prop}{d:Nat}:∀(l:List Tr) (yss:List (List (Nat×Nv))),yss.length=l.length→(∀(i:Nat) t ys,l[i]?=some t→yss[i]?=some ys→Lp w p ys (Tr.pre d t))→Lp w p yss.flatten (Tr.pre.Tr.preL d l)
 | [],[],_,_=>⟨rfl,fun i y h=>by simp at h⟩
 | [],_::_,h,_=>by simp at h
 |_::_,[],h,_=>by simp at h
 |t::r,ys::yss,hl,h=>by
  rw [Tr.pre.Tr.preL,List.flatten_cons];exact(h 0 t ys rfl rfl).app (Sy r yss (by simpa using hl) fun i t' ys' h1 h2=>h (i+1) t' ys' (by simpa using h1) (by simpa using h2))
theorem Gw.read(h:Gw w p d x t ys):B7 w p x t:=by
 induction h with
 | @mk d x ks l vs yss h1 ha hac hx h2 hb hbc hy hl hyl hc ih=>
  refine .mk h1 ha hac hx h2 hb hbc hy hl fun i v t hv ht=>?_
  have hi:i<yss.length:=by rw [hyl];exact(List.getElem?_eq_some_iff.1 ht).1
  exact ih i v t yss[i] hv ht (Ai hi)
theorem Gw.nodes(h:Gw w p d x t ys):Lp w p ys (Tr.pre d t):=by
 induction h with
 | @mk d x ks l vs yss h1 ha hac hx h2 hb hbc hy hl hyl hc ih=>
  have c:=(Gw.mk h1 ha hac hx h2 hb hbc hy hl hyl hc).read;have a:=Sy l yss hyl fun i t ys ht hys=>by
   have b:i<vs.length:=by rw [hl];exact(List.getElem?_eq_some_iff.1 ht).1
   exact ih i vs[i] t ys (Ai b) ht hys
  rw [Tr.pre];exact Lp.app (ys:=[(d,x)]) (T:=[(d,.mk x.k x.n x.u x.s ks l)]) ⟨rfl,fun i y hy=>by
   cases i with
   |zero=>simp at hy;subst hy;exact⟨_,rfl,c⟩
   |succ i=>simp at hy⟩ a
theorem rQ{Y:List (Nat×Nv)}{sb:Nat→Bool}{ke:Nat→Int}(hl:Y.length=T.length)(h:∀(i:Nat) y x,Y[i]?=some y→T[i]?=some x→x.1=y.1∧sb i=Hm x.2∧ke i=I3 70 71 x.2):Iy (Rh Y sb ke) Y.length=Iz T 0:=by
 rw [U6 (T:=T) ?_ Y.length (Nat.le_of_eq hl),Aw (Nat.le_of_eq hl.symm)];intro i x b;have a:i<Y.length:=by rw [hl];exact(List.getElem?_eq_some_iff.1 b).1
 obtain⟨c,d,e⟩:=h i Y[i] x (Ai a) b;unfold Rh;rw [dif_pos a];unfold Ti Na;simp only [];rw [c,d,e];rfl
def I5(p k:Int):Bool:=(p != 0)&&(k != p)
theorem kV(h:Nat)(p:Int)(x:Nv)(w:World)(hb:Bb w h 3 #[Aa Ab p]):
  Calls Ad 236 #[.agg (Ab7 x),Aca h] w (Ab5 (.bool (I5 p x.k)) w):=by
 have c:=Hd (show Below w.heap.size w (w.alloc (.cells (Ab7 x) 34)) from(Af _ _).alloc (Ae _) _);have e:=Bm (.cells (Ab7 x) 34) (show w.cell? ⟨h,0,none⟩=some (Aa Ab p) from hb.cell 0);obtain⟨r,a⟩:∃r,I5 p x.k=r:=⟨_,rfl⟩;rw [a];unfold I5 at a;obtain⟨b1,h1⟩:∃b,(p != 0)=b:=⟨_,rfl⟩;obtain⟨b2,h2⟩:∃b,(x.k != p)=b:=⟨_,rfl⟩;rw [h1,h2] at a;have d:=Hd a;clear hb a;cases b1 with
 |true=>
  cases b2 with
  |true=>
   go_enter func236,ntmps236;go_wp2;go_ret;exact⟨Ck d.o,c.o⟩
  |false=>
   go_enter func236,ntmps236;go_wp2;go_ret;exact⟨Ck d.o,c.o⟩
 |false=>
  go_enter func236,ntmps236;go_wp2;go_ret;exact⟨Ck d.o,c.o⟩
theorem nI(h:Nat)(p:Int)(B:Option Addr)(bn bc:Nat)(vs:List Nv)(w:World)(hI:It w B bn vs)(hn:bn≤1099511627776)(hb:Bb w h 3 #[Aa Ab p]):
  Calls Ad 297 #[.slice B bn bc,.func (.func 236) #[] #[Aca h]] w fun e w'=>∃i:Int,e= .returned (Aa Ab i)∧decide (0≤i)=vs.any (fun v=>I5 p v.k)∧Below w.heap.size w w':=by
 have J:=Hd hI;have K:=Hd hb;have z:=Hd hI.1;clear hI hb;go_enter func297,ntmps297;go_wp2_with fail;go_loopw [8] (fun u wr=>∃k:Nat,k≤bn∧u= Aa Ab k∧Below w.heap.size w wr∧∀v∈vs.take k,I5 p v.k=false) (fun u _=>bn-(intOf u).toNat)
 case atStart=>exact⟨0,Am _,rfl,Af _ _,fun v h=>by simp at h⟩
 case round=>
  obtain⟨k,T,rfl,c,f⟩:=hrel;have m:=Hd c;have d:=Hd f;have n:=J.o.pure c;have q:=Hd (K.o.pure c);clear c f;by_cases Q:k<bn
  ·obtain⟨v,t⟩:∃v,vs[k]?=some v:=⟨_,Ai (by have:=z.o;omega)⟩;obtain⟨g,R,rfl,D,E,F,G,H,I⟩:=Hp n t;have C:=Hd t;obtain⟨r,s⟩:∃r,I5 p v.k=r:=⟨_,rfl⟩;have A:=Hd s;have O:(0:Int)≤(k:Int):=by omega
   have P:(k:Int)<(bn:Int):=by omega
   have b:=kV h p v wr q.o;rw [s] at b;have y:=Hd b;clear s b n t;cases r with
   |true=>
    go_wp2_with fail;go_at_call 236;refine y.o.mono ?_;rintro e S ⟨rfl,a⟩;have l:=Hd (A6 m.o a);clear a D E F G H I;go_wp2_with fail;go_ret;refine⟨k,rfl,?_,l.o⟩;rw [decide_eq_true (by omega)];exact(List.any_eq_true.2 ⟨v,List.mem_of_getElem? C.o,A.o⟩).symm
   |false=>
    go_wp2_with fail;go_at_call 236;refine y.o.mono ?_;rintro e S ⟨rfl,a⟩;have l:=Hd (A6 m.o a);clear a D E F G H I;go_wp2_with fail;go_roundw
    case rel=>
     refine⟨k+1,by omega,by go_num,l.o,?_⟩;intro x j;obtain⟨h1,h2⟩:=List.getElem?_eq_some_iff.1 C.o;rw [Az h1,h2] at j;rcases List.mem_append.1 j with j|j
     ·exact d.o x j
     ·rw [List.mem_singleton.1 j];exact A.o
    case measure=>simp [intOf];omega
  ·have M:decide ((k:Int)<(bn:Int))=false:=decide_eq_false (by omega);have N:decide (k<bn)=false:=decide_eq_false (by omega);have L:=Hd (show vs.take k=vs from Aw (by have:=z.o;omega));clear n;go_wp2_with fail;go_ret;refine⟨-1,rfl,?_,m.o⟩;rw [decide_eq_false (by omega)];symm;rw [List.any_eq_false];intro x j;have:=d.o x (by rw [L.o];exact j);rw [this];decide
theorem Ix(h:Nat)(p:Int)(B:Option Addr)(bn bc:Nat)(vs:List Nv)(w:World)(hI:It w B bn vs)(hn:bn≤1099511627776)(hb:Bb w h 3 #[Aa Ab p]):
  Calls Ad 237 #[.slice B bn bc,.func (.func 236) #[] #[Aca h]] w (Ab5 (.bool (vs.any (fun v=>I5 p v.k))) w):=by
 have f:=Hd (nI h p B bn bc vs w hI hn hb);clear hI hb;go_enter func237,ntmps237;go_wp2_with fail;go_at_call 297;refine f.o.mono ?_;rintro e g ⟨i,rfl,c,a⟩;have b:=Hd c;have d:=Hd a;clear a c;go_wp2_with fail;go_ret;exact⟨Ck b.o,d.o⟩
theorem tR(k n:Int)(u:Nat)(s:List UInt8)(A:Option Addr)(an ac:Nat)(B:Option Addr)(bn bc:Nat)(w:World)(h:¬(1≤k∧k≤17)):Calls Ad 143 #[.agg (Ab8 k n u s A an ac B bn bc)] w (Ab5 (.bool false) w):=by
 have a:=Hd (show Below w.heap.size w (w.alloc (.cells (Ab8 k n u s A an ac B bn bc) 34)) from(Af _ _).alloc (Ae _) _);by_cases h1:k<1
 ·have b:decide (k<1)=true:=decide_eq_true h1;clear h h1;go_enter func143,ntmps143;go_wp2_with fail;go_ret;exact⟨rfl,a.o⟩
 ·have b:decide (k<1)=false:=decide_eq_false h1;have c:decide (17<k)=true:=decide_eq_true (by omega);clear h h1;go_enter func143,ntmps143;go_wp2_with fail;go_ret;exact⟨rfl,a.o⟩
theorem lN{l:List Tr}{q:Int}(hl:vs.length=l.length)(hc:∀(i:Nat) v t,vs[i]?=some v→l[i]?=some t→B7 w p v t):
  (!(vs.any fun v=>I5 q v.k))=l.all fun x=>decide (q=0∨x.k=q):=by
 have d:∀i (h1:i<vs.length) (h2:i<l.length),vs[i].k=l[i].k:=by
  intro i h1 h2;exact(hc i _ _ (Ai h1) (Ai h2)).fields.1.symm
 have c:vs.map (·.k)=l.map Tr.k:=by
  apply List.ext_getElem (by simpa using hl);intro i h1 h2;rw [List.getElem_map,List.getElem_map];exact d i _ _
 have a:(vs.any fun v=>I5 q v.k)=(vs.map (·.k)).any (I5 q):=by rw [List.any_map];rfl
 have b:(l.all fun x=>decide (q=0∨x.k=q))=(l.map Tr.k).all fun y=>decide (q=0∨y=q):=by rw [List.all_map];rfl
 rw [a,b,c];clear a b c d hl hc
 induction l.map Tr.k with
 |nil=>rfl
 |cons y r ih=>
  rw [List.any_cons,List.all_cons,Bool.not_or,ih]
  congr 1
  unfold I5;by_cases h1:q=0 <;>by_cases h2:y=q <;>simp [h1,h2]
theorem tP(k n:Int)(u:Nat)(s:List UInt8)(ks:List (List UInt8))(l:List Tr):Hm (.mk k n u s ks l)=
  (decide (1≤k∧k≤17)&&decide (k=2∨k=3∨k=8∨n=0)&&decide (k=4∨k=9∨u=0)&&decide (k=5∨k=6∨k=7∨s=[])&&decide (k=17∨ks=[])&&decide (k=2→n=0∨n=1)&&decide (k=17→ks.length=l.length)&&decide (k=15∨k=16→2≤l.length∧l.length≤4)&&l.all fun x=>decide (Nd k=0∨x.k=Nd k)):=rfl
theorem tQ{k U:Int}(h1:1≤k)(h17:k≤17)(hU:V7 k=U):((k=1∨k=10∨k=11∨k=12∨k=13∨k=14)∧U=0)∨((k=3∨k=8)∧U=1)∨(k=2∧U=1)∨((k=4∨k=9)∧U=2)∨((k=5∨k=6∨k=7)∧U=4)∨(k=17∧U=8)∨((k=15∨k=16)∧U=0):=by
 unfold V7 at hU
 (repeat' split at hU) <;>omega
theorem pV{P:Nat→Prop}(h:B7 w P x t):Calls Ad 143 #[.agg (Ab7 x)] w (Ab5 (.bool (Hm t)) w):=by
 cases h with
 | @mk _ ks l vs hk1 ha hac hx hI D hbc hy hl hc=>
 obtain⟨k,n,u,s,A,an,N,B,bn,bc⟩:=x;simp only at hk1 ha hac hx hI D hbc hy;by_cases v:1≤k∧k≤17
 rotate_left
 ·rw [show Hm (.mk k n u s ks l)=false by unfold Hm;simp [Tr.k,v]];exact tR k n u s A an N B bn bc w v
 obtain⟨h1,C⟩:=v;obtain⟨r,v⟩:∃r,Hm (.mk k n u s ks l)=r:=⟨_,rfl⟩;obtain⟨U,hU⟩:∃U,V7 k=U:=⟨_,rfl⟩;obtain⟨p,hp⟩:∃p,Nd k=p:=⟨_,rfl⟩;have j:bn≤1099511627776:=by omega
 have hcl:=tQ h1 C hU;rw [v];rw [tP,hp,←lN (q:=p) hl hc,hk1.1,←hl,hI.1] at v;simp only [show(ks=[])=(an=0) from propext (by rw [←hk1.1];exact List.length_eq_zero_iff.symm)] at v;clear hk1 ha hac hx D hbc hy hl hc;have HB:=Hd (show Below w.heap.size w (w.alloc (.cells (Ab8 k n u s A an N B bn bc) 34)) from(Af _ _).alloc (Ae _) _);have X:=Hd (Bb.new w 34 (Ab8 k n u s A an N B bn bc));have W:=Hd hI;have HU:=Hd hU;have HP:=Hd hp;have M:=Hd (And.intro h1 C);have d1:decide (k<1)=false:=decide_eq_false (by omega);have Z:decide (17<k)=false:=decide_eq_false (by omega);clear hI hU hp h1 C;go_enter func143,ntmps143;go_upto_region 3 with fail
 have O:=W.o.alloc (.cells (Ab8 k n u s A an N B bn bc) 34);replace W:=Hd O;clear O d1 Z;generalize w.alloc (.cells (Ab8 k n u s A an N B bn bc) 34)=w1 at HB X W⊢;generalize w.heap.size=g at X⊢;have z:w1.cell? ⟨g,0,none⟩=some (Aa Ab k):=X.o.cell 0;have V:=Nat.ne_of_lt (Bu z);simp only at V;go_cut [3,4] (fun u3 u4 wx=>∃wy,wy=wx∧u3= Aa Ab U∧(∃h,u4= Aca h∧Bb wx h 3 #[Aa Ab p])∧Below w1.heap.size w1 wx)
 case first=>
  have eU:(0:Int)=0:=rfl;go_region_held3 (fun w'=>w'.cell? ⟨g,0,none⟩=some (Aa Ab k)) (first|with_reducible exact z|with_reducible exact Bc z|with_reducible exact Ih _ z|with_reducible exact Bc (Bm _ z)|with_reducible exact Ih _ (Bm _ z)) (first|(go_at_call 234;(with_reducible refine(qI k U _ M.o.1 M.o.2 HU.o).mono ?_);rintro e w' ⟨rfl,rfl⟩)|(go_at_call 235;(with_reducible refine(wU k p _ M.o.1 M.o.2 HP.o).mono ?_);rintro e w' ⟨rfl,rfl⟩))
  all_goals
   go_wp2_with fail;go_meet;exact⟨_,rfl,rfl,⟨_,rfl,(Bb.new _ _ _).drew⟩,((Af _ _).alloc (Ae _) _).drew⟩
 case rest=>
 obtain⟨w2,rfl,rfl,⟨h,rfl,S⟩,D⟩:=hcut;have Y:=Hd (X.o.pure D);have i:=Hd (W.o.pure D);have c:=Hd (A6 HB.o D);have f:=Hd S;obtain ⟨F,G,H,I,J,K⟩:=Y.o.c6;obtain⟨bN,ad⟩:∃b,(n != 0)=b:=⟨_,rfl⟩;obtain⟨bU,af⟩:∃b,((u:Int) != 0)=b:=⟨_,rfl⟩;obtain⟨bS,ae⟩:∃b,(s== [])=b:=⟨_,rfl⟩;obtain⟨bA,Q⟩:∃b,decide (0<an)=b:=⟨_,rfl⟩;have ak:decide ((0:Int)<(an:Int))=bA:=by rw [←Q];exact decide_eq_decide.2 (by omega)
 obtain⟨b1,ab⟩:∃b,(n != 1)=b:=⟨_,rfl⟩;obtain⟨bE,E⟩:∃b,decide (an=bn)=b:=⟨_,rfl⟩;have al:((an:Int) != (bn:Int))=!bE:=by
  rw [←E,Bool.eq_iff_iff];simp only [bne_iff_ne,ne_eq,Bool.not_eq_true',decide_eq_false_iff_not];omega
 have am:((an:Int)==(bn:Int))=bE:=by
  rw [←E,Bool.eq_iff_iff];simp only [beq_iff_eq,decide_eq_true_eq];omega
 obtain⟨bl,T⟩:∃b,decide (bn<2)=b:=⟨_,rfl⟩;obtain⟨bg,R⟩:∃b,decide (4<bn)=b:=⟨_,rfl⟩;have ap:decide ((bn:Int)<2)=bl:=by rw [←T];exact decide_eq_decide.2 (by omega)
 have ao:decide (4<(bn:Int))=bg:=by rw [←R];exact decide_eq_decide.2 (by omega)
 simp only [show(n=0)=(bN=false) by rw [←ad];simp,show(n=1)=(b1=false) by rw [←ab];simp,show(u=0)=(bU=false) by rw [←af];simp,show(s=[])=(bS=true) by rw [←ae];cases s <;>simp,show(an=0)=(bA=false) by rw [←Q];simp,show(an=bn)=(bE=true) by rw [←E];simp,show(2≤bn∧bn≤4)=(bl=false∧bg=false) by rw [←T,←R];simp] at v;have m:=Hd v;clear D S z V v M HU HP;obtain⟨y,rfl⟩|⟨y,rfl⟩|⟨rfl,rfl⟩|⟨y,rfl⟩|⟨y,rfl⟩|⟨rfl,rfl⟩|⟨y,rfl⟩:=hcl
 ·obtain rfl|rfl|rfl|rfl|rfl|rfl:=y
  all_goals
   cases bN;cases bU;cases bS;rotate_left;cases bA
   all_goals
    go_wp2_with fail
    first
     |(go_ret;exact⟨by rw [←m.o];simp,c.o⟩)
     |(go_at_call 237;refine(Ix h p B bn bc vs _ i.o j f.o).mono ?_;rintro e L ⟨rfl,a⟩;have d:=Hd (A6 c.o a);clear a F G H I J K;go_wp2_with fail;go_ret;exact⟨by rw [←m.o];simp,d.o⟩)
 ·obtain rfl|rfl:=y
  all_goals
   cases bU;cases bS;rotate_left;cases bA
   all_goals
    go_wp2_with fail
    first
     |(go_ret;exact⟨by rw [←m.o];simp,c.o⟩)
     |(go_at_call 237;refine(Ix h p B bn bc vs _ i.o j f.o).mono ?_;rintro e L ⟨rfl,a⟩;have d:=Hd (A6 c.o a);clear a F G H I J K;go_wp2_with fail;go_ret;exact⟨by rw [←m.o];simp,d.o⟩)
 ·cases bU;cases bS;rotate_left;cases bA;cases bN;rotate_left;cases b1
  all_goals
   go_wp2_with fail
   first
    |(go_ret;exact⟨by rw [←m.o];simp,c.o⟩)
    |(go_at_call 237;refine(Ix h p B bn bc vs _ i.o j f.o).mono ?_;rintro e L ⟨rfl,a⟩;have d:=Hd (A6 c.o a);clear a F G H I J K;go_wp2_with fail;go_ret;exact⟨by rw [←m.o];simp,d.o⟩)
 ·obtain rfl|rfl:=y
  all_goals
   cases bN;cases bS;rotate_left;cases bA
   all_goals
    go_wp2_with fail
    first
     |(go_ret;exact⟨by rw [←m.o];simp,c.o⟩)
     |(go_at_call 237;refine(Ix h p B bn bc vs _ i.o j f.o).mono ?_;rintro e L ⟨rfl,a⟩;have d:=Hd (A6 c.o a);clear a F G H I J K;go_wp2_with fail;go_ret;exact⟨by rw [←m.o];simp,d.o⟩)
 ·obtain rfl|rfl|rfl:=y
  all_goals
   cases bN;cases bU;cases bA
   all_goals
    go_wp2_with fail
    first
     |(go_ret;exact⟨by rw [←m.o];simp,c.o⟩)
     |(go_at_call 237;refine(Ix h p B bn bc vs _ i.o j f.o).mono ?_;rintro e L ⟨rfl,a⟩;have d:=Hd (A6 c.o a);clear a F G H I J K;go_wp2_with fail;go_ret;exact⟨by rw [←m.o];simp,d.o⟩)
 ·cases bN;cases bU;cases bS;rotate_left;cases bE
  all_goals
   go_wp2_with fail
   first
    |(go_ret;exact⟨by rw [←m.o];simp,c.o⟩)
    |(go_at_call 237;refine(Ix h p B bn bc vs _ i.o j f.o).mono ?_;rintro e L ⟨rfl,a⟩;have d:=Hd (A6 c.o a);clear a F G H I J K;go_wp2_with fail;go_ret;exact⟨by rw [←m.o];simp,d.o⟩)
 ·obtain rfl|rfl:=y
  all_goals
   cases bN;cases bU;cases bS;rotate_left;cases bA;cases bl;cases bg
   all_goals
    go_wp2_with fail
    first
     |(go_ret;exact⟨by rw [←m.o];simp,c.o⟩)
     |(go_at_call 237;refine(Ix h p B bn bc vs _ i.o j f.o).mono ?_;rintro e L ⟨rfl,a⟩;have d:=Hd (A6 c.o a);clear a F G H I J K;go_wp2_with fail;go_ret;exact⟨by rw [←m.o];simp,d.o⟩)
end Go.Proofs.YtejpbijeifjdeaaGreat
