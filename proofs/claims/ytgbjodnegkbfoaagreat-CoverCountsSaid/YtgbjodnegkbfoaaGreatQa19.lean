/- Parts of the proof. -/
import Derived.Test.YtgbjodnegkbfoaaGreatQa09
import Derived.Test.YtgbjodnegkbfoaaGreatQa18
import Derived.Deep.RegionHeld3
set_option maxHeartbeats 4000000
set_option maxRecDepth 100000
open Go.Value renaming int→Aa
open Go.IntKind renaming i64→Ab,u64→Ac
open Nat renaming le_refl→Ath,zero_le→Atl
open List renaming getElem?_eq_getElem→Ati,length_append→Atj,replicate→Atm,length_map→Atq,take_of_length_le→Att,mem_of_getElem?→Atu,take_succ_eq_append_getElem→Atv,getD_eq_getElem?_getD→Atw
namespace Go.Proofs.YtgbjodnegkbfoaaGreat
open Go.RowKit Go.Acc
theorem Asp{w:World}{p q:Addr}{u v:Value}(h:w.cell? q=some v)(hne:q.block≠p.block):(w.setCell p u).cell? q=some v:=
 (World.cell?_of_block (w:=w) (Below.heap_setCell w p u q.block hne)).trans h
theorem Aon{α:Type}(f:Nat→α)(z:α){ps:List Nat}{n k:Nat}(hl:ps.length=n)(hk:k<n):((ps.take k).map f++Atm (n-k) z).set k (f (ps[k]'(by omega)))=(ps.take (k+1)).map f++Atm (n-(k+1)) z:=by
 have e1:((ps.take k).map f).length=k:=by simp;omega
 have e2:n-k=(n-(k+1))+1:=by omega
 rw [List.set_append_right _ _ (by omega),e1,Nat.sub_self,e2,List.replicate_succ,List.set_cons_zero,Atv (by omega),List.map_append];simp
theorem Apc{α:Type}{l:List α}{i:Nat}(x:α)(h:i<l.length):l.take i++ [x]++l.drop (i+1)=l.set i x:=by
 rw [List.set_eq_take_append_cons_drop,if_pos h];simp
theorem We{α:Type}{l:List α}{i:Nat}(d:α)(h:i<l.length):l.getD i d=l[i]:=by
 rw [Atw,Ati h];rfl
theorem Ajb{α β:Type}(f:α→β)(l:List α)(i:Nat)(d:α):(l.map f).getD i (f d)=f (l.getD i d):=by
 rw [Atw,Atw,List.getElem?_map];cases l[i]? <;>rfl
theorem Aoq{w:World}{g i g' j:Nat}{u v:Value}(h:w.cell? ⟨g,i,none⟩=some v)(hne:g≠g'):(w.setCell ⟨g',j,none⟩ u).cell? ⟨g,i,none⟩=some v:=Asp h hne
structure SrF(W W0:World)(p:Nat→Prop)(q:Nat→Nat→Prop)(bt br:Nat)(A1 A:Option Addr):Prop where
 qs:∀i b,q i b→p b∧b<W.heap.size
 bts:W.heap.size=bt∧bt+1=br∧br<W0.heap.size
 off:∀ad,A=some ad→ad.block<W0.heap.size∧ad.block≠bt∧ad.block≠br∧(∀i,¬q i ad.block)∧(p ad.block∨W.heap.size≤ad.block)
 key:∀ad,A1=some ad→ad.block<W0.heap.size∧ad.block≠bt∧ad.block≠br∧(p ad.block∨W.heap.size≤ad.block)∧(∀i,¬q i ad.block)∧∀a,A=some a→ad.block≠a.block
 fr:Fr p W W0
 apart:∀i j b,i≠j→q i b→¬q j b
theorem SrF.no{W W0:World}{p:Nat→Prop}{q:Nat→Nat→Prop}{bt br:Nat}{A1 A:Option Addr}(h:SrF W W0 p q bt br A1 A){b:Nat}(hb:b=bt∨b=br):¬((∃i,q i b)∨∃ad,A=some ad∧b=ad.block):=by
 rintro(⟨i,hi⟩|⟨ad,e,rfl⟩)
 ·have h1:=(h.qs i b hi).2;have h2:=h.bts;omega
 ·have h1:=h.off ad e;omega
theorem SrF.done{W W0 w:World}{p:Nat→Prop}{q:Nat→Nat→Prop}{bt br:Nat}{A1 A:Option Addr}{n c n1 c1:Nat}{vs us:List Nv}{ts:List Tr}{ks:List (List UInt8)}(h:SrF W W0 p q bt br A1 A)(hs:SrR W0 w q A n c n vs ts us)(hk:Ey w A1 n1 ks)(hc:n1≤c1)(h1:n1≤1099511627776)(hn:n≤1099511627776)(hl:ts.length=n)
  (k m:Int) (u:Nat) (s:List UInt8) {w':World} (hF:Fr (fun j=>j=br) w w'):Bk w' (fun b=>p b∨(W.heap.size≤b∧b<w'.heap.size)) ⟨k,m,u,s,A1,n1,c1,A,n,c⟩ (.mk k m u s ks (ts.map Aq))∧Fr p W w':=by
 have e1:=h.bts;have e2:=hs.fr.size;have e3:=hF.size;refine⟨Bk.mk (x:=⟨k,m,u,s,A1,n1,c1,A,n,c⟩) (hk.fr hF fun ad e=>?_) (fun ad e=>?_) hc h1 (hs.own.is.fr hF fun ad e=>?_) (fun ad e=>?_) hs.own.cap.1 hn (by rw [Atq,hl];exact hs.own.1) (fun i v t hv ht=>?_),?_⟩
 ·have:=h.key ad e;omega
 ·have:=h.key ad e;rcases this.2.2.2.1 with hh|hh
  ·exact .inl hh
  ·exact .inr ⟨hh,by omega⟩
 ·have:=h.off ad e;omega
 ·have:=h.off ad e;rcases this.2.2.2.2 with hh|hh
  ·exact .inl hh
  ·exact .inr ⟨hh,by omega⟩
 ·have hi:i<n:=by
   have:=(List.getElem?_eq_some_iff.1 hv).1;rw [hs.own.1] at this;exact this
  rw [List.getElem?_map] at ht;cases hti:ts[i]? with
  |none=>rw [hti] at ht;simp at ht
  |some t'=>
   rw [hti] at ht;simp at ht;subst ht;refine((hs.done i v t' hi hv hti).keep fun a u hc hp=>By hF hc ?_).mono fun b hb=>?_
   ·rcases hp with hp|hp
    ·have:=(h.qs _ _ hp).2;omega
    ·omega
   ·rcases hb with hb|hb
    ·exact .inl (h.qs _ _ hb).1
    ·exact .inr ⟨by have:=h.fr.size;omega,by omega⟩
 ·refine(h.fr.trans hs.fr (fun i hi hh=>?_)).trans hF (fun i hi hh=>by omega);rcases hh with⟨j,hj⟩|⟨ad,e,rfl⟩
  ·exact(h.qs _ _ hj).1
  ·rcases(h.off ad e).2.2.2.2 with hh|hh
   ·exact hh
   ·omega
theorem Ads{w0:World}{p:Nat→Prop}{x:Nv}{t:Tr}(h:Ix w0 p x t):(∀k,p k→k<w0.heap.size)→Ff t→t.cost≤4000000→∀W,(∀b,p b→W.heap[b]?=w0.heap[b]?)→w0.heap.size≤W.heap.size→Calls Tryz.prog 79 #[.agg #[Aa Ab x.k,Aa Ab x.n,Aa Ac (x.u:Int),.string ⟨x.s.toArray⟩,.slice x.A x.an x.ac,.slice x.B x.bn x.bc]] W (Alr W p t):=by
 induction h with
 | @mk p x ks l vs q h1 ha hac hx h2 hb hy hab hq hd hl hc ih=>
  intro hp hv hcost W hW hsz;obtain⟨xk,xn,xu,xs,XA,xan,xac,XB,xbn,xbc⟩:=x;have HIH:=Hd (show ∀i v t',vs[i]?=some v→l[i]?=some t'→∀W',(∀b,q i b→W'.heap[b]?=w0.heap[b]?)→w0.heap.size≤W'.heap.size→Calls Tryz.prog 79 #[.agg #[Aa Ab v.k,Aa Ab v.n,Aa Ac (v.u:Int),.string ⟨v.s.toArray⟩,.slice v.A v.an v.ac,.slice v.B v.bn v.bc]] W' (Alr W' (q i) t') from fun i v t' hv' ht'=>ih i v t' hv' ht' (fun k hk=>hp k (hq i k hk)) (by
   cases hv with
   |mk _ _ _ _ hvl=>exact hvl t' (Atu ht')) (by
   have:=Xm (Atu ht');unfold Tr.cost at hcost;omega))
  replace h1:Ey w0 XA xan ks:=h1;replace h2:Jg w0 0 XB xbn xbc vs:=h2;replace ha:∀ad,XA=some ad→p ad.block∧∀i,¬q i ad.block:=ha;replace hb:∀ad,XB=some ad→p ad.block∧∀i,¬q i ad.block:=hb;replace hac:xan≤xac:=hac;replace hx:xan≤1099511627776:=hx;replace hy:xbn≤1099511627776:=hy;replace hab:∀a b,XA=some a→XB=some b→a.block≠b.block:=hab;have hK:Ey W XA xan ks:=⟨h1.1,Ns h1.2 (fun ad e=>(ha ad e).1) fun a u hc hpa=>by rw [World.cell?_of_block (hW _ hpa)];exact hc⟩;have hO:Jg W 0 XB xbn xbc vs:=Wk h2 fun ad e=>hW _ (hb ad e).1
  have hBl:=Ba W (.cells #[Aa Ab xk,Aa Ab xn,Aa Ac (xu:Int),.string ⟨xs.toArray⟩,.slice XA xan xac,.slice XB xbn xbc] 26) (.cells #[Aa Ab 0,Aa Ab 0,Aa Ac 0,.string ⟨#[]⟩,.slice none 0 0,.slice none 0 0] 26);have HX0:=Hd ((Af.new W 26 #[Aa Ab xk,Aa Ab xn,Aa Ac (xu:Int),.string ⟨xs.toArray⟩,.slice XA xan xac,.slice XB xbn xbc]).alloc (.cells #[Aa Ab 0,Aa Ab 0,Aa Ac 0,.string ⟨#[]⟩,.slice none 0 0,.slice none 0 0] 26));have HR0:=Hd (Af.new_ (w:=W.alloc (.cells #[Aa Ab xk,Aa Ab xn,Aa Ac (xu:Int),.string ⟨xs.toArray⟩,.slice XA xan xac,.slice XB xbn xbc] 26)) (g:=W.heap.size+1) (by simp) 26 #[Aa Ab 0,Aa Ab 0,Aa Ac 0,.string ⟨#[]⟩,.slice none 0 0,.slice none 0 0]);have HB0:=Hd hBl;have HK0:=Hd (hK.pure hBl);have HO0:=Hd (hO.pure hBl);have HVL:=Hd hl;have HOL:=Hd (show vs.length=xbn from h2.1);have HKL:=Hd (show ks.length=xan from by have:=h1.1;simpa using this);have HPW:=Hd (show(∀k,p k→k<W.heap.size)∧(∀i k,q i k→p k)∧(∀i j k,i≠j→q i k→¬q j k) from⟨fun k hk=>Nat.lt_of_lt_of_le (hp k hk) hsz,hq,hd⟩);have HA:=Hd ha;have HBB:=Hd hb;have HAB:=Hd hab;have HWW:=Hd (And.intro hW hsz);have HVT:=Hd hv;have HCO:=Hd hcost;by_cases h17:xk=17
  ·obtain rfl:=h17;have hv17:=hv;cases hv with
   |mk g1 _ _ hnd _=>
   have glen:ks.length=l.length:=by
    simp only [Dv,Bool.and_eq_true,decide_eq_true_eq] at g1;obtain⟨⟨⟨_,glen⟩,_⟩,_⟩:=g1;exact glen rfl
   have hnn:xan=xbn:=by
    have a1:=HKL.o;have a2:=HOL.o;omega
   subst hnn;have hsm:xan≤1000000:=by
    have h1:=Ju l;have h2:Tr.cost (.mk 17 xn xu xs ks l)=64+xs.length+Bb ks+Tr.costL l:=by rw [Tr.cost]
    have h3:l.length=xan:=by rw [←hl];exact HOL.o
    have hcost:Tr.cost (.mk 17 xn xu xs ks l)≤4000000:=hcost;omega
   have HND:=Hd hnd;have HVL2:=Hd (show l.length=xan by rw [←hl];exact HOL.o);obtain⟨Z,hZ,hmk1⟩:=Arp xan (by omega);obtain⟨Y,hY,hmk2⟩:=Apz xan (by omega);have HZ:=Hd hZ;have HY:=Hd hY;clear ih h1 ha h2 hb hy hab hq hd hl hc hp hv17 hcost hW hsz hK hO hBl hac hx g1 hnd glen hZ hY;go_enter Tryz.func79,Tryz.ntmps79;go_upto_region 1 with fail
   generalize (W.alloc (.cells #[Aa Ab 17,Aa Ab xn,Aa Ac (xu:Int),.string ⟨xs.toArray⟩,.slice XA xan xac,.slice XB xan xbc] 26)).alloc (.cells #[Aa Ab 0,Aa Ab 0,Aa Ac 0,.string ⟨#[]⟩,.slice none 0 0,.slice none 0 0] 26)=Wa at HB0 HX0 HR0 HK0 HO0⊢;generalize hbt:W.heap.size=bt at HX0 HR0⊢;generalize hbr:bt+1=br at HR0⊢;have HBT:=Hd (show W.heap.size=bt∧bt+1=br∧br<Wa.heap.size from⟨hbt,hbr,HR0.o.lt⟩);have HLT:=Hd (show(∀ad,XA=some ad→ad.block<W.heap.size)∧∀ad,XB=some ad→ad.block<W.heap.size from⟨fun ad e=>HPW.o.1 _ (HA.o ad e).1,fun ad e=>HPW.o.1 _ (HBB.o ad e).1⟩);clear hbt hbr;have c0:Wa.cell? ⟨bt,0,none⟩=some (Aa Ab 17):=HX0.o.cell 0;have c4:Wa.cell? ⟨bt,4,none⟩=some (.slice XA xan xac):=HX0.o.cell 4;go_wp2_with fail;go_at_call 125;have hks:ks.length=xan:=HKL.o;refine(Vd XA xan xac ks _ HK0.o (fun ad e=>by have:=HLT.o.1 ad e;have:=HB0.o.size;omega) hsm HND.o).mono ?_;rintro e W1 ⟨Ap,cp,ps,rfl,hO1,hperm,hasc,hB1⟩;rw [hks] at hO1 hperm⊢;have HO1:=Hd hO1;have HPERM:=Hd hperm;have HASC:=Hd hasc;have HPL:=Hd (show ps.length=xan by have:=hperm.length_eq;simpa using this);have HPM:=Hd (show ∀p∈ps,p<xan from fun p h=>List.mem_range.1 (hperm.mem_iff.1 h));have HPN:=Hd (show ps.Nodup from hperm.nodup_iff.2 List.nodup_range);have HB1:=Hd (Ad HB0.o hB1);have HX1:=Hd (HX0.o.pure hB1);have HR1:=Hd (HR0.o.pure hB1);have HK1:=Hd (HK0.o.pure hB1);have HOW1:=Hd (HO0.o.pure hB1);have HSZ1:=Hd (show Wa.heap.size≤W1.heap.size from hB1.size);clear hO1 hperm hasc hB1 c0 c4 hks HX0 HR0 HK0 HO0;go_upto_region 3 with fail
   go_cut [5,6] (fun u5 u6 wx=>∃wy,wy=wx∧Alu W1.heap.size xan (Atm xan []) (Atm xan Ja) u5 u6 wx∧Below W1.heap.size W1 wx)
   case first=>
    go_region_held3 (fun _=>True) (trivial) (fail)
    all_goals
     go_wp2_with fail;go_meet
     first
      |exact⟨_,rfl,Ar7 (by omega) HZ.o HY.o,(Ba _ _ _).drew⟩
      |exact⟨_,rfl,Ar8 (by omega) HZ.o HY.o,(Ba _ _ _).drew⟩
   case rest=>
   obtain⟨W2,rfl,⟨gk,gl,rfl,rfl,hK2,hL2,hne⟩,hB2⟩:=hcut;have HK2:=Hd hK2;have HL2:=Hd hL2;have HGN:=Hd (show gk≠gl∧W1.heap.size≤gk∧W1.heap.size≤gl∧gk<W2.heap.size∧gl<W2.heap.size from⟨hne,(hK2.addr _ rfl).2.1,(hL2.addr _ rfl).2.1,(hK2.addr _ rfl).2.2,(hL2.addr _ rfl).2.2⟩);have HB2:=Hd (Ad HB1.o hB2);have HX2:=Hd (HX1.o.pure hB2);have HR2:=Hd (HR1.o.pure hB2);have HKS2:=Hd (HK1.o.pure hB2);have HOW2:=Hd (HOW1.o.pure hB2);have HPS2:=Hd (HO1.o.pure hB2);have HSZ2:=Hd (show W1.heap.size≤W2.heap.size from hB2.size);have HAP:=Hd (show ∀ad,Ap=some ad→ad.block<W1.heap.size∧Wa.heap.size≤ad.block from fun ad e=>⟨(HO1.o.addr ad e).2.2,(HO1.o.addr ad e).2.1⟩);clear hK2 hL2 hne hB2 HX1 HR1 HK1 HOW1 HO1 hmk1 hmk2;go_upto_region 4 with fail
   go_wp2_with fail;go_loopw [28] (fun uu wr=>∃k:Nat,k≤xan∧uu= Aa Ab (k:Int)∧Kz wr 0 (some ⟨gk,0,none⟩) xan xan ((ps.take k).map (fun p=>ks.getD p [])++Atm (xan-k) [])∧Jg wr 0 (some ⟨gl,0,none⟩) xan xan ((ps.take k).map (fun p=>vs.getD p Ja)++Atm (xan-k) Ja)∧Fr (fun j=>j=gk∨j=gl) W2 wr) (fun uu _=>xan-(intOf uu).toNat)
   case atStart=>exact⟨0,Atl _,rfl,by simpa using HK2.o.rebase (Atl _),by simpa using HL2.o.rebase (Atl _),Fr.refl _ _⟩
   case round=>
    obtain⟨k,hk,rfl,hok,hol,hfr⟩:=hrel;have HOK:=Hd hok;have HOL2:=Hd hol;have HFR:=Hd hfr;have hng:∀b,b<W1.heap.size→¬(b=gk∨b=gl):=fun b hb h=>by have h1:=HGN.o;omega
    have HXR:=Hd (HX2.o.fr hfr (hng _ (by have h1:=HBT.o;have h2:=HSZ1.o;omega)));have HRR:=Hd (HR2.o.fr hfr (hng _ (by have h1:=HBT.o;have h2:=HSZ1.o;omega)));have HKSR:=Hd (HKS2.o.fr hfr (fun ad e=>hng _ (by have h1:=HLT.o.1 ad e;have h2:=HSZ1.o;have h3:=HBT.o;omega)));have HOWR:=Hd (HOW2.o.fr hfr (fun ad e=>hng _ (by have h1:=HLT.o.2 ad e;have h2:=HSZ1.o;have h3:=HBT.o;omega)));have HPSR:=Hd (HPS2.o.fr hfr (fun ad e=>hng _ (HAP.o ad e).1));clear hok hol hfr hng;by_cases hlt:k<xan
    ·obtain⟨bp,op,ep,hkp,y0⟩:=Q6 HPSR.o.is hlt;have hp:=HPM.o ps[k] (List.getElem_mem _);have hfk:=Aon (fun p=>ks.getD p []) [] HPL.o hlt;have hfl:=Aon (fun p=>vs.getD p Ja) Ja HPL.o hlt;generalize ps[k]=p' at y0 hp hfk hfl;obtain⟨b1,o1,e1,hk1,z⟩:=Gd HKSR.o hp;obtain⟨v,hv⟩:∃v,vs[p']?=some v:=⟨_,Ati (by have:=HOL.o;omega)⟩;obtain⟨b2,o2,e2,v0,v1,v2,v3,v4,v5⟩:=Gc HOWR.o.is hv;have ek:ks.getD p' []=ks[p']:=We _ hk1;have ev:vs.getD p' Ja=v:=by rw [Atw,hv];rfl
     rw [ek] at hfk;rw [ev] at hfl;generalize ks[p']=s at z hfk;have HFK:=Hd hfk;have HFL:=Hd hfl;obtain⟨⟨a,ha⟩,fs,hnk⟩:=Gx Dp HOK.o hlt s (.string ⟨s.toArray⟩) rfl;obtain⟨hex,hfz,hnl⟩:=Ko HOL2.o hlt v;obtain⟨a0,ha0⟩:=hex 0 (by omega);obtain⟨a1,ha1⟩:=hex 1 (by omega);obtain⟨a2,ha2⟩:=hex 2 (by omega);obtain⟨a3,ha3⟩:=hex 3 (by omega);obtain⟨a4,ha4⟩:=hex 4 (by omega);obtain⟨a5,ha5⟩:=hex 5 (by omega);rw [Nat.add_zero] at ha0;have f0:=hfz (k*6);have f1:=hfz (k*6+1);have f2:=hfz (k*6+2);have f3:=hfz (k*6+3);have f4:=hfz (k*6+4);have f5:=hfz (k*6+5);have n1:b1≠gk∧b1≠gl:=by have h1:=HLT.o.1 _ e1;have h2:=HSZ1.o;have h3:=HBT.o;have h4:=HGN.o;have h1:b1<W.heap.size:=h1;omega
     have n2:b2≠gk∧b2≠gl:=by have h1:=HLT.o.2 _ e2;have h2:=HSZ1.o;have h3:=HBT.o;have h4:=HGN.o;have h1:b2<W.heap.size:=h1;omega
     have n3:bt≠gk∧bt≠gl:=by have h2:=HSZ1.o;have h3:=HBT.o;have h4:=HGN.o;omega
     obtain⟨n1,n1'⟩:=n1;obtain⟨n2,n2'⟩:=n2;obtain⟨n3,n3'⟩:=n3;have n4:gk≠gl:=HGN.o.1;have n4':gl≠gk:=fun h=>n4 h.symm
     have c4:wr.cell? ⟨bt,4,none⟩=some (.slice (some ⟨b1,o1,none⟩) xan xac):=by rw [←e1];exact HXR.o.cell 4
     have c5:wr.cell? ⟨bt,5,none⟩=some (.slice (some ⟨b2,o2,none⟩) xan xbc):=by rw [←e2];exact HXR.o.cell 5
     have hp0:(0:Int)≤(p':Int):=by omega
     have hpn:(p':Int)<(xan:Int):=by omega
     have hk0:(0:Int)≤(k:Int):=by omega
     have hkn:(k:Int)<(xan:Int):=by omega
     rw [ep];clear hex hfz hnk hnl ek ev hfk hfl hv ep e1 e2 hkp hk1 hp;go_upto_region 7 with fail
     clear y0;go_region_held3 (fun w'=>w'.cell? ⟨bt,4,none⟩=some (.slice (some ⟨b1,o1,none⟩) xan xac)∧w'.cell? ⟨bt,5,none⟩=some (.slice (some ⟨b2,o2,none⟩) xan xbc)∧w'.cell? ⟨b1,o1+p',none⟩=some (.string ⟨s.toArray⟩)∧w'.cell? ⟨b2,o2+p'*6,none⟩=some (Aa Ab v.k)∧w'.cell? ⟨b2,o2+p'*6+1,none⟩=some (Aa Ab v.n)∧w'.cell? ⟨b2,o2+p'*6+2,none⟩=some (Aa Ac (v.u:Int))∧w'.cell? ⟨b2,o2+p'*6+3,none⟩=some (.string ⟨v.s.toArray⟩)∧w'.cell? ⟨b2,o2+p'*6+4,none⟩=some (.slice v.A v.an v.ac)∧w'.cell? ⟨b2,o2+p'*6+5,none⟩=some (.slice v.B v.bn v.bc)) ((with_reducible refine⟨?_,?_,?_,?_,?_,?_,?_,?_,?_⟩) <;>(repeat (first|with_reducible assumption|with_reducible refine Ae ?_|with_reducible refine Aoq ?_ ?_))) (fail);have hF1:=Fr.setCell (S:=fun j=>j=gk) (Fr.refl _ wr) (p:=⟨gk,k,none⟩) (fun _=>rfl) (.string ⟨s.toArray⟩);have hO1:=(Gx Dp HOK.o hlt s (.string ⟨s.toArray⟩) rfl).2.2;rw [Apc _ (by rw [HOK.o.1];exact hlt),HFK.o] at hO1;have hO2:=HOL2.o.fr hF1 (fun ad e=>by injection e with e;subst e;exact n4');have hO3:=(Ko hO2 hlt v).2.2;rw [HFL.o] at hO3;have hF2:=Aau (wr.setCell ⟨gk,k,none⟩ (.string ⟨s.toArray⟩)) gl (k*6) v;have hF3:=(HFR.o.trans hF1 (fun i _ e=> .inl e)).trans hF2 (fun i _ e=> .inr e);have hO4:=hO1.fr hF2 (fun ad e=>by injection e with e;subst e;exact n4);clear hF1 hO1 hO2 hF2 fs f0 f1 f2 f3 f4 f5 ha ha0 ha1 ha2 ha3 ha4 ha5 c4 c5 z v0 v1 v2 v3 v4 v5;generalize ((((((((wr.setCell ⟨gk,k,none⟩ (.string ⟨s.toArray⟩))).setCell ⟨gl,k*6,none⟩ (Aa Ab (v).k)).setCell ⟨gl,k*6+1,none⟩ (Aa Ab (v).n)).setCell ⟨gl,k*6+2,none⟩ (Aa Ac ((v).u:Int))).setCell ⟨gl,k*6+3,none⟩ (.string ⟨(v).s.toArray⟩)).setCell ⟨gl,k*6+4,none⟩ (.slice (v).A (v).an (v).ac)).setCell ⟨gl,k*6+5,none⟩ (.slice (v).B (v).bn (v).bc))=wB at hO3 hF3 hO4⊢;have HO3:=Hd hO3;have HO4:=Hd hO4;have HF3:=Hd hF3;clear hO3 hO4 hF3;have hn40:xan≤1099511627776:=by omega
     go_wp2_with fail;go_roundw
     case rel=>exact⟨k+1,by omega,by go_num,HO4.o.pure (Below.refl _ _).drew,HO3.o.pure (Below.refl _ _).drew,HF3.o.drew⟩
     case measure=>simp [intOf];omega
    ·obtain rfl:xan=k:=by omega
     have hrep:(xan-xan)=0:=Nat.sub_self xan;have htk:ps.take xan=ps:=Att (by have:=HPL.o;omega);rw [hrep,htk,List.replicate_zero,List.append_nil] at HOK HOL2;have c4:wr.cell? ⟨bt,4,none⟩=some (.slice XA xan xac):=HXR.o.cell 4;have c5:wr.cell? ⟨bt,5,none⟩=some (.slice XB xan xbc):=HXR.o.cell 5;have f4:wr.frozen? ⟨bt,4,none⟩=false:=HXR.o.frozen 4;have f5:wr.frozen? ⟨bt,5,none⟩=false:=HXR.o.frozen 5;clear hrep htk;go_upto_region 10 with fail
     have hF1:=Fr.setCell (S:=fun j=>j=bt) (Fr.refl _ wr) (p:=⟨bt,4,none⟩) (fun _=>rfl) (.slice (some ⟨gk,0,none⟩) xan xan);have hF2:=Fr.setCell (S:=fun j=>j=bt) hF1 (p:=⟨bt,5,none⟩) (fun _=>rfl) (.slice (some ⟨gl,0,none⟩) xan xan);have HX:=Hd (show Af ((wr.setCell ⟨bt,4,none⟩ (.slice (some ⟨gk,0,none⟩) xan xan)).setCell ⟨bt,5,none⟩ (.slice (some ⟨gl,0,none⟩) xan xan)) bt 26 #[Aa Ab 17,Aa Ab xn,Aa Ac (xu:Int),.string ⟨xs.toArray⟩,.slice (some ⟨gk,0,none⟩) xan xan,.slice (some ⟨gl,0,none⟩) xan xan] from(HXR.o.set_ 4 _).set_ 5 _);generalize (wr.setCell ⟨bt,4,none⟩ (.slice (some ⟨gk,0,none⟩) xan xan)).setCell ⟨bt,5,none⟩ (.slice (some ⟨gl,0,none⟩) xan xan)=W0 at HX hF2⊢;have hbt:=HBT.o;have hgn:=HGN.o;have hs1:=HSZ1.o;have hb1:=HB2.o.size;have HR:=Hd (HRR.o.fr hF2 (by omega));have HK:=Hd ((HOK.o.is).fr hF2 (fun ad e=>by injection e with e;subst e;show gk≠bt;omega));have HO:=Hd (HOL2.o.fr hF2 (fun ad e=>by injection e with e;subst e;show gl≠bt;omega));have hwr:=HFR.o.size;have hw0:=hF2.size;have hfrW:Below W.heap.size W W0:=(HB2.o.trans (HFR.o.belowB (fun i hi hh=>by omega) (by omega))).trans (hF2.belowB (fun i hi hh=>by omega) (by omega));obtain⟨q9,hq9,hq8⟩:∃q9:Nat→Nat→Prop,(∀i j,ps[i]?=some j→q9 i=q j)∧∀i b,q9 i b→∃j,ps[i]?=some j∧q j b:=⟨fun i b=>∃j,ps[i]?=some j∧q j b,fun i j e=>by
      funext b
      exact propext ⟨fun⟨j',e',h⟩=>by rw [e] at e';injection e' with e';rw [e'];exact h,fun h=>⟨j,e,h⟩⟩,fun i b h=>h⟩
     have hqp:∀i b,q9 i b→p b∧b<W.heap.size:=fun i b h=>by
      obtain⟨j,_,hj⟩:=hq8 i b h;exact⟨HPW.o.2.1 j b hj,HPW.o.1 b (HPW.o.2.1 j b hj)⟩
     have HF:=Hd (show SrF W W0 p q9 bt br (some ⟨gk,0,none⟩) (some ⟨gl,0,none⟩) by
      refine⟨hqp,⟨hbt.1,hbt.2.1,by omega⟩,fun ad e=>?_,fun ad e=>?_,Fr.of_below hfrW _,fun i i' b hii h h'=>?_⟩
      ·injection e with e
       subst e;refine⟨by show gl<_;omega,by show gl≠_;omega,by show gl≠_;omega,fun i h=>?_,.inr (by show _≤gl;omega)⟩;have:=(hqp i gl h).2;omega
      ·injection e with e
       subst e;refine⟨by show gk<_;omega,by show gk≠_;omega,by show gk≠_;omega,.inr (by show _≤gk;omega),fun i h=>?_,fun a ea=>?_⟩
       ·have:=(hqp i gk h).2;omega
       ·injection ea with ea
        subst ea;exact hgn.1
      ·obtain⟨j,e1,h1⟩:=hq8 i b h;obtain⟨j',e2,h2⟩:=hq8 i' b h';refine HPW.o.2.2 j j' b (fun e=>hii ?_) h1 h2;subst e;obtain⟨l1,e1⟩:=List.getElem?_eq_some_iff.1 e1;obtain⟨l2,e2⟩:=List.getElem?_eq_some_iff.1 e2;exact(List.getElem_inj HPN.o).1 (e1.trans e2.symm))
     have HQ0:=Hd (show(∀i b,q9 i b→W0.heap[b]?=w0.heap[b]?)∧w0.heap.size≤W0.heap.size from⟨fun i b hb=>(hfrW.block b (hqp i b hb).2).trans (HWW.o.1 b (hqp i b hb).1),Nat.le_trans HWW.o.2 hfrW.size⟩);obtain⟨t0,_⟩:∃t0:Tr,True:=⟨.mk 0 0 0 [] [] [],trivial⟩;have HIH9:=Hd (show ∀i v t',(ps.map fun p=>vs.getD p Ja)[i]?=some v→(ps.map fun p=>l.getD p t0)[i]?=some t'→∀W',(∀b,q9 i b→W'.heap[b]?=w0.heap[b]?)→w0.heap.size≤W'.heap.size→Calls Tryz.prog 79 #[.agg #[Aa Ab v.k,Aa Ab v.n,Aa Ac (v.u:Int),.string ⟨v.s.toArray⟩,.slice v.A v.an v.ac,.slice v.B v.bn v.bc]] W' (Alr W' (q9 i) t') from fun i v t' hv' ht'=>by
      rw [List.getElem?_map] at hv' ht';cases hj:ps[i]? with
      |none=>rw [hj] at hv';simp at hv'
      |some j=>
       rw [hj] at hv' ht';simp only [Option.map_some,Option.some.injEq] at hv' ht';have hjl:j<xan:=HPM.o j (Atu hj);rw [hq9 i j hj];refine HIH.o j v t' ?_ ?_
       ·rw [←hv',We Ja (by rw [HOL.o];exact hjl),Ati]
       ·rw [←ht',We t0 (by rw [HVL2.o];exact hjl),Ati])
     have HEQ:=Hd (show Aq (.mk 17 xn xu xs ks l)= .mk 17 xn xu xs (ps.map fun p=>ks.getD p []) ((ps.map fun p=>l.getD p t0).map Aq) by
      have hs:=Aql ks (Bz l) (Aq t0) HKL.o (by rw [Ca,Atq];exact HVL2.o) HND.o HPERM.o HASC.o;rw [Aq,if_pos rfl,←hs,List.map_map,List.map_map,List.map_map]
      congr 1
      apply List.map_congr_left;intro p _;show(Bz l).getD p (Aq t0)=Aq (l.getD p t0);rw [Ca,Ajb])
     have HCC:=Hd (show xan≤xan∧xan≤1099511627776∧xan≤1099511627776 by omega);have HVN:=Hd (show(ps.map fun p=>vs.getD p Ja).length=xan by rw [Atq];exact HPL.o);have HVL:=Hd (show(ps.map fun p=>vs.getD p Ja).length=(ps.map fun p=>l.getD p t0).length by rw [Atq,Atq]);have HIH:=HIH9;clear c4 c5 f4 f5 hF1 hF2 hbt hgn hs1 hb1 hwr hw0 hfrW hq9 hq8 hqp HIH9;generalize (ps.map fun p=>vs.getD p Ja)=vs9 at HIH HVN HVL HO;generalize (ps.map fun p=>l.getD p t0)=ts9 at HIH HVL HEQ;generalize (ps.map fun p=>ks.getD p [])=ks9 at HK HEQ;generalize (some ⟨gl,0,none⟩:Option Addr)=A9 at HX HO HF⊢;generalize (some ⟨gk,0,none⟩:Option Addr)=A8 at HX HK HF⊢;have HC:=Hd (HX.o.cell 0);have c5:W0.cell? ⟨bt,5,none⟩=some (.slice A9 xan xan):=HX.o.cell 5;go_wp2_with fail;go_loopw [57] (fun uu wr=>∃k:Nat,k≤xan∧uu= Aa Ab (k:Int)∧∃us,SrR W0 wr q9 A9 xan xan k vs9 ts9 us) (fun uu _=>xan-(intOf uu).toNat)
     case atStart=>exact⟨0,Atl _,rfl,vs9,HO.o,fun _ _=>rfl,fun i _ _ hi=>by omega,Fr.refl _ _,fun _ _ _ _=>rfl⟩
     case round=>
      obtain⟨k,hk,rfl,us,hS⟩:=hrel;have HS:=Hd hS;have HXR:=Hd (HX.o.fr hS.fr (HF.o.no (.inl rfl)));have HRR:=Hd (HR.o.fr hS.fr (HF.o.no (.inr rfl)));have HKR:=Hd (HK.o.fr hS.fr (fun ad e=>by
       have h1:=HF.o.key ad e;rintro(⟨i,hi⟩|⟨a,e2,e3⟩)
       ·exact h1.2.2.2.2.1 i hi
       ·exact h1.2.2.2.2.2 a e2 e3))
      clear hS c5;by_cases hlt:k<xan
      ·obtain⟨v,hv⟩:∃v,vs9[k]?=some v:=⟨_,Ati (by have:=HVN.o;omega)⟩;obtain⟨t',ht'⟩:∃t',ts9[k]?=some t':=⟨_,Ati (by have h1:=HVN.o;have h2:=HVL.o;omega)⟩;obtain⟨g,off,e,v0,v1,v2,v3,v4,v5⟩:=Gc HS.o.own.is ((HS.o.rest k (Ath _)).trans hv);obtain rfl:off=0:=congrArg Addr.off (HS.o.own.addr _ e).1;have e':A9=some ⟨g,0,none⟩:=e;clear e;subst e';rw [Nat.zero_add] at v0 v1 v2 v3 v4 v5;have hgo:=HF.o.off _ rfl;have HGO:=Hd hgo;have hk0:(0:Int)≤(k:Int):=by omega
       have hkn:(k:Int)<(xan:Int):=by omega
       have hn40:xan≤1099511627776:=HCC.o.2.2;have c5:wr.cell? ⟨bt,5,none⟩=some (.slice (some ⟨g,0,none⟩) xan xan):=HXR.o.cell 5;have hal:=(Below.refl wr.heap.size wr).alloc (Ath _) (.cells #[Aa Ab v.k,Aa Ab v.n,Aa Ac (v.u:Int),.string ⟨v.s.toArray⟩,.slice v.A v.an v.ac,.slice v.B v.bn v.bc] 26);have HX5:=Hd (HXR.o.pure hal);have HV5:=Hd (Af.new wr 26 #[Aa Ab v.k,Aa Ab v.n,Aa Ac (v.u:Int),.string ⟨v.s.toArray⟩,.slice v.A v.an v.ac,.slice v.B v.bn v.bc]);have HB5:=Hd hal;have hbx:=HF.o.bts;have hbs:=HS.o.fr.size;have HNX:=Hd (show wr.heap.size≠g∧(∀b,q9 k b→b≠wr.heap.size)∧¬q9 k bt∧bt≠g by
        refine⟨?_,fun b hb e=>?_,fun hb=>?_,?_⟩
        ·have h1:g<W0.heap.size:=hgo.1;omega
        ·have h1:=(HF.o.qs _ _ hb).2;omega
        ·have h1:=(HF.o.qs _ _ hb).2;omega
        ·have h1:g≠bt:=hgo.2.1;omega)
       have HCD:=Hd (HIH.o k v t' hv ht' (wr.alloc (.cells #[Aa Ab v.k,Aa Ab v.n,Aa Ac (v.u:Int),.string ⟨v.s.toArray⟩,.slice v.A v.an v.ac,.slice v.B v.bn v.bc] 26)).drew (fun b hb=>by
        have h1:=(HF.o.qs _ _ hb).2;have h2:(wr.alloc (.cells #[Aa Ab v.k,Aa Ab v.n,Aa Ac (v.u:Int),.string ⟨v.s.toArray⟩,.slice v.A v.an v.ac,.slice v.B v.bn v.bc] 26)).heap[b]?=wr.heap[b]?:=hal.block b (by omega);exact h2.trans ((HS.o.same k b (Ath _) hb).trans (HQ0.o.1 k b hb))) (by have h1:=HQ0.o.2;have h2:=hal.size;show w0.heap.size≤(wr.alloc (.cells #[Aa Ab v.k,Aa Ab v.n,Aa Ac (v.u:Int),.string ⟨v.s.toArray⟩,.slice v.A v.an v.ac,.slice v.B v.bn v.bc] 26)).heap.size;omega))
       have HT':=Hd ht';clear hv ht' hal hbx hbs hgo;go_upto_region 13 with fail
       generalize wr.alloc (.cells #[Aa Ab v.k,Aa Ab v.n,Aa Ac (v.u:Int),.string ⟨v.s.toArray⟩,.slice v.A v.an v.ac,.slice v.B v.bn v.bc] 26)=w5 at HX5 HV5 HB5 HCD⊢;generalize wr.heap.size=bx at HV5 HNX⊢;clear v0 v1 v2 v3 v4 v5 c5;have y5:w5.cell? ⟨bt,5,none⟩=some (.slice (some ⟨g,0,none⟩) xan xan):=HX5.o.cell 5;obtain ⟨z0,z1,z2,z3,z4,z5⟩:=HV5.o.c6;go_region_held3 (fun w'=>w'.cell? ⟨bt,5,none⟩=some (.slice (some ⟨g,0,none⟩) xan xan)∧w'.cell? ⟨bx,0,none⟩=some (Aa Ab v.k)∧w'.cell? ⟨bx,1,none⟩=some (Aa Ab v.n)∧w'.cell? ⟨bx,2,none⟩=some (Aa Ac (v.u:Int))∧w'.cell? ⟨bx,3,none⟩=some (.string ⟨v.s.toArray⟩)∧w'.cell? ⟨bx,4,none⟩=some (.slice v.A v.an v.ac)∧w'.cell? ⟨bx,5,none⟩=some (.slice v.B v.bn v.bc)) (first|with_reducible exact⟨y5,z0,z1,z2,z3,z4,z5⟩|with_reducible exact⟨Ae y5,Ae z0,Ae z1,Ae z2,Ae z3,Ae z4,Ae z5⟩|with_reducible exact⟨x5,q0,q1,q2,q3,q4,q5⟩|exact⟨Eg x5 HNX.o.2.2.2,Eg q0 HNX.o.1,Eg q1 HNX.o.1,Eg q2 HNX.o.1,Eg q3 HNX.o.1,Eg q4 HNX.o.1,Eg q5 HNX.o.1⟩) (first|(go_at_call 79;(with_reducible refine HCD.o.mono ?_);rintro e W6 ⟨y,rfl,hN6,hF6⟩;have x5:=By hF6 (Ae y5) HNX.o.2.2.1;have q0:=By hF6 (Ae z0) (fun hh=>HNX.o.2.1 _ hh rfl);have q1:=By hF6 (Ae z1) (fun hh=>HNX.o.2.1 _ hh rfl);have q2:=By hF6 (Ae z2) (fun hh=>HNX.o.2.1 _ hh rfl);have q3:=By hF6 (Ae z3) (fun hh=>HNX.o.2.1 _ hh rfl);have q4:=By hF6 (Ae z4) (fun hh=>HNX.o.2.1 _ hh rfl);have q5:=By hF6 (Ae z5) (fun hh=>HNX.o.2.1 _ hh rfl);have HN6:=Hd hN6;have HF6:=Hd hF6;clear hN6 hF6;have hO6:=(HS.o.own.pure (HB5.o.drew)).fr HF6.o (fun ad e=>by injection e with e;subst e;exact HGO.o.2.2.2.1 k);obtain⟨hex,hfz,hnew⟩:=Ko hO6 hlt y;obtain⟨a0,ha0⟩:=hex 0 (by omega);obtain⟨a1,ha1⟩:=hex 1 (by omega);obtain⟨a2,ha2⟩:=hex 2 (by omega);obtain⟨a3,ha3⟩:=hex 3 (by omega);obtain⟨a4,ha4⟩:=hex 4 (by omega);obtain⟨a5,ha5⟩:=hex 5 (by omega);rw [Nat.add_zero] at ha0;have f0:=hfz (k*6);have f1:=hfz (k*6+1);have f2:=hfz (k*6+2);have f3:=hfz (k*6+3);have f4:=hfz (k*6+4);have f5:=hfz (k*6+5);clear hex hfz hnew hO6));clear ha0 ha1 ha2 ha3 ha4 ha5 f0 f1 f2 f3 f4 f5 x5 q0 q1 q2 q3 q4 q5 y5 z0 z1 z2 z3 z4 z5;go_wp2_with fail;go_roundw
       case rel=>
        have hst:=HS.o.step hlt HT'.o (fun i b hb=>⟨by have h1:=HF.o.qs i b hb;have h2:=HF.o.bts;omega,fun e=>HGO.o.2.2.2.1 i (by rw [e] at hb;exact hb)⟩) HGO.o.1 HF.o.apart HB5.o.drew HN6.o HF6.o;exact⟨k+1,by omega,by go_num,_,hst⟩
       case measure=>simp [intOf];omega
      ·obtain rfl:xan=k:=by omega
       have c0:wr.cell? ⟨bt,0,none⟩=some (Aa Ab 17):=HXR.o.cell 0;have c1':wr.cell? ⟨bt,1,none⟩=some (Aa Ab xn):=HXR.o.cell 1;have c2:wr.cell? ⟨bt,2,none⟩=some (Aa Ac (xu:Int)):=HXR.o.cell 2;have c3:wr.cell? ⟨bt,3,none⟩=some (.string ⟨xs.toArray⟩):=HXR.o.cell 3;have c4:wr.cell? ⟨bt,4,none⟩=some (.slice A8 xan xan):=HXR.o.cell 4;have c5:wr.cell? ⟨bt,5,none⟩=some (.slice A9 xan xan):=HXR.o.cell 5;obtain ⟨r0,r1,r2,r3,r4,r5⟩:=HRR.o.c6;have hfz:∀j,wr.frozen? ⟨br,j,none⟩=false:=fun j=>HRR.o.frozen j
       have f0:=hfz 0;have f1:=hfz 1;have f2:=hfz 2;have f3:=hfz 3;have f4:=hfz 4;have f5:=hfz 5;clear hfz;go_wp2_with fail;refine bodyPost_ret (v:= .agg #[Aa Ab 17,Aa Ab xn,Aa Ac (xu:Int),.string ⟨xs.toArray⟩,.slice A8 xan xan,.slice A9 xan xan]) (by simp [results,Tryz.results79,go_sem,r0,r1,r2,r3,r4,r5]) rfl ?_;have hd:=HF.o.done HS.o HKR.o HCC.o.1 HCC.o.2.1 HCC.o.2.2 (by rw [←HVN.o];exact HVL.o.symm) 17 xn xu xs (Fx wr br (Aa Ab 17) (Aa Ab xn) (Aa Ac (xu:Int)) (.string ⟨xs.toArray⟩) (.slice A8 xan xan) (.slice A9 xan xan));rw [←HEQ.o] at hd;exact⟨_,rfl,hd.1,hd.2⟩
  ·have HEQ:=Hd (show Aq (.mk xk xn xu xs ks l)= .mk xk xn xu xs ks (l.map Aq) by rw [Aq,if_neg h17,Ca]);have e17:(xk==17)=false:=by simpa using h17
   have HCC:=Hd (And.intro hac (And.intro hx hy));clear ih h1 ha h2 hb hy hab hq hd hl hc hp hv hcost hW hsz hK hO hBl h17 hac hx;go_enter Tryz.func79,Tryz.ntmps79;go_upto_region 1 with fail
   generalize (W.alloc (.cells #[Aa Ab xk,Aa Ab xn,Aa Ac (xu:Int),.string ⟨xs.toArray⟩,.slice XA xan xac,.slice XB xbn xbc] 26)).alloc (.cells #[Aa Ab 0,Aa Ab 0,Aa Ac 0,.string ⟨#[]⟩,.slice none 0 0,.slice none 0 0] 26)=W0 at HB0 HX0 HR0 HK0 HO0⊢;generalize hbt:W.heap.size=bt at HX0 HR0⊢;generalize hbr:bt+1=br at HR0⊢;have HF:=Hd (show SrF W W0 p q bt br XA XB by
    have e1:=HR0.o.lt;have e2:=HB0.o.size;refine⟨fun i b hb=>⟨HPW.o.2.1 i b hb,HPW.o.1 b (HPW.o.2.1 i b hb)⟩,⟨hbt,hbr,e1⟩,fun ad e=>?_,fun ad e=>?_,Fr.of_below HB0.o _,HPW.o.2.2⟩
    ·have h1:=HBB.o ad e;have h2:=HPW.o.1 _ h1.1;exact⟨by omega,by omega,by omega,h1.2,.inl h1.1⟩
    ·have h1:=HA.o ad e;have h2:=HPW.o.1 _ h1.1;exact⟨by omega,by omega,by omega,.inl h1.1,h1.2,fun a ea=>HAB.o ad a e ea⟩)
   clear hbt hbr;have c0:W0.cell? ⟨bt,0,none⟩=some (Aa Ab xk):=HX0.o.cell 0;have HQ0:=Hd (show(∀i b,q i b→W0.heap[b]?=w0.heap[b]?)∧w0.heap.size≤W0.heap.size from⟨fun i b hb=>(HB0.o.block b (HPW.o.1 b (HPW.o.2.1 i b hb))).trans (HWW.o.1 b (HPW.o.2.1 i b hb)),Nat.le_trans HWW.o.2 HB0.o.size⟩);have HVN:=HOL;have HX:=HX0;have HR:=HR0;have HK:=HK0;have HO:=HO0;clear HX0 HR0 HK0 HO0;go_upto_region 10 with fail
   clear c0 e17;have HC:=Hd (HX.o.cell 0);have c5:W0.cell? ⟨bt,5,none⟩=some (.slice XB xbn xbc):=HX.o.cell 5;go_wp2_with fail;go_loopw [57] (fun uu wr=>∃k:Nat,k≤xbn∧uu= Aa Ab (k:Int)∧∃us,SrR W0 wr q XB xbn xbc k vs l us) (fun uu _=>xbn-(intOf uu).toNat)
   case atStart=>exact⟨0,Atl _,rfl,vs,HO.o,fun _ _=>rfl,fun i _ _ hi=>by omega,Fr.refl _ _,fun _ _ _ _=>rfl⟩
   case round=>
    obtain⟨k,hk,rfl,us,hS⟩:=hrel;have HS:=Hd hS;have HXR:=Hd (HX.o.fr hS.fr (HF.o.no (.inl rfl)));have HRR:=Hd (HR.o.fr hS.fr (HF.o.no (.inr rfl)));have HKR:=Hd (HK.o.fr hS.fr (fun ad e=>by
     have h1:=HF.o.key ad e;rintro(⟨i,hi⟩|⟨a,e2,e3⟩)
     ·exact h1.2.2.2.2.1 i hi
     ·exact h1.2.2.2.2.2 a e2 e3))
    clear hS c5;by_cases hlt:k<xbn
    ·obtain⟨v,hv⟩:∃v,vs[k]?=some v:=⟨_,Ati (by have:=HVN.o;omega)⟩;obtain⟨t',ht'⟩:∃t',l[k]?=some t':=⟨_,Ati (by have h1:=HVN.o;have h2:=HVL.o;omega)⟩;obtain⟨g,off,e,v0,v1,v2,v3,v4,v5⟩:=Gc HS.o.own.is ((HS.o.rest k (Ath _)).trans hv);obtain rfl:off=0:=congrArg Addr.off (HS.o.own.addr _ e).1;have e':XB=some ⟨g,0,none⟩:=e;clear e;subst e';rw [Nat.zero_add] at v0 v1 v2 v3 v4 v5;have hgo:=HF.o.off _ rfl;have HGO:=Hd hgo;have hk0:(0:Int)≤(k:Int):=by omega
     have hkn:(k:Int)<(xbn:Int):=by omega
     have hn40:xbn≤1099511627776:=HCC.o.2.2;have c5:wr.cell? ⟨bt,5,none⟩=some (.slice (some ⟨g,0,none⟩) xbn xbc):=HXR.o.cell 5;have hal:=(Below.refl wr.heap.size wr).alloc (Ath _) (.cells #[Aa Ab v.k,Aa Ab v.n,Aa Ac (v.u:Int),.string ⟨v.s.toArray⟩,.slice v.A v.an v.ac,.slice v.B v.bn v.bc] 26);have HX5:=Hd (HXR.o.pure hal);have HV5:=Hd (Af.new wr 26 #[Aa Ab v.k,Aa Ab v.n,Aa Ac (v.u:Int),.string ⟨v.s.toArray⟩,.slice v.A v.an v.ac,.slice v.B v.bn v.bc]);have HB5:=Hd hal;have hbx:=HF.o.bts;have hbs:=HS.o.fr.size;have HNX:=Hd (show wr.heap.size≠g∧(∀b,q k b→b≠wr.heap.size)∧¬q k bt∧bt≠g by
      refine⟨?_,fun b hb e=>?_,fun hb=>?_,?_⟩
      ·have h1:g<W0.heap.size:=hgo.1;omega
      ·have h1:=(HF.o.qs _ _ hb).2;omega
      ·have h1:=(HF.o.qs _ _ hb).2;omega
      ·have h1:g≠bt:=hgo.2.1;omega)
     have HCD:=Hd (HIH.o k v t' hv ht' (wr.alloc (.cells #[Aa Ab v.k,Aa Ab v.n,Aa Ac (v.u:Int),.string ⟨v.s.toArray⟩,.slice v.A v.an v.ac,.slice v.B v.bn v.bc] 26)).drew (fun b hb=>by
      have h1:=(HF.o.qs _ _ hb).2;have h2:(wr.alloc (.cells #[Aa Ab v.k,Aa Ab v.n,Aa Ac (v.u:Int),.string ⟨v.s.toArray⟩,.slice v.A v.an v.ac,.slice v.B v.bn v.bc] 26)).heap[b]?=wr.heap[b]?:=hal.block b (by omega);exact h2.trans ((HS.o.same k b (Ath _) hb).trans (HQ0.o.1 k b hb))) (by have h1:=HQ0.o.2;have h2:=hal.size;show w0.heap.size≤(wr.alloc (.cells #[Aa Ab v.k,Aa Ab v.n,Aa Ac (v.u:Int),.string ⟨v.s.toArray⟩,.slice v.A v.an v.ac,.slice v.B v.bn v.bc] 26)).heap.size;omega))
     have HT':=Hd ht';clear hv ht' hal hbx hbs hgo;go_upto_region 13 with fail
     generalize wr.alloc (.cells #[Aa Ab v.k,Aa Ab v.n,Aa Ac (v.u:Int),.string ⟨v.s.toArray⟩,.slice v.A v.an v.ac,.slice v.B v.bn v.bc] 26)=w5 at HX5 HV5 HB5 HCD⊢;generalize wr.heap.size=bx at HV5 HNX⊢;clear v0 v1 v2 v3 v4 v5 c5;have y5:w5.cell? ⟨bt,5,none⟩=some (.slice (some ⟨g,0,none⟩) xbn xbc):=HX5.o.cell 5;obtain ⟨z0,z1,z2,z3,z4,z5⟩:=HV5.o.c6;go_region_held3 (fun w'=>w'.cell? ⟨bt,5,none⟩=some (.slice (some ⟨g,0,none⟩) xbn xbc)∧w'.cell? ⟨bx,0,none⟩=some (Aa Ab v.k)∧w'.cell? ⟨bx,1,none⟩=some (Aa Ab v.n)∧w'.cell? ⟨bx,2,none⟩=some (Aa Ac (v.u:Int))∧w'.cell? ⟨bx,3,none⟩=some (.string ⟨v.s.toArray⟩)∧w'.cell? ⟨bx,4,none⟩=some (.slice v.A v.an v.ac)∧w'.cell? ⟨bx,5,none⟩=some (.slice v.B v.bn v.bc)) (first|with_reducible exact⟨y5,z0,z1,z2,z3,z4,z5⟩|with_reducible exact⟨Ae y5,Ae z0,Ae z1,Ae z2,Ae z3,Ae z4,Ae z5⟩|with_reducible exact⟨x5,q0,q1,q2,q3,q4,q5⟩|exact⟨Eg x5 HNX.o.2.2.2,Eg q0 HNX.o.1,Eg q1 HNX.o.1,Eg q2 HNX.o.1,Eg q3 HNX.o.1,Eg q4 HNX.o.1,Eg q5 HNX.o.1⟩) (first|(go_at_call 79;(with_reducible refine HCD.o.mono ?_);rintro e W6 ⟨y,rfl,hN6,hF6⟩;have x5:=By hF6 (Ae y5) HNX.o.2.2.1;have q0:=By hF6 (Ae z0) (fun hh=>HNX.o.2.1 _ hh rfl);have q1:=By hF6 (Ae z1) (fun hh=>HNX.o.2.1 _ hh rfl);have q2:=By hF6 (Ae z2) (fun hh=>HNX.o.2.1 _ hh rfl);have q3:=By hF6 (Ae z3) (fun hh=>HNX.o.2.1 _ hh rfl);have q4:=By hF6 (Ae z4) (fun hh=>HNX.o.2.1 _ hh rfl);have q5:=By hF6 (Ae z5) (fun hh=>HNX.o.2.1 _ hh rfl);have HN6:=Hd hN6;have HF6:=Hd hF6;clear hN6 hF6;have hO6:=(HS.o.own.pure (HB5.o.drew)).fr HF6.o (fun ad e=>by injection e with e;subst e;exact HGO.o.2.2.2.1 k);obtain⟨hex,hfz,hnew⟩:=Ko hO6 hlt y;obtain⟨a0,ha0⟩:=hex 0 (by omega);obtain⟨a1,ha1⟩:=hex 1 (by omega);obtain⟨a2,ha2⟩:=hex 2 (by omega);obtain⟨a3,ha3⟩:=hex 3 (by omega);obtain⟨a4,ha4⟩:=hex 4 (by omega);obtain⟨a5,ha5⟩:=hex 5 (by omega);rw [Nat.add_zero] at ha0;have f0:=hfz (k*6);have f1:=hfz (k*6+1);have f2:=hfz (k*6+2);have f3:=hfz (k*6+3);have f4:=hfz (k*6+4);have f5:=hfz (k*6+5);clear hex hfz hnew hO6));clear ha0 ha1 ha2 ha3 ha4 ha5 f0 f1 f2 f3 f4 f5 x5 q0 q1 q2 q3 q4 q5 y5 z0 z1 z2 z3 z4 z5;go_wp2_with fail;go_roundw
     case rel=>
      have hst:=HS.o.step hlt HT'.o (fun i b hb=>⟨by have h1:=HF.o.qs i b hb;have h2:=HF.o.bts;omega,fun e=>HGO.o.2.2.2.1 i (by rw [e] at hb;exact hb)⟩) HGO.o.1 HF.o.apart HB5.o.drew HN6.o HF6.o;exact⟨k+1,by omega,by go_num,_,hst⟩
     case measure=>simp [intOf];omega
    ·obtain rfl:xbn=k:=by omega
     have c0:wr.cell? ⟨bt,0,none⟩=some (Aa Ab xk):=HXR.o.cell 0;have c1':wr.cell? ⟨bt,1,none⟩=some (Aa Ab xn):=HXR.o.cell 1;have c2:wr.cell? ⟨bt,2,none⟩=some (Aa Ac (xu:Int)):=HXR.o.cell 2;have c3:wr.cell? ⟨bt,3,none⟩=some (.string ⟨xs.toArray⟩):=HXR.o.cell 3;have c4:wr.cell? ⟨bt,4,none⟩=some (.slice XA xan xac):=HXR.o.cell 4;have c5:wr.cell? ⟨bt,5,none⟩=some (.slice XB xbn xbc):=HXR.o.cell 5;obtain ⟨r0,r1,r2,r3,r4,r5⟩:=HRR.o.c6;have hfz:∀j,wr.frozen? ⟨br,j,none⟩=false:=fun j=>HRR.o.frozen j
     have f0:=hfz 0;have f1:=hfz 1;have f2:=hfz 2;have f3:=hfz 3;have f4:=hfz 4;have f5:=hfz 5;clear hfz;go_wp2_with fail;refine bodyPost_ret (v:= .agg #[Aa Ab xk,Aa Ab xn,Aa Ac (xu:Int),.string ⟨xs.toArray⟩,.slice XA xan xac,.slice XB xbn xbc]) (by simp [results,Tryz.results79,go_sem,r0,r1,r2,r3,r4,r5]) rfl ?_;have hd:=HF.o.done HS.o HKR.o HCC.o.1 HCC.o.2.1 HCC.o.2.2 (by rw [←HOL.o];exact HVL.o.symm) xk xn xu xs (Fx wr br (Aa Ab xk) (Aa Ab xn) (Aa Ac (xu:Int)) (.string ⟨xs.toArray⟩) (.slice XA xan xac) (.slice XB xbn xbc));rw [←HEQ.o] at hd;exact⟨_,rfl,hd.1,hd.2⟩
def F6:P6:=⟨5,61,60,70,71⟩
def M5(c d:Nat)(t:Tr):Int:=if 4096<c+1 then 5 else if 64≤d then 61 else if Dv t=false then 60 else Hc 70 71 t
def Iq:List (Nat×Tr)→Nat→Int
 | [],_=>0
 |x::r,c=>if M5 c x.1 x.2≠0 then M5 c x.1 x.2 else Iq r (c+1)
theorem Ta:∀(a b:List (Nat×Tr)) (c:Nat),Iq (a++b) c=if Iq a c≠0 then Iq a c else Iq b (c+a.length)
 | [],b,c=>by simp [Iq]
 |x::r,b,c=>by
  rw [List.cons_append,Iq,Iq,Ta r b (c+1),List.length_cons];by_cases h:M5 c x.1 x.2=0
  ·have hn:¬M5 c x.1 x.2≠0:=fun e=>e h
   simp only [if_neg hn];rw [show c+1+r.length=c+(r.length+1) by omega]
  ·have hp:M5 c x.1 x.2≠0:=h;simp only [if_pos hp]
mutual
theorem Ad9:∀(t:Tr) (d c:Nat),(Fa F6 d t c).1=Iq (Tr.pre d t) c∧((Fa F6 d t c).1=0→(Fa F6 d t c).2=c+(Tr.pre d t).length)
 | .mk k n u s ks l,d,c=>by
  obtain⟨i1,i2⟩:=Zw l (d+1) (c+1);rw [Fa,Tr.pre,Iq];simp only [];by_cases h1:c+1>4096
  ·have e:M5 c d (.mk k n u s ks l)=5:=if_pos h1;rw [if_pos h1,e,if_pos (by decide)];exact⟨rfl,fun h=>absurd h (show ¬(_:Int)=0 from by simp [F6])⟩
  rw [if_neg h1];by_cases h2:d≥64
  ·have e:M5 c d (.mk k n u s ks l)=61:=by unfold M5;rw [if_neg h1,if_pos h2]
   rw [if_pos h2,e,if_pos (by decide)];exact⟨rfl,fun h=>absurd h (show ¬(_:Int)=0 from by simp [F6])⟩
  rw [if_neg h2];by_cases h3:Dv (.mk k n u s ks l)=false
  ·have e:M5 c d (.mk k n u s ks l)=60:=by unfold M5;rw [if_neg h1,if_neg h2,if_pos h3]
   rw [if_pos h3,e,if_pos (by decide)];exact⟨rfl,fun h=>absurd h (show ¬(_:Int)=0 from by simp [F6])⟩
  rw [if_neg h3];have e:M5 c d (.mk k n u s ks l)=Hc 70 71 (.mk k n u s ks l):=by unfold M5;rw [if_neg h1,if_neg h2,if_neg h3]
  rw [e];by_cases h4:Hc F6.key F6.twice (.mk k n u s ks l)≠0
  ·have h4':Hc 70 71 (.mk k n u s ks l)≠0:=h4;rw [if_pos h4,if_pos h4'];exact⟨rfl,fun h=>absurd h h4⟩
  ·have h4':¬Hc 70 71 (.mk k n u s ks l)≠0:=h4;rw [if_neg h4,if_neg h4'];refine⟨i1,fun h=>?_⟩;rw [i2 h,List.length_cons];omega
theorem Zw:∀(l:List Tr) (d c:Nat),(Kc F6 d l c).1=Iq (Tr.pre.Tr.preL d l) c∧((Kc F6 d l c).1=0→(Kc F6 d l c).2=c+(Tr.pre.Tr.preL d l).length)
 | [],d,c=>by rw [Kc,Tr.pre.Tr.preL];exact⟨rfl,fun _=>rfl⟩
 |t::r,d,c=>by
  obtain⟨a1,a2⟩:=Ad9 t d c;rw [Kc,Tr.pre.Tr.preL,Ta,←a1];by_cases h:(Fa F6 d t c).1≠0
  ·rw [if_pos h,if_pos h];exact⟨rfl,fun e=>absurd e h⟩
  ·rw [if_neg h,if_neg h];have a2:=a2 (by simpa using h);rw [a2];obtain⟨b1,b2⟩:=Zw r d (c+(Tr.pre d t).length);refine⟨b1,fun e=>?_⟩;rw [b2 e,Atj];omega
end
theorem Ur{f:Nat→Int}{T:List (Nat×Tr)}(h:∀i x,T[i]?=some x→f i=M5 i x.1 x.2):∀m,m≤T.length→Im f m=Iq (T.take m) 0
 |0,_=>by simp [Im,Iq]
 |m+1,hm=>by
  rw [Atv (by omega),Ta,Im,Ur h m (by omega)];have e:Iq [T[m]] (0+(T.take m).length)=f m:=by
   rw [Iq,Iq,h m T[m] (Ati (by omega)),List.length_take,Nat.min_eq_left (by omega),Nat.zero_add];by_cases h0:M5 m T[m].1 T[m].2=0
   ·rw [if_neg (by simp [h0]),h0]
   ·rw [if_pos h0]
  rw [e]
def Lk(w:World)(p:Nat→Prop)(ys:List (Nat×Nv))(T:List (Nat×Tr)):Prop:=ys.length=T.length∧∀(i:Nat) y,ys[i]?=some y→∃t',T[i]?=some (y.1,t')∧Bk w p y.2 t'
theorem Lk.app{w:World}{p:Nat→Prop}{ys zs:List (Nat×Nv)}{T U:List (Nat×Tr)}(h:Lk w p ys T)(k:Lk w p zs U):Lk w p (ys++zs) (T++U):=by
 refine⟨by rw [Atj,Atj,h.1,k.1],fun i y hy=>?_⟩;rcases Nat.lt_or_ge i ys.length with hi|hi
 ·rw [List.getElem?_append_left hi] at hy;rw [List.getElem?_append_left (by rw [←h.1];exact hi)];exact h.2 i y hy
 ·rw [List.getElem?_append_right hi] at hy;rw [List.getElem?_append_right (by rw [←h.1];exact hi),←h.1];exact k.2 _ y hy
theorem Sn{w:World}{p:Nat→Prop}{d:Nat}:∀(l:List Tr) (yss:List (List (Nat×Nv))),yss.length=l.length→(∀(i:Nat) t ys,l[i]?=some t→yss[i]?=some ys→Lk w p ys (Tr.pre d t))→Lk w p yss.flatten (Tr.pre.Tr.preL d l)
 | [],[],_,_=>⟨rfl,fun i y h=>by simp at h⟩
 | [],_::_,h,_=>by simp at h
 |_::_,[],h,_=>by simp at h
 |t::r,ys::yss,hl,h=>by
  rw [Tr.pre.Tr.preL,List.flatten_cons];exact(h 0 t ys rfl rfl).app (Sn r yss (by simpa using hl) fun i t' ys' h1 h2=>h (i+1) t' ys' (by simpa using h1) (by simpa using h2))
theorem Gg.read{w:World}{p:Nat→Prop}{d:Nat}{x:Nv}{t:Tr}{ys:List (Nat×Nv)}(h:Gg w p d x t ys):Bk w p x t:=by
 induction h with
 | @mk d x ks l vs yss h1 ha hac hx h2 hb hbc hy hl hyl hc ih=>
  refine .mk h1 ha hac hx h2 hb hbc hy hl fun i v t hv ht=>?_
  have hi:i<yss.length:=by rw [hyl];exact(List.getElem?_eq_some_iff.1 ht).1
  exact ih i v t yss[i] hv ht (Ati hi)
theorem Gg.nodes{w:World}{p:Nat→Prop}{d:Nat}{x:Nv}{t:Tr}{ys:List (Nat×Nv)}(h:Gg w p d x t ys):Lk w p ys (Tr.pre d t):=by
 induction h with
 | @mk d x ks l vs yss h1 ha hac hx h2 hb hbc hy hl hyl hc ih=>
  have hr:=(Gg.mk h1 ha hac hx h2 hb hbc hy hl hyl hc).read;have hf:=Sn l yss hyl fun i t ys ht hys=>by
   have hi:i<vs.length:=by rw [hl];exact(List.getElem?_eq_some_iff.1 ht).1
   exact ih i vs[i] t ys (Ati hi) ht hys
  rw [Tr.pre];exact Lk.app (ys:=[(d,x)]) (T:=[(d,.mk x.k x.n x.u x.s ks l)]) ⟨rfl,fun i y hy=>by
   cases i with
   |zero=>simp at hy;subst hy;exact⟨_,rfl,hr⟩
   |succ i=>simp at hy⟩ hf
theorem Amg{Y:List (Nat×Nv)}{T:List (Nat×Tr)}{sb:Nat→Bool}{ke:Nat→Int}(hl:Y.length=T.length)(h:∀(i:Nat) y x,Y[i]?=some y→T[i]?=some x→x.1=y.1∧sb i=Dv x.2∧ke i=Hc 70 71 x.2):Im (Qx Y sb ke) Y.length=Iq T 0:=by
 rw [Ur (T:=T) ?_ Y.length (Nat.le_of_eq hl),Att (Nat.le_of_eq hl.symm)];intro i x hx;have hi:i<Y.length:=by rw [hl];exact(List.getElem?_eq_some_iff.1 hx).1
 obtain⟨e1,e2,e3⟩:=h i Y[i] x (Ati hi) hx;unfold Qx;rw [dif_pos hi];unfold S7 M5;simp only [];rw [e1,e2,e3];rfl
end Go.Proofs.YtgbjodnegkbfoaaGreat
