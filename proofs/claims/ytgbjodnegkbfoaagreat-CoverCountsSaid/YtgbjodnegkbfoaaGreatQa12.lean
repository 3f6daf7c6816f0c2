/- Parts of the proof. -/
import Derived.Test.YtgbjodnegkbfoaaGreatQa11
import Derived.Maps.Views
import Derived.Maps.Ext
import Derived.Lib.SmallJoins
import Derived.Maps.OwnSet
import Derived.DeepKeys4
set_option maxHeartbeats 4000000
set_option maxRecDepth 100000
open Go.Value renaming int→Aa
open Go.IntKind renaming i64→Ab,u64→Ac
open Nat renaming le_refl→Ath,zero_le→Atl
open List renaming getElem?_eq_getElem→Ati,take_succ_eq_append_getElem→Atv
namespace Go.Proofs.YtgbjodnegkbfoaaGreat
open Go.RowKit Go.Acc
attribute [local go_sem] Oper.semAt_some
def S7(Y:List (Nat×Nv))(sb:Nat→Bool)(ke:Nat→Int)(c:Nat)(i:Fin Y.length):Int:=
 if 4096<c+1 then 5 else if 64≤Y[i].1 then 61 else if sb i.val=false then 60 else ke i.val
def Qx(Y:List (Nat×Nv))(sb:Nat→Bool)(ke:Nat→Int)(j:Nat):Int:=if h:j<Y.length then S7 Y sb ke j ⟨j,h⟩ else 0
def Im(f:Nat→Int):Nat→Int
 |0=>0
 |m+1=>if Im f m≠0 then Im f m else f m
theorem Xu{f:Nat→Int}{m:Nat}(h:∀j,j<m→f j=0):Im f m=0:=by
 induction m with
 |zero=>rfl
 |succ m ih=>
  unfold Im;rw [ih fun j hj=>h j (by omega)];simp [h m (by omega)]
theorem Ai6{f:Nat→Int}{i m:Nat}(h:∀j,j<i→f j=0)(hi:f i≠0)(hm:i<m):Im f m=f i:=by
 induction m with
 |zero=>omega
 |succ m ih=>
  unfold Im;by_cases e:i=m
  ·subst e;rw [Xu h];simp
  ·rw [ih (by omega),if_pos hi]
theorem As5{w:World}{p q:Addr}{u v:Value}(h:w.cell? q=some v)(hne:q.block≠p.block):(w.setCell p u).cell? q=some v:=by
 exact(World.cell?_of_block (w:=w) (Below.heap_setCell w p u q.block hne)).trans h
theorem Ve{V:Nat→Prop}{W W':World}{p:Nat→Prop}{x:Nv}{t:Tr}(h:Bk W p x t)(hk:Ga V W W')(hp:∀k,p k→¬V k):Bk W' p x t:=h.keep fun a u hc hpa=>hk a u hc (hp _ hpa)
theorem Aii(x:Nv)(t:Tr)(Y:List (Nat×Nv))(p:Nat→Prop)(w:World)(sb:Nat→Bool)(ke:Nat→Int)(r:Int)(h:Gg w p 0 x t Y)(hp:∀k,p k→k<w.heap.size)(hm:Y.length≤1099511627776)(hlev:∀y∈Y,y.1≤1099511627776)
  (hS:∀i y W,Y[i]?=some y→Ga (fun k=>w.heap.size≤k) w W→Calls Tryz.prog 74 #[.agg #[Aa Ab y.2.k,Aa Ab y.2.n,Aa Ac (y.2.u:Int),.string ⟨y.2.s.toArray⟩,.slice y.2.A y.2.an y.2.ac,.slice y.2.B y.2.bn y.2.bc]] W fun e W'=>e= .returned (.bool (sb i))∧Below W.heap.size W W')
  (hK:∀i y W,Y[i]?=some y→Ga (fun k=>w.heap.size≤k) w W→Calls Tryz.prog 75 #[.agg #[Aa Ab y.2.k,Aa Ab y.2.n,Aa Ac (y.2.u:Int),.string ⟨y.2.s.toArray⟩,.slice y.2.A y.2.an y.2.ac,.slice y.2.B y.2.bn y.2.bc]] W fun e W'=>e= .returned (Aa Ab (ke i))∧Below W.heap.size W W')
  (hr:Im (Qx Y sb ke) Y.length=r):
  Calls Tryz.prog 32 #[.agg #[Aa Ab x.k,Aa Ab x.n,Aa Ac (x.u:Int),.string ⟨x.s.toArray⟩,.slice x.A x.an x.ac,.slice x.B x.bn x.bc]] w fun e w'=>e= .returned (Aa Ab r)∧Below w.heap.size w w':=by
 have HS:=Hd hS;have HK:=Hd hK;have HR:=Hd hr;have HLV:=Hd hlev;have HP:=Hd hp;have HM:=Hd hm;have HNO:=Hd h;clear hS hK hr hlev hp hm h;refine callsIn_wide.1 (callsIn_of_wp_marks (n:=6) Tryz.func32 rfl trivial (wpIn_wide.2 ?_));simp only [Tryz.ntmps32,List.size_toArray,List.length_cons,List.length_nil,Nat.reduceAdd,Nat.reduceSub,Array.replicate_succ,Array.replicate_zero,List.push_toArray,List.append_toArray,List.nil_append,List.cons_append];go_wp2_with (go_at_call 73;refine(Adw x _).mono ?_;rintro e w' ⟨rfl,rfl⟩);have hB4:Below w.heap.size w ((((w.alloc (.cells #[Aa Ab x.k,Aa Ab x.n,Aa Ac (x.u:Int),.string ⟨x.s.toArray⟩,.slice x.A x.an x.ac,.slice x.B x.bn x.bc] 26)).alloc (.cells #[Aa Ab 0] 29)).alloc (.cells #[Aa Ab 0] 3)).alloc (.cells #[Aa Ab x.k,Aa Ab x.n,Aa Ac (x.u:Int),.string ⟨x.s.toArray⟩,.slice x.A x.an x.ac,.slice x.B x.bn x.bc] 26)):=((((Below.refl _ _).alloc (Ath _) _).alloc (by simp) _).alloc (by simp;omega) _).alloc (by simp;omega) _;have hR4:=((B5 w (.cells #[Aa Ab x.k,Aa Ab x.n,Aa Ac (x.u:Int),.string ⟨x.s.toArray⟩,.slice x.A x.an x.ac,.slice x.B x.bn x.bc] 26) 29 #[Aa Ab 0]).alloc (.cells #[Aa Ab 0] 3)).alloc (.cells #[Aa Ab x.k,Aa Ab x.n,Aa Ac (x.u:Int),.string ⟨x.s.toArray⟩,.slice x.A x.an x.ac,.slice x.B x.bn x.bc] 26);have hN4:=(K1 w (.cells #[Aa Ab x.k,Aa Ab x.n,Aa Ac (x.u:Int),.string ⟨x.s.toArray⟩,.slice x.A x.an x.ac,.slice x.B x.bn x.bc] 26) (.cells #[Aa Ab 0] 29) 3 #[Aa Ab 0]).alloc (.cells #[Aa Ab x.k,Aa Ab x.n,Aa Ac (x.u:Int),.string ⟨x.s.toArray⟩,.slice x.A x.an x.ac,.slice x.B x.bn x.bc] 26);have hW4:Af ((((w.alloc (.cells #[Aa Ab x.k,Aa Ab x.n,Aa Ac (x.u:Int),.string ⟨x.s.toArray⟩,.slice x.A x.an x.ac,.slice x.B x.bn x.bc] 26)).alloc (.cells #[Aa Ab 0] 29)).alloc (.cells #[Aa Ab 0] 3)).alloc (.cells #[Aa Ab x.k,Aa Ab x.n,Aa Ac (x.u:Int),.string ⟨x.s.toArray⟩,.slice x.A x.an x.ac,.slice x.B x.bn x.bc] 26)) (w.heap.size+1+1+1) 26 #[Aa Ab x.k,Aa Ab x.n,Aa Ac (x.u:Int),.string ⟨x.s.toArray⟩,.slice x.A x.an x.ac,.slice x.B x.bn x.bc]:=Af.new_ (by simp) _ _;have HB:=Hd hB4;have HRB:=Hd hR4;have HNB:=Hd hN4;have HWB:=Hd hW4;have HO:=Hd (HNO.o.pure hB4);clear hB4 hR4 hN4 hW4;generalize ((((w.alloc (.cells #[Aa Ab x.k,Aa Ab x.n,Aa Ac (x.u:Int),.string ⟨x.s.toArray⟩,.slice x.A x.an x.ac,.slice x.B x.bn x.bc] 26)).alloc (.cells #[Aa Ab 0] 29)).alloc (.cells #[Aa Ab 0] 3)).alloc (.cells #[Aa Ab x.k,Aa Ab x.n,Aa Ac (x.u:Int),.string ⟨x.s.toArray⟩,.slice x.A x.an x.ac,.slice x.B x.bn x.bc] 26))=w1 at HB HRB HNB HWB HO⊢;have HLR:=Hd (show w.heap.size≤w.heap.size+1 by omega);have HLN:=Hd (show w.heap.size≤w.heap.size+1+1 by omega);have HNE:=Hd (show w.heap.size+1≠w.heap.size+1+1 by omega);generalize w.heap.size+1+1+1=bW at HWB⊢;generalize w.heap.size+1+1=bN at HNB HLN HNE⊢;generalize w.heap.size+1=bR at HRB HLR HNE⊢;have HV:=Hd (show ∀k,(k=bR∨k=bN)→k<w1.heap.size by rintro k (rfl|rfl);exact HRB.o.lt;exact HNB.o.lt);have HPV:=Hd (show ∀k,p k→¬(k=bR∨k=bN) by
  intro k hpk hk;have h1:=HP.o k hpk;have h2:=HLR.o;have h3:=HLN.o;omega)
 have HB1:=Hd HB.o.size;refine(wpIn_wide (n:=6)).1 ?_;refine Alj fun a0 ha0=>?_
 refine wpIn_rangeFunc_ownH rfl (by omega) (gf:=115) (lb:=#[.pointer (some ⟨bW,0,none⟩)]) (by rw [ha0];rfl) trivial (enters_of Tryz.func115 (by kernel_rfl) rfl)
  (Y5 x t Y (fun k=>k=bR∨k=bN) p bW w1 (6-1) (by omega) HO.o HWB.o HPV.o HV.o HM.o) (fun h k=>⟨h.1.trans k.1,Nat.le_trans h.2 k.2⟩) (fun W l o o' _ h hc _=>⟨Asl W l o o' h hc,by simp [World.putObj]⟩) (Below.refl _ _) (fun _=>rfl)
  (fun pre W=>(Af W bN 3 #[Aa Ab (pre.length:Int)]∧Af W bR 29 #[Aa Ab 0]∧∀j y,pre[j]?=some y→S7 Y sb ke j y=0)∧Below w.heap.size w W)
  (fun c pre W=>(c= .ret∧∃q y e,pre=q++ [y]∧(∀j y,q[j]?=some y→S7 Y sb ke j y=0)∧S7 Y sb ke q.length y=e∧e≠0∧Af W bR 29 #[Aa Ab e])∧Below w.heap.size w W)
  (OwnFrom.and (fun s A B row hs hg hr=>⟨J9 hg (fun r e=>(hr r e).2) hs.1,J9 hg (fun r e=>(hr r e).2) hs.2.1,hs.2.2⟩) (ownFrom_below (Ath _) HB.o.size))
  (fun c=>OwnFrom.and (fun s A B row hs hg hr=>by obtain⟨h1,q,y,e,h2,h3,h4,h5,h6⟩:=hs;exact⟨h1,q,y,e,h2,h3,h4,h5,J9 hg (fun r e=>(hr r e).2) h6⟩) (ownFrom_below (Ath _) HB.o.size))
  ⟨⟨HNB.o,HRB.o,fun j y h=>by simp at h⟩,HB.o⟩
  (fun i a' W=>∃Bx,Af W Bx 26 #[Aa Ab Y[i].2.k,Aa Ab Y[i].2.n,Aa Ac (Y[i].2.u:Int),.string ⟨Y[i].2.s.toArray⟩,.slice Y[i].2.A Y[i].2.an Y[i].2.ac,.slice Y[i].2.B Y[i].2.bn Y[i].2.bc]∧
   a'={ tmps:=(((a0.tmps.setIfInBounds 9 (Aa Ab (Y[i].1:Int))).setIfInBounds 10 (.agg #[Aa Ab Y[i].2.k,Aa Ab Y[i].2.n,Aa Ac (Y[i].2.u:Int),.string ⟨Y[i].2.s.toArray⟩,.slice Y[i].2.A Y[i].2.an Y[i].2.ac,.slice Y[i].2.B Y[i].2.bn Y[i].2.bc])).setIfInBounds 4 (Aa Ab (Y[i].1:Int))).setIfInBounds 5 (.pointer (some ⟨Bx,0,none⟩)),defers:=[]})
  (fun i a' _ A B row hs hg hr=>by obtain⟨Bx,hb,e⟩:=hs;exact⟨Bx,J9 hg (fun r e=>(hr r e).2) hb,e⟩)
  ?assign ?body ?done ?stop
 case assign=>
  rintro l pre i W K ⟨⟨hN,hR,hall⟩,hB⟩ hK';have HQ:=Hd hK';have HALL:=Hd hall;clear hK' hall HR HB HNB HRB HWB HO;subst ha0;generalize hyi:Y[i]=yi at HQ⊢;obtain⟨yl,yn⟩:=yi;simp only [Agh]
  gi_wp2
  have hA:=(Below.refl W.heap.size W).alloc (Ath _) (.cells #[Aa Ab yn.k,Aa Ab yn.n,Aa Ac (yn.u:Int),.string ⟨yn.s.toArray⟩,.slice yn.A yn.an yn.ac,.slice yn.B yn.bn yn.bc] 26);exact HQ.o _ _ ((KeepsOthers.alloc _ _).from _) ⟨Ga.pure hA,hA.size⟩ ⟨⟨hN.alloc _,hR.alloc _,HALL.o⟩,hB.alloc hB.size _⟩ ⟨W.heap.size,Af.new _ _ _,rfl⟩
 case body=>
  rintro l pre i a' W hl ⟨rr,hrr⟩ ⟨⟨hN,hR,hall⟩,hB⟩ ⟨Bx,hbx,rfl⟩ hlt;have HALL:=Hd hall;have HBB:=Hd hB;have HNN:=Hd hN;have HRR:=Hd hR;obtain⟨c,hc⟩:∃c,pre.length=c:=⟨_,rfl⟩;have hc40:c<1099511627776:=by have:=HM.o;omega
  have HSi:=Hd (fun W' (hk:Ga (fun k=>w.heap.size≤k) w W')=>HS.o i.val Y[i] W' (Ati i.isLt) hk);have HKi:=Hd (fun W' (hk:Ga (fun k=>w.heap.size≤k) w W')=>HK.o i.val Y[i] W' (Ati i.isLt) hk);obtain⟨e,he⟩:∃e,S7 Y sb ke c i=e:=⟨_,rfl⟩;have he':=he;unfold S7 at he';have hlv:=HLV.o Y[i] (List.getElem_mem _);have HEE:=Hd he;have HCC:=Hd hc;obtain⟨si,hsi⟩:∃s,sb i.val=s:=⟨_,rfl⟩;obtain⟨ki,hki⟩:∃s,ke i.val=s:=⟨_,rfl⟩;rw [hsi] at HSi he';rw [hki] at HKi he';generalize hyi:Y[i]=yi at hbx HSi HKi he' hlv⊢;obtain⟨yl,yn⟩:=yi;simp only at hbx HSi HKi he' hlv⊢;rw [hc] at hN;have n0:W.cell? ⟨bN,0,none⟩=some (Aa Ab (c:Int)):=hN.cell 0;have f0:=hN.frozen 0;have hN2:=hN.set_ 0 (Aa Ab ((c:Int)+1));have n1:(W.setCell ⟨bN,0,none⟩ (Aa Ab ((c:Int)+1))).cell? ⟨bN,0,none⟩=some (Aa Ab ((c:Int)+1)):=hN2.cell 0;have hR2:=hR.far (p:=⟨bN,0,none⟩) (by exact HNE.o) (Aa Ab ((c:Int)+1));have r1:(W.setCell ⟨bN,0,none⟩ (Aa Ab ((c:Int)+1))).cell? ⟨bR,0,none⟩=some (Aa Ab 0):=hR2.cell 0;have g1:=hR2.frozen 0;have HN2:=Hd hN2;have HR2:=Hd hR2;have HB2:=Hd (hB.setCell (p:=⟨bN,0,none⟩) HLN.o (Aa Ab ((c:Int)+1)));have hlv0:(yl:Int)≤1099511627776:=by omega
  clear hN hR hall hB hN2 hR2 HB HNB HRB HWB HO hlt hsi hki he hc hyi;subst ha0;by_cases h1:4096<c+1
  ·rw [if_pos h1] at he';have h1':decide ((4096:Int)<(c:Int)+1)=true:=decide_eq_true (by omega);have HE5:=Hd he';clear he'
   gi_wp2
   exact⟨((KeepsOthers.setCell _ _ _).from _).trans ((KeepsOthers.setCell _ _ _).from _),⟨rfl,pre,i,5,rfl,HALL.o,by rw [HCC.o,HEE.o];exact HE5.o.symm,by decide,HR2.o.set_ 0 _⟩,HB2.o.setCell (p:=⟨bR,0,none⟩) HLR.o _⟩
  ·rw [if_neg h1] at he';have h1':decide ((4096:Int)<(c:Int)+1)=false:=decide_eq_false (by omega);by_cases h2:64≤yl
   ·rw [if_pos h2] at he';have h2':decide ((64:Int)≤(yl:Int))=true:=decide_eq_true (by omega);have HE5:=Hd he';clear h1 he'
    gi_wp2
    exact⟨((KeepsOthers.setCell _ _ _).from _).trans ((KeepsOthers.setCell _ _ _).from _),⟨rfl,pre,i,61,rfl,HALL.o,by rw [HCC.o,HEE.o];exact HE5.o.symm,by decide,HR2.o.set_ 0 _⟩,HB2.o.setCell (p:=⟨bR,0,none⟩) HLR.o _⟩
   ·rw [if_neg h2] at he';have h2':decide ((64:Int)≤(yl:Int))=false:=decide_eq_false (by omega);have hX2:=hbx.far (p:=⟨bN,0,none⟩) (by
     rintro rfl;have q1:=HNN.o;unfold Af at q1 hbx;rw [q1] at hbx;injection hbx with hbx
     injection hbx with q2
     simp at q2) (Aa Ab ((c:Int)+1))
    obtain ⟨x0,x1,x2,x3,x4,x5⟩:=hX2.c6;have HSC:=Hd (HSi.o _ (fun a u hc _=>Ag (w:=w) HB2.o hc));have HX2:=Hd hX2;have HE2:=Hd he';clear h1 h2 hX2 HSi he' hbx
    gi_wp2
    refine⟨trivial,(CallsIn.inRound l (callsIn_wide.2 HSC.o)).mono ?_⟩;rintro e' W3 ⟨rfl,hb3⟩;have HB3:=Hd hb3;have HX3:=Hd (HX2.o.pure hb3);have r3:W3.cell? ⟨bR,0,none⟩=some (Aa Ab 0):=(HR2.o.pure hb3).cell 0;have g3:=(HR2.o.pure hb3).frozen 0;have HBW:=Hd (Ad HB2.o hb3);clear hb3 x0 x1 x2 x3 x4 x5 n0 n1 f0 r1 g1 h1' h2';obtain ⟨x0,x1,x2,x3,x4,x5⟩:=HX3.o.c6;cases si with
    |false=>
     gi_wp2
     exact⟨(((KeepsOthers.setCell _ _ _).from _).trans (H7 HB3.o)).trans ((KeepsOthers.setCell _ _ _).from _),⟨rfl,pre,i,60,rfl,HALL.o,by rw [HCC.o,HEE.o];exact HE2.o.symm,by decide,(HR2.o.pure HB3.o).set_ 0 _⟩,HBW.o.setCell (p:=⟨bR,0,none⟩) HLR.o _⟩
    |true=>
     have he3:ki=e:=HE2.o;have HKC:=Hd (HKi.o _ (fun a u hc _=>Ag (w:=w) HBW.o hc));have HE3:=Hd he3;clear he3 HKi
     gi_wp2
     refine⟨trivial,(CallsIn.inRound l (callsIn_wide.2 HKC.o)).mono ?_⟩;rintro e' W4 ⟨rfl,hb4⟩;have HB4:=Hd hb4;have HB34:=Hd (Ad HB3.o hb4);have HBW4:=Hd (Ad HBW.o hb4);have HR4:=Hd (HR2.o.pure HB34.o);have HN4:=Hd (HN2.o.pure HB34.o);clear hb4 x0 x1 x2 x3 x4 x5 r3 g3;have r4:W4.cell? ⟨bR,0,none⟩=some (Aa Ab 0):=HR4.o.cell 0;have g4:=HR4.o.frozen 0;by_cases hk0:ki=0
     ·have hq:(ki != 0)=false:=by rw [hk0];rfl
      have HK0:=Hd hk0;clear hk0
      gi_wp2
      refine⟨((KeepsOthers.setCell _ _ _).from _).trans (H7 HB34.o),?_,⟨?_,HR4.o,?_⟩,HBW4.o⟩
      ·refine⟨fun a u ha hv=>Ag HB34.o (As5 ha fun hh=>hv (.inr hh)),?_⟩;have:=HB34.o.size;simpa [World.setCell] using this
      ·have h:=HN4.o;rw [List.length_append,HCC.o];exact h
      ·intro j y hj;rw [List.getElem?_append] at hj;split at hj
       ·exact HALL.o j y hj
       ·rename_i hjc;rw [HCC.o] at hj hjc;have hj0:j-c=0:=by
         cases hjj:j-c with
         |zero=>rfl
         |succ m=>rw [hjj] at hj;simp at hj
        rw [hj0] at hj;simp at hj;have hjc':j=c:=by omega
        rw [hjc',←hj,HEE.o,←HE3.o,HK0.o]
     ·have hq:(ki != 0)=true:=by simpa using hk0
      have HK0:=Hd hk0;clear hk0
      gi_wp2
      exact⟨(((KeepsOthers.setCell _ _ _).from _).trans (H7 HB34.o)).trans ((KeepsOthers.setCell _ _ _).from _),⟨rfl,pre,i,ki,rfl,HALL.o,by rw [HCC.o,HEE.o];exact HE3.o.symm,HK0.o,HR4.o.set_ 0 _⟩,HBW4.o.setCell (p:=⟨bR,0,none⟩) HLR.o _⟩
 case done=>
  rintro D ys W hD rfl ⟨⟨hN,hR,hall⟩,hB⟩ hK';subst ha0;have hre:r=0:=by
   rw [←HR.o];refine Xu fun j hj=>?_
   unfold Qx;rw [dif_pos hj];exact hall j ⟨j,hj⟩ (by simp [hj])
  subst hre;have r0:W.cell? ⟨bR,0,none⟩=some (Aa Ab 0):=hR.cell 0;have g0:=hR.frozen 0;have s2:=hR.set_ 0 (Aa Ab 0);have hK2:=(KeepsOthers.setCell W ⟨bR,0,none⟩ (Aa Ab 0)).same D _ hK' rfl;clear hall hN hR HB HNB HRB HWB HO;go_wp2_with fail;refine⟨by simp,.inl ⟨_,_,rfl,run_takeDeferred hK2,?_⟩⟩;have hc5:=J9 (grownBy_putObj' _ D (.deferred none)) (fun r e=>by cases e;exact⟨_,hK2,rfl⟩) s2;have hc6:_=some (Aa Ab 0):=hc5.cell 0;refine⟨Aa Ab 0,?_,rfl,?_⟩
  ·simp [results,Tryz.f32,go_sem,hc6]
  ·exact(hB.setCell (p:=⟨bR,0,none⟩) HLR.o _).trans (belowK_b (w:=w) (Ath _) _ D _ _ (Nat.le_trans HB1.o hD) hK2 rfl rfl)
 case stop=>
  rintro D c pre W hD hpre ⟨⟨rfl,q,y,e,rfl,hall,hy,he,hR⟩,hB⟩ hK';subst ha0;have hlen:q.length<Y.length:=by
   obtain⟨rest,hr⟩:=hpre;have:=congrArg List.length hr;simp at this;omega
  have hpj:∀j (hj:j<q.length+1),(q++ [y])[j]?=some ⟨j,by omega⟩:=by
   intro j hj;obtain⟨rest,hr⟩:=hpre;have h1:((q++ [y])++rest)[j]?=(q++ [y])[j]?:=List.getElem?_append_left (by simp;omega);rw [←h1,hr];simp [show j<Y.length by omega]
  have hyv:y=⟨q.length,hlen⟩:=by
   have h1:=hpj q.length (by omega);simp at h1;exact h1
  have hre:r=e:=by
   rw [←HR.o];have h1:∀j,j<q.length→Qx Y sb ke j=0:=by
    intro j hj;unfold Qx;rw [dif_pos (by omega)];refine hall j ⟨j,by omega⟩ ?_;have h2:=hpj j (by omega);rw [List.getElem?_append_left hj] at h2;exact h2
   have h2:Qx Y sb ke q.length=e:=by
    unfold Qx;rw [dif_pos hlen,←hyv];exact hy
   rw [Ai6 h1 (by rw [h2];exact he) hlen,h2]
  subst hre;clear hall hy he hpj hyv HB HNB HRB HWB HO
  gi_wp2
  refine⟨by simp,.inl ⟨_,_,rfl,run_takeDeferred hK',?_⟩⟩;have hc5:=J9 (grownBy_putObj' W D (.deferred none)) (fun r e=>by cases e;exact⟨_,hK',rfl⟩) hR;have hc6:_=some (Aa Ab r):=hc5.cell 0;refine⟨Aa Ab r,?_,rfl,?_⟩
  ·simp [results,Tryz.f32,go_sem,hc6]
  ·exact hB.trans (belowK_b (w:=w) (Ath _) _ D _ _ (Nat.le_trans HB1.o hD) hK' rfl rfl)
theorem R5:Maps.Keyed Tryz.prog 9:=Maps.string_keyed Tryz.underlying9
def Nx(w:World)(m n:Nat)(had:List (List UInt8)):Prop:=
 ∃D,w.ownsMap (H:=Unit) Tryz.prog 9 (plainElem Tryz.prog 4) m n D∧∀s,D.atKey (.string s) (.lit (.bool false))= .lit (.bool (had.contains s))
theorem Aly{v:Value}{z:DataW Unit×List MemPlace}(h:plainElem Tryz.prog 4 v=some z):∃b,v= .bool b∧z=(.lit (.bool b),[]):=by
 unfold plainElem at h;rw [Tryz.underlying4] at h;cases v <;>simp at h
 exact⟨_,rfl,h.symm⟩
theorem Wr{s:List UInt8}(hs:s.length≤1048576):keyOf Tryz.prog 9 (.string ⟨s.toArray⟩)=some (.string s):=
 WideMaps.keyOf_string_mk Tryz.underlying9 (by show s.length≤maxLen;simp only [maxLen];omega)
theorem Nx.look{w:World}{m n:Nat}{had:List (List UInt8)}(h:Nx w m n had){s:List UInt8}(hs:s.length≤1048576){b:Bool}(hb:had.contains s=b):(Instr.lookup 162 (.map (some m)) (.string ⟨s.toArray⟩) false).run Tryz.prog w= .ok (.bool b) w:=by
 obtain⟨D,hm,hat⟩:=h;have hz:(zeroValue 4).run Tryz.prog w= .ok (.bool false) w:=by kernel_rfl
 obtain⟨v,ps,hrun,hv⟩:=hm.lookup R5 Tryz.underlying162 hz (plainElem_bool Tryz.underlying4 false) (Wr hs);obtain⟨c,rfl,hc⟩:=Aly hv;rw [hat s,hb] at hc;simp at hc;rw [←hc.1] at hrun;exact hrun
theorem Nx.put{w w':World}{m n:Nat}{had:List (List UInt8)}{D:DataW Unit}(hm:w.ownsMap (H:=Unit) Tryz.prog 9 (plainElem Tryz.prog 4) m n D)(hat:∀s,D.atKey (.string s) (.lit (.bool false))= .lit (.bool (had.contains s)))
  {s:List UInt8} (hm':w'.ownsMap (H:=Unit) Tryz.prog 9 (plainElem Tryz.prog 4) m (n+1) (D.put (.string s) (.lit (.bool true)))):Nx w' m (n+1) (s::had):=by
 refine⟨_,hm',fun s'=>?_⟩;obtain⟨es,hD,_⟩:=hm.canon R5;by_cases e:s'=s
 ·subst e;rw [Maps.atKey_put_same ⟨es,hD⟩ (show WideAt.IsKeyLit (.string s') from trivial)];simp
 ·rw [Maps.atKey_put_other (by intro h;injection h with h;exact e h),hat s'];have:(s'==s)=false:=beq_eq_false_iff_ne.mpr e;rw [List.contains_cons,this,Bool.false_or]
theorem Agq(x:Nv)(ks:List (List UInt8))(r:Int)(w:World)(hI:Ey w x.A x.an ks)(hn:x.an≤1099511627776)(hsz:∀s∈ks,s.length≤1048576)(hr:(if x.k=5∧Br x.s=true then 70 else Ib 70 71 [] ks)=r):
  Calls Tryz.prog 75 #[.agg #[Aa Ab x.k,Aa Ab x.n,Aa Ac (x.u:Int),.string ⟨x.s.toArray⟩,.slice x.A x.an x.ac,.slice x.B x.bn x.bc]] w fun e w'=>e= .returned (Aa Ab r)∧Below w.heap.size w w':=by
 have HI:=Hd hI;have HSZ:=Hd hsz;have h0:=run_makeMap (P:=Tryz.prog) 162;have HB0:=Hd (show Below w.heap.size w (w.alloc (.cells #[.int .i64 x.k,.int .i64 x.n,.int .u64 (x.u:Int),.string ⟨x.s.toArray⟩,.slice x.A x.an x.ac,.slice x.B x.bn x.bc] 26)) from((Below.refl _ _).alloc (Ath _) _));have HB:=Hd (show Below w.heap.size w ((w.alloc (.cells #[.int .i64 x.k,.int .i64 x.n,.int .u64 (x.u:Int),.string ⟨x.s.toArray⟩,.slice x.A x.an x.ac,.slice x.B x.bn x.bc] 26)).alloc (.map #[] 0)) from((Below.refl _ _).alloc (Ath _) _).alloc (by simp) _);have hX:=(Af.new w 26 #[.int .i64 x.k,.int .i64 x.n,.int .u64 (x.u:Int),.string ⟨x.s.toArray⟩,.slice x.A x.an x.ac,.slice x.B x.bn x.bc]).alloc (.map #[] 0);have c4:((w.alloc (.cells #[.int .i64 x.k,.int .i64 x.n,.int .u64 (x.u:Int),.string ⟨x.s.toArray⟩,.slice x.A x.an x.ac,.slice x.B x.bn x.bc] 26)).alloc (.map #[] 0)).cell? ⟨w.heap.size,4,none⟩=some (.slice x.A x.an x.ac):=hX.cell 4;have hM:=World.ownsMap_made (H:=Unit) (w.alloc (.cells #[.int .i64 x.k,.int .i64 x.n,.int .u64 (x.u:Int),.string ⟨x.s.toArray⟩,.slice x.A x.an x.ac,.slice x.B x.bn x.bc] 26)) Tryz.prog 9 (plainElem Tryz.prog 4);have eS:(w.alloc (.cells #[.int .i64 x.k,.int .i64 x.n,.int .u64 (x.u:Int),.string ⟨x.s.toArray⟩,.slice x.A x.an x.ac,.slice x.B x.bn x.bc] 26)).heap.size=w.heap.size+1:=by simp
 rw [eS] at hM;have HM:=Hd hM;obtain⟨z,hz⟩:∃z,Br x.s=z:=⟨_,rfl⟩;obtain⟨q,hq⟩:∃q,(x.k==5)=q:=⟨_,rfl⟩;have HZ:=Hd hz;have hr2:(if(q&&z)=true then 70 else Ib 70 71 [] ks)=r:=by
  rw [←hr,←hz,←hq];simp
 have HR:=Hd hr2;have HQ:=Hd hq;clear hI hsz hX hM eS hz hr hr2;cases q with
 |true=>
  cases z with
  |true=>
   go_enter Tryz.func75,Tryz.ntmps75;go_wp2_with (go_at_call 121;refine(Hn x.s true _ HZ.o).mono ?_;rintro e w' ⟨rfl,rfl⟩);go_ret;exact⟨by rw [←HR.o];rfl,HB0.o⟩
  |false=>
   go_enter Tryz.func75,Tryz.ntmps75;go_wp2_with (go_at_call 121;refine(Hn x.s false _ HZ.o).mono ?_;rintro e w' ⟨rfl,rfl⟩);go_wp2_with fail;have HS0:=Hd (show Nx ((w.alloc (.cells #[Aa Ab x.k,Aa Ab x.n,Aa Ac (x.u:Int),.string ⟨x.s.toArray⟩,.slice x.A x.an x.ac,.slice x.B x.bn x.bc] 26)).alloc (.map #[] 0)) (w.heap.size+1) 0 [] from⟨_,HM.o,fun s=>rfl⟩);have HI1:=Hd (HI.o.pure HB.o);generalize (w.alloc (.cells #[Aa Ab x.k,Aa Ab x.n,Aa Ac (x.u:Int),.string ⟨x.s.toArray⟩,.slice x.A x.an x.ac,.slice x.B x.bn x.bc] 26)).alloc (.map #[] 0)=w1 at HB HS0 HI1⊢;have HGE:=Hd (show w.heap.size≤w.heap.size+1 by omega);generalize w.heap.size+1=m at HS0 HGE⊢;have hlen:ks.length=x.an:=HI1.o.1;go_loopw [20] (fun u wr=>∃i:Nat,i≤x.an∧u= Aa Ab i∧Nx wr m i (ks.take i).reverse∧Below w.heap.size w wr∧Ib 70 71 (ks.take i).reverse (ks.drop i)=r) (fun u _=>x.an-(intOf u).toNat)
   case atStart=>exact⟨0,Atl _,rfl,HS0.o,HB.o,by have h:=HR.o;simpa using h⟩
   case round=>
    obtain⟨i,hi,rfl,hso,hbr,hke⟩:=hrel;have HSO:=Hd hso;have HBR:=Hd hbr;have HKE:=Hd hke;clear hso hbr hke HS0;by_cases hlt:i<x.an
    ·obtain⟨g,off,e,hk',hc⟩:=Gd (HI.o.pure HBR.o) hlt;obtain⟨s,hs⟩:∃s,ks[i]=s:=⟨_,rfl⟩;rw [hs] at hc;have HSL:=Hd (HSZ.o s (by rw [←hs];exact List.getElem_mem _));have hd:ks.drop i=s::ks.drop (i+1):=by rw [←hs];exact List.drop_eq_getElem_cons hk'
     have HT:=Hd (show(ks.take (i+1)).reverse=s::(ks.take i).reverse by rw [Atv hk',hs,List.reverse_append];rfl);have hke2:=HKE.o;rw [hd] at hke2;unfold Ib at hke2;obtain⟨zs,hzs⟩:∃b,Br s=b:=⟨_,rfl⟩;obtain⟨ds,hds⟩:∃b,(ks.take i).reverse.contains s=b:=⟨_,rfl⟩;rw [hzs,hds] at hke2;have HZS:=Hd hzs;have HDS:=Hd hds;have HKE2:=Hd hke2;have hi0:(0:Int)≤(i:Int):=by omega
     have hin:(i:Int)<(x.an:Int):=by omega
     rw [e];clear hs hd hzs hds hke2 hk' e HKE;cases zs with
     |true=>
      go_wp2_with (go_at_call 121;refine(Hn s true _ HZS.o).mono ?_;rintro e w' ⟨rfl,rfl⟩);go_ret;exact⟨by have h:=HKE2.o;simp at h;rw [←h];rfl,HBR.o⟩
     |false=>
      have hlk:=HSO.o.look HSL.o HDS.o;cases ds with
      |true=>
       go_wp2_with (go_at_call 121;refine(Hn s false _ HZS.o).mono ?_;rintro e w' ⟨rfl,rfl⟩);go_ret;exact⟨by have h:=HKE2.o;simp at h;rw [←h];rfl,HBR.o⟩
      |false=>
       obtain⟨D,hown,hat⟩:=HSO.o;have HAT:=Hd hat;have HOWN:=Hd hown;have him:i<maxLen:=by simp only [maxLen];omega
       clear hat;go_wp2_with (first|(go_at_call 121;refine(Hn s false _ HZS.o).mono ?_;rintro e w' ⟨rfl,rfl⟩)|(at_mapUpdate;refine wpList_mapUpdate_own (H:=Unit) _ rfl _ _ _ 162 rfl 9 4 R5 Tryz.underlying162 _ m i D rfl hown him _ _ (.string s) rfl rfl (Wr HSL.o) (.lit (.bool true)) [] (plainElem_bool Tryz.underlying4 true) ?_;intro w6 hown6 hgrow6;have HS6:=Hd (Nx.put HOWN.o HAT.o hown6);have HG6:=Hd hgrow6;clear hown6 hgrow6));go_roundw
       case rel=>
        refine⟨i+1,by omega,by go_num,by rw [HT.o];exact HS6.o,?_,?_⟩
        ·exact Bs HBR.o (Fr.of_grown HG6.o) (by rintro k hk;injection hk with hk;rw [hk];exact HGE.o)
        ·rw [HT.o];have h:=HKE2.o;simpa using h
       case measure=>simp [intOf];omega
    ·have hd1:decide ((i:Int)<(x.an:Int))=false:=decide_eq_false (by omega);have hd2:decide (i<x.an)=false:=decide_eq_false (by omega);have HE:=Hd (show r=0 by
      have h:=HKE.o;rw [List.drop_of_length_le (by omega)] at h;exact h.symm)
     go_wp2_with fail;go_ret;exact⟨by rw [HE.o];rfl,HBR.o⟩
 |false=>
  go_enter Tryz.func75,Tryz.ntmps75;go_wp2_with fail;have HS0:=Hd (show Nx ((w.alloc (.cells #[Aa Ab x.k,Aa Ab x.n,Aa Ac (x.u:Int),.string ⟨x.s.toArray⟩,.slice x.A x.an x.ac,.slice x.B x.bn x.bc] 26)).alloc (.map #[] 0)) (w.heap.size+1) 0 [] from⟨_,HM.o,fun s=>rfl⟩);have HI1:=Hd (HI.o.pure HB.o);generalize (w.alloc (.cells #[Aa Ab x.k,Aa Ab x.n,Aa Ac (x.u:Int),.string ⟨x.s.toArray⟩,.slice x.A x.an x.ac,.slice x.B x.bn x.bc] 26)).alloc (.map #[] 0)=w1 at HB HS0 HI1⊢;have HGE:=Hd (show w.heap.size≤w.heap.size+1 by omega);generalize w.heap.size+1=m at HS0 HGE⊢;have hlen:ks.length=x.an:=HI1.o.1;go_loopw [20] (fun u wr=>∃i:Nat,i≤x.an∧u= Aa Ab i∧Nx wr m i (ks.take i).reverse∧Below w.heap.size w wr∧Ib 70 71 (ks.take i).reverse (ks.drop i)=r) (fun u _=>x.an-(intOf u).toNat)
  case atStart=>exact⟨0,Atl _,rfl,HS0.o,HB.o,by have h:=HR.o;simpa using h⟩
  case round=>
   obtain⟨i,hi,rfl,hso,hbr,hke⟩:=hrel;have HSO:=Hd hso;have HBR:=Hd hbr;have HKE:=Hd hke;clear hso hbr hke HS0;by_cases hlt:i<x.an
   ·obtain⟨g,off,e,hk',hc⟩:=Gd (HI.o.pure HBR.o) hlt;obtain⟨s,hs⟩:∃s,ks[i]=s:=⟨_,rfl⟩;rw [hs] at hc;have HSL:=Hd (HSZ.o s (by rw [←hs];exact List.getElem_mem _));have hd:ks.drop i=s::ks.drop (i+1):=by rw [←hs];exact List.drop_eq_getElem_cons hk'
    have HT:=Hd (show(ks.take (i+1)).reverse=s::(ks.take i).reverse by rw [Atv hk',hs,List.reverse_append];rfl);have hke2:=HKE.o;rw [hd] at hke2;unfold Ib at hke2;obtain⟨zs,hzs⟩:∃b,Br s=b:=⟨_,rfl⟩;obtain⟨ds,hds⟩:∃b,(ks.take i).reverse.contains s=b:=⟨_,rfl⟩;rw [hzs,hds] at hke2;have HZS:=Hd hzs;have HDS:=Hd hds;have HKE2:=Hd hke2;have hi0:(0:Int)≤(i:Int):=by omega
    have hin:(i:Int)<(x.an:Int):=by omega
    rw [e];clear hs hd hzs hds hke2 hk' e HKE;cases zs with
    |true=>
     go_wp2_with (go_at_call 121;refine(Hn s true _ HZS.o).mono ?_;rintro e w' ⟨rfl,rfl⟩);go_ret;exact⟨by have h:=HKE2.o;simp at h;rw [←h];rfl,HBR.o⟩
    |false=>
     have hlk:=HSO.o.look HSL.o HDS.o;cases ds with
     |true=>
      go_wp2_with (go_at_call 121;refine(Hn s false _ HZS.o).mono ?_;rintro e w' ⟨rfl,rfl⟩);go_ret;exact⟨by have h:=HKE2.o;simp at h;rw [←h];rfl,HBR.o⟩
     |false=>
      obtain⟨D,hown,hat⟩:=HSO.o;have HAT:=Hd hat;have HOWN:=Hd hown;have him:i<maxLen:=by simp only [maxLen];omega
      clear hat;go_wp2_with (first|(go_at_call 121;refine(Hn s false _ HZS.o).mono ?_;rintro e w' ⟨rfl,rfl⟩)|(at_mapUpdate;refine wpList_mapUpdate_own (H:=Unit) _ rfl _ _ _ 162 rfl 9 4 R5 Tryz.underlying162 _ m i D rfl hown him _ _ (.string s) rfl rfl (Wr HSL.o) (.lit (.bool true)) [] (plainElem_bool Tryz.underlying4 true) ?_;intro w6 hown6 hgrow6;have HS6:=Hd (Nx.put HOWN.o HAT.o hown6);have HG6:=Hd hgrow6;clear hown6 hgrow6));go_roundw
      case rel=>
       refine⟨i+1,by omega,by go_num,by rw [HT.o];exact HS6.o,?_,?_⟩
       ·exact Bs HBR.o (Fr.of_grown HG6.o) (by rintro k hk;injection hk with hk;rw [hk];exact HGE.o)
       ·rw [HT.o];have h:=HKE2.o;simpa using h
      case measure=>simp [intOf];omega
   ·have hd1:decide ((i:Int)<(x.an:Int))=false:=decide_eq_false (by omega);have hd2:decide (i<x.an)=false:=decide_eq_false (by omega);have HE:=Hd (show r=0 by
     have h:=HKE.o;rw [List.drop_of_length_le (by omega)] at h;exact h.symm)
    go_wp2_with fail;go_ret;exact⟨by rw [HE.o];rfl,HBR.o⟩
end Go.Proofs.YtgbjodnegkbfoaaGreat
namespace Go.Proofs.YtgbjodnegkbfoaaGreat
open Go.ChangeShapes Go.WideShapes Go.ChangeAt Go.RowKit Go.Acc
theorem Ad4:ownKnob Tryz.prog.godebug=none:=by kernel_rfl
theorem Ld:laidOutB Tryz.prog=true:=by kernel_rfl
section
variable {H:Type} {enc:TypeId×Value→H} {W:World} {base:Nat} {spare:Nat→Bool} {held:Bool}
theorem Api{v:Value}{d:DataW H}{p:List MemPlace}(k:Value.okWide Tryz.prog W .any base 3 v)(h:DataW.Trod enc Tryz.prog W 0 (fun _=>true) true 3 v d p):
  ∃m:Int,v= Aa Ab m∧ -9223372036854775808≤m∧m≤9223372036854775807:=by
 obtain⟨m,rfl⟩:=okWide_int Tryz.underlying3 k;obtain⟨f,hf⟩:=h;obtain⟨m',e,_,hw⟩:=DataW.trod_int Tryz.underlying3 hf;obtain rfl:m=m':=by simpa [Value.cells] using e
 exact⟨m,rfl,Ajg hw⟩
end
end Go.Proofs.YtgbjodnegkbfoaaGreat
namespace Go.Proofs.YtgbjodnegkbfoaaGreat
open Go.RowKit Go.Acc
theorem M0:Maps.Keyed Tryz.prog 221:=Maps.Keyed.of_law (deep_law_laid Ld (m:=2) (by omega) (of_decide_eq_true (by kernel_rfl)) (by kernel_rfl) (by rw [Tryz.underlying221]))
theorem Aa5{t:Int}(ht:Kv t=true):∃l,keyOf Tryz.prog 221 (Kp (Fz t))=some l:=by
 have h:∀n:Fin 37,(keyOf Tryz.prog 221 (Kp (Fz ((n.val:Nat):Int)))).isSome=true:=by
  intro n;rcases n with⟨n,hn⟩
  have:n=0∨n=1∨n=2∨n=3∨n=4∨n=5∨n=6∨n=7∨n=8∨n=9∨n=10∨n=11∨n=12∨n=13∨n=14∨n=15∨n=16∨n=17∨n=18∨n=19∨n=20∨n=21∨n=22∨n=23∨n=24∨n=25∨n=26∨n=27∨n=28∨n=29∨n=30∨n=31∨n=32∨n=33∨n=34∨n=35∨n=36:=by omega
  rcases this with rfl|rfl|rfl|rfl|rfl|rfl|rfl|rfl|rfl|rfl|rfl|rfl|rfl|rfl|rfl|rfl|rfl|rfl|rfl|rfl|rfl|rfl|rfl|rfl|rfl|rfl|rfl|rfl|rfl|rfl|rfl|rfl|rfl|rfl|rfl|rfl|rfl
  all_goals exact(show(_:Bool)=true by kernel_rfl)
 have h2:=K6 (p:=fun t=>(keyOf Tryz.prog 221 (Kp (Fz t))).isSome=true) h ht;exact Option.isSome_iff_exists.1 h2
theorem Ahm(e0 m0:Int)(t0:Nat)(w:World)(ht:Kv (t0:Int)=true)(hr:Fz (t0:Int)=(3,e0,m0))(hu:∀t:Nat,Kv (t:Int)=true→Fz (t:Int)=(3,e0,m0)→t=t0):
  Calls Tryz.prog 402 #[Aa Ab e0,Aa Ab m0] w fun e w'=>e= .returned (.tuple #[Aa Ab (t0:Int),.bool true])∧Below w.heap.size w w':=by
 obtain⟨l0,hl0⟩:=Aa5 ht;rw [hr] at hl0;unfold Kp at hl0;simp only at hl0;have HL0:=Hd hl0;have HT0:=Hd hr;have HU:=Hd hu;have ht37:t0<37:=by have:=F9.1 ht;omega
 have h0:=run_makeMap (P:=Tryz.prog) 414;have hM:=World.ownsMap_made (H:=Unit) w Tryz.prog 221 (plainElem Tryz.prog 3);have HM:=Hd hM;have HB:=Hd (show Below w.heap.size w (w.alloc (.map #[] 0)) from(Below.refl _ _).alloc (Ath _) _);clear hl0 hu ht hr hM;go_enter Tryz.func402,Tryz.ntmps402;go_wp2_with fail;go_at_call 266;refine(Sz _).mono ?_;rintro e w1 ⟨rfl,hb⟩;have hM1:=HM.o.kept (row:=none) ⟨hb.os,hb.tape,hb.output,hb.size,fun k hk _=>hb.block k hk⟩ (by simp);have HM1:=Hd (show ∃D,w1.ownsMap (H:=Unit) Tryz.prog 221 (plainElem Tryz.prog 3) w.heap.size 0 D∧D.atKey l0 (.lit (.int .i64 0))=(if t0<0 then .lit (.int .i64 t0) else .lit (.int .i64 0))∧Maps.has D l0=decide (t0<0) from⟨_,hM1,rfl,rfl⟩);have HB1:=Hd (Ad HB.o hb);clear hb hM1 HB HM;go_wp2_with fail;go_loopw [11] (fun u wr=>∃k:Nat,k≤37∧u= .int .i64 k∧(∃D,wr.ownsMap (H:=Unit) Tryz.prog 221 (plainElem Tryz.prog 3) w.heap.size k D∧D.atKey l0 (.lit (.int .i64 0))=(if t0<k then .lit (.int .i64 t0) else .lit (.int .i64 0))∧Maps.has D l0=decide (t0<k))∧Below w.heap.size w wr) (fun u _=>37-(intOf u).toNat)
 case atStart=>exact⟨0,Atl _,rfl,HM1.o,HB1.o⟩
 case round=>
  obtain⟨k,hk,rfl,⟨D,hown,hat,hhas⟩,hbr⟩:=hrel;have HBR:=Hd hbr;have HAT:=Hd hat;have HHAS:=Hd hhas;clear hat hhas hbr HM1 HB1;by_cases hlt:k<37
  ·have hkT:Kv (k:Int)=true:=F9.2 (by omega);obtain⟨l,hl⟩:=Aa5 hkT;have hidx:=Alc hkT;obtain⟨r,hr⟩:∃r,Fz (k:Int)=r:=⟨_,rfl⟩;obtain⟨r0,r1,r2⟩:=r;rw [hr] at hidx hl;unfold Kp at hidx hl;simp only at hidx hl;have HR:=Hd hr;have HKL:=Hd hl;have HKT:=Hd hkT;obtain⟨q,hq⟩:∃q,(r0==3)=q:=⟨_,rfl⟩;have hk0:(0:Int)≤(k:Int):=by omega
   have hk37:(k:Int)<37:=by omega
   have HBA:=Hd (HBR.o.alloc HBR.o.size (.cells #[Aa Ab r0,Aa Ab r1,Aa Ab r2] 221));have hown2:=hown.alloc (.cells #[Aa Ab r0,Aa Ab r1,Aa Ab r2] 221);have HOW:=Hd hown2;clear hr hl hkT hown;cases q with
   |false=>
    have HN3:=Hd (show r0≠3 by simpa using hq);clear hown2;go_wp2_with fail;go_roundw
    case rel=>
     have hne:k≠t0:=by
      rintro rfl;have h1:=HR.o.symm.trans HT0.o;injection h1 with h1
      exact HN3.o h1
     refine⟨k+1,by omega,by go_num,⟨D,HOW.o.mono (by omega),?_,?_⟩,HBA.o⟩
     ·rw [HAT.o];by_cases h:t0<k
      ·rw [if_pos h,if_pos (by omega)]
      ·rw [if_neg h,if_neg (by omega)]
     ·rw [HHAS.o];exact decide_eq_decide.2 (by omega)
    case measure=>simp [intOf];omega
   |true=>
    obtain rfl:r0=3:=by simpa using hq
    have hkm:k<maxLen:=by simp only [maxLen];omega
    have HWF:=Hd (show(Lit.int .i64 (k:Int)).wf=true by
     have h1:IntKind.i64.min= -9223372036854775808:=rfl;have h2:IntKind.i64.max=9223372036854775807:=rfl;simp [Lit.wf,h1,h2];omega)
    go_wp2_with (at_mapUpdate;refine wpList_mapUpdate_own (H:=Unit) _ rfl _ _ _ 414 rfl 221 3 M0 Tryz.underlying414 _ w.heap.size k D rfl hown2 hkm _ _ l rfl rfl HKL.o (.lit (.int .i64 (k:Int))) [] (plainElem_int Tryz.underlying3 HWF.o) ?_;intro w6 hown6 hgrow6;have HO6:=Hd hown6;have HG6:=Hd hgrow6;clear hown6 hgrow6);go_roundw
    case rel=>
     obtain⟨es,hD,_⟩:=HOW.o.canon M0;have hP:(D.put l (.lit (.int .i64 (k:Int)))).atKey l0 (.lit (.int .i64 0))=(if t0<k+1 then .lit (.int .i64 t0) else .lit (.int .i64 0))∧Maps.has (D.put l (.lit (.int .i64 (k:Int)))) l0=decide (t0<k+1):=by
      by_cases h:k=t0
      ·have h0':Fz (k:Int)=(3,e0,m0):=by rw [h];exact HT0.o
       have h1':=HR.o.symm.trans h0';simp only [Prod.mk.injEq,true_and] at h1';obtain⟨h1,h2⟩:=h1';have hll:l=l0:=by
        have a1:=HKL.o;rw [h1,h2,HL0.o] at a1;injection a1 with a1
        exact a1.symm
       rw [hll];have hk0:=M0.key HL0.o;refine⟨?_,?_⟩
       ·rw [Maps.atKey_put_same ⟨es,hD⟩ hk0,if_pos (by omega),h]
       ·rw [Maps.has_put_same ⟨es,hD⟩ hk0];exact(decide_eq_true (by omega)).symm
      ·have hne:l0≠l:=by
        intro e;have a1:=HKL.o;rw [←e] at a1;have a2:=M0.inj a1 HL0.o;simp at a2;refine h (HU.o k HKT.o ?_);rw [HR.o,a2.1,a2.2]
       refine⟨?_,?_⟩
       ·rw [Maps.atKey_put_other hne,HAT.o];by_cases h2:t0<k
        ·rw [if_pos h2,if_pos (by omega)]
        ·rw [if_neg h2,if_neg (by omega)]
       ·rw [Maps.has_put_other hne,HHAS.o];exact decide_eq_decide.2 (by omega)
     refine⟨k+1,by omega,by go_num,⟨_,HO6.o,hP.1,hP.2⟩,Bs HBA.o (Fr.of_grown HG6.o) (by rintro j hj;injection hj with hj;rw [hj];exact Ath _)⟩
    case measure=>simp [intOf];omega
  ·have hd1:decide ((k:Int)<37)=false:=decide_eq_false (by omega);have hd2:decide (k<37)=false:=decide_eq_false (by omega);have HA:=Hd (show D.atKey l0 (.lit (.int .i64 0))= .lit (.int .i64 (t0:Int)) by rw [HAT.o,if_pos (by omega)]);have HH:=Hd (show Maps.has D l0=true by rw [HHAS.o];exact decide_eq_true (by omega));have HOW:=Hd hown;go_wp2_with (at_lookup;refine wpList_lookup_own_ok_int _ rfl _ _ 414 rfl 221 3 .i64 M0 Tryz.underlying414 Tryz.underlying3 (Tryz.zeroValue3 _) w.heap.size k D rfl hown _ l0 rfl HL0.o ?_;intro c hc _;obtain rfl:c=(t0:Int):=(by rw [HA.o] at hc;simpa using hc.symm);rw [HH.o];clear hc);go_ret2;exact⟨rfl,HBR.o⟩
def vecTy(e m:Nat):Nat:=if m=0 then(if e=1 then 11 else if e=2 then 12 else if e=4 then 14 else 36) else if e=1 then 10+3*m else 11+3*m
def K0(e m:Nat):Prop:=(m=0∧(e=1∨e=2∨e=4∨e=26))∨((m=2∨m=3∨m=4)∧(e=1∨e=2))
theorem Aoa(e m:Nat)(w:World)(h:K0 e m):Calls Tryz.prog 402 #[Aa Ab (e:Int),Aa Ab (m:Int)] w fun x w'=>x= .returned (.tuple #[Aa Ab (vecTy e m:Nat),.bool true])∧Below w.heap.size w w':=by
 have hall:∀e0 m0:Int,∀t0:Fin 37,Fz ((t0.val:Nat):Int)=(3,e0,m0)→(∀n:Fin 37,Fz ((n.val:Nat):Int)=(3,e0,m0)→n=t0)→Calls Tryz.prog 402 #[Aa Ab e0,Aa Ab m0] w fun x w'=>x= .returned (.tuple #[Aa Ab (t0.val:Int),.bool true])∧Below w.heap.size w w':=by
  intro e0 m0 t0 h1 h2;refine Ahm e0 m0 t0.val w (F9.2 (by omega)) h1 fun t ht hr=>?_
  have ht2:=F9.1 ht;have:=h2 ⟨t,by omega⟩ hr;rw [←this]
 rcases h with⟨rfl,rfl|rfl|rfl|rfl⟩|⟨rfl|rfl|rfl,rfl|rfl⟩
 ·exact hall 1 0 11 (by decide) (by decide)
 ·exact hall 2 0 12 (by decide) (by decide)
 ·exact hall 4 0 14 (by decide) (by decide)
 ·exact hall 26 0 36 (by decide) (by decide)
 ·exact hall 1 2 16 (by decide) (by decide)
 ·exact hall 2 2 17 (by decide) (by decide)
 ·exact hall 1 3 19 (by decide) (by decide)
 ·exact hall 2 3 20 (by decide) (by decide)
 ·exact hall 1 4 22 (by decide) (by decide)
 ·exact hall 2 4 23 (by decide) (by decide)
theorem Ak0(w:World):Calls Tryz.prog 378 #[Aa Ab (-1),Aa Ab 0] w fun e w'=>e= .returned (.tuple #[.agg #[Aa Ab 10,.bool true,.func (.func 400) #[] #[],.func (.func 401) #[] #[]],Aa Ab 0])∧Below w.heap.size w w':=by
 go_enter Tryz.func378,Tryz.ntmps378;go_wp2_with fail;refine bodyPost_ret (v:= .tuple #[.agg #[Aa Ab 10,.bool true,.func (.func 400) #[] #[],.func (.func 401) #[] #[]],Aa Ab 0]) (by simp [results,Tryz.results378,go_sem]) rfl ⟨rfl,?_⟩;exact Ba _ _ _
def ShW(w:World)(e m:Nat)(x:Ending)(w':World):Prop:=
 ∃g,x= .returned (.tuple #[.agg #[Aa Ab (vecTy e m:Nat),.bool (decide (m=0)),.func (.func 403) #[] #[.pointer (some ⟨g,0,none⟩)],.func (.func 404) #[] #[]],Aa Ab 0])∧Af w' g 3 #[Aa Ab (e:Int)]∧w.heap.size≤g∧Below w.heap.size w w'
theorem Ym(e m:Nat)(w:World)(h:K0 e m):Calls Tryz.prog 378 #[Aa Ab (e:Int),Aa Ab (m:Int)] w (ShW w e m):=by
 have he:((e:Int)== -1)=false:=by rw [beq_eq_false_iff_ne];omega
 obtain⟨z,hz⟩:∃z,decide (m=0)=z:=⟨_,rfl⟩;have hz2:((m:Int)==0)=z:=by
  rw [←hz,Bool.eq_iff_iff];simp only [beq_iff_eq,decide_eq_true_eq];omega
 obtain⟨t,ht⟩:∃t,vecTy e m=t:=⟨_,rfl⟩;have hty:=fun W=>Aoa e m W h
 rw [ht] at hty;have HTY:=Hd hty;have HT:=Hd (And.intro ht hz);have HB:=Hd (Ba w (.cells #[Aa Ab (e:Int)] 3) (.cells #[Aa Ab 0,.bool false,.nilFunc,.nilFunc] 393));clear h hty ht hz;go_enter Tryz.func378,Tryz.ntmps378;go_wp2_with fail;go_at_call 402;have HX:=Hd ((Af.new w 3 #[Aa Ab (e:Int)]).alloc (.cells #[Aa Ab 0,.bool false,.nilFunc,.nilFunc] 393));have HR:=Hd (B5 w (.cells #[Aa Ab (e:Int)] 3) 393 #[Aa Ab 0,.bool false,.nilFunc,.nilFunc]);have HGE:=Hd (show w.heap.size≤w.heap.size+1 by omega);have HNE:=Hd (show w.heap.size≠w.heap.size+1 by omega);generalize (w.alloc (.cells #[Aa Ab (e:Int)] 3)).alloc (.cells #[Aa Ab 0,.bool false,.nilFunc,.nilFunc] 393)=w1 at HB HX HR⊢;generalize w.heap.size+1=bR at HR HGE HNE⊢;refine(HTY.o _).mono ?_;rintro x w2 ⟨rfl,hb⟩;have HB2:=Hd (Ad HB.o hb);have HX2:=Hd (HX.o.pure hb);have HR2:=Hd (HR.o.pure hb);obtain ⟨r0,r1,r2,r3⟩:=HR2.o.c4;have f0:=HR2.o.frozen 0;have f1:=HR2.o.frozen 1;have f2:=HR2.o.frozen 2;have f3:=HR2.o.frozen 3;clear hb;go_wp2_with fail;have hF:=(((HR2.o.set_ 0 (Aa Ab (t:Int))).set_ 1 (.bool z)).set_ 2 (.func (.func 403) #[] #[.pointer (some ⟨w.heap.size,0,none⟩)])).set_ 3 (.func (.func 404) #[] #[]);have hXF:=(((HX2.o.far (p:=⟨bR,0,none⟩) HNE.o (Aa Ab (t:Int))).far (p:=⟨bR,1,none⟩) HNE.o (.bool z)).far (p:=⟨bR,2,none⟩) HNE.o (.func (.func 403) #[] #[.pointer (some ⟨w.heap.size,0,none⟩)])).far (p:=⟨bR,3,none⟩) HNE.o (.func (.func 404) #[] #[]);have hBF:=(((HB2.o.setCell (p:=⟨bR,0,none⟩) HGE.o (Aa Ab (t:Int))).setCell (p:=⟨bR,1,none⟩) HGE.o (.bool z)).setCell (p:=⟨bR,2,none⟩) HGE.o (.func (.func 403) #[] #[.pointer (some ⟨w.heap.size,0,none⟩)])).setCell (p:=⟨bR,3,none⟩) HGE.o (.func (.func 404) #[] #[]);clear r0 r1 r2 r3 f0 f1 f2 f3;generalize (((w2.setCell ⟨bR,0,none⟩ (Aa Ab (t:Int))).setCell ⟨bR,1,none⟩ (.bool z)).setCell ⟨bR,2,none⟩ (.func (.func 403) #[] #[.pointer (some ⟨w.heap.size,0,none⟩)])).setCell ⟨bR,3,none⟩ (.func (.func 404) #[] #[])=wF at hF hXF hBF⊢;obtain ⟨r0,r1,r2,r3⟩:=hF.c4;refine bodyPost_ret (v:= .tuple #[.agg #[Aa Ab (t:Int),.bool z,.func (.func 403) #[] #[.pointer (some ⟨w.heap.size,0,none⟩)],.func (.func 404) #[] #[]],Aa Ab 0]) (by simp [results,Tryz.results378,go_sem,r0,r1,r2,r3]) rfl ?_;exact⟨w.heap.size,by rw [HT.o.1,HT.o.2],hXF,Ath _,hBF⟩
theorem Rl(g e:Nat)(v:Bv)(w:World)(hg:Af w g 3 #[Aa Ab (e:Int)])(he:v.t=e)(hl:Be (v.t:Int)=true)(hw:Av (v.w:Int)=true):
  Calls Tryz.prog 403 #[.agg #[Aa Ab (v.t:Int),Aa Ab (v.w:Int),Aa Ac (v.n:Int)],.pointer (some ⟨g,0,none⟩)] w fun x w'=>x= .returned (Aa Ab 0)∧Below w.heap.size w w':=by
 have HB:=Hd (show Below w.heap.size w (w.alloc (.cells #[Aa Ab (v.t:Int),Aa Ab (v.w:Int),Aa Ac (v.n:Int)] 210)) from(Below.refl _ _).alloc (Ath _) _);have HX:=Hd (Af.new w 210 #[Aa Ab (v.t:Int),Aa Ab (v.w:Int),Aa Ac (v.n:Int)]);rw [←he] at hg;have HG:=Hd (hg.alloc (.cells #[Aa Ab (v.t:Int),Aa Ab (v.w:Int),Aa Ac (v.n:Int)] 210));have HL:=Hd hl;have HW:=Hd hw;clear hg hl hw he;go_enter Tryz.func403,Tryz.ntmps403;go_wp2_with fail;go_at_call 111;refine(Gw (v.t:Int) _).mono ?_;rw [HL.o];rintro x w1 ⟨rfl,hb⟩;have HB1:=Hd (Ad HB.o hb);have HX1:=Hd (HX.o.pure hb);obtain ⟨x0,x1,x2⟩:=HX1.o.c3;have g0:w1.cell? ⟨g,0,none⟩=some (Aa Ab (v.t:Int)):=HG.o.pure hb |>.cell 0
 clear hb;go_wp2_with fail;go_at_call 400;refine(S1 v _ HL.o HW.o).mono ?_;rintro x w2 ⟨rfl,hb⟩;have HB2:=Hd (Ad HB1.o hb);clear hb x0 x1 x2 g0;go_wp2_with fail;go_ret;exact⟨rfl,HB2.o⟩
theorem Rm(b y:Value)(A:Option Addr)(n c:Nat)(w:World):Calls Tryz.prog 404 #[b,y,.slice A n c] w fun x w'=>x= .returned (.tuple #[])∧w=w':=by
 go_enter Tryz.func404,Tryz.ntmps404;go_wp2_with fail;go_end0;exact⟨rfl,rfl⟩
end Go.Proofs.YtgbjodnegkbfoaaGreat
