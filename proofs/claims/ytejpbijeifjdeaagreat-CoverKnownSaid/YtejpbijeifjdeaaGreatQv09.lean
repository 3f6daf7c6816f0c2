/- Parts of the proof. -/
import Derived.Test.YtejpbijeifjdeaaGreatQv08
import Derived.Maps.Views
import Derived.Maps.Ext
import Derived.Lib.SmallJoins
import Derived.Maps.OwnSet
import Derived.DeepKeys4
import Derived.StillTailTactics
set_option maxHeartbeats 4000000
set_option maxRecDepth 100000
open Go.Value renaming int→Aa
open Go.IntKind renaming i64→Ab,u64→Ac
open Nat renaming le_refl→Ae,zero_le→Am,lt_of_lt_of_le→Ar
open Go.RowKit.Below renaming refl→Af
open List renaming getElem?_eq_getElem→Ai,length_append→Ak,take_succ_eq_append_getElem→Az
open Go.Proofs.Tryz
open Go.Proofs.Tryz renaming prog→Ad
namespace Go.Proofs.YtejpbijeifjdeaaGreat
variable {f:Nat→Int}{m n k y:Nat}{w w':World}{p:Addr}{v:Value}{s l:List UInt8}{had:List (List UInt8)}{vs:List Bv}{o:Nat→Nat}
section
open Go.RowKit Go.Acc
attribute [local go_sem] Oper.semAt_some
def Ti(Y:List (Nat×Nv))(sb:Nat→Bool)(ke:Nat→Int)(c:Nat)(i:Fin Y.length):Int:=
 if 4096<c+1 then 5 else if 64≤Y[i].1 then 61 else if sb i.val=false then 60 else ke i.val
def Rh(Y:List (Nat×Nv))(sb:Nat→Bool)(ke:Nat→Int)(j:Nat):Int:=if h:j<Y.length then Ti Y sb ke j ⟨j,h⟩ else 0
def Iy(f:Nat→Int):Nat→Int
 |0=>0
 |m+1=>if Iy f m≠0 then Iy f m else f m
theorem X8(h:∀j,j<m→f j=0):Iy f m=0:=by
 induction m with
 |zero=>rfl
 |succ m ih=>
  unfold Iy;rw [ih fun j hj=>h j (by omega)];simp [h m (by omega)]
theorem mY{i:Nat}(h:∀j,j<i→f j=0)(hi:f i≠0)(hm:i<m):Iy f m=f i:=by
 induction m with
 |zero=>omega
 |succ m ih=>
  unfold Iy;by_cases e:i=m
  ·subst e;rw [X8 h];simp
  ·rw [ih (by omega),if_pos hi]
theorem Abo{q:Addr}{u:Value}(h:w.cell? q=some v)(hne:q.block≠p.block):(w.setCell p u).cell? q=some v:=by
 exact(World.cell?_of_block (w:=w) (Below.heap_setCell w p u q.block hne)).trans h
theorem Vu{V:Nat→Prop}{W W':World}{p:Nat→Prop}{x:Nv}{t:Tr}(h:B7 W p x t)(hk:Gn V W W')(hp:∀k,p k→¬V k):B7 W' p x t:=h.keep fun a u hc hpa=>hk a u hc (hp _ hpa)
theorem lX(x:Nv)(t:Tr)(Y:List (Nat×Nv))(p:Nat→Prop)(w:World)(sb:Nat→Bool)(ke:Nat→Int)(r:Int)(h:Gw w p 0 x t Y)(hp:∀k,p k→k<w.heap.size)(hm:Y.length≤1099511627776)(hlev:∀y∈Y,y.1≤1099511627776)
  (hS:∀i y W,Y[i]?=some y→Gn (fun k=>w.heap.size≤k) w W→Calls Ad 143 #[.agg (Ab8 y.2.k y.2.n y.2.u y.2.s y.2.A y.2.an y.2.ac y.2.B y.2.bn y.2.bc)] W fun e W'=>e= .returned (.bool (sb i))∧Below W.heap.size W W')
  (hK:∀i y W,Y[i]?=some y→Gn (fun k=>w.heap.size≤k) w W→Calls Ad 144 #[.agg (Ab8 y.2.k y.2.n y.2.u y.2.s y.2.A y.2.an y.2.ac y.2.B y.2.bn y.2.bc)] W fun e W'=>e= .returned (Aa Ab (ke i))∧Below W.heap.size W W')
  (hr:Iy (Rh Y sb ke) Y.length=r):
  Calls Ad 73 #[.agg (Ab7 x)] w (Ab5 (Aa Ab r) w):=by
 have HS:=Hd hS;have HK:=Hd hK;have HR:=Hd hr;have bg:=Hd hlev;have HP:=Hd hp;have HM:=Hd hm;have bk:=Hd h;clear hS hK hr hlev hp hm h;refine callsIn_wide.1 (callsIn_of_wp_marks (n:=6) func73 rfl trivial (wpIn_wide.2 ?_));simp only [ntmps73,List.size_toArray,List.length_cons,List.length_nil,Nat.reduceAdd,Nat.reduceSub,Array.replicate_succ,Array.replicate_zero,List.push_toArray,List.append_toArray,List.nil_append,List.cons_append];go_wp2_with (go_at_call 142;refine(fA x _).mono ?_;rintro e w' ⟨rfl,rfl⟩);have ak:Below w.heap.size w ((((w.alloc (.cells (Ab7 x) 34)).alloc (.cells #[Aa Ab 0] 23)).alloc (.cells #[Aa Ab 0] 3)).alloc (.cells (Ab7 x) 34)):=((((Af _ _).alloc (Ae _) _).alloc (by simp) _).alloc (by simp;omega) _).alloc (by simp;omega) _;have a4:=((Cv w (.cells (Ab7 x) 34) 23 #[Aa Ab 0]).alloc (.cells #[Aa Ab 0] 3)).alloc (.cells (Ab7 x) 34);have a3:=(K7 w (.cells (Ab7 x) 34) (.cells #[Aa Ab 0] 23) 3 #[Aa Ab 0]).alloc (.cells (Ab7 x) 34);have a5:Bb ((((w.alloc (.cells (Ab7 x) 34)).alloc (.cells #[Aa Ab 0] 23)).alloc (.cells #[Aa Ab 0] 3)).alloc (.cells (Ab7 x) 34)) (w.heap.size+1+1+1) 34 (Ab7 x):=Bb.new_ (by simp) _ _;have T:=Hd ak;have C:=Hd a4;have z:=Hd a3;have G:=Hd a5;have HO:=Hd (bk.o.pure ak);clear ak a4 a3 a5;generalize ((((w.alloc (.cells (Ab7 x) 34)).alloc (.cells #[Aa Ab 0] 23)).alloc (.cells #[Aa Ab 0] 3)).alloc (.cells (Ab7 x) 34))=w1 at T C z G HO⊢;have F:=Hd (show w.heap.size≤w.heap.size+1 by omega);have ai:=Hd (show w.heap.size≤w.heap.size+1+1 by omega);have aj:=Hd (show w.heap.size+1≠w.heap.size+1+1 by omega);generalize w.heap.size+1+1+1=bW at G⊢;generalize w.heap.size+1+1=bN at z ai aj⊢;generalize w.heap.size+1=bR at C F aj⊢;have HV:=Hd (show ∀k,(k=bR∨k=bN)→k<w1.heap.size by rintro k (rfl|rfl);exact C.o.lt;exact z.o.lt);have bl:=Hd (show ∀k,p k→¬(k=bR∨k=bN) by
  intro k bu hk;have h1:=HP.o k bu;have h2:=F.o;have h3:=ai.o;omega)
 have ax:=Hd T.o.size;refine(wpIn_wide (n:=6)).1 ?_;refine qN fun a0 ha0=>?_
 refine wpIn_rangeFunc_ownH rfl (by omega) (gf:=232) (lb:=#[Aca bW]) (by rw [ha0];rfl) trivial (enters_of func232 (by kernel_rfl) rfl)
  (Ze x t Y (fun k=>k=bR∨k=bN) p bW w1 (6-1) (by omega) HO.o G.o bl.o HV.o HM.o) (fun h k=>⟨h.1.trans k.1,Nat.le_trans h.2 k.2⟩) (fun W l o o' _ h hc _=>⟨Aa0 W l o o' h hc,by simp [World.putObj]⟩) (Af _ _) (fun _=>rfl)
  (fun pre W=>(Bb W bN 3 #[Aa Ab (pre.length:Int)]∧Bb W bR 23 #[Aa Ab 0]∧∀j y,pre[j]?=some y→Ti Y sb ke j y=0)∧Below w.heap.size w W)
  (fun c pre W=>(c= .ret∧∃q y e,pre=q++ [y]∧(∀j y,q[j]?=some y→Ti Y sb ke j y=0)∧Ti Y sb ke q.length y=e∧e≠0∧Bb W bR 23 #[Aa Ab e])∧Below w.heap.size w W)
  (OwnFrom.and (fun s A B row hs hg hr=>⟨Ki hg (fun r e=>(hr r e).2) hs.1,Ki hg (fun r e=>(hr r e).2) hs.2.1,hs.2.2⟩) (ownFrom_below (Ae _) T.o.size))
  (fun c=>OwnFrom.and (fun s A B row hs hg hr=>by obtain⟨h1,q,y,e,h2,h3,h4,h5,h6⟩:=hs;exact⟨h1,q,y,e,h2,h3,h4,h5,Ki hg (fun r e=>(hr r e).2) h6⟩) (ownFrom_below (Ae _) T.o.size))
  ⟨⟨z.o,C.o,fun j y h=>by simp at h⟩,T.o⟩
  (fun i a' W=>∃Bx,Bb W Bx 34 #[Aa Ab Y[i].2.k,Aa Ab Y[i].2.n,Aa Ac (Y[i].2.u:Int),.string ⟨Y[i].2.s.toArray⟩,.slice Y[i].2.A Y[i].2.an Y[i].2.ac,.slice Y[i].2.B Y[i].2.bn Y[i].2.bc]∧
   a'={ tmps:=(((a0.tmps.setIfInBounds 9 (Aa Ab (Y[i].1:Int))).setIfInBounds 10 (.agg #[Aa Ab Y[i].2.k,Aa Ab Y[i].2.n,Aa Ac (Y[i].2.u:Int),.string ⟨Y[i].2.s.toArray⟩,.slice Y[i].2.A Y[i].2.an Y[i].2.ac,.slice Y[i].2.B Y[i].2.bn Y[i].2.bc])).setIfInBounds 4 (Aa Ab (Y[i].1:Int))).setIfInBounds 5 (Aca Bx),defers:=[]})
  (fun i a' _ A B row hs hg hr=>by obtain⟨Bx,hb,e⟩:=hs;exact⟨Bx,Ki hg (fun r e=>(hr r e).2) hb,e⟩)
  ?assign ?body ?done ?stop
 case assign=>
  rintro l pre i W K ⟨⟨S,M,b⟩,R⟩ E;have HQ:=Hd E;have f:=Hd b;clear E b HR T z C G HO;subst ha0;generalize bb:Y[i]=yi at HQ⊢;obtain⟨yl,yn⟩:=yi;simp only [jK]
  gi_wp2
  have hA:=(Af W.heap.size W).alloc (Ae _) (.cells (Ab7 yn) 34);exact HQ.o _ _ ((KeepsOthers.alloc _ _).from _) ⟨Gn.pure hA,hA.size⟩ ⟨⟨S.alloc _,M.alloc _,f.o⟩,R.alloc R.size _⟩ ⟨W.heap.size,Bb.new _ _ _,rfl⟩
 case body=>
  rintro l pre i a' W hl ⟨rr,cs⟩ ⟨⟨S,M,b⟩,R⟩ ⟨Bx,v,rfl⟩ bt;have f:=Hd b;have cb:=Hd R;have bj:=Hd S;have ce:=Hd M;obtain⟨c,hc⟩:∃c,pre.length=c:=⟨_,rfl⟩;have b5:c<1099511627776:=by have:=HM.o;omega
  have P:=Hd (fun W' (hk:Gn (fun k=>w.heap.size≤k) w W')=>HS.o i.val Y[i] W' (Ai i.isLt) hk);have O:=Hd (fun W' (hk:Gn (fun k=>w.heap.size≤k) w W')=>HK.o i.val Y[i] W' (Ai i.isLt) hk);obtain⟨e,he⟩:∃e,Ti Y sb ke c i=e:=⟨_,rfl⟩;have d:=he;unfold Ti at d;have a9:=bg.o Y[i] (List.getElem_mem _);have N:=Hd he;have H:=Hd hc;obtain⟨si,ba⟩:∃s,sb i.val=s:=⟨_,rfl⟩;obtain⟨ki,a8⟩:∃s,ke i.val=s:=⟨_,rfl⟩;rw [ba] at P d;rw [a8] at O d;generalize bb:Y[i]=yi at v P O d a9⊢;obtain⟨yl,yn⟩:=yi;simp only at v P O d a9⊢;rw [hc] at S;have n0:W.cell? ⟨bN,0,none⟩=some (Aa Ab (c:Int)):=S.cell 0;have f0:=S.frozen 0;have am:=S.set_ 0 (Aa Ab ((c:Int)+1));have n1:(W.setCell ⟨bN,0,none⟩ (Aa Ab ((c:Int)+1))).cell? ⟨bN,0,none⟩=some (Aa Ab ((c:Int)+1)):=am.cell 0;have X:=M.far (p:=⟨bN,0,none⟩) (by exact aj.o) (Aa Ab ((c:Int)+1));have r1:(W.setCell ⟨bN,0,none⟩ (Aa Ab ((c:Int)+1))).cell? ⟨bR,0,none⟩=some (Aa Ab 0):=X.cell 0;have g1:=X.frozen 0;have bh:=Hd am;have I:=Hd X;have U:=Hd (R.setCell (p:=⟨bN,0,none⟩) ai.o (Aa Ab ((c:Int)+1)));have b6:(yl:Int)≤1099511627776:=by omega
  clear S M b R am X T z C G HO bt ba a8 he hc bb;subst ha0;by_cases h1:4096<c+1
  ·rw [if_pos h1] at d;have a1:decide ((4096:Int)<(c:Int)+1)=true:=decide_eq_true (by omega);have ag:=Hd d;clear d
   gi_wp2
   exact⟨((KeepsOthers.setCell _ _ _).from _).trans ((KeepsOthers.setCell _ _ _).from _),⟨rfl,pre,i,5,rfl,f.o,by rw [H.o,N.o];exact ag.o.symm,by decide,I.o.set_ 0 _⟩,U.o.setCell (p:=⟨bR,0,none⟩) F.o _⟩
  ·rw [if_neg h1] at d;have a1:decide ((4096:Int)<(c:Int)+1)=false:=decide_eq_false (by omega);by_cases h2:64≤yl
   ·rw [if_pos h2] at d;have a2:decide ((64:Int)≤(yl:Int))=true:=decide_eq_true (by omega);have ag:=Hd d;clear h1 d
    gi_wp2
    exact⟨((KeepsOthers.setCell _ _ _).from _).trans ((KeepsOthers.setCell _ _ _).from _),⟨rfl,pre,i,61,rfl,f.o,by rw [H.o,N.o];exact ag.o.symm,by decide,I.o.set_ 0 _⟩,U.o.setCell (p:=⟨bR,0,none⟩) F.o _⟩
   ·rw [if_neg h2] at d;have a2:decide ((64:Int)≤(yl:Int))=false:=decide_eq_false (by omega);have ao:=v.far (p:=⟨bN,0,none⟩) (by
     rintro rfl;have q1:=bj.o;unfold Bb at q1 v;rw [q1] at v;injection v with v
     injection v with q2
     simp at q2) (Aa Ab ((c:Int)+1))
    obtain ⟨x0,x1,x2,x3,x4,x5⟩:=ao.c6;have bo:=Hd (P.o _ (fun a u hc _=>Ba (w:=w) U.o hc));have bp:=Hd ao;have ay:=Hd d;clear h1 h2 ao P d v
    gi_wp2
    refine⟨trivial,(CallsIn.inRound l (callsIn_wide.2 bo.o)).mono ?_⟩;rintro e' W3 ⟨rfl,J⟩;have ae:=Hd J;have bq:=Hd (bp.o.pure J);have r3:W3.cell? ⟨bR,0,none⟩=some (Aa Ab 0):=(I.o.pure J).cell 0;have g3:=(I.o.pure J).frozen 0;have af:=Hd (A6 U.o J);clear J x0 x1 x2 x3 x4 x5 n0 n1 f0 r1 g1 a1 a2;obtain ⟨x0,x1,x2,x3,x4,x5⟩:=bq.o.c6;cases si with
    |false=>
     gi_wp2
     exact⟨(((KeepsOthers.setCell _ _ _).from _).trans (Ik ae.o)).trans ((KeepsOthers.setCell _ _ _).from _),⟨rfl,pre,i,60,rfl,f.o,by rw [H.o,N.o];exact ay.o.symm,by decide,(I.o.pure ae.o).set_ 0 _⟩,af.o.setCell (p:=⟨bR,0,none⟩) F.o _⟩
    |true=>
     have a6:ki=e:=ay.o;have bf:=Hd (O.o _ (fun a u hc _=>Ba (w:=w) af.o hc));have az:=Hd a6;clear a6 O
     gi_wp2
     refine⟨trivial,(CallsIn.inRound l (callsIn_wide.2 bf.o)).mono ?_⟩;rintro e' W4 ⟨rfl,Z⟩;have ca:=Hd Z;have g:=Hd (A6 ae.o Z);have aa:=Hd (A6 af.o Z);have V:=Hd (I.o.pure g.o);have bi:=Hd (bh.o.pure g.o);clear Z x0 x1 x2 x3 x4 x5 r3 g3;have r4:W4.cell? ⟨bR,0,none⟩=some (Aa Ab 0):=V.o.cell 0;have g4:=V.o.frozen 0;by_cases L:ki=0
     ·have hq:(ki != 0)=false:=by rw [L];rfl
      have ah:=Hd L;clear L
      gi_wp2
      refine⟨((KeepsOthers.setCell _ _ _).from _).trans (Ik g.o),?_,⟨?_,V.o,?_⟩,aa.o⟩
      ·refine⟨fun a u ha hv=>Ba g.o (Abo ha fun hh=>hv (.inr hh)),?_⟩;have:=g.o.size;simpa [World.setCell] using this
      ·have h:=bi.o;rw [Ak,H.o];exact h
      ·intro j y hj;rw [List.getElem?_append] at hj;split at hj
       ·exact f.o j y hj
       ·rename_i hjc;rw [H.o] at hj hjc;have bs:j-c=0:=by
         cases hjj:j-c with
         |zero=>rfl
         |succ m=>rw [hjj] at hj;simp at hj
        rw [bs] at hj;simp at hj;have a7:j=c:=by omega
        rw [a7,←hj,N.o,←az.o,ah.o]
     ·have hq:(ki != 0)=true:=by simpa using L
      have ah:=Hd L;clear L
      gi_wp2
      exact⟨(((KeepsOthers.setCell _ _ _).from _).trans (Ik g.o)).trans ((KeepsOthers.setCell _ _ _).from _),⟨rfl,pre,i,ki,rfl,f.o,by rw [H.o,N.o];exact az.o.symm,ah.o,V.o.set_ 0 _⟩,aa.o.setCell (p:=⟨bR,0,none⟩) F.o _⟩
 case done=>
  rintro D ys W hD rfl ⟨⟨S,M,b⟩,R⟩ E;subst ha0;have au:r=0:=by
   rw [←HR.o];refine X8 fun j hj=>?_
   unfold Rh;rw [dif_pos hj];exact b j ⟨j,hj⟩ (by simp [hj])
  subst au;have r0:W.cell? ⟨bR,0,none⟩=some (Aa Ab 0):=M.cell 0;have g0:=M.frozen 0;have s2:=M.set_ 0 (Aa Ab 0);have al:=(KeepsOthers.setCell W ⟨bR,0,none⟩ (Aa Ab 0)).same D _ E rfl;clear b S M T z C G HO;go_wp2_with fail;refine⟨by simp,.inl ⟨_,_,rfl,run_takeDeferred al,?_⟩⟩;have ap:=Ki (grownBy_putObj' _ D (.deferred none)) (fun r e=>by cases e;exact⟨_,al,rfl⟩) s2;have aq:_=some (Aa Ab 0):=ap.cell 0;refine⟨Aa Ab 0,?_,rfl,?_⟩
  ·simp [results,Tryz.f73,go_sem,aq]
  ·exact(R.setCell (p:=⟨bR,0,none⟩) F.o _).trans (belowK_b (w:=w) (Ae _) _ D _ _ (Nat.le_trans ax.o hD) al rfl rfl)
 case stop=>
  rintro D c pre W hD ab ⟨⟨rfl,q,y,e,rfl,b,hy,he,M⟩,R⟩ E;subst ha0;have Q:q.length<Y.length:=by
   obtain⟨ad,hr⟩:=ab;have:=congrArg List.length hr;simp at this;omega
  have ar:∀j (hj:j<q.length+1),(q++ [y])[j]?=some ⟨j,by omega⟩:=by
   intro j hj;obtain⟨ad,hr⟩:=ab;have h1:((q++ [y])++ad)[j]?=(q++ [y])[j]?:=List.getElem?_append_left (by simp;omega);rw [←h1,hr];simp [show j<Y.length by omega]
  have bd:y=⟨q.length,Q⟩:=by
   have h1:=ar q.length (by omega);simp at h1;exact h1
  have au:r=e:=by
   rw [←HR.o];have h1:∀j,j<q.length→Rh Y sb ke j=0:=by
    intro j hj;unfold Rh;rw [dif_pos (by omega)];refine b j ⟨j,by omega⟩ ?_;have h2:=ar j (by omega);rw [List.getElem?_append_left hj] at h2;exact h2
   have h2:Rh Y sb ke q.length=e:=by
    unfold Rh;rw [dif_pos Q,←bd];exact hy
   rw [mY h1 (by rw [h2];exact he) Q,h2]
  subst au;clear b hy he ar bd T z C G HO
  gi_wp2
  refine⟨by simp,.inl ⟨_,_,rfl,run_takeDeferred E,?_⟩⟩;have ap:=Ki (grownBy_putObj' W D (.deferred none)) (fun r e=>by cases e;exact⟨_,E,rfl⟩) M;have aq:_=some (Aa Ab r):=ap.cell 0;refine⟨Aa Ab r,?_,rfl,?_⟩
  ·simp [results,Tryz.f73,go_sem,aq]
  ·exact R.trans (belowK_b (w:=w) (Ae _) _ D _ _ (Nat.le_trans ax.o hD) E rfl rfl)
theorem Se:Maps.Keyed Ad 9:=Maps.string_keyed underlying9
def N7(w:World)(m n:Nat)(had:List (List UInt8)):Prop:=
 ∃D,w.ownsMap (H:=Unit) Ad 9 (plainElem Ad 4) m n D∧∀s,D.atKey (.string s) (.lit (.bool false))= .lit (.bool (had.contains s))
theorem rB{z:DataW Unit×List MemPlace}(h:plainElem Ad 4 v=some z):∃b,v= .bool b∧z=(.lit (.bool b),[]):=by
 unfold plainElem at h;rw [underlying4] at h;cases v <;>simp at h
 exact⟨_,rfl,h.symm⟩
theorem Xh(hs:s.length≤1048576):keyOf Ad 9 (.string ⟨s.toArray⟩)=some (.string s):=
 WideMaps.keyOf_string_mk underlying9 (by show s.length≤maxLen;simp only [maxLen];omega)
theorem N7.look(h:N7 w m n had)(hs:s.length≤1048576){b:Bool}(hb:had.contains s=b):(Instr.lookup 261 (.map (some m)) (.string ⟨s.toArray⟩) false).run Ad w= .ok (.bool b) w:=by
 obtain⟨D,f,d⟩:=h;have i:(zeroValue 4).run Ad w= .ok (.bool false) w:=by kernel_rfl
 obtain⟨v,j,a,g⟩:=f.lookup Se underlying261 i (plainElem_bool underlying4 false) (Xh hs);obtain⟨c,rfl,e⟩:=rB g;rw [d s,hb] at e;simp at e;rw [←e.1] at a;exact a
theorem N7.put{D:DataW Unit}(hm:w.ownsMap (H:=Unit) Ad 9 (plainElem Ad 4) m n D)(hat:∀s,D.atKey (.string s) (.lit (.bool false))= .lit (.bool (had.contains s)))
  {s:List UInt8} (hm':w'.ownsMap (H:=Unit) Ad 9 (plainElem Ad 4) m (n+1) (D.put (.string s) (.lit (.bool true)))):N7 w' m (n+1) (s::had):=by
 refine⟨_,hm',fun s'=>?_⟩;obtain⟨a,b,_⟩:=hm.canon Se;by_cases e:s'=s
 ·subst e;rw [Maps.atKey_put_same ⟨a,b⟩ (show WideAt.IsKeyLit (.string s') from trivial)];simp
 ·rw [Maps.atKey_put_other (by intro h;injection h with h;exact e h),hat s'];have:(s'==s)=false:=beq_eq_false_iff_ne.mpr e;rw [List.contains_cons,this,Bool.false_or]
theorem jU(x:Nv)(ks:List (List UInt8))(r:Int)(w:World)(hI:Fm w x.A x.an ks)(hn:x.an≤1099511627776)(hsz:∀s∈ks,s.length≤1048576)(hr:(if x.k=5∧Cl x.s=true then 70 else Ks 70 71 [] ks)=r):
  Calls Ad 144 #[.agg (Ab7 x)] w (Ab5 (Aa Ab r) w):=by
 have HI:=Hd hI;have Y:=Hd hsz;have h0:=run_makeMap (P:=Ad) 261;have af:=Hd (show Below w.heap.size w (w.alloc (.cells (Ab7 x) 34)) from((Af _ _).alloc (Ae _) _));have X:=Hd (show Below w.heap.size w ((w.alloc (.cells (Ab7 x) 34)).alloc (.map #[] 0)) from((Af _ _).alloc (Ae _) _).alloc (by simp) _);have hX:=(Bb.new w 34 (Ab7 x)).alloc (.map #[] 0);have c4:((w.alloc (.cells (Ab7 x) 34)).alloc (.map #[] 0)).cell? ⟨w.heap.size,4,none⟩=some (.slice x.A x.an x.ac):=hX.cell 4;have hM:=World.ownsMap_made (H:=Unit) (w.alloc (.cells (Ab7 x) 34)) Ad 9 (plainElem Ad 4);have eS:(w.alloc (.cells (Ab7 x) 34)).heap.size=w.heap.size+1:=by simp
 rw [eS] at hM;have HM:=Hd hM;obtain⟨z,hz⟩:∃z,Cl x.s=z:=⟨_,rfl⟩;obtain⟨q,hq⟩:∃q,(x.k==5)=q:=⟨_,rfl⟩;have HZ:=Hd hz;have ad:(if(q&&z)=true then 70 else Ks 70 71 [] ks)=r:=by
  rw [←hr,←hz,←hq];simp
 have HR:=Hd ad;have HQ:=Hd hq;clear hI hsz hX hM eS hz hr ad;cases q with
 |true=>
  cases z with
  |true=>
   go_enter func144,ntmps144;go_wp2_with (go_at_call 238;refine(Hy x.s true _ HZ.o).mono ?_;rintro e W ⟨rfl,rfl⟩);go_ret;exact⟨by rw [←HR.o];rfl,af.o⟩
  |false=>
   go_enter func144,ntmps144;go_wp2_with (go_at_call 238;refine(Hy x.s false _ HZ.o).mono ?_;rintro e W ⟨rfl,rfl⟩);go_wp2_with fail;have l:=Hd (show N7 ((w.alloc (.cells (Ab7 x) 34)).alloc (.map #[] 0)) (w.heap.size+1) 0 [] from⟨_,HM.o,fun s=>rfl⟩);have E:=Hd (HI.o.pure X.o);generalize (w.alloc (.cells (Ab7 x) 34)).alloc (.map #[] 0)=w1 at X l E⊢;have C:=Hd (show w.heap.size≤w.heap.size+1 by omega);generalize w.heap.size+1=m at l C⊢;have ab:ks.length=x.an:=E.o.1;go_loopw [20] (fun u wr=>∃i:Nat,i≤x.an∧u= Aa Ab i∧N7 wr m i (ks.take i).reverse∧Below w.heap.size w wr∧Ks 70 71 (ks.take i).reverse (ks.drop i)=r) (fun u _=>x.an-(intOf u).toNat)
   case atStart=>exact⟨0,Am _,rfl,l.o,X.o,by have h:=HR.o;simpa using h⟩
   case round=>
    obtain⟨i,hi,rfl,N,K,L⟩:=hrel;have I:=Hd N;have d:=Hd K;have p:=Hd L;clear N K L l;by_cases V:i<x.an
    ·obtain⟨g,ar,e,y,hc⟩:=Gc (HI.o.pure d.o) V;obtain⟨s,M⟩:∃s,ks[i]=s:=⟨_,rfl⟩;rw [M] at hc;have G:=Hd (Y.o s (by rw [←M];exact List.getElem_mem _));have hd:ks.drop i=s::ks.drop (i+1):=by rw [←M];exact List.drop_eq_getElem_cons y
     have Z:=Hd (show(ks.take (i+1)).reverse=s::(ks.take i).reverse by rw [Az y,M,List.reverse_append];rfl);have a:=p.o;rw [hd] at a;unfold Ks at a;obtain⟨zs,B⟩:∃b,Cl s=b:=⟨_,rfl⟩;obtain⟨ds,v⟩:∃b,(ks.take i).reverse.contains s=b:=⟨_,rfl⟩;rw [B,v] at a;have t:=Hd B;have Q:=Hd v;have f:=Hd a;have am:(0:Int)≤(i:Int):=by omega
     have ao:(i:Int)<(x.an:Int):=by omega
     rw [e];clear M hd B v a y e p;cases zs with
     |true=>
      go_wp2_with (go_at_call 238;refine(Hy s true _ t.o).mono ?_;rintro e W ⟨rfl,rfl⟩);go_ret;exact⟨by have h:=f.o;simp at h;rw [←h];rfl,d.o⟩
     |false=>
      have ap:=I.o.look G.o Q.o;cases ds with
      |true=>
       go_wp2_with (go_at_call 238;refine(Hy s false _ t.o).mono ?_;rintro e W ⟨rfl,rfl⟩);go_ret;exact⟨by have h:=f.o;simp at h;rw [←h];rfl,d.o⟩
      |false=>
       obtain⟨D,n,J⟩:=I.o;have O:=Hd J;have F:=Hd n;have T:i<maxLen:=by simp only [maxLen];omega
       clear J;go_wp2_with (first|(go_at_call 238;refine(Hy s false _ t.o).mono ?_;rintro e W ⟨rfl,rfl⟩)|(at_mapUpdate;refine wpList_mapUpdate_own (H:=Unit) _ rfl _ _ _ 261 rfl 9 4 Se underlying261 _ m i D rfl n T _ _ (.string s) rfl rfl (Xh G.o) (.lit (.bool true)) [] (plainElem_bool underlying4 true) ?_;intro w6 j c;have S:=Hd (N7.put F.o O.o j);have R:=Hd c;clear j c));go_roundw
       case rel=>
        refine⟨i+1,by omega,by go_num,by rw [Z.o];exact S.o,?_,?_⟩
        ·exact Cf d.o (Fr.of_grown R.o) (by rintro k U;injection U with U;rw [U];exact C.o)
        ·rw [Z.o];have h:=f.o;simpa using h
       case measure=>simp [intOf];omega
    ·have ak:decide ((i:Int)<(x.an:Int))=false:=decide_eq_false (by omega);have al:decide (i<x.an)=false:=decide_eq_false (by omega);have HE:=Hd (show r=0 by
      have h:=p.o;rw [List.drop_of_length_le (by omega)] at h;exact h.symm)
     go_wp2_with fail;go_ret;exact⟨by rw [HE.o];rfl,d.o⟩
 |false=>
  go_enter func144,ntmps144;go_wp2_with fail;have l:=Hd (show N7 ((w.alloc (.cells (Ab7 x) 34)).alloc (.map #[] 0)) (w.heap.size+1) 0 [] from⟨_,HM.o,fun s=>rfl⟩);have E:=Hd (HI.o.pure X.o);generalize (w.alloc (.cells (Ab7 x) 34)).alloc (.map #[] 0)=w1 at X l E⊢;have C:=Hd (show w.heap.size≤w.heap.size+1 by omega);generalize w.heap.size+1=m at l C⊢;have ab:ks.length=x.an:=E.o.1;go_loopw [20] (fun u wr=>∃i:Nat,i≤x.an∧u= Aa Ab i∧N7 wr m i (ks.take i).reverse∧Below w.heap.size w wr∧Ks 70 71 (ks.take i).reverse (ks.drop i)=r) (fun u _=>x.an-(intOf u).toNat)
  case atStart=>exact⟨0,Am _,rfl,l.o,X.o,by have h:=HR.o;simpa using h⟩
  case round=>
   obtain⟨i,hi,rfl,N,K,L⟩:=hrel;have I:=Hd N;have d:=Hd K;have p:=Hd L;clear N K L l;by_cases V:i<x.an
   ·obtain⟨g,ar,e,y,hc⟩:=Gc (HI.o.pure d.o) V;obtain⟨s,M⟩:∃s,ks[i]=s:=⟨_,rfl⟩;rw [M] at hc;have G:=Hd (Y.o s (by rw [←M];exact List.getElem_mem _));have hd:ks.drop i=s::ks.drop (i+1):=by rw [←M];exact List.drop_eq_getElem_cons y
    have Z:=Hd (show(ks.take (i+1)).reverse=s::(ks.take i).reverse by rw [Az y,M,List.reverse_append];rfl);have a:=p.o;rw [hd] at a;unfold Ks at a;obtain⟨zs,B⟩:∃b,Cl s=b:=⟨_,rfl⟩;obtain⟨ds,v⟩:∃b,(ks.take i).reverse.contains s=b:=⟨_,rfl⟩;rw [B,v] at a;have t:=Hd B;have Q:=Hd v;have f:=Hd a;have am:(0:Int)≤(i:Int):=by omega
    have ao:(i:Int)<(x.an:Int):=by omega
    rw [e];clear M hd B v a y e p;cases zs with
    |true=>
     go_wp2_with (go_at_call 238;refine(Hy s true _ t.o).mono ?_;rintro e W ⟨rfl,rfl⟩);go_ret;exact⟨by have h:=f.o;simp at h;rw [←h];rfl,d.o⟩
    |false=>
     have ap:=I.o.look G.o Q.o;cases ds with
     |true=>
      go_wp2_with (go_at_call 238;refine(Hy s false _ t.o).mono ?_;rintro e W ⟨rfl,rfl⟩);go_ret;exact⟨by have h:=f.o;simp at h;rw [←h];rfl,d.o⟩
     |false=>
      obtain⟨D,n,J⟩:=I.o;have O:=Hd J;have F:=Hd n;have T:i<maxLen:=by simp only [maxLen];omega
      clear J;go_wp2_with (first|(go_at_call 238;refine(Hy s false _ t.o).mono ?_;rintro e W ⟨rfl,rfl⟩)|(at_mapUpdate;refine wpList_mapUpdate_own (H:=Unit) _ rfl _ _ _ 261 rfl 9 4 Se underlying261 _ m i D rfl n T _ _ (.string s) rfl rfl (Xh G.o) (.lit (.bool true)) [] (plainElem_bool underlying4 true) ?_;intro w6 j c;have S:=Hd (N7.put F.o O.o j);have R:=Hd c;clear j c));go_roundw
      case rel=>
       refine⟨i+1,by omega,by go_num,by rw [Z.o];exact S.o,?_,?_⟩
       ·exact Cf d.o (Fr.of_grown R.o) (by rintro k U;injection U with U;rw [U];exact C.o)
       ·rw [Z.o];have h:=f.o;simpa using h
      case measure=>simp [intOf];omega
   ·have ak:decide ((i:Int)<(x.an:Int))=false:=decide_eq_false (by omega);have al:decide (i<x.an)=false:=decide_eq_false (by omega);have HE:=Hd (show r=0 by
     have h:=p.o;rw [List.drop_of_length_le (by omega)] at h;exact h.symm)
    go_wp2_with fail;go_ret;exact⟨by rw [HE.o];rfl,d.o⟩
end
section
open Go.ChangeShapes Go.WideShapes Go.ChangeAt Go.RowKit Go.Acc
theorem uX:ownKnob Ad.godebug=none:=by kernel_rfl
theorem dJ:laidOutB Ad=true:=by kernel_rfl
section
variable {H:Type} {enc:TypeId×Value→H} {W:World} {base:Nat} {spare:Nat→Bool} {held:Bool}
end
end
section
open Go.RowKit Go.Acc
theorem M6:Maps.Keyed Ad 186:=Maps.Keyed.of_law (deep_law_laid dJ (m:=2) (by omega) (of_decide_eq_true (by kernel_rfl)) (by kernel_rfl) (by rw [underlying186]))
theorem aR{t:Int}(ht:Ig t=true):∃l,keyOf Ad 186 (Kx (Gb t))=some l:=by
 have h:∀n:Fin 37,(keyOf Ad 186 (Kx (Gb ((n.val:Nat):Int)))).isSome=true:=by
  intro n;rcases n with⟨n,a⟩
  have:n=0∨n=1∨n=2∨n=3∨n=4∨n=5∨n=6∨n=7∨n=8∨n=9∨n=10∨n=11∨n=12∨n=13∨n=14∨n=15∨n=16∨n=17∨n=18∨n=19∨n=20∨n=21∨n=22∨n=23∨n=24∨n=25∨n=26∨n=27∨n=28∨n=29∨n=30∨n=31∨n=32∨n=33∨n=34∨n=35∨n=36:=by omega
  rcases this with rfl|rfl|rfl|rfl|rfl|rfl|rfl|rfl|rfl|rfl|rfl|rfl|rfl|rfl|rfl|rfl|rfl|rfl|rfl|rfl|rfl|rfl|rfl|rfl|rfl|rfl|rfl|rfl|rfl|rfl|rfl|rfl|rfl|rfl|rfl|rfl|rfl
  all_goals exact(show(_:Bool)=true by kernel_rfl)
 have h2:=Lb (p:=fun t=>(keyOf Ad 186 (Kx (Gb t))).isSome=true) h ht;exact Option.isSome_iff_exists.1 h2
theorem lC(e0 m0:Int)(t0:Nat)(w:World)(ht:Ig (t0:Int)=true)(hr:Gb (t0:Int)=(3,e0,m0))(hu:∀t:Nat,Ig (t:Int)=true→Gb (t:Int)=(3,e0,m0)→t=t0):
  Calls Ad 353 #[Aa Ab e0,Aa Ab m0] w (Ab5 (.tuple #[Aa Ab (t0:Int),.bool true]) w):=by
 obtain⟨l0,i⟩:=aR ht;rw [hr] at i;unfold Kx at i;simp only at i;have n:=Hd i;have J:=Hd hr;have HU:=Hd hu;have am:t0<37:=by have:=Ez.1 ht;omega
 have h0:=run_makeMap (P:=Ad) 363;have hM:=World.ownsMap_made (H:=Unit) w Ad 186 (plainElem Ad 3);have HM:=Hd hM;have HB:=Hd (show Below w.heap.size w (w.alloc (.map #[] 0)) from(Af _ _).alloc (Ae _) _);clear i hu ht hr hM;go_enter func353,ntmps353;go_wp2_with fail;go_at_call 243;refine(S8 _).mono ?_;rintro e w1 ⟨rfl,B⟩;have L:=HM.o.kept (row:=none) ⟨B.os,B.tape,B.output,B.size,fun k hk _=>B.block k hk⟩ (by simp);have I:=Hd (show ∃D,w1.ownsMap (H:=Unit) Ad 186 (plainElem Ad 3) w.heap.size 0 D∧D.atKey l0 (.lit (.int .i64 0))=(if t0<0 then .lit (.int .i64 t0) else .lit (.int .i64 0))∧Maps.has D l0=decide (t0<0) from⟨_,L,rfl,rfl⟩);have F:=Hd (A6 HB.o B);clear B L HB HM;go_wp2_with fail;go_loopw [11] (fun u wr=>∃k:Nat,k≤37∧u= .int .i64 k∧(∃D,wr.ownsMap (H:=Unit) Ad 186 (plainElem Ad 3) w.heap.size k D∧D.atKey l0 (.lit (.int .i64 0))=(if t0<k then .lit (.int .i64 t0) else .lit (.int .i64 0))∧Maps.has D l0=decide (t0<k))∧Below w.heap.size w wr) (fun u _=>37-(intOf u).toNat)
 case atStart=>exact⟨0,Am _,rfl,I.o,F.o⟩
 case round=>
  obtain⟨k,hk,rfl,⟨D,d,M,s⟩,N⟩:=hrel;have x:=Hd N;have v:=Hd M;have f:=Hd s;clear M s N I F;by_cases aw:k<37
  ·have p:Ig (k:Int)=true:=Ez.2 (by omega);obtain⟨l,O⟩:=aR p;have g:=qE p;obtain⟨r,hr⟩:∃r,Gb (k:Int)=r:=⟨_,rfl⟩;obtain⟨Q,r1,r2⟩:=r;rw [hr] at g O;unfold Kx at g O;simp only at g O;have V:=Hd hr;have y:=Hd O;have S:=Hd p;obtain⟨q,hq⟩:∃q,(Q==3)=q:=⟨_,rfl⟩;have C:(0:Int)≤(k:Int):=by omega
   have ak:(k:Int)<37:=by omega
   have G:=Hd (x.o.alloc x.o.size (.cells #[Aa Ab Q,Aa Ab r1,Aa Ab r2] 186));have a:=d.alloc (.cells #[Aa Ab Q,Aa Ab r1,Aa Ab r2] 186);have z:=Hd a;clear hr O p d;cases q with
   |false=>
    have T:=Hd (show Q≠3 by simpa using hq);clear a;go_wp2_with fail;go_roundw
    case rel=>
     have E:k≠t0:=by
      rintro rfl;have h1:=V.o.symm.trans J.o;injection h1 with h1
      exact T.o h1
     refine⟨k+1,by omega,by go_num,⟨D,z.o.mono (by omega),?_,?_⟩,G.o⟩
     ·rw [v.o];by_cases h:t0<k
      ·rw [if_pos h,if_pos (by omega)]
      ·rw [if_neg h,if_neg (by omega)]
     ·rw [f.o];exact decide_eq_decide.2 (by omega)
    case measure=>simp [intOf];omega
   |true=>
    obtain rfl:Q=3:=by simpa using hq
    have ab:k<maxLen:=by simp only [maxLen];omega
    have W:=Hd (show(Lit.int .i64 (k:Int)).wf=true by
     have h1:IntKind.i64.min= -9223372036854775808:=rfl;have h2:IntKind.i64.max=9223372036854775807:=rfl;simp [Lit.wf,h1,h2];omega)
    go_wp2_with (at_mapUpdate;refine wpList_mapUpdate_own (H:=Unit) _ rfl _ _ _ 363 rfl 186 3 M6 underlying363 _ w.heap.size k D rfl a ab _ _ l rfl rfl y.o (.lit (.int .i64 (k:Int))) [] (plainElem_int underlying3 W.o) ?_;intro w6 m b;have U:=Hd m;have R:=Hd b;clear m b);go_roundw
    case rel=>
     obtain⟨es,hD,_⟩:=z.o.canon M6;have hP:(D.put l (.lit (.int .i64 (k:Int)))).atKey l0 (.lit (.int .i64 0))=(if t0<k+1 then .lit (.int .i64 t0) else .lit (.int .i64 0))∧Maps.has (D.put l (.lit (.int .i64 (k:Int)))) l0=decide (t0<k+1):=by
      by_cases h:k=t0
      ·have Y:Gb (k:Int)=(3,e0,m0):=by rw [h];exact J.o
       have K:=V.o.symm.trans Y;simp only [Prod.mk.injEq,true_and] at K;obtain⟨h1,h2⟩:=K;have ad:l=l0:=by
        have A:=y.o;rw [h1,h2,n.o] at A;injection A with A
        exact A.symm
       rw [ad];have C:=M6.key n.o;refine⟨?_,?_⟩
       ·rw [Maps.atKey_put_same ⟨es,hD⟩ C,if_pos (by omega),h]
       ·rw [Maps.has_put_same ⟨es,hD⟩ C];exact(decide_eq_true (by omega)).symm
      ·have E:l0≠l:=by
        intro e;have A:=y.o;rw [←e] at A;have X:=M6.inj A n.o;simp at X;refine h (HU.o k S.o ?_);rw [V.o,X.1,X.2]
       refine⟨?_,?_⟩
       ·rw [Maps.atKey_put_other E,v.o];by_cases h2:t0<k
        ·rw [if_pos h2,if_pos (by omega)]
        ·rw [if_neg h2,if_neg (by omega)]
       ·rw [Maps.has_put_other E,f.o];exact decide_eq_decide.2 (by omega)
     refine⟨k+1,by omega,by go_num,⟨_,U.o,hP.1,hP.2⟩,Cf G.o (Fr.of_grown R.o) (by rintro j hj;injection hj with hj;rw [hj];exact Ae _)⟩
    case measure=>simp [intOf];omega
  ·have au:decide ((k:Int)<37)=false:=decide_eq_false (by omega);have av:decide (k<37)=false:=decide_eq_false (by omega);have HA:=Hd (show D.atKey l0 (.lit (.int .i64 0))= .lit (.int .i64 (t0:Int)) by rw [v.o,if_pos (by omega)]);have HH:=Hd (show Maps.has D l0=true by rw [f.o];exact decide_eq_true (by omega));have z:=Hd d;go_wp2_with (at_lookup;refine wpList_lookup_own_ok_int _ rfl _ _ 363 rfl 186 3 .i64 M6 underlying363 underlying3 (zeroValue3 _) w.heap.size k D rfl d _ l0 rfl n.o ?_;intro c Z _;obtain rfl:c=(t0:Int):=(by rw [HA.o] at Z;simpa using Z.symm);rw [HH.o];clear Z);go_ret2;exact⟨rfl,x.o⟩
def vecTy(e m:Nat):Nat:=if m=0 then(if e=1 then 11 else if e=2 then 12 else if e=4 then 14 else 36) else if e=1 then 10+3*m else 11+3*m
def Q1(e m:Nat):Prop:=(m=0∧(e=1∨e=2∨e=4∨e=26))∨((m=2∨m=3∨m=4)∧(e=1∨e=2))
theorem tX(e m:Nat)(w:World)(h:Q1 e m):Calls Ad 353 #[Aa Ab (e:Int),Aa Ab (m:Int)] w fun x w'=>x= .returned (.tuple #[Aa Ab (vecTy e m:Nat),.bool true])∧Below w.heap.size w w':=by
 have a:∀e0 m0:Int,∀t0:Fin 37,Gb ((t0.val:Nat):Int)=(3,e0,m0)→(∀n:Fin 37,Gb ((n.val:Nat):Int)=(3,e0,m0)→n=t0)→Calls Ad 353 #[Aa Ab e0,Aa Ab m0] w fun x w'=>x= .returned (.tuple #[Aa Ab (t0.val:Int),.bool true])∧Below w.heap.size w w':=by
  intro e0 m0 t0 h1 h2;refine lC e0 m0 t0.val w (Ez.2 (by omega)) h1 fun t ht hr=>?_
  have b:=Ez.1 ht;have:=h2 ⟨t,by omega⟩ hr;rw [←this]
 rcases h with⟨rfl,rfl|rfl|rfl|rfl⟩|⟨rfl|rfl|rfl,rfl|rfl⟩
 ·exact a 1 0 11 (by decide) (by decide)
 ·exact a 2 0 12 (by decide) (by decide)
 ·exact a 4 0 14 (by decide) (by decide)
 ·exact a 26 0 36 (by decide) (by decide)
 ·exact a 1 2 16 (by decide) (by decide)
 ·exact a 2 2 17 (by decide) (by decide)
 ·exact a 1 3 19 (by decide) (by decide)
 ·exact a 2 3 20 (by decide) (by decide)
 ·exact a 1 4 22 (by decide) (by decide)
 ·exact a 2 4 23 (by decide) (by decide)
theorem pQ(w:World):Calls Ad 323 #[Aa Ab (-1),Aa Ab 0] w (Ab5 (.tuple #[.agg #[Aa Ab 10,.bool true,.func (.func 351) #[] #[],.func (.func 352) #[] #[]],Aa Ab 0]) w):=by
 go_enter func323,ntmps323;go_wp2_with fail;refine bodyPost_ret (v:= .tuple #[.agg #[Aa Ab 10,.bool true,.func (.func 351) #[] #[],.func (.func 352) #[] #[]],Aa Ab 0]) (by simp [results,results323,go_sem]) rfl ⟨rfl,?_⟩;exact Bq _ _ _
def yG(w:World)(e m:Nat)(x:Ending)(w':World):Prop:=
 ∃g,x= .returned (.tuple #[.agg #[Aa Ab (vecTy e m:Nat),.bool (decide (m=0)),.func (.func 354) #[] #[Aca g],.func (.func 355) #[] #[]],Aa Ab 0])∧Bb w' g 3 #[Aa Ab (e:Int)]∧w.heap.size≤g∧Below w.heap.size w w'
theorem Yw(e m:Nat)(w:World)(h:Q1 e m):Calls Ad 323 #[Aa Ab (e:Int),Aa Ab (m:Int)] w (yG w e m):=by
 have B:((e:Int)== -1)=false:=by rw [beq_eq_false_iff_ne];omega
 obtain⟨z,q⟩:∃z,decide (m=0)=z:=⟨_,rfl⟩;have A:((m:Int)==0)=z:=by
  rw [←q,Bool.eq_iff_iff];simp only [beq_iff_eq,decide_eq_true_eq];omega
 obtain⟨t,ht⟩:∃t,vecTy e m=t:=⟨_,rfl⟩;have d:=fun W=>tX e m W h
 rw [ht] at d;have l:=Hd d;have s:=Hd (And.intro ht q);have r:=Hd (Bq w (.cells #[Aa Ab (e:Int)] 3) (.cells #[Aa Ab 0,.bool false,.nilFunc,.nilFunc] 340));clear h d ht q;go_enter func323,ntmps323;go_wp2_with fail;go_at_call 353;have u:=Hd ((Bb.new w 3 #[Aa Ab (e:Int)]).alloc (.cells #[Aa Ab 0,.bool false,.nilFunc,.nilFunc] 340));have k:=Hd (Cv w (.cells #[Aa Ab (e:Int)] 3) 340 #[Aa Ab 0,.bool false,.nilFunc,.nilFunc]);have a:=Hd (show w.heap.size≤w.heap.size+1 by omega);have b:=Hd (show w.heap.size≠w.heap.size+1 by omega);generalize (w.alloc (.cells #[Aa Ab (e:Int)] 3)).alloc (.cells #[Aa Ab 0,.bool false,.nilFunc,.nilFunc] 340)=w1 at r u k⊢;generalize w.heap.size+1=bR at k a b⊢;refine(l.o _).mono ?_;rintro x w2 ⟨rfl,i⟩;have j:=Hd (A6 r.o i);have n:=Hd (u.o.pure i);have c:=Hd (k.o.pure i);obtain ⟨r0,r1,r2,r3⟩:=c.o.c4;obtain ⟨f0,f1,f2,f3⟩:=c.o.f4;clear i;go_wp2_with fail;have y:=(((c.o.set_ 0 (Aa Ab (t:Int))).set_ 1 (.bool z)).set_ 2 (.func (.func 354) #[] #[Aca w.heap.size])).set_ 3 (.func (.func 355) #[] #[]);have g:=(((n.o.far (p:=⟨bR,0,none⟩) b.o (Aa Ab (t:Int))).far (p:=⟨bR,1,none⟩) b.o (.bool z)).far (p:=⟨bR,2,none⟩) b.o (.func (.func 354) #[] #[Aca w.heap.size])).far (p:=⟨bR,3,none⟩) b.o (.func (.func 355) #[] #[]);have f:=(((j.o.setCell (p:=⟨bR,0,none⟩) a.o (Aa Ab (t:Int))).setCell (p:=⟨bR,1,none⟩) a.o (.bool z)).setCell (p:=⟨bR,2,none⟩) a.o (.func (.func 354) #[] #[Aca w.heap.size])).setCell (p:=⟨bR,3,none⟩) a.o (.func (.func 355) #[] #[]);clear r0 r1 r2 r3 f0 f1 f2 f3;generalize (((w2.setCell ⟨bR,0,none⟩ (Aa Ab (t:Int))).setCell ⟨bR,1,none⟩ (.bool z)).setCell ⟨bR,2,none⟩ (.func (.func 354) #[] #[Aca w.heap.size])).setCell ⟨bR,3,none⟩ (.func (.func 355) #[] #[])=wF at y g f⊢;obtain ⟨r0,r1,r2,r3⟩:=y.c4;refine bodyPost_ret (v:= .tuple #[.agg #[Aa Ab (t:Int),.bool z,.func (.func 354) #[] #[Aca w.heap.size],.func (.func 355) #[] #[]],Aa Ab 0]) (by simp [results,results323,go_sem,r0,r1,r2,r3]) rfl ?_;exact⟨w.heap.size,by rw [s.o.1,s.o.2],g,Ae _,f⟩
theorem Ry(g e:Nat)(v:Bv)(w:World)(hg:Bb w g 3 #[Aa Ab (e:Int)])(he:v.t=e)(hl:Ch (v.t:Int)=true)(hw:Br (v.w:Int)=true):
  Calls Ad 354 #[.agg #[Aa Ab (v.t:Int),Aa Ab (v.w:Int),Aa Ac (v.n:Int)],Aca g] w fun x w'=>x= .returned (Aa Ab 0)∧Below w.heap.size w w':=by
 have h:=Hd (show Below w.heap.size w (w.alloc (.cells #[Aa Ab (v.t:Int),Aa Ab (v.w:Int),Aa Ac (v.n:Int)] 169)) from(Af _ _).alloc (Ae _) _);have k:=Hd (Bb.new w 169 #[Aa Ab (v.t:Int),Aa Ab (v.w:Int),Aa Ac (v.n:Int)]);rw [←he] at hg;have i:=Hd (hg.alloc (.cells #[Aa Ab (v.t:Int),Aa Ab (v.w:Int),Aa Ac (v.n:Int)] 169));have f:=Hd hl;have j:=Hd hw;clear hg hl hw he;go_enter func354,ntmps354;go_wp2_with fail;go_at_call 86;refine(Fi (v.t:Int) _).mono ?_;rw [f.o];rintro x m ⟨rfl,a⟩;have b:=Hd (A6 h.o a);have d:=Hd (k.o.pure a);obtain ⟨p,q,r⟩:=d.o.c3;have l:m.cell? ⟨g,0,none⟩=some (Aa Ab (v.t:Int)):=i.o.pure a |>.cell 0
 clear a;go_wp2_with fail;go_at_call 351;refine(Tb v _ f.o j.o).mono ?_;rintro x s ⟨rfl,a⟩;have c:=Hd (A6 b.o a);clear a p q r l;go_wp2_with fail;go_ret;exact⟨rfl,c.o⟩
theorem Rz(b y:Value)(A:Option Addr)(n c:Nat)(w:World):Calls Ad 355 #[b,y,.slice A n c] w fun x w'=>x= .returned (.tuple #[])∧w=w':=by
 go_enter func355,ntmps355;go_wp2_with fail;go_end0;exact⟨rfl,rfl⟩
structure E5(vs:List Bv)(l:List UInt8):Prop where
 legal:∀v∈vs,Ch (v.t:Int)=true
 own:∀v∈vs,Br (v.w:Int)=true
 fit:∀v∈vs,E7 l.length v
 len:l.length+40+9*vs.length≤1048576
structure Qp(b b8 b11 n:Nat)(A:Option Addr)(vs:List Bv)(sh:Array Value)(l:List UInt8)(w:World)(o:Nat→Nat):Prop where
 m:C2 w o b l
 r:Bb w b8 169 #[Aa Ab 0,Aa Ab 0,Aa Ac 0]
 or_:o b8=0
 s:Bb w b11 340 sh
 os_:o b11=0
 v:Ef w A n (vs.map vv)
 ov:∀ad,A=some ad→ad.block<w.heap.size∧o ad.block≠1
section
variable {b b8 b11 n:Nat} {A:Option Addr} {vs:List Bv} {sh:Array Value} {l l':List UInt8} {w w':World} {o o':Nat→Nat}
theorem Qp.to_(h:Qp b b8 b11 n A vs sh l w o)(ht:To (fun i=>i=1) w o w' o')(hb:C2 w' o' b l'):Qp b b8 b11 n A vs sh l' w' o':=
 ⟨hb,h.r.to_ ht (by rw [h.or_];omega),by rw [ht.ow _ h.r.lt];exact h.or_,h.s.to_ ht (by rw [h.os_];omega),by rw [ht.ow _ h.s.lt];exact h.os_,
  h.v.fr ht.fr (fun ad e=>(h.ov ad e).2),fun ad e=>⟨Ar (h.ov ad e).1 ht.size,by rw [ht.ow _ (h.ov ad e).1];exact(h.ov ad e).2⟩⟩
theorem Qp.pure(h:Qp b b8 b11 n A vs sh l w o)(hb:Below w.heap.size w w'):Qp b b8 b11 n A vs sh l w' o:=h.to_ (To.pure _ hb o) (h.m.pure hb)
theorem Qp.drew(h:Qp b b8 b11 n A vs sh l w o):Qp b b8 b11 n A vs sh l w.drew o:=h.pure (Af _ _).drew
end
def R9(w:World)(o:Nat→Nat)(b:Nat)(x:List UInt8×Bv)(e:Ending)(w':World):Prop:=
 e= .returned (.tuple #[.agg #[Aa Ab (x.2.t:Int),Aa Ab (x.2.w:Int),Aa Ac (x.2.n:Int)],Aa Ab 0])∧∃o',C2 w' o' b x.1∧To (fun i=>i=1) w o w' o'
theorem uF(vs:List Bv)(a n c:Nat)(A:Option Addr)(w:World)(r:Nat)(hv:Ef w A n (vs.map vv))(ha:a≤1048576)(hn:n≤1000000)(hr:C5 a 1 none vs=r):
  Calls Ad 324 #[Aa Ab (a:Int),Aa Ab 1,.agg #[Aa Ab 0,Aa Ab 0,Aa Ac 0],.slice A n c] w (Ab5 (Aa Ab (r:Int)) w):=by
 have h:=Te ⟨0,0,0⟩ vs a 1 n c A w hv ha hn (.inr (.inl rfl));rw [show Jw 1 ⟨0,0,0⟩=none from rfl,hr] at h;exact h
theorem Aau(vs:List Bv)(a n c:Nat)(A:Option Addr)(w:World)(r:Nat)(hv:Ef w A n (vs.map vv))(ha:a≤1048576)(hn:n≤1000000)(hr:C5 a 0 none vs=r):
  Calls Ad 324 #[Aa Ab (a:Int),Aa Ab 0,.agg #[Aa Ab 0,Aa Ab 0,Aa Ac 0],.slice A n c] w (Ab5 (Aa Ab (r:Int)) w):=by
 have h:=Te ⟨0,0,0⟩ vs a 0 n c A w hv ha hn (.inl rfl);rw [show Jw 0 ⟨0,0,0⟩=none from rfl,hr] at h;exact h
theorem Nu(hk:k≤3)(hy:Br (y:Int)=true)(hf:D7 l.length y k vs=true)(hl:l.length+40+9*vs.length≤1048576){c:List UInt8}(hc:c.length=(Bn y l).length+k*y):
  ∀(i:Nat) v,vs[i]?=some v→inl v.t=false→v.n≤c.length+i*y∧c.length+i*y-v.n<2^(8*y):=by
 intro i v b f;obtain⟨h1,h2⟩:=Tl f (Tj vs k i v hf b);obtain⟨d,h,j⟩:=Q3 hy l;have g:i<vs.length:=(List.getElem?_eq_some_iff.1 b).1;have e:c.length+i*y=upN l.length y+(k+i)*y:=by rw [hc,d,Nat.add_mul];omega
 have a:y≤8:=by have:=Dl hy;omega
 have m:=Di l a;have o:(k+i)*y≤(3+vs.length)*8:=Nat.mul_le_mul (by omega) a;rw [e];exact⟨by omega,Gk hy (by omega) h2⟩
theorem Fy{I:Nat→Prop}{o':Nat→Nat}(h:To I w o w' o')(hp:w.heap.size≤p.block)(v:Value):To I w o (w'.setCell p v) o':=
 ⟨h.fr.setCell (fun hlt=>absurd hlt (by omega)) v,h.ow⟩
theorem Ev{b:Nat}(h:C2 w o b l)(hp:o p.block=0)(v:Value):C2 (w.setCell p v) o b l:=
 h.to_ (To.of_fr0 (I:=fun i=>i=0) (Fr.setCell (S:=fun k=>k=p.block) (Fr.refl _ w) (fun _=>rfl) v) (by rintro k _ rfl;exact hp)) (by decide)
theorem Mv(hok:E5 vs l)(hy:C5 l.length k none vs=y):Br (y:Int)=true∧D7 l.length y k vs=true∧(k=0∨bWidth vs.length≤y):=by
 have h1:=Mj (a:=l.length) (ahead:=k) (k:=none) (vs:=vs) (fun x h=>by cases h) hok.fit;obtain⟨h2,_,h3⟩:=X9 (a:=l.length) (ahead:=k) (k:=none) (vs:=vs) (fun x h=>by cases h) hok.fit;rw [hy] at h1 h2 h3;exact⟨h1,h3,h2⟩
theorem xT(b n c:Nat)(A:Option Addr)(vs:List Bv)(l:List UInt8)(w:World)(o:Nat→Nat)(h:C2 w o b l)(hv:Ef w A n (vs.map vv))(ho:∀ad,A=some ad→ad.block<w.heap.size∧o ad.block≠1)(hok:E5 vs l):
  Calls Ad 277 #[Aca b,Aa Ab (-1),Aa Ab 0,.slice A n c] w (R9 w o b (Cu 10 true true vs l)):=by
 obtain⟨y,S⟩:∃y,C5 l.length 1 none vs=y:=⟨_,rfl⟩;obtain⟨R,ah,ag⟩:=Mv hok S;have Y:=Hd S;have B:=Hd R;have au:=Hd ah;have ar:=Hd ag;have Q:1≤y∧y≤8:=by have:=Dl R;omega
 have a7:((y:Int)==0)=false:=by rw [beq_eq_false_iff_ne];omega
 have j:=Hd hok.len;obtain⟨a,ha⟩:∃a,l.length=a:=⟨_,rfl⟩;have HA:=Hd ha;have av:a≤1048576:=by have:=hok.len;omega
 have am:=Hd av;clear S R ah ag ha;have HBF:=Hd h;have HVV:=Hd hv;have HOV:=Hd ho;have G:=Hd hok;have D:=Hd (Hq hv);have L:=(Af w.heap.size w).alloc (Ae _) (.cells #[Aa Ab 0,Aa Ab 0,Aa Ac 0] 169);have HB0:=Hd L;have HM0:=Hd (h.fresh L 0);have HR0:=Hd (Bb.new w 169 #[Aa Ab 0,Aa Ab 0,Aa Ac 0]);have P:n≤1000000:=by
  have h1:=hok.len;have h2:=Hq hv;omega
 clear h hv ho hok L;go_enter func277,ntmps277;go_wp2_with fail;go_at_call 230;refine(Gm HM0.o).mono ?_;rintro e w' ⟨rfl,rfl⟩;go_wp2_with fail;go_at_call 323;refine(pQ _).mono ?_;rintro e w1 ⟨rfl,hb⟩;have hA1:=(Af w1.heap.size w1).alloc (Ae _) (.cells #[Aa Ab 10,.bool true,(.func (.func 351) #[] #[]),(.func (.func 352) #[] #[])] 340);have x:=Hd (show Qp b w.heap.size w1.heap.size n A vs #[Aa Ab 10,.bool true,(.func (.func 351) #[] #[]),(.func (.func 352) #[] #[])] l (w1.alloc (.cells #[Aa Ab 10,.bool true,(.func (.func 351) #[] #[]),(.func (.func 352) #[] #[])] 340)) (Bl (Bl o w.heap.size 0) w1.heap.size 0) by
  have O:=(HR0.o.pure hb).lt;have az:w.heap.size≤w1.heap.size:=by omega
  refine⟨(HM0.o.pure hb).fresh hA1 0,(HR0.o.pure hb).alloc _,?_,Bb.new _ _ _,Bo (Ae _),(HVV.o.pure (A6 HB0.o hb)).pure hA1,fun ad e=>?_⟩
  ·rw [Bs O];exact Bo (Ae _)
  ·have h1:=HOV.o ad e;rw [Bs (Ar h1.1 az),Bs h1.1];exact⟨by have:=hA1.size;omega,h1.2⟩)
 have f:=Hd (show To (fun i=>i=1) w o (w1.alloc (.cells #[Aa Ab 10,.bool true,(.func (.func 351) #[] #[]),(.func (.func 352) #[] #[])] 340)) (Bl (Bl o w.heap.size 0) w1.heap.size 0) from(To.fresh _ HB0.o o 0).trans ((To.pure _ hb _).trans (To.fresh _ hA1 _ 0)));clear hA1 hb HM0 HR0 HB0 HBF HVV HOV;go_wp2_with fail;generalize w1.alloc (.cells #[Aa Ab 10,.bool true,(.func (.func 351) #[] #[]),(.func (.func 352) #[] #[])] 340)=w2 at x f⊢;generalize Bl (Bl o w.heap.size 0) w1.heap.size 0=o2 at x f;have F:=Hd (show w.heap.size≤w.heap.size from Ae _);obtain⟨b8,M⟩:∃b8,w.heap.size=b8:=⟨_,rfl⟩;rw [M] at x⊢;replace F:=Hd (show w.heap.size≤b8 from Nat.le_of_eq M);clear M;generalize w1.heap.size=b11 at x⊢;go_loopw [12,13] (fun u i wr=>∃k:Nat,k≤n∧u= Aa Ab 0∧i= Aa Ab k∧Below w2.heap.size w2 wr) (fun _ i _=>n-(intOf i).toNat)
 case atStart=>exact⟨0,Am _,rfl,rfl,Af _ _⟩
 case round=>
  obtain⟨k,hk,rfl,rfl,N⟩:=hrel;have J:=Hd N;have H:=Hd (x.o.pure N);clear N;by_cases O:k<n
  ·obtain⟨g1,T,v,rfl,ae,h0,h1,h2⟩:=Ha H.o.v O;have af:=List.mem_of_getElem? ae;have X:=Hd af;have s2:wr.cell? ⟨b11,2,none⟩=some (.func (.func 351) #[] #[]):=H.o.s.cell 2;have be:(0:Int)≤(k:Int):=by omega
   have bf:(k:Int)<(n:Int):=by omega
   clear ae af;go_wp2_with fail;go_region_held3 (fun w'=>w'.cell? ⟨b11,2,none⟩=some (.func (.func 351) #[] #[])∧w'.cell? ⟨g1,T+k*3,none⟩=some (Aa Ab (v.t:Int))∧w'.cell? ⟨g1,T+k*3+1,none⟩=some (Aa Ab (v.w:Int))∧w'.cell? ⟨g1,T+k*3+2,none⟩=some (Aa Ac (v.n:Int))) (first|with_reducible exact⟨s2,h0,h1,h2⟩|with_reducible exact⟨Bc s2,Bc h0,Bc h1,Bc h2⟩|with_reducible exact⟨t2,t3,t4,t5⟩) (first|(go_at_call 351;(with_reducible refine(Tb v _ (G.o.legal v X.o) (G.o.own v X.o)).mono ?_);rintro e w5 ⟨rfl,C⟩;have t2:=Ba C (Bc s2);have t3:=Ba C (Bc h0);have t4:=Ba C (Bc h1);have t5:=Ba C (Bc h2);have an:=Hd (A6 J.o (B5 (Af _ _).drew C));clear C));clear s2 h0 h1 h2;go_wp2_with fail;go_roundw
   case rel=>exact⟨k+1,by omega,rfl,by go_num,an.o⟩
   case measure=>simp [intOf];omega
  ·have aw:decide ((k:Int)<(n:Int))=false:=decide_eq_false (by omega);have ax:decide (k<n)=false:=decide_eq_false (by omega);have V:=J;have z:=H;clear J H x;replace f:=Hd (f.o.trans (To.pure _ V.o o2));clear V aw ax;have s0:wr.cell? ⟨b11,0,none⟩=some (Aa Ab 10):=z.o.s.cell 0;have s1:wr.cell? ⟨b11,1,none⟩=some (.bool true):=z.o.s.cell 1;have d1:decide ((k:Int)<(n:Int))=false:=decide_eq_false (by omega);go_wp2_with fail;go_at_call 133;refine(Dt a z.o.m HA.o).mono ?_;rintro e w' ⟨rfl,rfl⟩;go_wp2_with fail;go_at_call 324;refine(uF vs a n c A _ y z.o.v am.o P (by rw [←HA.o];exact Y.o)).mono ?_;rintro e w4 ⟨rfl,hb⟩;have d:=Hd (z.o.pure hb);replace f:=Hd (f.o.trans (To.pure _ hb o2));clear hb s0 s1 z;have s1:w4.cell? ⟨b11,1,none⟩=some (.bool true):=d.o.s.cell 1;have U:=Hd (Di l Q.2);go_wp2_with fail;go_at_call 134;refine(Hh b y l _ o2 d.o.m B.o (by have:=j.o;omega)).mono ?_;rintro e w5 ⟨rfl,o5,E,g⟩;replace d:=Hd (d.o.to_ g E);replace f:=Hd (f.o.trans g);clear E g;clear s1;have s1:w5.cell? ⟨b11,1,none⟩=some (.bool true):=d.o.s.cell 1;have ay:IntKind.u64.wrap (n:Int)=(n:Int):=Ce _ (by omega);have aq:=Hd (show Ed y n=true from decide_eq_true (.inr (by
    have h1:=ar.o;rw [D.o] at h1;exact Gk B.o (by omega) (by omega))))
   go_wp2_with fail;go_at_call 137;refine(Eh b y n (Bn y l) _ o5 d.o.m B.o aq.o (by omega) (by have h1:=j.o;have h2:=U.o;omega)).mono ?_;rintro e w6 ⟨rfl,o6,E,g⟩;replace d:=Hd (d.o.to_ g E);replace f:=Hd (f.o.trans g);clear E g;clear s1 ay;obtain⟨cc,I⟩:∃cc,Bn y l++Bi y n=cc:=⟨_,rfl⟩;have ao:=Hd I;have W:=Hd (show cc.length=(Bn y l).length+y by rw [←I,Ak,B3]);rw [I] at d;obtain⟨q,hq⟩:∃q,cc.length=q:=⟨_,rfl⟩;have HQ:=Hd hq;have K:=Hd (show q+16+9*n≤1048576 by
    have h1:=j.o;have h2:=U.o;have h3:=W.o;have h4:=D.o;omega)
   clear I hq;go_wp2_with fail;go_at_call 133;refine(Dt q d.o.m HQ.o).mono ?_;rintro e w' ⟨rfl,rfl⟩;go_wp2_with fail;go_at_call 325;refine(L8 b y n c A vs cc _ o6 d.o.m d.o.v (fun ad e=>(d.o.ov ad e).2) B.o (Nu (k:=1) (by omega) B.o au.o j.o (by rw [W.o,Nat.one_mul])) ?_ P).mono ?_
   ·rw [D.o,HQ.o];have h1:=K.o;have h2:n*y≤n*8:=Nat.mul_le_mul_left n Q.2;omega
   rintro e w7 ⟨rfl,o7,E,g⟩;replace d:=Hd (d.o.to_ g E);replace f:=Hd (f.o.trans g);clear E g;have ap:=Hd (show(Cy y cc vs).length+vs.length≤1048576 by
    rw [Lk,D.o,HQ.o];have h1:=K.o;have h2:n*y≤n*8:=Nat.mul_le_mul_left n Q.2;omega)
   have s3:w7.cell? ⟨b11,3,none⟩=some (.func (.func 352) #[] #[]):=d.o.s.cell 3;go_wp2_with fail;go_at_call 352;refine(pY b y n c A vs (Cy y cc vs) _ o7 d.o.m d.o.v (fun ad e=>(d.o.ov ad e).2) B.o (fun i v hi=>⟨G.o.legal v (List.mem_of_getElem? hi),G.o.own v (List.mem_of_getElem? hi)⟩) ap.o P).mono ?_;rintro e w8 ⟨rfl,o8,E,g⟩;replace d:=Hd (d.o.to_ g E);replace f:=Hd (f.o.trans g);clear E g;clear s3;have HX:=Hd (show Cu 10 true true vs l=(_,⟨10,y,q⟩) by
    unfold Cu;simp only [Y.o,if_true,D.o,ao.o,HQ.o];rfl)
   have bg:IntKind.u64.wrap (q:Int)=(q:Int):=Ce _ (by have:=K.o;omega);have s0:w8.cell? ⟨b11,0,none⟩=some (Aa Ab 10):=d.o.s.cell 0;have r0:w8.cell? ⟨b8,0,none⟩=some (Aa Ab 0):=d.o.r.cell 0;have r1:w8.cell? ⟨b8,1,none⟩=some (Aa Ab 0):=d.o.r.cell 1;have r2:w8.cell? ⟨b8,2,none⟩=some (Aa Ac 0):=d.o.r.cell 2;have f0:=d.o.r.frozen 0;have f1:=d.o.r.frozen 1;have f2:=d.o.r.frozen 2;go_wp2_with (go_at_call 230;refine(Gm d.o.m).mono ?_;rintro e w' ⟨rfl,rfl⟩);have aa:=((d.o.r.set_ 0 (Aa Ab 10)).set_ 1 (Aa Ab (y:Int))).set_ 2 (Aa Ac (q:Int));have Z:=Ev (p:=⟨b8,2,none⟩) (Ev (p:=⟨b8,1,none⟩) (Ev (p:=⟨b8,0,none⟩) d.o.m d.o.or_ (Aa Ab 10)) d.o.or_ (Aa Ab (y:Int))) d.o.or_ (Aa Ac (q:Int));have ab:=Fy (p:=⟨b8,2,none⟩) (Fy (p:=⟨b8,1,none⟩) (Fy (p:=⟨b8,0,none⟩) f.o F.o (Aa Ab 10)) F.o (Aa Ab (y:Int))) F.o (Aa Ac (q:Int));clear r0 r1 r2 f0 f1 f2 s0;generalize ((w8.setCell ⟨b8,0,none⟩ (Aa Ab 10)).setCell ⟨b8,1,none⟩ (Aa Ab (y:Int))).setCell ⟨b8,2,none⟩ (Aa Ac (q:Int))=wF at aa Z ab⊢;obtain ⟨r0,r1,r2⟩:=aa.c3;refine bodyPost_ret (v:= .tuple #[.agg #[Aa Ab 10,Aa Ab (y:Int),Aa Ac (q:Int)],Aa Ab 0]) (by simp [results,results277,go_sem,r0,r1,r2]) rfl ?_;rw [HX.o];exact⟨rfl,o8,Z,ab⟩
end
end Go.Proofs.YtejpbijeifjdeaaGreat
