/- Parts of the proof. -/
import Derived.Test.YtgbjodnegkbfoaaGreatQm06
import Derived.Test.YtgbjodnegkbfoaaGreatQm11
import Derived.Lib.BytesEntry
import Derived.Deep.DeepCutAuto
import Derived.Lib.SmallJoins
set_option maxHeartbeats 4000000
set_option maxRecDepth 100000
open Go.Value renaming int→Aa
open Go.IntKind renaming i64→Ab,u64→Ac
open Nat renaming le_refl→Asp
open List renaming getElem?_eq_getElem→Asq
namespace Go.Proofs.YtgbjodnegkbfoaaGreat
open Go.RowKit Go.Acc
def J8(k:Int):Int:=if k=2∨k=3∨k=8 then 1 else if k=4∨k=9 then 2 else if k=5∨k=6∨k=7 then 4 else if k=17 then 8 else 0
theorem Anf{k:Int}(h1:1≤k)(h2:k≤17):∀w,(Instr.index 239 (.agg #[Aa Ab 0,Aa Ab 0,Aa Ab 1,Aa Ab 1,Aa Ab 2,Aa Ab 4,Aa Ab 4,Aa Ab 4,Aa Ab 1,Aa Ab 2,Aa Ab 0,Aa Ab 0,Aa Ab 0,Aa Ab 0,Aa Ab 0,Aa Ab 0,Aa Ab 0,Aa Ab 8]) (Aa Ab k)).run Tryz.prog w= .ok (Aa Ab (J8 k)) w:=by
 obtain rfl|rfl|rfl|rfl|rfl|rfl|rfl|rfl|rfl|rfl|rfl|rfl|rfl|rfl|rfl|rfl|rfl:k=1∨k=2∨k=3∨k=4∨k=5∨k=6∨k=7∨k=8∨k=9∨k=10∨k=11∨k=12∨k=13∨k=14∨k=15∨k=16∨k=17:=by omega
 all_goals
  intro w
  kernel_rfl
theorem G0(k r:Int)(w:World)(h1:1≤k)(h2:k≤17)(hr:J8 k=r):Calls Tryz.prog 117 #[Aa Ab k] w fun e w'=>e= .returned (Aa Ab r)∧w=w':=by
 have hidx:=Anf h1 h2;rw [hr] at hidx;clear hr h1 h2;go_enter Tryz.func117,Tryz.ntmps117;go_wp2;go_ret;exact⟨rfl,rfl⟩
theorem Amn{k:Int}(h1:1≤k)(h2:k≤17):∀w,(Instr.index 239 (.agg #[Aa Ab 0,Aa Ab (-1),Aa Ab (-1),Aa Ab (-1),Aa Ab (-1),Aa Ab (-1),Aa Ab (-1),Aa Ab (-1),Aa Ab (-1),Aa Ab (-1),Aa Ab 0,Aa Ab 3,Aa Ab 4,Aa Ab 5,Aa Ab 2,Aa Ab 3,Aa Ab 4,Aa Ab 0]) (Aa Ab k)).run Tryz.prog w= .ok (Aa Ab (Az k)) w:=by
 obtain rfl|rfl|rfl|rfl|rfl|rfl|rfl|rfl|rfl|rfl|rfl|rfl|rfl|rfl|rfl|rfl|rfl:k=1∨k=2∨k=3∨k=4∨k=5∨k=6∨k=7∨k=8∨k=9∨k=10∨k=11∨k=12∨k=13∨k=14∨k=15∨k=16∨k=17:=by omega
 all_goals
  intro w
  kernel_rfl
theorem Jg(k r:Int)(w:World)(h1:1≤k)(h2:k≤17)(hr:Az k=r):Calls Tryz.prog 118 #[Aa Ab k] w fun e w'=>e= .returned (Aa Ab r)∧w=w':=by
 have hidx:=Amn h1 h2;rw [hr] at hidx;clear hr h1 h2;go_enter Tryz.func118,Tryz.ntmps118;go_wp2;go_ret;exact⟨rfl,rfl⟩
theorem Ur(s:List UInt8):decide ((0:Int)≤Lib.indexByte s 0)=Br s:=by
 induction s with
 |nil=>rfl
 |cons b l ih=>
  unfold Lib.indexByte Br;simp only [List.any_cons];by_cases hb:(b==0)=true
  ·rw [if_pos hb,hb];rfl
  ·have hb':(b==0)=false:=by simpa using hb
   rw [if_neg hb,hb',Bool.false_or];have hge: -1≤Lib.indexByte l 0:=by
    clear ih
    induction l with
    |nil=>decide
    |cons a l ih2=>unfold Lib.indexByte;(repeat' split) <;>omega
   have ih':decide ((0:Int)≤Lib.indexByte l 0)=l.any fun c=>c==0:=ih
   rw [←ih'];by_cases hm:(Lib.indexByte l 0== -1)=true
   ·rw [if_pos hm];have:Lib.indexByte l 0= -1:=by simpa using hm
    rw [this]
   ·rw [if_neg hm];have:Lib.indexByte l 0≠ -1:=by simpa using hm
    exact decide_eq_decide.2 (by omega)
theorem Air(s:List UInt8)(r:Int)(w:World)(hr:Lib.indexByte s 0=r):Calls Tryz.prog 203 #[.string ⟨s.toArray⟩,.int .u8 0] w fun e w'=>e= .returned (Aa Ab r)∧w=w':=by
 have h:=Lib.run_indexByteString (P:=Tryz.prog) ⟨s.toArray⟩ 0 w;have e:(0:Int).toNat.toUInt8=0:=rfl;rw [e,show(⟨s.toArray⟩:ByteArray).data.toList=s from rfl,hr] at h;clear e hr;go_enter Tryz.func203,Tryz.ntmps203;go_wp2;rw [run_callFunc_extern Tryz.func305 (by kernel_rfl) (by kernel_rfl) (by kernel_rfl) (e:=Extern.BytealgIndexByte.indexByte) (by kernel_rfl),h];simp only [Result.andThen];rw [Oper.upon_value];go_wp2;go_ret;exact⟨rfl,rfl⟩
theorem Aak(s:List UInt8)(r:Int)(w:World)(hr:Lib.indexByte s 0=r):Calls Tryz.prog 122 #[.string ⟨s.toArray⟩,.int .u8 0] w fun e w'=>e= .returned (Aa Ab r)∧w=w':=by
 go_enter Tryz.func122,Tryz.ntmps122;go_wp2_with (go_at_call 203;refine(Air s r _ hr).mono ?_;rintro e w' ⟨rfl,rfl⟩);go_ret;exact⟨rfl,rfl⟩
theorem G1(s:List UInt8)(z:Bool)(w:World)(hz:Br s=z):Calls Tryz.prog 121 #[.string ⟨s.toArray⟩] w fun e w'=>e= .returned (.bool z)∧w=w':=by
 obtain⟨r,hr⟩:∃r,Lib.indexByte s 0=r:=⟨_,rfl⟩;have HR:=Hd hr;have hd:decide ((0:Int)≤r)=z:=by rw [←hr,Ur];exact hz
 clear hr hz;go_enter Tryz.func121,Tryz.ntmps121;go_wp2_with (go_at_call 122;refine(Aak s r _ HR.o).mono ?_;rintro e w' ⟨rfl,rfl⟩);go_ret;exact⟨rfl,rfl⟩
theorem Ac2(s:List UInt8)(w:World)(hz:Br s=false):Calls Tryz.prog 321 #[.string ⟨s.toArray⟩] w fun e w'=>e= .returned (Aa Ab 0)∧w=w':=by
 obtain⟨r,hr⟩:∃r,Lib.indexByte s 0=r:=⟨_,rfl⟩;have HR:=Hd hr;have hd:decide ((0:Int)≤r)=false:=by rw [←hr,Ur];exact hz
 clear hr hz;go_enter Tryz.func321,Tryz.ntmps321;go_wp2_with (go_at_call 122;refine(Aak s r _ HR.o).mono ?_;rintro e w' ⟨rfl,rfl⟩);go_ret;exact⟨rfl,rfl⟩
attribute [local go_sem] Oper.semAt_some
def Sy(Y:List (Nat×Nv))(sb:Nat→Bool)(ke:Nat→Int)(c:Nat)(i:Fin Y.length):Int:=
 if 4096<c+1 then 5 else if 64≤Y[i].1 then 61 else if sb i.val=false then 60 else ke i.val
def Qb(Y:List (Nat×Nv))(sb:Nat→Bool)(ke:Nat→Int)(j:Nat):Int:=if h:j<Y.length then Sy Y sb ke j ⟨j,h⟩ else 0
def Hu(f:Nat→Int):Nat→Int
 |0=>0
 |m+1=>if Hu f m≠0 then Hu f m else f m
theorem Xu{f:Nat→Int}{m:Nat}(h:∀j,j<m→f j=0):Hu f m=0:=by
 induction m with
 |zero=>rfl
 |succ m ih=>
  unfold Hu;rw [ih fun j hj=>h j (by omega)];simp [h m (by omega)]
theorem Aij{f:Nat→Int}{i m:Nat}(h:∀j,j<i→f j=0)(hi:f i≠0)(hm:i<m):Hu f m=f i:=by
 induction m with
 |zero=>omega
 |succ m ih=>
  unfold Hu;by_cases e:i=m
  ·subst e;rw [Xu h];simp
  ·rw [ih (by omega),if_pos hi]
theorem Asb{w:World}{p q:Addr}{u v:Value}(h:w.cell? q=some v)(hne:q.block≠p.block):(w.setCell p u).cell? q=some v:=by
 exact(World.cell?_of_block (w:=w) (Below.heap_setCell w p u q.block hne)).trans h
theorem Vn{V:Nat→Prop}{W W':World}{p:Nat→Prop}{x:Nv}{t:Tr}(h:Bm W p x t)(hk:Fu V W W')(hp:∀k,p k→¬V k):Bm W' p x t:=h.keep fun a u hc hpa=>hk a u hc (hp _ hpa)
theorem Ahy(x:Nv)(t:Tr)(Y:List (Nat×Nv))(p:Nat→Prop)(w:World)(sb:Nat→Bool)(ke:Nat→Int)(r:Int)(h:F4 w p 0 x t Y)(hp:∀k,p k→k<w.heap.size)(hm:Y.length≤1099511627776)(hlev:∀y∈Y,y.1≤1099511627776)
  (hS:∀i y W,Y[i]?=some y→Fu (fun k=>w.heap.size≤k) w W→Calls Tryz.prog 74 #[.agg #[Aa Ab y.2.k,Aa Ab y.2.n,Aa Ac (y.2.u:Int),.string ⟨y.2.s.toArray⟩,.slice y.2.A y.2.an y.2.ac,.slice y.2.B y.2.bn y.2.bc]] W fun e W'=>e= .returned (.bool (sb i))∧Below W.heap.size W W')
  (hK:∀i y W,Y[i]?=some y→Fu (fun k=>w.heap.size≤k) w W→Calls Tryz.prog 75 #[.agg #[Aa Ab y.2.k,Aa Ab y.2.n,Aa Ac (y.2.u:Int),.string ⟨y.2.s.toArray⟩,.slice y.2.A y.2.an y.2.ac,.slice y.2.B y.2.bn y.2.bc]] W fun e W'=>e= .returned (Aa Ab (ke i))∧Below W.heap.size W W')
  (hr:Hu (Qb Y sb ke) Y.length=r):
  Calls Tryz.prog 32 #[.agg #[Aa Ab x.k,Aa Ab x.n,Aa Ac (x.u:Int),.string ⟨x.s.toArray⟩,.slice x.A x.an x.ac,.slice x.B x.bn x.bc]] w fun e w'=>e= .returned (Aa Ab r)∧Below w.heap.size w w':=by
 have HS:=Hd hS;have HK:=Hd hK;have HR:=Hd hr;have HLV:=Hd hlev;have HP:=Hd hp;have HM:=Hd hm;have HNO:=Hd h;clear hS hK hr hlev hp hm h;refine callsIn_wide.1 (callsIn_of_wp_marks (n:=6) Tryz.func32 rfl trivial (wpIn_wide.2 ?_));simp only [Tryz.ntmps32,List.size_toArray,List.length_cons,List.length_nil,Nat.reduceAdd,Nat.reduceSub,Array.replicate_succ,Array.replicate_zero,List.push_toArray,List.append_toArray,List.nil_append,List.cons_append];go_wp2_with (go_at_call 73;refine(Adc x _).mono ?_;rintro e w' ⟨rfl,rfl⟩);have hB4:Below w.heap.size w ((((w.alloc (.cells #[Aa Ab x.k,Aa Ab x.n,Aa Ac (x.u:Int),.string ⟨x.s.toArray⟩,.slice x.A x.an x.ac,.slice x.B x.bn x.bc] 26)).alloc (.cells #[Aa Ab 0] 29)).alloc (.cells #[Aa Ab 0] 3)).alloc (.cells #[Aa Ab x.k,Aa Ab x.n,Aa Ac (x.u:Int),.string ⟨x.s.toArray⟩,.slice x.A x.an x.ac,.slice x.B x.bn x.bc] 26)):=((((Below.refl _ _).alloc (Asp _) _).alloc (by simp) _).alloc (by simp;omega) _).alloc (by simp;omega) _;have hR4:=((B3 w (.cells #[Aa Ab x.k,Aa Ab x.n,Aa Ac (x.u:Int),.string ⟨x.s.toArray⟩,.slice x.A x.an x.ac,.slice x.B x.bn x.bc] 26) 29 #[Aa Ab 0]).alloc (.cells #[Aa Ab 0] 3)).alloc (.cells #[Aa Ab x.k,Aa Ab x.n,Aa Ac (x.u:Int),.string ⟨x.s.toArray⟩,.slice x.A x.an x.ac,.slice x.B x.bn x.bc] 26);have hN4:=(Ki w (.cells #[Aa Ab x.k,Aa Ab x.n,Aa Ac (x.u:Int),.string ⟨x.s.toArray⟩,.slice x.A x.an x.ac,.slice x.B x.bn x.bc] 26) (.cells #[Aa Ab 0] 29) 3 #[Aa Ab 0]).alloc (.cells #[Aa Ab x.k,Aa Ab x.n,Aa Ac (x.u:Int),.string ⟨x.s.toArray⟩,.slice x.A x.an x.ac,.slice x.B x.bn x.bc] 26);have hW4:Ag ((((w.alloc (.cells #[Aa Ab x.k,Aa Ab x.n,Aa Ac (x.u:Int),.string ⟨x.s.toArray⟩,.slice x.A x.an x.ac,.slice x.B x.bn x.bc] 26)).alloc (.cells #[Aa Ab 0] 29)).alloc (.cells #[Aa Ab 0] 3)).alloc (.cells #[Aa Ab x.k,Aa Ab x.n,Aa Ac (x.u:Int),.string ⟨x.s.toArray⟩,.slice x.A x.an x.ac,.slice x.B x.bn x.bc] 26)) (w.heap.size+1+1+1) 26 #[Aa Ab x.k,Aa Ab x.n,Aa Ac (x.u:Int),.string ⟨x.s.toArray⟩,.slice x.A x.an x.ac,.slice x.B x.bn x.bc]:=Ag.new_ (by simp) _ _;have HB:=Hd hB4;have HRB:=Hd hR4;have HNB:=Hd hN4;have HWB:=Hd hW4;have HO:=Hd (HNO.o.pure hB4);clear hB4 hR4 hN4 hW4;generalize ((((w.alloc (.cells #[Aa Ab x.k,Aa Ab x.n,Aa Ac (x.u:Int),.string ⟨x.s.toArray⟩,.slice x.A x.an x.ac,.slice x.B x.bn x.bc] 26)).alloc (.cells #[Aa Ab 0] 29)).alloc (.cells #[Aa Ab 0] 3)).alloc (.cells #[Aa Ab x.k,Aa Ab x.n,Aa Ac (x.u:Int),.string ⟨x.s.toArray⟩,.slice x.A x.an x.ac,.slice x.B x.bn x.bc] 26))=w1 at HB HRB HNB HWB HO⊢;have HLR:=Hd (show w.heap.size≤w.heap.size+1 by omega);have HLN:=Hd (show w.heap.size≤w.heap.size+1+1 by omega);have HNE:=Hd (show w.heap.size+1≠w.heap.size+1+1 by omega);generalize w.heap.size+1+1+1=bW at HWB⊢;generalize w.heap.size+1+1=bN at HNB HLN HNE⊢;generalize w.heap.size+1=bR at HRB HLR HNE⊢;have HV:=Hd (show ∀k,(k=bR∨k=bN)→k<w1.heap.size by rintro k (rfl|rfl);exact HRB.o.lt;exact HNB.o.lt);have HPV:=Hd (show ∀k,p k→¬(k=bR∨k=bN) by
  intro k hpk hk;have h1:=HP.o k hpk;have h2:=HLR.o;have h3:=HLN.o;omega)
 have HB1:=Hd HB.o.size;refine(wpIn_wide (n:=6)).1 ?_;refine Akp fun a0 ha0=>?_
 refine wpIn_rangeFunc_ownH rfl (by omega) (gf:=115) (lb:=#[.pointer (some ⟨bW,0,none⟩)]) (by rw [ha0];rfl) trivial (enters_of Tryz.func115 (by kernel_rfl) rfl)
  (Yy x t Y (fun k=>k=bR∨k=bN) p bW w1 (6-1) (by omega) HO.o HWB.o HPV.o HV.o HM.o) (fun h k=>⟨h.1.trans k.1,Nat.le_trans h.2 k.2⟩) (fun W l o o' _ h hc _=>⟨Arl W l o o' h hc,by simp [World.putObj]⟩) (Below.refl _ _) (fun _=>rfl)
  (fun pre W=>(Ag W bN 3 #[Aa Ab (pre.length:Int)]∧Ag W bR 29 #[Aa Ab 0]∧∀j y,pre[j]?=some y→Sy Y sb ke j y=0)∧Below w.heap.size w W)
  (fun c pre W=>(c= .ret∧∃q y e,pre=q++ [y]∧(∀j y,q[j]?=some y→Sy Y sb ke j y=0)∧Sy Y sb ke q.length y=e∧e≠0∧Ag W bR 29 #[Aa Ab e])∧Below w.heap.size w W)
  (OwnFrom.and (fun s A B row hs hg hr=>⟨Jn hg (fun r e=>(hr r e).2) hs.1,Jn hg (fun r e=>(hr r e).2) hs.2.1,hs.2.2⟩) (ownFrom_below (Asp _) HB.o.size))
  (fun c=>OwnFrom.and (fun s A B row hs hg hr=>by obtain⟨h1,q,y,e,h2,h3,h4,h5,h6⟩:=hs;exact⟨h1,q,y,e,h2,h3,h4,h5,Jn hg (fun r e=>(hr r e).2) h6⟩) (ownFrom_below (Asp _) HB.o.size))
  ⟨⟨HNB.o,HRB.o,fun j y h=>by simp at h⟩,HB.o⟩
  (fun i a' W=>∃Bx,Ag W Bx 26 #[Aa Ab Y[i].2.k,Aa Ab Y[i].2.n,Aa Ac (Y[i].2.u:Int),.string ⟨Y[i].2.s.toArray⟩,.slice Y[i].2.A Y[i].2.an Y[i].2.ac,.slice Y[i].2.B Y[i].2.bn Y[i].2.bc]∧
   a'={ tmps:=(((a0.tmps.setIfInBounds 9 (Aa Ab (Y[i].1:Int))).setIfInBounds 10 (.agg #[Aa Ab Y[i].2.k,Aa Ab Y[i].2.n,Aa Ac (Y[i].2.u:Int),.string ⟨Y[i].2.s.toArray⟩,.slice Y[i].2.A Y[i].2.an Y[i].2.ac,.slice Y[i].2.B Y[i].2.bn Y[i].2.bc])).setIfInBounds 4 (Aa Ab (Y[i].1:Int))).setIfInBounds 5 (.pointer (some ⟨Bx,0,none⟩)),defers:=[]})
  (fun i a' _ A B row hs hg hr=>by obtain⟨Bx,hb,e⟩:=hs;exact⟨Bx,Jn hg (fun r e=>(hr r e).2) hb,e⟩)
  ?assign ?body ?done ?stop
 case assign=>
  rintro l pre i W K ⟨⟨hN,hR,hall⟩,hB⟩ hK';have HQ:=Hd hK';have HALL:=Hd hall;clear hK' hall HR HB HNB HRB HWB HO;subst ha0;generalize hyi:Y[i]=yi at HQ⊢;obtain⟨yl,yn⟩:=yi;simp only [Af0]
  gi_wp2
  have hA:=(Below.refl W.heap.size W).alloc (Asp _) (.cells #[Aa Ab yn.k,Aa Ab yn.n,Aa Ac (yn.u:Int),.string ⟨yn.s.toArray⟩,.slice yn.A yn.an yn.ac,.slice yn.B yn.bn yn.bc] 26);exact HQ.o _ _ ((KeepsOthers.alloc _ _).from _) ⟨Fu.pure hA,hA.size⟩ ⟨⟨hN.alloc _,hR.alloc _,HALL.o⟩,hB.alloc hB.size _⟩ ⟨W.heap.size,Ag.new _ _ _,rfl⟩
 case body=>
  rintro l pre i a' W hl ⟨rr,hrr⟩ ⟨⟨hN,hR,hall⟩,hB⟩ ⟨Bx,hbx,rfl⟩ hlt;have HALL:=Hd hall;have HBB:=Hd hB;have HNN:=Hd hN;have HRR:=Hd hR;obtain⟨c,hc⟩:∃c,pre.length=c:=⟨_,rfl⟩;have hc40:c<1099511627776:=by have:=HM.o;omega
  have HSi:=Hd (fun W' (hk:Fu (fun k=>w.heap.size≤k) w W')=>HS.o i.val Y[i] W' (Asq i.isLt) hk);have HKi:=Hd (fun W' (hk:Fu (fun k=>w.heap.size≤k) w W')=>HK.o i.val Y[i] W' (Asq i.isLt) hk);obtain⟨e,he⟩:∃e,Sy Y sb ke c i=e:=⟨_,rfl⟩;have he':=he;unfold Sy at he';have hlv:=HLV.o Y[i] (List.getElem_mem _);have HEE:=Hd he;have HCC:=Hd hc;obtain⟨si,hsi⟩:∃s,sb i.val=s:=⟨_,rfl⟩;obtain⟨ki,hki⟩:∃s,ke i.val=s:=⟨_,rfl⟩;rw [hsi] at HSi he';rw [hki] at HKi he';generalize hyi:Y[i]=yi at hbx HSi HKi he' hlv⊢;obtain⟨yl,yn⟩:=yi;simp only at hbx HSi HKi he' hlv⊢;rw [hc] at hN;have n0:W.cell? ⟨bN,0,none⟩=some (Aa Ab (c:Int)):=hN.cell 0;have f0:=hN.frozen 0;have hN2:=hN.set_ 0 (Aa Ab ((c:Int)+1));have n1:(W.setCell ⟨bN,0,none⟩ (Aa Ab ((c:Int)+1))).cell? ⟨bN,0,none⟩=some (Aa Ab ((c:Int)+1)):=hN2.cell 0;have hR2:=hR.far (p:=⟨bN,0,none⟩) (by exact HNE.o) (Aa Ab ((c:Int)+1));have r1:(W.setCell ⟨bN,0,none⟩ (Aa Ab ((c:Int)+1))).cell? ⟨bR,0,none⟩=some (Aa Ab 0):=hR2.cell 0;have g1:=hR2.frozen 0;have HN2:=Hd hN2;have HR2:=Hd hR2;have HB2:=Hd (hB.setCell (p:=⟨bN,0,none⟩) HLN.o (Aa Ab ((c:Int)+1)));have hlv0:(yl:Int)≤1099511627776:=by omega
  clear hN hR hall hB hN2 hR2 HB HNB HRB HWB HO hlt hsi hki he hc hyi;subst ha0;by_cases h1:4096<c+1
  ·rw [if_pos h1] at he';have h1':decide ((4096:Int)<(c:Int)+1)=true:=decide_eq_true (by omega);have HE5:=Hd he';clear he'
   gi_wp2
   exact⟨((KeepsOthers.setCell _ _ _).from _).trans ((KeepsOthers.setCell _ _ _).from _),⟨rfl,pre,i,5,rfl,HALL.o,by rw [HCC.o,HEE.o];exact HE5.o.symm,by decide,HR2.o.set_ 0 _⟩,HB2.o.setCell (p:=⟨bR,0,none⟩) HLR.o _⟩
  ·rw [if_neg h1] at he';have h1':decide ((4096:Int)<(c:Int)+1)=false:=decide_eq_false (by omega);by_cases h2:64≤yl
   ·rw [if_pos h2] at he';have h2':decide ((64:Int)≤(yl:Int))=true:=decide_eq_true (by omega);have HE5:=Hd he';clear h1 he'
    gi_wp2
    exact⟨((KeepsOthers.setCell _ _ _).from _).trans ((KeepsOthers.setCell _ _ _).from _),⟨rfl,pre,i,61,rfl,HALL.o,by rw [HCC.o,HEE.o];exact HE5.o.symm,by decide,HR2.o.set_ 0 _⟩,HB2.o.setCell (p:=⟨bR,0,none⟩) HLR.o _⟩
   ·rw [if_neg h2] at he';have h2':decide ((64:Int)≤(yl:Int))=false:=decide_eq_false (by omega);have hX2:=hbx.far (p:=⟨bN,0,none⟩) (by
     rintro rfl;have q1:=HNN.o;unfold Ag at q1 hbx;rw [q1] at hbx;injection hbx with hbx
     injection hbx with q2
     simp at q2) (Aa Ab ((c:Int)+1))
    obtain ⟨x0,x1,x2,x3,x4,x5⟩:=hX2.c6;have HSC:=Hd (HSi.o _ (fun a u hc _=>Ae (w:=w) HB2.o hc));have HX2:=Hd hX2;have HE2:=Hd he';clear h1 h2 hX2 HSi he' hbx
    gi_wp2
    refine⟨trivial,(CallsIn.inRound l (callsIn_wide.2 HSC.o)).mono ?_⟩;rintro e' W3 ⟨rfl,hb3⟩;have HB3:=Hd hb3;have HX3:=Hd (HX2.o.pure hb3);have r3:W3.cell? ⟨bR,0,none⟩=some (Aa Ab 0):=(HR2.o.pure hb3).cell 0;have g3:=(HR2.o.pure hb3).frozen 0;have HBW:=Hd (Ad HB2.o hb3);clear hb3 x0 x1 x2 x3 x4 x5 n0 n1 f0 r1 g1 h1' h2';obtain ⟨x0,x1,x2,x3,x4,x5⟩:=HX3.o.c6;cases si with
    |false=>
     gi_wp2
     exact⟨(((KeepsOthers.setCell _ _ _).from _).trans (Hf HB3.o)).trans ((KeepsOthers.setCell _ _ _).from _),⟨rfl,pre,i,60,rfl,HALL.o,by rw [HCC.o,HEE.o];exact HE2.o.symm,by decide,(HR2.o.pure HB3.o).set_ 0 _⟩,HBW.o.setCell (p:=⟨bR,0,none⟩) HLR.o _⟩
    |true=>
     have he3:ki=e:=HE2.o;have HKC:=Hd (HKi.o _ (fun a u hc _=>Ae (w:=w) HBW.o hc));have HE3:=Hd he3;clear he3 HKi
     gi_wp2
     refine⟨trivial,(CallsIn.inRound l (callsIn_wide.2 HKC.o)).mono ?_⟩;rintro e' W4 ⟨rfl,hb4⟩;have HB4:=Hd hb4;have HB34:=Hd (Ad HB3.o hb4);have HBW4:=Hd (Ad HBW.o hb4);have HR4:=Hd (HR2.o.pure HB34.o);have HN4:=Hd (HN2.o.pure HB34.o);clear hb4 x0 x1 x2 x3 x4 x5 r3 g3;have r4:W4.cell? ⟨bR,0,none⟩=some (Aa Ab 0):=HR4.o.cell 0;have g4:=HR4.o.frozen 0;by_cases hk0:ki=0
     ·have hq:(ki != 0)=false:=by rw [hk0];rfl
      have HK0:=Hd hk0;clear hk0
      gi_wp2
      refine⟨((KeepsOthers.setCell _ _ _).from _).trans (Hf HB34.o),?_,⟨?_,HR4.o,?_⟩,HBW4.o⟩
      ·refine⟨fun a u ha hv=>Ae HB34.o (Asb ha fun hh=>hv (.inr hh)),?_⟩;have:=HB34.o.size;simpa [World.setCell] using this
      ·have h:=HN4.o;rw [List.length_append,HCC.o];exact h
      ·intro j y hj;rw [List.getElem?_append] at hj;split at hj
       ·exact HALL.o j y hj
       ·rename_i hjc;rw [HCC.o] at hj hjc;have hj0:j-c=0:=by
         cases hjj:j-c with
         |zero=>rfl
         |succ m=>rw [hjj] at hj;simp at hj
        rw [hj0] at hj;simp at hj;have hjc':j=c:=by omega
        rw [hjc',←hj,HEE.o,←HE3.o,HK0.o]
     ·have hq:(ki != 0)=true:=by simpa using hk0
      have HK0:=Hd hk0;clear hk0
      gi_wp2
      exact⟨(((KeepsOthers.setCell _ _ _).from _).trans (Hf HB34.o)).trans ((KeepsOthers.setCell _ _ _).from _),⟨rfl,pre,i,ki,rfl,HALL.o,by rw [HCC.o,HEE.o];exact HE3.o.symm,HK0.o,HR4.o.set_ 0 _⟩,HBW4.o.setCell (p:=⟨bR,0,none⟩) HLR.o _⟩
 case done=>
  rintro D ys W hD rfl ⟨⟨hN,hR,hall⟩,hB⟩ hK';subst ha0;have hre:r=0:=by
   rw [←HR.o];refine Xu fun j hj=>?_
   unfold Qb;rw [dif_pos hj];exact hall j ⟨j,hj⟩ (by simp [hj])
  subst hre;have r0:W.cell? ⟨bR,0,none⟩=some (Aa Ab 0):=hR.cell 0;have g0:=hR.frozen 0;have s2:=hR.set_ 0 (Aa Ab 0);have hK2:=(KeepsOthers.setCell W ⟨bR,0,none⟩ (Aa Ab 0)).same D _ hK' rfl;clear hall hN hR HB HNB HRB HWB HO;go_wp2_with fail;refine⟨by simp,.inl ⟨_,_,rfl,run_takeDeferred hK2,?_⟩⟩;have hc5:=Jn (grownBy_putObj' _ D (.deferred none)) (fun r e=>by cases e;exact⟨_,hK2,rfl⟩) s2;have hc6:_=some (Aa Ab 0):=hc5.cell 0;refine⟨Aa Ab 0,?_,rfl,?_⟩
  ·simp [results,Tryz.f32,go_sem,hc6]
  ·exact(hB.setCell (p:=⟨bR,0,none⟩) HLR.o _).trans (belowK_b (w:=w) (Asp _) _ D _ _ (Nat.le_trans HB1.o hD) hK2 rfl rfl)
 case stop=>
  rintro D c pre W hD hpre ⟨⟨rfl,q,y,e,rfl,hall,hy,he,hR⟩,hB⟩ hK';subst ha0;have hlen:q.length<Y.length:=by
   obtain⟨rest,hr⟩:=hpre;have:=congrArg List.length hr;simp at this;omega
  have hpj:∀j (hj:j<q.length+1),(q++ [y])[j]?=some ⟨j,by omega⟩:=by
   intro j hj;obtain⟨rest,hr⟩:=hpre;have h1:((q++ [y])++rest)[j]?=(q++ [y])[j]?:=List.getElem?_append_left (by simp;omega);rw [←h1,hr];simp [show j<Y.length by omega]
  have hyv:y=⟨q.length,hlen⟩:=by
   have h1:=hpj q.length (by omega);simp at h1;exact h1
  have hre:r=e:=by
   rw [←HR.o];have h1:∀j,j<q.length→Qb Y sb ke j=0:=by
    intro j hj;unfold Qb;rw [dif_pos (by omega)];refine hall j ⟨j,by omega⟩ ?_;have h2:=hpj j (by omega);rw [List.getElem?_append_left hj] at h2;exact h2
   have h2:Qb Y sb ke q.length=e:=by
    unfold Qb;rw [dif_pos hlen,←hyv];exact hy
   rw [Aij h1 (by rw [h2];exact he) hlen,h2]
  subst hre;clear hall hy he hpj hyv HB HNB HRB HWB HO
  gi_wp2
  refine⟨by simp,.inl ⟨_,_,rfl,run_takeDeferred hK',?_⟩⟩;have hc5:=Jn (grownBy_putObj' W D (.deferred none)) (fun r e=>by cases e;exact⟨_,hK',rfl⟩) hR;have hc6:_=some (Aa Ab r):=hc5.cell 0;refine⟨Aa Ab r,?_,rfl,?_⟩
  ·simp [results,Tryz.f32,go_sem,hc6]
  ·exact hB.trans (belowK_b (w:=w) (Asp _) _ D _ _ (Nat.le_trans HB1.o hD) hK' rfl rfl)
def Y8(w:World)(m:List UInt8)(e:Ending)(w':World):Prop:=∃A n c,e= .returned (.tuple #[.slice A n c,Aa Ab 0])∧Kf w' w.heap.size A n c m∧Below w.heap.size w w'
theorem Aib{w W:World}{m:List UInt8}{e:Ending}{w':World}(hB:Below w.heap.size w W)(h:Y8 W m e w'):Y8 w m e w':=by
 obtain⟨A,n,c,he,hO,hB'⟩:=h;exact⟨A,n,c,he,hO.rebase hB.size,Be hB hB'⟩
theorem Al2(l:List UInt8)(a x:Int):(loadU l a x:Int)<18446744073709551616:=by
 unfold loadU;split
 ·rename_i h;have h1:=By.1 h.1;have hl:=Oq ((l.drop a.toNat).take x.toNat);have h8:((l.drop a.toNat).take x.toNat).length≤8:=by
   have:=List.length_take_le x.toNat (l.drop a.toNat);omega
  have:=Nat.pow_le_pow_right (n:=2) (by omega) (Nat.mul_le_mul_left 8 h8);omega
 ·omega
theorem Aq1{y u:Nat}(hy:y=1∨y=2∨y=4∨y=8)(hu:u<2^(8*y)): -9223372036854775808≤sx y u∧sx y u≤9223372036854775807:=by
 unfold sx;rcases hy with rfl|rfl|rfl|rfl <;>split <;>simp at* <;>omega
theorem Al1(l:List UInt8)(a x:Int): -9223372036854775808≤Ia l a x∧Ia l a x≤9223372036854775807:=by
 unfold Ia;split
 ·rename_i h;have h1:=By.1 h.1;have hx:=Aa1 l a x.toNat;rw [show((x.toNat:Nat):Int)=x by omega] at hx;exact Aq1 (by omega) hx
 ·omega
theorem Vt{l:List UInt8}{p q t v:Int}(h:Bh l p q t v=0):0≤Bb l p q t v∧Bb l p q t v≤l.length:=by
 have hm:Bj l.length p q t v=0:=by
  by_cases e:Bj l.length p q t v=0
  ·exact e
  ·rw [Ms e] at h;exact absurd h e
 obtain⟨_,h2⟩:=Df.1 hm;obtain⟨h1,_⟩:=Df.1 hm;have h2:=De.1 h2;have h1:=Cc.1 h1;have hq:=By.1 h1.2.1;unfold Bh at h;rw [if_pos hm] at h;unfold Bb;have h':Bh l p q t v=0:=by unfold Bh;rw [if_pos hm];exact h
 rw [if_pos h'];split at h
 ·cases h
 ·split at h
  ·cases h
  ·omega
def M0(t:Int):Bool:=(rdF t).isSome
theorem Ait{t:Int}(h:Aw t=true):M0 t=true:=by
 have:=Gz (Qj h);revert h;refine Kq (p:=fun t=>Aw t=true→M0 t=true) ?_ this;decide
def Dk(l:List UInt8)(p q t v:Int):Int:=
 if Bj l.length p q t v≠0 then Bj l.length p q t v
 else if M0 t=false then 60
 else if Aw t=true then 0
 else if Bh l p q t v≠0 then Bh l p q t v
 else if Bb l p q t v % v≠0 then 212
 else if Gf l.length (Bb l p q t v) v=false then 211 else 0
def E8(l:List UInt8)(p q t v:Int):Int:=if Dk l p q t v=0 then(if Aw t=true then p else Bb l p q t v) else 0
def Fg(l:List UInt8)(p q t v:Int):Int:=if Dk l p q t v=0 then(if Aw t=true then q else v) else 0
def Zd(w:World)(l:List UInt8)(p q t v:Int)(e:Ending)(w':World):Prop:=
 e= .returned (.tuple #[Aa Ab (E8 l p q t v),Aa Ab (Fg l p q t v),Aa Ab (Dk l p q t v)])∧Below w.heap.size w w'
theorem N1{w w':World}{l:List UInt8}{p q t v er:Int}(h:Dk l p q t v=er)(hne:er≠0)(hb:Below w.heap.size w w'):Zd w l p q t v (.returned (.tuple #[Aa Ab 0,Aa Ab 0,Aa Ab er])) w':=by
 unfold Zd E8 Fg;rw [h,if_neg hne,if_neg hne];exact⟨rfl,hb⟩
theorem Abi{w w':World}{l:List UInt8}{p q t v a x:Int}(h:Dk l p q t v=0)(ha:(if Aw t=true then p else Bb l p q t v)=a)(hx:(if Aw t=true then q else v)=x)(hb:Below w.heap.size w w'):Zd w l p q t v (.returned (.tuple #[Aa Ab a,Aa Ab x,Aa Ab 0])) w':=by
 unfold Zd E8 Fg;rw [h,if_pos rfl,if_pos rfl,ha,hx];exact⟨rfl,hb⟩
theorem Qz(l:List UInt8)(p q t v:Int):(Bj l.length p q t v≠0∧Dk l p q t v=Bj l.length p q t v)∨(Bj l.length p q t v=0∧
  ((M0 t=false∧Dk l p q t v=60)∨(M0 t=true∧Aw t=true∧Dk l p q t v=0)∨(M0 t=true∧Aw t=false∧
   ((Bh l p q t v≠0∧Dk l p q t v=Bh l p q t v)∨(Bh l p q t v=0∧Bb l p q t v % v≠0∧Dk l p q t v=212)∨(Bh l p q t v=0∧Bb l p q t v % v=0∧Gf l.length (Bb l p q t v) v=false∧Dk l p q t v=211)∨
    (Bh l p q t v=0∧Bb l p q t v % v=0∧Gf l.length (Bb l p q t v) v=true∧Dk l p q t v=0))))):=by
 unfold Dk;by_cases h1:Bj l.length p q t v=0
 ·refine .inr ⟨h1,?_⟩;rw [if_neg (by simpa using h1)];cases h2:M0 t with
  |false=>exact .inl ⟨rfl,if_pos rfl⟩
  |true=>
   rw [if_neg (by decide)];cases h3:Aw t with
   |true=>exact .inr (.inl ⟨rfl,rfl,if_pos rfl⟩)
   |false=>
    refine .inr (.inr ⟨rfl,rfl,?_⟩);rw [if_neg (by decide)];by_cases h4:Bh l p q t v=0
    ·rw [if_neg (by simpa using h4)];by_cases h5:Bb l p q t v % v=0
     ·rw [if_neg (by simpa using h5)];cases h6:Gf l.length (Bb l p q t v) v with
      |false=>exact .inr (.inr (.inl ⟨h4,h5,rfl,if_pos rfl⟩))
      |true=>exact .inr (.inr (.inr ⟨h4,h5,rfl,if_neg (by decide)⟩))
     ·rw [if_pos h5];exact .inr (.inl ⟨h4,h5,rfl⟩)
    ·rw [if_pos h4];exact .inl ⟨h4,rfl⟩
 ·rw [if_pos h1];exact .inl ⟨h1,rfl⟩
theorem Alo{t:Int}{r:Option (Nat×Value)}(h:r.map (·.2)=rdF t):r.isSome=M0 t:=by
 unfold M0;rw [←h];cases r <;>rfl
theorem Ap1:∀W:World,(zeroValue 323).run Tryz.prog W= .ok .nilFunc W:=by
 intro W
 kernel_rfl
theorem Apd(t:Int)(W:World)(g:Nat)(hb:W.heap[g]?=some (.map Abp 6)):
  (∀b,(Instr.lookup 325 (.map (some g)) (Aa Ab t) b).run Tryz.prog W= .ok (if b then .tuple #[(rdF t).getD .nilFunc,.bool (M0 t)] else(rdF t).getD .nilFunc) W):=by
 intro b;obtain⟨r,h1,h2⟩:=Apc t;rw [Ph Tryz.underlying325 Tryz.underlying3 .nilFunc Ap1 W Abp 6 g t b r hb h1,h2,Alo h2]
theorem Sj(A:Option Addr)(n c:Nat)(p q t v:Int)(l:List UInt8)(w:World)(h:Cd w A n l)(hc:n≤c)(hn:n≤9223372036854775807):
  Calls Tryz.prog 188 #[.slice A n c,.agg #[Aa Ab p,Aa Ab q,Aa Ab t,Aa Ab v]] w (Zd w l p q t v):=by
 have hlen:=h.1;subst hlen;have HL:=Hd (h.alloc (.cells #[Aa Ab p,Aa Ab q,Aa Ab t,Aa Ab v] 75));have HB:=Hd ((Below.refl w.heap.size w).alloc (Asp _) (.cells #[Aa Ab p,Aa Ab q,Aa Ab t,Aa Ab v] 75));have HX:=Hd (Ag.new w 75 #[Aa Ab p,Aa Ab q,Aa Ab t,Aa Ab v]);have hpc:=Qz l p q t v;clear h;go_enter Tryz.func188,Tryz.ntmps188;go_wp2_with fail;go_at_call 123;refine(Mk A _ c p q t v _ hn).mono ?_;have x0:=Al HX.o;have x1:=Ak HX.o;have x2:=Aj HX.o;have x3:=Am HX.o;rintro e w1 ⟨rfl,hb⟩;clear x0 x1 x2 x3;replace HB:=Hd (Ad HB.o hb);replace HX:=Hd (HX.o.pure hb);replace HL:=Hd (HL.o.pure hb);clear hb;have x0:=Al HX.o;have x1:=Ak HX.o;have x2:=Aj HX.o;have x3:=Am HX.o;rcases hpc with⟨hm,he⟩|⟨hm,hpc⟩
 ·have HE:=Hd he;have hne:(Bj l.length p q t v != 0)=true:=by simpa using hm
  have HM:=Hd hm;clear he hm;go_wp2;go_ret3;exact N1 HE.o HM.o HB.o
 ·obtain⟨g1,g2⟩:=Df.1 hm;have g2:=De.1 g2;have g1:=Cc.1 g1;have v1:=By.1 g1.2.2;rw [hm];obtain⟨V,rfl⟩:∃V:Nat,v=V:=⟨v.toNat,by omega⟩;have hv1:1≤V:=by omega
  have hv8:V≤8:=by omega
  have hvz:(V==0)=false:=beq_eq_false_iff_ne.mpr (by omega);clear g1 g2 v1;have HPC:=Hd hpc;have HM:=Hd hm;clear hpc hm;go_wp2_with fail;go_upto_region 4 with fail
  go_cut [8,9] (fun u8 u9 wx=>u9= .bool (M0 t)∧Below w1.heap.size w1 wx)
  case first=>
   go_region_held3 (fun w'=>w'.cell? ⟨w.heap.size,2,none⟩=some (Aa Ab t)) (first|assumption|exact x2|exact Ae HB5.o x2)
    (first|(go_at_call 282;refine(Abq _).mono ?_;rintro e w5 ⟨g,rfl,hg,hb5⟩;have HB5:=Hd hb5;have hlk:=Apd t w5 g hg;clear hb5 hg))
   go_wp2_with fail;go_meet;exact⟨rfl,Ad (Below.refl _ _).drew HB5.o⟩
  case rest=>
   obtain⟨rfl,hb⟩:=hcut;clear x0 x1 x2 x3;replace HB:=Hd (Ad HB.o hb);replace HX:=Hd (HX.o.pure hb);replace HL:=Hd (HL.o.pure hb);clear hb;have x0:=Al HX.o;have x1:=Ak HX.o;have x2:=Aj HX.o;have x3:=Am HX.o;rcases HPC.o with⟨h1,he⟩|⟨h1,h2,he⟩|⟨h1,h2,hpc⟩
   ·have HE:=Hd he;rw [h1];clear he h1 HPC;go_wp2;go_ret3;exact N1 HE.o (by decide) HB.o
   ·have HE:=Hd he;have HI:=Hd h2;rw [h1];clear he h1 HPC h2;go_wp2_with fail;go_at_call 90;refine(B8 t _).mono ?_;rw [HI.o];rintro e w2 ⟨rfl,hb⟩;clear x0 x1 x2 x3;replace HB:=Hd (Ad HB.o hb);replace HX:=Hd (HX.o.pure hb);replace HL:=Hd (HL.o.pure hb);clear hb;have x0:=Al HX.o;have x1:=Ak HX.o;have x2:=Aj HX.o;have x3:=Am HX.o;go_wp2_with fail;go_quiet (fail);go_wp2;go_ret3;exact Abi HE.o (if_pos HI.o) (if_pos HI.o) (below_drewN HB.o _)
   ·have HI:=Hd h2;have HP:=Hd hpc;rw [h1];clear h1 HPC h2 hpc;go_wp2_with fail;go_at_call 90;refine(B8 t _).mono ?_;rw [HI.o];rintro e w2 ⟨rfl,hb⟩;clear x0 x1 x2 x3;replace HB:=Hd (Ad HB.o hb);replace HX:=Hd (HX.o.pure hb);replace HL:=Hd (HL.o.pure hb);clear hb;have x0:=Al HX.o;have x1:=Ak HX.o;have x2:=Aj HX.o;have x3:=Am HX.o;go_wp2_with fail;go_at_call 91;refine(Fp A _ c p q t V l _ HL.o hc hn).mono ?_;rintro e w3 ⟨rfl,hb⟩;clear x0 x1 x2 x3;replace HB:=Hd (Ad HB.o hb);replace HX:=Hd (HX.o.pure hb);replace HL:=Hd (HL.o.pure hb);clear hb;have x0:=Al HX.o;have x1:=Ak HX.o;have x2:=Aj HX.o;have x3:=Am HX.o;rcases HP.o with⟨h1,he⟩|⟨h0,h5,he⟩|⟨h0,h5,h6,he⟩|⟨h0,h5,h6,he⟩
    ·have hne:(Bh l p q t V != 0)=true:=by simpa using h1
     have HE:=Hd he;have HN:=Hd h1;clear h1 he HP;go_wp2;go_ret3;exact N1 HE.o HN.o HB.o
    ·have HE:=Hd he;have htr:=Vt h0;rw [h0];obtain⟨a,ha⟩:∃a:Nat,Bb l p q t V=a:=⟨(Bb l p q t V).toNat,by omega⟩;rw [ha] at h5⊢;have hm2:((a:Int) % (V:Int) != 0)=true:=by simpa using h5
     clear h0 h5 he HP ha htr;go_wp2;go_ret3;exact N1 HE.o (by decide) HB.o
    ·have HE:=Hd he;have htr:=Vt h0;rw [h0];obtain⟨a,ha⟩:∃a:Nat,Bb l p q t V=a:=⟨(Bb l p q t V).toNat,by omega⟩;rw [ha] at h5 h6⊢;have hm2:((a:Int) % (V:Int) != 0)=false:=by simpa using h5
     have HIN:=Hd h6;clear h0 h5 h6 he HP ha htr;go_wp2_with fail;go_at_call 206;refine(C2 A _ c a V _ hn).mono ?_;rw [HIN.o];rintro e w4 ⟨rfl,rfl⟩;go_wp2;go_ret3;exact N1 HE.o (by decide) HB.o
    ·have HE:=Hd he;have htr:=Vt h0;rw [h0];obtain⟨a,ha⟩:∃a:Nat,Bb l p q t V=a:=⟨(Bb l p q t V).toNat,by omega⟩;have HTA:=Hd ha;rw [ha] at h5 h6⊢;have hm2:((a:Int) % (V:Int) != 0)=false:=by simpa using h5
     have HIN:=Hd h6;clear h0 h5 h6 he HP ha htr;go_wp2_with fail;go_at_call 206;refine(C2 A _ c a V _ hn).mono ?_;rw [HIN.o];rintro e w4 ⟨rfl,rfl⟩;go_wp2_with fail;go_quiet (fail);go_wp2;go_ret3;exact Abi HE.o (by rw [if_neg (by rw [HI.o];decide)];exact HTA.o) (if_neg (by rw [HI.o];decide)) (below_drewN HB.o _)
def rdN(l:List UInt8)(t a x:Int):Bool:=decide ((t=1∨t=6)∧Ia l a x<0)
def Se(l:List UInt8)(t a x:Int):Nat:=if t=0 then 0 else if t=26 then min (loadU l a x) 1 else if t=1∨t=6 then(Ia l a x).natAbs else loadU l a x
def Yg(l:List UInt8)(p q t v:Int):Bool:=decide (Dk l p q t v=0)&&rdN l t (E8 l p q t v) (Fg l p q t v)
def scU(l:List UInt8)(p q t v:Int):Nat:=if Dk l p q t v=0 then Se l t (E8 l p q t v) (Fg l p q t v) else 0
def Y6(u:Nat):Bool:=decide (9223372036854775808≤u)
def Alv(l:List UInt8)(p q t v:Int):Int:=if Yg l p q t v=true then -(scU l p q t v:Int) else if Y6 (scU l p q t v)=true then 0 else scU l p q t v
def Alu(l:List UInt8)(p q t v:Int):Int:=if Dk l p q t v≠0 then Dk l p q t v else if Yg l p q t v=true then 0 else if Y6 (scU l p q t v)=true then 10 else 0
def Ag4(l:List UInt8)(p q t v:Int):Nat:=if Yg l p q t v=true then 0 else scU l p q t v
def Ag3(l:List UInt8)(p q t v:Int):Int:=if Dk l p q t v≠0 then Dk l p q t v else if Yg l p q t v=true then 10 else 0
def Aj2(l:List UInt8)(p q t v:Int):Bool:=(scU l p q t v:Int) != 0
end Go.Proofs.YtgbjodnegkbfoaaGreat
namespace Go.Proofs.YtgbjodnegkbfoaaGreat
open Go.ChangeShapes Go.WideShapes Go.ChangeAt Go.RowKit Go.Acc
theorem An4:ownKnob Tryz.prog.godebug=none:=by kernel_rfl
theorem Nd:laidOutB Tryz.prog=true:=by kernel_rfl
section
variable {H:Type} {enc:TypeId×Value→H} {W:World} {base:Nat} {spare:Nat→Bool} {held:Bool}
theorem Aoh{v:Value}{d:DataW H}{p:List MemPlace}(k:Value.okWide Tryz.prog W .any base 3 v)(h:DataW.Trod enc Tryz.prog W 0 (fun _=>true) true 3 v d p):
  ∃m:Int,v= Aa Ab m∧ -9223372036854775808≤m∧m≤9223372036854775807:=by
 obtain⟨m,rfl⟩:=okWide_int Tryz.underlying3 k;obtain⟨f,hf⟩:=h;obtain⟨m',e,_,hw⟩:=DataW.trod_int Tryz.underlying3 hf;obtain rfl:m=m':=by simpa [Value.cells] using e
 exact⟨m,rfl,Aiq hw⟩
end
end Go.Proofs.YtgbjodnegkbfoaaGreat
namespace Go.Proofs.YtgbjodnegkbfoaaGreat
open Go.RowKit Go.Acc
theorem Aqs(A:Option Addr)(n c:Nat)(p q t v:Int)(l:List UInt8)(a x er:Int)(w:World)(h:Cd w A n l)(hc:n≤c)(hn:n≤9223372036854775807)(h0:E8 l p q t v=a)(h1:Fg l p q t v=x)(h2:Dk l p q t v=er):
  Calls Tryz.prog 188 #[.slice A n c,.agg #[Aa Ab p,Aa Ab q,Aa Ab t,Aa Ab v]] w fun e w'=>e= .returned (.tuple #[Aa Ab a,Aa Ab x,Aa Ab er])∧Below w.heap.size w w':=by
 subst h0 h1 h2;exact Sj A n c p q t v l w h hc hn
theorem Arr{w:Nat}{n:Int}(hw:Av (w:Int)=true)(h:bWidthI n≤w)(h64: -9223372036854775808≤n∧n≤9223372036854775807):sx w (bits n % 2^(8*w))=n:=by
 unfold sx bits;unfold bWidthI at h;rcases C1 hw with rfl|rfl|rfl|rfl
 ·split at h
  ·split <;>simp at* <;>omega
  ·exfalso;(repeat' split at h) <;>omega
 ·split at h
  ·split <;>simp at* <;>omega
  ·split at h
   ·split <;>simp at* <;>omega
   ·exfalso;(repeat' split at h) <;>omega
 ·split at h
  ·split <;>simp at* <;>omega
  ·split at h
   ·split <;>simp at* <;>omega
   ·split at h
    ·split <;>simp at* <;>omega
    ·omega
 ·split <;>simp at* <;>omega
theorem U3{w u:Nat}(hw:Av (w:Int)=true)(h:bWidth u≤w)(hu:u<18446744073709551616):u % 2^(8*w)=u:=by
 refine Nat.mod_eq_of_lt ?_;exact El hw hu h
end Go.Proofs.YtgbjodnegkbfoaaGreat
namespace Go.Proofs.YtgbjodnegkbfoaaGreat
open Go.Acc
theorem Aod{L:List UInt8}{a:Int}{w:Nat}{t:Int}(ht:M0 t=true)(hi:Aw t=true)(hm:Bj L.length a w t w=0):Dk L a w t w=0∧E8 L a w t w=a∧Fg L a w t w=w:=by
 have hp:Dk L a w t w=0:=by
  unfold Dk;rw [if_neg (by rw [hm];decide),if_neg (by rw [ht];decide),if_pos hi]
 refine⟨hp,?_,?_⟩
 ·unfold E8;rw [if_pos hp,if_pos hi]
 ·unfold Fg;rw [if_pos hp,if_pos hi]
structure Cr(L:List UInt8)(z w:Nat)(v:Bv):Prop where
 sw:Av (w:Int)=true
 at_:At L z (Ai w (Ca w z v))
 el:Y9 w z v
theorem Cr.le{L:List UInt8}{z w:Nat}{v:Bv}(h:Cr L z w v):z+w≤L.length:=by
 have:=h.at_.le
 rwa [Au] at this
theorem Cr.may{L:List UInt8}{z w:Nat}{v:Bv}(h:Cr L z w v){t:Int}{y:Int}(ht:Bc t=true)(hy:Av y=true):Bj L.length (z:Int) (w:Int) t y=0:=by
 have:=h.le;exact Df.2 ⟨Cc.2 ⟨ht,h.sw,hy⟩,De.2 ⟨by omega,by omega,by omega⟩⟩
theorem Cr.load{L:List UInt8}{z w:Nat}{v:Bv}(h:Cr L z w v)(hi:inl v.t=false):loadU L (z:Int) (w:Int)=z-v.n∧v.n≤z:=by
 obtain⟨h1,h2⟩:=h.el.2 hi;refine⟨?_,h1⟩;rw [h.at_.load h.sw,F9];have e:Ca w z v=z-v.n:=by unfold Ca;rw [if_neg (by rw [hi];decide)]
 rw [e,Nat.mod_eq_of_lt h2]
theorem Cr.leads{L:List UInt8}{z w:Nat}{v:Bv}(h:Cr L z w v)(hi:inl v.t=false)(hl:Bc (v.t:Int)=true)(hv:Av (v.w:Int)=true):Lf L 0 v (z:Int) (w:Int):=by
 have hm:=h.may hl hv;obtain⟨h1,h2⟩:=h.load hi;have hu:¬(z:Int)<(loadU L (z:Int) (w:Int):Int):=by rw [h1];omega
 have hi':Aw (v.t:Int)=false:=hi;exact⟨hm,R0 hm hi' hu,by rw [Ab5 hm hi' hu,h1];omega⟩
theorem Cr.num{L:List UInt8}{z w:Nat}{v:Bv}(h:Cr L z w v)(hi:inl v.t=true):loadU L (z:Int) (w:Int)=v.n % 2^(8*w)∧v.w≤w:=by
 refine⟨?_,h.el.1 hi⟩;rw [h.at_.load h.sw,F9];have e:Ca w z v=v.n % 2^(8*w):=by unfold Ca;rw [if_pos hi]
 rw [e,Nat.mod_mod]
theorem Z1{b:List UInt8}{v:Bv}{w:Nat}(hw:Av (w:Int)=true)(hb:b.length<2^32)(hf:Cb v b.length 0 w=true):Cr (Di b v w) (An w b).length w v:=by
 obtain⟨a1,a2,a3⟩:=Fc hw b;refine⟨hw,(At.last _ _).app _,?_⟩;have h8:=Jm b hw;have e:=V8 (y:=v) (a:=b.length) (i:=0) (w:=w) hw (by rw [Nat.zero_mul,Nat.add_zero,←a1];omega) hf
 rwa [Nat.zero_mul,Nat.add_zero,←a1] at e
theorem H0.slot{L:List UInt8}{vs:List Bv}{v:Bv}(h:H0 L 0 vs v){i:Nat}{y:Bv}(hy:vs[i]?=some y):Cr L (v.n+i*v.w) v.w y:=by
 obtain⟨h1,h2⟩:=h.el i y hy;rw [Nat.zero_add] at h1;exact⟨h.w,h1,h2⟩
end Go.Proofs.YtgbjodnegkbfoaaGreat
namespace Go.Proofs.YtgbjodnegkbfoaaGreat
open Go.RowKit Go.Acc
theorem Cr.goes{L:List UInt8}{z w:Nat}{v:Bv}(h:Cr L z w v)(hi:inl v.t=false){t y:Int}(hl:Bc t=true)(hy:Av y=true)(ht:Aw t=false):Bh L (z:Int) (w:Int) t y=0∧Bb L (z:Int) (w:Int) t y=(v.n:Int):=by
 have hm:=h.may hl hy;obtain⟨h1,h2⟩:=h.load hi;have hu:¬(z:Int)<(loadU L (z:Int) (w:Int):Int):=by rw [h1];omega
 exact⟨R0 hm ht hu,by rw [Ab5 hm ht hu,h1];omega⟩
structure Ae5(L:List UInt8)(p q t v k n:Int)(u:Nat):Prop where
 plc:Dk L p q t v=0
 int:k=3∨k=8→Alv L p q t v=n∧Alu L p q t v=0
 uint:k=4∨k=9→Ag4 L p q t v=u∧Ag3 L p q t v=0
 truth:k=2→Aj2 L p q t v=decide (n=1)
theorem Anz{L:List UInt8}{p q t v a x:Int}(hp:Dk L p q t v=0)(hA:E8 L p q t v=a)(hW:Fg L p q t v=x):Yg L p q t v=rdN L t a x∧scU L p q t v=Se L t a x:=by
 unfold Yg scU;rw [hp,hA,hW];simp
theorem Aiu{L:List UInt8}{p q t v n:Int}(hp:Dk L p q t v=0)(hN:Yg L p q t v=decide (n<0))(hU:scU L p q t v=n.natAbs)(hn: -9223372036854775808≤n∧n≤9223372036854775807):Alv L p q t v=n∧Alu L p q t v=0:=by
 refine⟨?_,?_⟩
 ·unfold Alv;rw [hN,hU];by_cases h0:n<0
  ·rw [if_pos (decide_eq_true h0)];omega
  ·rw [if_neg (by simpa using h0),if_neg (by unfold Y6;simp;omega)];omega
 ·unfold Alu;rw [if_neg (by rw [hp];decide),hN,hU];by_cases h0:n<0
  ·rw [if_pos (decide_eq_true h0)]
  ·rw [if_neg (by simpa using h0),if_neg (by unfold Y6;simp;omega)]
theorem Aew{L:List UInt8}{p q t v:Int}{u:Nat}(hp:Dk L p q t v=0)(hN:Yg L p q t v=false)(hU:scU L p q t v=u):Ag4 L p q t v=u∧Ag3 L p q t v=0:=by
 refine⟨?_,?_⟩
 ·unfold Ag4;rw [hN,hU];rfl
 ·unfold Ag3;rw [if_neg (by rw [hp];decide),hN];rfl
theorem Ow{L:List UInt8}{a n:Int}{w:Nat}(hw:Av (w:Int)=true)(hb:bWidthI n≤w)(hn: -9223372036854775808≤n∧n≤9223372036854775807)(hl:loadU L a w=bits n % 2^(8*w))(h0:0≤a)(h1:a+w≤L.length):Ia L a w=n:=by
 unfold Ia;rw [if_pos ⟨hw,h0,h1⟩,hl,show(w:Int).toNat=w from rfl];exact Arr hw hb hn
theorem Amd{L:List UInt8}{z w:Nat}{v:Bv}{k n:Int}{u:Nat}(h:Cr L z w v)(hv:(k=1∧v=⟨0,1,0⟩)∨(k=2∧v=C8 n)∨(k=3∧v=Cq n)∨(k=4∧v=Cu u))(hn: -9223372036854775808≤n∧n≤9223372036854775807)(hu:u<18446744073709551616):
  Bj L.length z w v.t w=0∧Aw (v.t:Int)=true∧B9 (v.t:Int)=k∧Ae5 L z w v.t w k n u:=by
 have hi:inl v.t=true:=by rcases hv with⟨_,rfl⟩|⟨_,rfl⟩|⟨_,rfl⟩|⟨_,rfl⟩ <;>first|rfl|decide
 have hl:Bc (v.t:Int)=true:=Qj hi;have hm:=h.may (t:=v.t) hl h.sw;obtain⟨hp,hA,hW⟩:=Aod (Ait hi) hi hm;obtain⟨s1,s2⟩:=Anz hp hA hW;obtain⟨e1,e2⟩:=h.num hi;have hle:=h.le;refine⟨hm,hi,?_,hp,fun hk=>?_,fun hk=>?_,fun hk=>?_⟩
 ·rcases hv with⟨rfl,rfl⟩|⟨rfl,rfl⟩|⟨rfl,rfl⟩|⟨rfl,rfl⟩
  ·exact(by decide:B9 ((0:Nat):Int)=1)
  ·exact(by decide:B9 ((26:Nat):Int)=2)
  ·exact(by decide:B9 ((1:Nat):Int)=3)
  ·exact(by decide:B9 ((2:Nat):Int)=4)
 ·obtain rfl:v=Cq n:=by
   rcases hv with⟨rfl,_⟩|⟨rfl,_⟩|⟨_,h⟩|⟨rfl,_⟩
   ·omega
   ·omega
   ·exact h
   ·omega
  have hI:=Ow h.sw e2 hn e1 (by omega) (by omega);refine Aiu hp ?_ ?_ hn
  ·rw [s1];unfold rdN;rw [hI];simp [Cq]
  ·rw [s2];unfold Se;rw [hI];rfl
 ·obtain rfl:v=Cu u:=by
   rcases hv with⟨rfl,_⟩|⟨rfl,_⟩|⟨rfl,_⟩|⟨_,h⟩
   ·omega
   ·omega
   ·omega
   ·exact h
  refine Aew hp ?_ ?_
  ·rw [s1];rfl
  ·rw [s2];show Se L 2 (z:Int) (w:Int)=u;unfold Se;rw [if_neg (by decide),if_neg (by decide),if_neg (by decide),e1];exact U3 h.sw e2 hu
 ·obtain rfl:v=C8 n:=by
   rcases hv with⟨rfl,_⟩|⟨_,h⟩|⟨rfl,_⟩|⟨rfl,_⟩
   ·omega
   ·exact h
   ·omega
   ·omega
  have e3:loadU L (z:Int) (w:Int)=if n=1 then 1 else 0:=by
   rw [e1];show(if n=1 then 1 else 0) % 2^(8*w)=_;rcases B5.1 h.sw with rfl|rfl|rfl|rfl <;>(split <;>rfl)
  unfold Aj2;rw [s2];show((Se L 26 (z:Int) (w:Int):Int) != 0)=_;unfold Se;rw [if_neg (by decide),if_pos rfl,e3];by_cases h1:n=1
  ·rw [if_pos h1];simp [h1]
  ·rw [if_neg h1];simp [h1]
theorem T4{L:List UInt8}{z w:Nat}{v:Bv}{k n:Int}{u:Nat}(h:Cr L z w v)(hv:(k=8∧Iv L 6 (bWidthI n) (bits n) v)∨(k=9∧Iv L 7 (bWidth u) u v))(hn: -9223372036854775808≤n∧n≤9223372036854775807)(hu:u<18446744073709551616):
  Bj L.length z w v.t v.w=0∧Aw (v.t:Int)=false∧B9 (v.t:Int)=k∧Bh L z w v.t v.w=0∧Bb L z w v.t v.w=v.n∧Ae5 L z w v.t v.w k n u:=by
 obtain⟨x,y,hx,hwx,hat,hmd,ht⟩:∃x y:Nat,Av (x:Int)=true∧v.w=x∧At L v.n (Ai x (y % 2^(8*x)))∧v.n % x=0∧((k=8∧v.t=6∧x=bWidthI n∧y=bits n)∨(k=9∧v.t=7∧x=bWidth u∧y=u)):=by
  rcases hv with⟨rfl,h1,h2,h3,h4⟩|⟨rfl,h1,h2,h3,h4⟩
  ·exact⟨_,_,G4 n,h2,h3,h4,.inl ⟨rfl,h1,rfl,rfl⟩⟩
  ·exact⟨_,_,D1 u,h2,h3,h4,.inr ⟨rfl,h1,rfl,rfl⟩⟩
 have hT:(v.t=6∨v.t=7):=by rcases ht with⟨_,h,_⟩|⟨_,h,_⟩ <;>omega
 have hi:inl v.t=false:=by rcases hT with e|e <;>rw [e] <;>decide
 have hl:Bc (v.t:Int)=true:=by rcases hT with e|e <;>rw [e] <;>decide
 have hs:M0 (v.t:Int)=true:=by rcases hT with e|e <;>rw [e] <;>decide
 rw [hwx];have hm:=h.may (t:=v.t) (y:=x) hl hx;obtain⟨g1,g2⟩:=h.goes hi hl hx hi;have hle:=hat.le;rw [Au] at hle;have hlo:loadU L (v.n:Int) (x:Int)=y % 2^(8*x):=by rw [hat.load hx,F9,Nat.mod_mod]
 have hp:Dk L z w v.t x=0:=by
  unfold Dk;rw [if_neg (by rw [hm];decide),if_neg (by rw [hs];decide),if_neg (by rw [show Aw (v.t:Int)=false from hi];decide),if_neg (by rw [g1];decide),g2,if_neg (by omega),if_neg (by rw [De.2 ⟨by omega,by omega,by omega⟩];decide)]
 have hA:E8 L z w v.t x=v.n:=by unfold E8;rw [if_pos hp,if_neg (by rw [show Aw (v.t:Int)=false from hi];decide),g2]
 have hW:Fg L z w v.t x=x:=by unfold Fg;rw [if_pos hp,if_neg (by rw [show Aw (v.t:Int)=false from hi];decide)]
 obtain⟨s1,s2⟩:=Anz hp hA hW;refine⟨hm,hi,?_,g1,g2,hp,fun hk=>?_,fun hk=>?_,fun hk=>?_⟩
 ·rcases ht with⟨rfl,e,_⟩|⟨rfl,e,_⟩ <;>rw [e] <;>decide
 ·rcases ht with⟨_,e,e1,e2⟩|⟨rfl,_⟩
  ·have hI:=Ow (n:=n) hx (by omega) hn (by rw [hlo,e2]) (by omega) (by omega);refine Aiu hp ?_ ?_ hn
   ·rw [s1];unfold rdN;rw [hI,e];simp
   ·rw [s2];unfold Se;rw [hI,e];rfl
  ·omega
 ·rcases ht with⟨rfl,_⟩|⟨_,e,e1,e2⟩
  ·omega
  ·refine Aew hp ?_ ?_
   ·rw [s1,e];rfl
   ·rw [s2,e];show Se L 7 (v.n:Int) (x:Int)=u;unfold Se;rw [if_neg (by decide),if_neg (by decide),if_neg (by decide),hlo,e2];exact U3 hx (by omega) hu
 ·rcases ht with⟨rfl,_⟩|⟨rfl,_⟩ <;>omega
theorem Cm(w:World):Below w.heap.size w w.drew:=(Below.refl _ _).drew
theorem Yl{l:List UInt8}{a k:Nat}:(l.drop a).take k=(l.drop a).take ((l.drop a).take k).length:=by
 rw [List.length_take,List.take_eq_take_iff];simp
theorem Alq{l:List UInt8}{p q t v:Int}(h:Dj l p q t v [4,5,25]=0):∃a:Nat,Dr l p q t v [4,5,25]=a∧Ea l p q t v [4,5,25]=(l.drop a).take (Ea l p q t v [4,5,25]).length∧a+(Ea l p q t v [4,5,25]).length≤l.length:=by
 have ht:Bh l p q t v=0:=by
  by_cases hm:Bj l.length p q t v=0
  ·by_cases hi:Hi [4,5,25] t=false
   ·unfold Dj at h;rw [if_neg (by simpa using hm),if_pos hi] at h;cases h
   ·by_cases hte:Bh l p q t v=0
    ·exact hte
    ·unfold Dj at h;rw [if_neg (by simpa using hm),if_neg hi,if_pos hte] at h;exact absurd h hte
  ·unfold Dj at h;rw [if_pos hm] at h;exact absurd h hm
 have hr:=R1 ht;refine⟨(Bb l p q t v).toNat,?_,?_,?_⟩
 ·unfold Dr;rw [if_pos h];omega
 ·unfold Ea;rw [if_pos h];split
  ·unfold Mh;exact Yl
  ·unfold cntL;exact Yl
 ·unfold Ea;rw [if_pos h];split
  ·unfold Mh;rw [List.length_take,List.length_drop];omega
  ·unfold cntL;rw [List.length_take,List.length_drop];omega
end Go.Proofs.YtgbjodnegkbfoaaGreat
