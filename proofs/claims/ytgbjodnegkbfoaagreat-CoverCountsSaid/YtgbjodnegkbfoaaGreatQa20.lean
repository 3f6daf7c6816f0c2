/- Parts of the proof. -/
import Derived.Test.YtgbjodnegkbfoaaGreatQa19
set_option maxHeartbeats 4000000
set_option maxRecDepth 100000
open Go.Value renaming int→Aa
open Go.IntKind renaming i64→Ab,u64→Ac
open Nat renaming le_refl→Ath
namespace Go.Proofs.YtgbjodnegkbfoaaGreat
open Go.RowKit Go.Acc
def Fe(p k:Int):Bool:=(p != 0)&&(k != p)
theorem Ahg(h:Nat)(p:Int)(x:Nv)(w:World)(hb:Af w h 3 #[Aa Ab p]):
  Calls Tryz.prog 119 #[.agg #[Aa Ab x.k,Aa Ab x.n,Aa Ac (x.u:Int),.string ⟨x.s.toArray⟩,.slice x.A x.an x.ac,.slice x.B x.bn x.bc],.pointer (some ⟨h,0,none⟩)] w fun e w'=>e= .returned (.bool (Fe p x.k))∧Below w.heap.size w w':=by
 have HB:=Hd (show Below w.heap.size w (w.alloc (.cells #[Aa Ab x.k,Aa Ab x.n,Aa Ac (x.u:Int),.string ⟨x.s.toArray⟩,.slice x.A x.an x.ac,.slice x.B x.bn x.bc] 26)) from(Below.refl _ _).alloc (Ath _) _);have p0:=Al (.cells #[Aa Ab x.k,Aa Ab x.n,Aa Ac (x.u:Int),.string ⟨x.s.toArray⟩,.slice x.A x.an x.ac,.slice x.B x.bn x.bc] 26) (show w.cell? ⟨h,0,none⟩=some (Aa Ab p) from hb.cell 0);obtain⟨r,hr⟩:∃r,Fe p x.k=r:=⟨_,rfl⟩;rw [hr];unfold Fe at hr;obtain⟨b1,h1⟩:∃b,(p != 0)=b:=⟨_,rfl⟩;obtain⟨b2,h2⟩:∃b,(x.k != p)=b:=⟨_,rfl⟩;rw [h1,h2] at hr;have HR:=Hd hr;clear hb hr;cases b1 with
 |true=>
  cases b2 with
  |true=>
   go_enter Tryz.func119,Tryz.ntmps119;go_wp2;go_ret;exact⟨C0 HR.o,HB.o⟩
  |false=>
   go_enter Tryz.func119,Tryz.ntmps119;go_wp2;go_ret;exact⟨C0 HR.o,HB.o⟩
 |false=>
  go_enter Tryz.func119,Tryz.ntmps119;go_wp2;go_ret;exact⟨C0 HR.o,HB.o⟩
theorem Aji(h:Nat)(p:Int)(B:Option Addr)(bn bc:Nat)(vs:List Nv)(w:World)(hI:Fh w B bn vs)(hn:bn≤1099511627776)(hb:Af w h 3 #[Aa Ab p]):
  Calls Tryz.prog 202 #[.slice B bn bc,.func (.func 119) #[] #[.pointer (some ⟨h,0,none⟩)]] w fun e w'=>∃i:Int,e= .returned (Aa Ab i)∧decide (0≤i)=vs.any (fun v=>Fe p v.k)∧Below w.heap.size w w':=by
 have HI:=Hd hI;have HP:=Hd hb;have HL:=Hd hI.1;clear hI hb;go_enter Tryz.func202,Tryz.ntmps202;go_wp2_with fail;go_loopw [8] (fun u wr=>∃k:Nat,k≤bn∧u= Aa Ab k∧Below w.heap.size w wr∧∀v∈vs.take k,Fe p v.k=false) (fun u _=>bn-(intOf u).toNat)
 case atStart=>exact⟨0,Nat.zero_le _,rfl,Below.refl _ _,fun v h=>by simp at h⟩
 case round=>
  obtain⟨k,hk,rfl,hbr,hall⟩:=hrel;have HBR:=Hd hbr;have HALL:=Hd hall;have hI2:=HI.o.pure hbr;have HP2:=Hd (HP.o.pure hbr);clear hbr hall;by_cases hlt:k<bn
  ·obtain⟨v,hv⟩:∃v,vs[k]?=some v:=⟨_,List.getElem?_eq_getElem (by have:=HL.o;omega)⟩;obtain⟨g,off,rfl,v0,v1,v2,v3,v4,v5⟩:=Gc hI2 hv;have HV:=Hd hv;obtain⟨r,hr⟩:∃r,Fe p v.k=r:=⟨_,rfl⟩;have HR:=Hd hr;have hk0:(0:Int)≤(k:Int):=by omega
   have hkn:(k:Int)<(bn:Int):=by omega
   have hcal:=Ahg h p v wr HP2.o;rw [hr] at hcal;have HC:=Hd hcal;clear hr hcal hI2 hv;cases r with
   |true=>
    go_wp2_with fail;go_at_call 119;refine HC.o.mono ?_;rintro e w2 ⟨rfl,hb2⟩;have HB2:=Hd (Ad HBR.o hb2);clear hb2 v0 v1 v2 v3 v4 v5;go_wp2_with fail;go_ret;refine⟨k,rfl,?_,HB2.o⟩;rw [decide_eq_true (by omega)];exact(List.any_eq_true.2 ⟨v,List.mem_of_getElem? HV.o,HR.o⟩).symm
   |false=>
    go_wp2_with fail;go_at_call 119;refine HC.o.mono ?_;rintro e w2 ⟨rfl,hb2⟩;have HB2:=Hd (Ad HBR.o hb2);clear hb2 v0 v1 v2 v3 v4 v5;go_wp2_with fail;go_roundw
    case rel=>
     refine⟨k+1,by omega,by go_num,HB2.o,?_⟩;intro x hx;obtain⟨h1,h2⟩:=List.getElem?_eq_some_iff.1 HV.o;rw [List.take_succ_eq_append_getElem h1,h2] at hx;rcases List.mem_append.1 hx with hx|hx
     ·exact HALL.o x hx
     ·rw [List.mem_singleton.1 hx];exact HR.o
    case measure=>simp [intOf];omega
  ·have hd1:decide ((k:Int)<(bn:Int))=false:=decide_eq_false (by omega);have hd2:decide (k<bn)=false:=decide_eq_false (by omega);have HT:=Hd (show vs.take k=vs from List.take_of_length_le (by have:=HL.o;omega));clear hI2;go_wp2_with fail;go_ret;refine⟨-1,rfl,?_,HBR.o⟩;rw [decide_eq_false (by omega)];symm;rw [List.any_eq_false];intro x hx;have:=HALL.o x (by rw [HT.o];exact hx);rw [this];decide
theorem Gn(h:Nat)(p:Int)(B:Option Addr)(bn bc:Nat)(vs:List Nv)(w:World)(hI:Fh w B bn vs)(hn:bn≤1099511627776)(hb:Af w h 3 #[Aa Ab p]):
  Calls Tryz.prog 120 #[.slice B bn bc,.func (.func 119) #[] #[.pointer (some ⟨h,0,none⟩)]] w fun e w'=>e= .returned (.bool (vs.any (fun v=>Fe p v.k)))∧Below w.heap.size w w':=by
 have HI:=Hd (Aji h p B bn bc vs w hI hn hb);clear hI hb;go_enter Tryz.func120,Tryz.ntmps120;go_wp2_with fail;go_at_call 202;refine HI.o.mono ?_;rintro e w2 ⟨i,rfl,hi,hb2⟩;have HII:=Hd hi;have HB:=Hd hb2;clear hb2 hi;go_wp2_with fail;go_ret;exact⟨C0 HII.o,HB.o⟩
theorem An0(k n:Int)(u:Nat)(s:List UInt8)(A:Option Addr)(an ac:Nat)(B:Option Addr)(bn bc:Nat)(w:World)(h:¬(1≤k∧k≤17)):Calls Tryz.prog 74 #[.agg #[Aa Ab k,Aa Ab n,Aa Ac (u:Int),.string ⟨s.toArray⟩,.slice A an ac,.slice B bn bc]] w fun e w'=>e= .returned (.bool false)∧Below w.heap.size w w':=by
 have HB:=Hd (show Below w.heap.size w (w.alloc (.cells #[Aa Ab k,Aa Ab n,Aa Ac (u:Int),.string ⟨s.toArray⟩,.slice A an ac,.slice B bn bc] 26)) from(Below.refl _ _).alloc (Ath _) _);by_cases h1:k<1
 ·have d1:decide (k<1)=true:=decide_eq_true h1;clear h h1;go_enter Tryz.func74,Tryz.ntmps74;go_wp2_with fail;go_ret;exact⟨rfl,HB.o⟩
 ·have d1:decide (k<1)=false:=decide_eq_false h1;have d17:decide (17<k)=true:=decide_eq_true (by omega);clear h h1;go_enter Tryz.func74,Tryz.ntmps74;go_wp2_with fail;go_ret;exact⟨rfl,HB.o⟩
theorem Mj(k n:Int)(u:Nat)(s:List UInt8)(A:Option Addr)(an ac:Nat)(B:Option Addr)(bn bc:Nat)(vs:List Nv)(p:Int)(w:World)(hI:Fh w B bn vs)(hbn:bn≤1099511627776)(h1:1≤k)(h17:k≤17)(hU:Kt k=0)(hp:As k=p)
  (e2:(k==2)=false) (e17:(k==17)=false) (e15:(k==15)=false) (e16:(k==16)=false):
  Calls Tryz.prog 74 #[.agg #[Aa Ab k,Aa Ab n,Aa Ac (u:Int),.string ⟨s.toArray⟩,.slice A an ac,.slice B bn bc]] w fun e w'=>e= .returned (.bool (if(n != 0)=true then false else if((u:Int) != 0)=true then false else if(s== [])=false then false else if decide (0<an)=true then false else !(vs.any fun v=>Fe p v.k)))∧Below w.heap.size w w':=by
 have HB:=Hd (show Below w.heap.size w (w.alloc (.cells #[Aa Ab k,Aa Ab n,Aa Ac (u:Int),.string ⟨s.toArray⟩,.slice A an ac,.slice B bn bc] 26)) from(Below.refl _ _).alloc (Ath _) _);have HX:=Hd (Af.new w 26 #[Aa Ab k,Aa Ab n,Aa Ac (u:Int),.string ⟨s.toArray⟩,.slice A an ac,.slice B bn bc]);have HI:=Hd hI;have HU:=Hd hU;have HP:=Hd hp;have HK:=Hd (And.intro h1 h17);have d1:decide (k<1)=false:=decide_eq_false (by omega);have d17:decide (17<k)=false:=decide_eq_false (by omega);clear hI hU hp h1 h17;go_enter Tryz.func74,Tryz.ntmps74;go_upto_region 3 with fail
 have hBI:=HI.o.alloc (.cells #[Aa Ab k,Aa Ab n,Aa Ac (u:Int),.string ⟨s.toArray⟩,.slice A an ac,.slice B bn bc] 26);replace HI:=Hd hBI;clear hBI d1 d17;generalize w.alloc (.cells #[Aa Ab k,Aa Ab n,Aa Ac (u:Int),.string ⟨s.toArray⟩,.slice A an ac,.slice B bn bc] 26)=w1 at HB HX HI⊢;generalize w.heap.size=g at HX⊢;have c0:w1.cell? ⟨g,0,none⟩=some (Aa Ab k):=HX.o.cell 0;have hne:=Nat.ne_of_lt (Ar c0);simp only at hne;go_cut [3,4] (fun u3 u4 wx=>∃wy,wy=wx∧u3= Aa Ab 0∧(∃h,u4= .pointer (some ⟨h,0,none⟩)∧Af wx h 3 #[Aa Ab p])∧Below w1.heap.size w1 wx)
 case first=>
  have eU:(0:Int)=0:=rfl;go_region_held3 (fun w'=>w'.cell? ⟨g,0,none⟩=some (Aa Ab k)) (first|with_reducible exact c0|with_reducible exact Ae c0|with_reducible exact Df _ c0|with_reducible exact Ae (Al _ c0)|with_reducible exact Df _ (Al _ c0)) (first|(go_at_call 117;(with_reducible refine(Hm k 0 _ HK.o.1 HK.o.2 HU.o).mono ?_);rintro e w' ⟨rfl,rfl⟩)|(go_at_call 118;(with_reducible refine(J1 k p _ HK.o.1 HK.o.2 HP.o).mono ?_);rintro e w' ⟨rfl,rfl⟩))
  all_goals
   go_wp2_with fail;go_meet;exact⟨_,rfl,rfl,⟨_,rfl,(Af.new _ _ _).drew⟩,((Below.refl _ _).alloc (Ath _) _).drew⟩
 case rest=>
 obtain⟨w2,rfl,rfl,⟨h,rfl,hbk⟩,hb⟩:=hcut;have HX2:=Hd (HX.o.pure hb);have HI2:=Hd (HI.o.pure hb);have HB2:=Hd (Ad HB.o hb);have HBK:=Hd hbk;obtain ⟨x0,x1,x2,x3,x4,x5⟩:=HX2.o.c6;have hs0:(s== [])=decide (s=[]):=by cases s <;>rfl
 obtain⟨bN,hbN⟩:∃b,(n != 0)=b:=⟨_,rfl⟩;obtain⟨bU,hbU⟩:∃b,((u:Int) != 0)=b:=⟨_,rfl⟩;obtain⟨bS,hbS⟩:∃b,(s== [])=b:=⟨_,rfl⟩;obtain⟨bA,hbA⟩:∃b,decide (0<an)=b:=⟨_,rfl⟩;have hbA2:decide ((0:Int)<(an:Int))=bA:=by rw [←hbA];exact decide_eq_decide.2 (by omega)
 clear hb hbk c0 hne hs0;cases bN with
 |true=>
  go_wp2_with fail;go_ret;exact⟨rfl,HB2.o⟩
 |false=>
 cases bU with
 |true=>
  go_wp2_with fail;go_ret;exact⟨rfl,HB2.o⟩
 |false=>
 cases bS with
 |false=>
  go_wp2_with fail;go_ret;exact⟨rfl,HB2.o⟩
 |true=>
 cases bA with
 |true=>
  go_wp2_with fail;go_ret;exact⟨rfl,HB2.o⟩
 |false=>
  go_wp2_with fail;go_at_call 120;refine(Gn h p B bn bc vs _ HI2.o hbn HBK.o).mono ?_;rintro e w3 ⟨rfl,hb3⟩;have HB3:=Hd (Ad HB2.o hb3);clear hb3 x0 x1 x2 x3 x4 x5;go_wp2_with fail;go_ret;exact⟨rfl,HB3.o⟩
theorem An1(k n:Int)(u:Nat)(s:List UInt8)(A:Option Addr)(an ac:Nat)(B:Option Addr)(bn bc:Nat)(vs:List Nv)(p:Int)(w:World)(hI:Fh w B bn vs)(hbn:bn≤1099511627776)(h1:1≤k)(h17:k≤17)(hU:Kt k=1)(hp:As k=p)
  (e2:(k==2)=true) (e17:(k==17)=false) (e15:(k==15)=false) (e16:(k==16)=false):
  Calls Tryz.prog 74 #[.agg #[Aa Ab k,Aa Ab n,Aa Ac (u:Int),.string ⟨s.toArray⟩,.slice A an ac,.slice B bn bc]] w fun e w'=>e= .returned (.bool (if((u:Int) != 0)=true then false else if(s== [])=false then false else if decide (0<an)=true then false else if(n != 0&&n != 1)=true then false else !(vs.any fun v=>Fe p v.k)))∧Below w.heap.size w w':=by
 have HB:=Hd (show Below w.heap.size w (w.alloc (.cells #[Aa Ab k,Aa Ab n,Aa Ac (u:Int),.string ⟨s.toArray⟩,.slice A an ac,.slice B bn bc] 26)) from(Below.refl _ _).alloc (Ath _) _);have HX:=Hd (Af.new w 26 #[Aa Ab k,Aa Ab n,Aa Ac (u:Int),.string ⟨s.toArray⟩,.slice A an ac,.slice B bn bc]);have HI:=Hd hI;have HU:=Hd hU;have HP:=Hd hp;have HK:=Hd (And.intro h1 h17);have d1:decide (k<1)=false:=decide_eq_false (by omega);have d17:decide (17<k)=false:=decide_eq_false (by omega);clear hI hU hp h1 h17;go_enter Tryz.func74,Tryz.ntmps74;go_upto_region 3 with fail
 have hBI:=HI.o.alloc (.cells #[Aa Ab k,Aa Ab n,Aa Ac (u:Int),.string ⟨s.toArray⟩,.slice A an ac,.slice B bn bc] 26);replace HI:=Hd hBI;clear hBI d1 d17;generalize w.alloc (.cells #[Aa Ab k,Aa Ab n,Aa Ac (u:Int),.string ⟨s.toArray⟩,.slice A an ac,.slice B bn bc] 26)=w1 at HB HX HI⊢;generalize w.heap.size=g at HX⊢;have c0:w1.cell? ⟨g,0,none⟩=some (Aa Ab k):=HX.o.cell 0;have hne:=Nat.ne_of_lt (Ar c0);simp only at hne;go_cut [3,4] (fun u3 u4 wx=>∃wy,wy=wx∧u3= Aa Ab 1∧(∃h,u4= .pointer (some ⟨h,0,none⟩)∧Af wx h 3 #[Aa Ab p])∧Below w1.heap.size w1 wx)
 case first=>
  have eU:(0:Int)=0:=rfl;go_region_held3 (fun w'=>w'.cell? ⟨g,0,none⟩=some (Aa Ab k)) (first|with_reducible exact c0|with_reducible exact Ae c0|with_reducible exact Df _ c0|with_reducible exact Ae (Al _ c0)|with_reducible exact Df _ (Al _ c0)) (first|(go_at_call 117;(with_reducible refine(Hm k 1 _ HK.o.1 HK.o.2 HU.o).mono ?_);rintro e w' ⟨rfl,rfl⟩)|(go_at_call 118;(with_reducible refine(J1 k p _ HK.o.1 HK.o.2 HP.o).mono ?_);rintro e w' ⟨rfl,rfl⟩))
  all_goals
   go_wp2_with fail;go_meet;exact⟨_,rfl,rfl,⟨_,rfl,(Af.new _ _ _).drew⟩,((Below.refl _ _).alloc (Ath _) _).drew⟩
 case rest=>
 obtain⟨w2,rfl,rfl,⟨h,rfl,hbk⟩,hb⟩:=hcut;have HX2:=Hd (HX.o.pure hb);have HI2:=Hd (HI.o.pure hb);have HB2:=Hd (Ad HB.o hb);have HBK:=Hd hbk;obtain ⟨x0,x1,x2,x3,x4,x5⟩:=HX2.o.c6;have hs0:(s== [])=decide (s=[]):=by cases s <;>rfl
 obtain⟨bN,hbN⟩:∃b,(n != 0)=b:=⟨_,rfl⟩;obtain⟨bU,hbU⟩:∃b,((u:Int) != 0)=b:=⟨_,rfl⟩;obtain⟨bS,hbS⟩:∃b,(s== [])=b:=⟨_,rfl⟩;obtain⟨bA,hbA⟩:∃b,decide (0<an)=b:=⟨_,rfl⟩;have hbA2:decide ((0:Int)<(an:Int))=bA:=by rw [←hbA];exact decide_eq_decide.2 (by omega)
 clear hb hbk c0 hne hs0;obtain⟨b1,hb1⟩:∃b,(n != 1)=b:=⟨_,rfl⟩;cases bU with
 |true=>
  go_wp2_with fail;go_ret;exact⟨rfl,HB2.o⟩
 |false=>
 cases bS with
 |false=>
  go_wp2_with fail;go_ret;exact⟨rfl,HB2.o⟩
 |true=>
 cases bA with
 |true=>
  go_wp2_with fail;go_ret;exact⟨rfl,HB2.o⟩
 |false=>
 cases bN with
 |false=>
  go_wp2_with fail;go_at_call 120;refine(Gn h p B bn bc vs _ HI2.o hbn HBK.o).mono ?_;rintro e w3 ⟨rfl,hb3⟩;have HB3:=Hd (Ad HB2.o hb3);clear hb3 x0 x1 x2 x3 x4 x5;go_wp2_with fail;go_ret;exact⟨rfl,HB3.o⟩
 |true=>
 cases b1 with
 |true=>
  go_wp2_with fail;go_ret;exact⟨rfl,HB2.o⟩
 |false=>
  go_wp2_with fail;go_at_call 120;refine(Gn h p B bn bc vs _ HI2.o hbn HBK.o).mono ?_;rintro e w3 ⟨rfl,hb3⟩;have HB3:=Hd (Ad HB2.o hb3);clear hb3 x0 x1 x2 x3 x4 x5;go_wp2_with fail;go_ret;exact⟨rfl,HB3.o⟩
theorem Ae9(k n:Int)(u:Nat)(s:List UInt8)(A:Option Addr)(an ac:Nat)(B:Option Addr)(bn bc:Nat)(vs:List Nv)(p:Int)(w:World)(hI:Fh w B bn vs)(hbn:bn≤1099511627776)(h1:1≤k)(h17:k≤17)(hU:Kt k=1)(hp:As k=p)
  (e2:(k==2)=false) (e17:(k==17)=false) (e15:(k==15)=false) (e16:(k==16)=false):
  Calls Tryz.prog 74 #[.agg #[Aa Ab k,Aa Ab n,Aa Ac (u:Int),.string ⟨s.toArray⟩,.slice A an ac,.slice B bn bc]] w fun e w'=>e= .returned (.bool (if((u:Int) != 0)=true then false else if(s== [])=false then false else if decide (0<an)=true then false else !(vs.any fun v=>Fe p v.k)))∧Below w.heap.size w w':=by
 have HB:=Hd (show Below w.heap.size w (w.alloc (.cells #[Aa Ab k,Aa Ab n,Aa Ac (u:Int),.string ⟨s.toArray⟩,.slice A an ac,.slice B bn bc] 26)) from(Below.refl _ _).alloc (Ath _) _);have HX:=Hd (Af.new w 26 #[Aa Ab k,Aa Ab n,Aa Ac (u:Int),.string ⟨s.toArray⟩,.slice A an ac,.slice B bn bc]);have HI:=Hd hI;have HU:=Hd hU;have HP:=Hd hp;have HK:=Hd (And.intro h1 h17);have d1:decide (k<1)=false:=decide_eq_false (by omega);have d17:decide (17<k)=false:=decide_eq_false (by omega);clear hI hU hp h1 h17;go_enter Tryz.func74,Tryz.ntmps74;go_upto_region 3 with fail
 have hBI:=HI.o.alloc (.cells #[Aa Ab k,Aa Ab n,Aa Ac (u:Int),.string ⟨s.toArray⟩,.slice A an ac,.slice B bn bc] 26);replace HI:=Hd hBI;clear hBI d1 d17;generalize w.alloc (.cells #[Aa Ab k,Aa Ab n,Aa Ac (u:Int),.string ⟨s.toArray⟩,.slice A an ac,.slice B bn bc] 26)=w1 at HB HX HI⊢;generalize w.heap.size=g at HX⊢;have c0:w1.cell? ⟨g,0,none⟩=some (Aa Ab k):=HX.o.cell 0;have hne:=Nat.ne_of_lt (Ar c0);simp only at hne;go_cut [3,4] (fun u3 u4 wx=>∃wy,wy=wx∧u3= Aa Ab 1∧(∃h,u4= .pointer (some ⟨h,0,none⟩)∧Af wx h 3 #[Aa Ab p])∧Below w1.heap.size w1 wx)
 case first=>
  have eU:(0:Int)=0:=rfl;go_region_held3 (fun w'=>w'.cell? ⟨g,0,none⟩=some (Aa Ab k)) (first|with_reducible exact c0|with_reducible exact Ae c0|with_reducible exact Df _ c0|with_reducible exact Ae (Al _ c0)|with_reducible exact Df _ (Al _ c0)) (first|(go_at_call 117;(with_reducible refine(Hm k 1 _ HK.o.1 HK.o.2 HU.o).mono ?_);rintro e w' ⟨rfl,rfl⟩)|(go_at_call 118;(with_reducible refine(J1 k p _ HK.o.1 HK.o.2 HP.o).mono ?_);rintro e w' ⟨rfl,rfl⟩))
  all_goals
   go_wp2_with fail;go_meet;exact⟨_,rfl,rfl,⟨_,rfl,(Af.new _ _ _).drew⟩,((Below.refl _ _).alloc (Ath _) _).drew⟩
 case rest=>
 obtain⟨w2,rfl,rfl,⟨h,rfl,hbk⟩,hb⟩:=hcut;have HX2:=Hd (HX.o.pure hb);have HI2:=Hd (HI.o.pure hb);have HB2:=Hd (Ad HB.o hb);have HBK:=Hd hbk;obtain ⟨x0,x1,x2,x3,x4,x5⟩:=HX2.o.c6;have hs0:(s== [])=decide (s=[]):=by cases s <;>rfl
 obtain⟨bN,hbN⟩:∃b,(n != 0)=b:=⟨_,rfl⟩;obtain⟨bU,hbU⟩:∃b,((u:Int) != 0)=b:=⟨_,rfl⟩;obtain⟨bS,hbS⟩:∃b,(s== [])=b:=⟨_,rfl⟩;obtain⟨bA,hbA⟩:∃b,decide (0<an)=b:=⟨_,rfl⟩;have hbA2:decide ((0:Int)<(an:Int))=bA:=by rw [←hbA];exact decide_eq_decide.2 (by omega)
 clear hb hbk c0 hne hs0;cases bU with
 |true=>
  go_wp2_with fail;go_ret;exact⟨rfl,HB2.o⟩
 |false=>
 cases bS with
 |false=>
  go_wp2_with fail;go_ret;exact⟨rfl,HB2.o⟩
 |true=>
 cases bA with
 |true=>
  go_wp2_with fail;go_ret;exact⟨rfl,HB2.o⟩
 |false=>
 go_wp2_with fail;go_at_call 120;refine(Gn h p B bn bc vs _ HI2.o hbn HBK.o).mono ?_;rintro e w3 ⟨rfl,hb3⟩;have HB3:=Hd (Ad HB2.o hb3);clear hb3 x0 x1 x2 x3 x4 x5;go_wp2_with fail;go_ret;exact⟨rfl,HB3.o⟩
theorem Afa(k n:Int)(u:Nat)(s:List UInt8)(A:Option Addr)(an ac:Nat)(B:Option Addr)(bn bc:Nat)(vs:List Nv)(p:Int)(w:World)(hI:Fh w B bn vs)(hbn:bn≤1099511627776)(h1:1≤k)(h17:k≤17)(hU:Kt k=2)(hp:As k=p)
  (e2:(k==2)=false) (e17:(k==17)=false) (e15:(k==15)=false) (e16:(k==16)=false):
  Calls Tryz.prog 74 #[.agg #[Aa Ab k,Aa Ab n,Aa Ac (u:Int),.string ⟨s.toArray⟩,.slice A an ac,.slice B bn bc]] w fun e w'=>e= .returned (.bool (if(n != 0)=true then false else if(s== [])=false then false else if decide (0<an)=true then false else !(vs.any fun v=>Fe p v.k)))∧Below w.heap.size w w':=by
 have HB:=Hd (show Below w.heap.size w (w.alloc (.cells #[Aa Ab k,Aa Ab n,Aa Ac (u:Int),.string ⟨s.toArray⟩,.slice A an ac,.slice B bn bc] 26)) from(Below.refl _ _).alloc (Ath _) _);have HX:=Hd (Af.new w 26 #[Aa Ab k,Aa Ab n,Aa Ac (u:Int),.string ⟨s.toArray⟩,.slice A an ac,.slice B bn bc]);have HI:=Hd hI;have HU:=Hd hU;have HP:=Hd hp;have HK:=Hd (And.intro h1 h17);have d1:decide (k<1)=false:=decide_eq_false (by omega);have d17:decide (17<k)=false:=decide_eq_false (by omega);clear hI hU hp h1 h17;go_enter Tryz.func74,Tryz.ntmps74;go_upto_region 3 with fail
 have hBI:=HI.o.alloc (.cells #[Aa Ab k,Aa Ab n,Aa Ac (u:Int),.string ⟨s.toArray⟩,.slice A an ac,.slice B bn bc] 26);replace HI:=Hd hBI;clear hBI d1 d17;generalize w.alloc (.cells #[Aa Ab k,Aa Ab n,Aa Ac (u:Int),.string ⟨s.toArray⟩,.slice A an ac,.slice B bn bc] 26)=w1 at HB HX HI⊢;generalize w.heap.size=g at HX⊢;have c0:w1.cell? ⟨g,0,none⟩=some (Aa Ab k):=HX.o.cell 0;have hne:=Nat.ne_of_lt (Ar c0);simp only at hne;go_cut [3,4] (fun u3 u4 wx=>∃wy,wy=wx∧u3= Aa Ab 2∧(∃h,u4= .pointer (some ⟨h,0,none⟩)∧Af wx h 3 #[Aa Ab p])∧Below w1.heap.size w1 wx)
 case first=>
  have eU:(0:Int)=0:=rfl;go_region_held3 (fun w'=>w'.cell? ⟨g,0,none⟩=some (Aa Ab k)) (first|with_reducible exact c0|with_reducible exact Ae c0|with_reducible exact Df _ c0|with_reducible exact Ae (Al _ c0)|with_reducible exact Df _ (Al _ c0)) (first|(go_at_call 117;(with_reducible refine(Hm k 2 _ HK.o.1 HK.o.2 HU.o).mono ?_);rintro e w' ⟨rfl,rfl⟩)|(go_at_call 118;(with_reducible refine(J1 k p _ HK.o.1 HK.o.2 HP.o).mono ?_);rintro e w' ⟨rfl,rfl⟩))
  all_goals
   go_wp2_with fail;go_meet;exact⟨_,rfl,rfl,⟨_,rfl,(Af.new _ _ _).drew⟩,((Below.refl _ _).alloc (Ath _) _).drew⟩
 case rest=>
 obtain⟨w2,rfl,rfl,⟨h,rfl,hbk⟩,hb⟩:=hcut;have HX2:=Hd (HX.o.pure hb);have HI2:=Hd (HI.o.pure hb);have HB2:=Hd (Ad HB.o hb);have HBK:=Hd hbk;obtain ⟨x0,x1,x2,x3,x4,x5⟩:=HX2.o.c6;have hs0:(s== [])=decide (s=[]):=by cases s <;>rfl
 obtain⟨bN,hbN⟩:∃b,(n != 0)=b:=⟨_,rfl⟩;obtain⟨bU,hbU⟩:∃b,((u:Int) != 0)=b:=⟨_,rfl⟩;obtain⟨bS,hbS⟩:∃b,(s== [])=b:=⟨_,rfl⟩;obtain⟨bA,hbA⟩:∃b,decide (0<an)=b:=⟨_,rfl⟩;have hbA2:decide ((0:Int)<(an:Int))=bA:=by rw [←hbA];exact decide_eq_decide.2 (by omega)
 clear hb hbk c0 hne hs0;cases bN with
 |true=>
  go_wp2_with fail;go_ret;exact⟨rfl,HB2.o⟩
 |false=>
 cases bS with
 |false=>
  go_wp2_with fail;go_ret;exact⟨rfl,HB2.o⟩
 |true=>
 cases bA with
 |true=>
  go_wp2_with fail;go_ret;exact⟨rfl,HB2.o⟩
 |false=>
 go_wp2_with fail;go_at_call 120;refine(Gn h p B bn bc vs _ HI2.o hbn HBK.o).mono ?_;rintro e w3 ⟨rfl,hb3⟩;have HB3:=Hd (Ad HB2.o hb3);clear hb3 x0 x1 x2 x3 x4 x5;go_wp2_with fail;go_ret;exact⟨rfl,HB3.o⟩
theorem Ws(k n:Int)(u:Nat)(s:List UInt8)(A:Option Addr)(an ac:Nat)(B:Option Addr)(bn bc:Nat)(vs:List Nv)(p:Int)(w:World)(hI:Fh w B bn vs)(hbn:bn≤1099511627776)(h1:1≤k)(h17:k≤17)(hU:Kt k=4)(hp:As k=p)
  (e2:(k==2)=false) (e17:(k==17)=false) (e15:(k==15)=false) (e16:(k==16)=false):
  Calls Tryz.prog 74 #[.agg #[Aa Ab k,Aa Ab n,Aa Ac (u:Int),.string ⟨s.toArray⟩,.slice A an ac,.slice B bn bc]] w fun e w'=>e= .returned (.bool (if(n != 0)=true then false else if((u:Int) != 0)=true then false else if decide (0<an)=true then false else !(vs.any fun v=>Fe p v.k)))∧Below w.heap.size w w':=by
 have HB:=Hd (show Below w.heap.size w (w.alloc (.cells #[Aa Ab k,Aa Ab n,Aa Ac (u:Int),.string ⟨s.toArray⟩,.slice A an ac,.slice B bn bc] 26)) from(Below.refl _ _).alloc (Ath _) _);have HX:=Hd (Af.new w 26 #[Aa Ab k,Aa Ab n,Aa Ac (u:Int),.string ⟨s.toArray⟩,.slice A an ac,.slice B bn bc]);have HI:=Hd hI;have HU:=Hd hU;have HP:=Hd hp;have HK:=Hd (And.intro h1 h17);have d1:decide (k<1)=false:=decide_eq_false (by omega);have d17:decide (17<k)=false:=decide_eq_false (by omega);clear hI hU hp h1 h17;go_enter Tryz.func74,Tryz.ntmps74;go_upto_region 3 with fail
 have hBI:=HI.o.alloc (.cells #[Aa Ab k,Aa Ab n,Aa Ac (u:Int),.string ⟨s.toArray⟩,.slice A an ac,.slice B bn bc] 26);replace HI:=Hd hBI;clear hBI d1 d17;generalize w.alloc (.cells #[Aa Ab k,Aa Ab n,Aa Ac (u:Int),.string ⟨s.toArray⟩,.slice A an ac,.slice B bn bc] 26)=w1 at HB HX HI⊢;generalize w.heap.size=g at HX⊢;have c0:w1.cell? ⟨g,0,none⟩=some (Aa Ab k):=HX.o.cell 0;have hne:=Nat.ne_of_lt (Ar c0);simp only at hne;go_cut [3,4] (fun u3 u4 wx=>∃wy,wy=wx∧u3= Aa Ab 4∧(∃h,u4= .pointer (some ⟨h,0,none⟩)∧Af wx h 3 #[Aa Ab p])∧Below w1.heap.size w1 wx)
 case first=>
  have eU:(0:Int)=0:=rfl;go_region_held3 (fun w'=>w'.cell? ⟨g,0,none⟩=some (Aa Ab k)) (first|with_reducible exact c0|with_reducible exact Ae c0|with_reducible exact Df _ c0|with_reducible exact Ae (Al _ c0)|with_reducible exact Df _ (Al _ c0)) (first|(go_at_call 117;(with_reducible refine(Hm k 4 _ HK.o.1 HK.o.2 HU.o).mono ?_);rintro e w' ⟨rfl,rfl⟩)|(go_at_call 118;(with_reducible refine(J1 k p _ HK.o.1 HK.o.2 HP.o).mono ?_);rintro e w' ⟨rfl,rfl⟩))
  all_goals
   go_wp2_with fail;go_meet;exact⟨_,rfl,rfl,⟨_,rfl,(Af.new _ _ _).drew⟩,((Below.refl _ _).alloc (Ath _) _).drew⟩
 case rest=>
 obtain⟨w2,rfl,rfl,⟨h,rfl,hbk⟩,hb⟩:=hcut;have HX2:=Hd (HX.o.pure hb);have HI2:=Hd (HI.o.pure hb);have HB2:=Hd (Ad HB.o hb);have HBK:=Hd hbk;obtain ⟨x0,x1,x2,x3,x4,x5⟩:=HX2.o.c6;have hs0:(s== [])=decide (s=[]):=by cases s <;>rfl
 obtain⟨bN,hbN⟩:∃b,(n != 0)=b:=⟨_,rfl⟩;obtain⟨bU,hbU⟩:∃b,((u:Int) != 0)=b:=⟨_,rfl⟩;obtain⟨bS,hbS⟩:∃b,(s== [])=b:=⟨_,rfl⟩;obtain⟨bA,hbA⟩:∃b,decide (0<an)=b:=⟨_,rfl⟩;have hbA2:decide ((0:Int)<(an:Int))=bA:=by rw [←hbA];exact decide_eq_decide.2 (by omega)
 clear hb hbk c0 hne hs0;cases bN with
 |true=>
  go_wp2_with fail;go_ret;exact⟨rfl,HB2.o⟩
 |false=>
 cases bU with
 |true=>
  go_wp2_with fail;go_ret;exact⟨rfl,HB2.o⟩
 |false=>
 cases bA with
 |true=>
  go_wp2_with fail;go_ret;exact⟨rfl,HB2.o⟩
 |false=>
 go_wp2_with fail;go_at_call 120;refine(Gn h p B bn bc vs _ HI2.o hbn HBK.o).mono ?_;rintro e w3 ⟨rfl,hb3⟩;have HB3:=Hd (Ad HB2.o hb3);clear hb3 x0 x1 x2 x3 x4 x5;go_wp2_with fail;go_ret;exact⟨rfl,HB3.o⟩
theorem Aqm(k n:Int)(u:Nat)(s:List UInt8)(A:Option Addr)(an ac:Nat)(B:Option Addr)(bn bc:Nat)(vs:List Nv)(p:Int)(w:World)(hI:Fh w B bn vs)(hbn:bn≤1099511627776)(h1:1≤k)(h17:k≤17)(hU:Kt k=8)(hp:As k=p)
  (e2:(k==2)=false) (e17:(k==17)=true) (e15:(k==15)=false) (e16:(k==16)=false):
  Calls Tryz.prog 74 #[.agg #[Aa Ab k,Aa Ab n,Aa Ac (u:Int),.string ⟨s.toArray⟩,.slice A an ac,.slice B bn bc]] w fun e w'=>e= .returned (.bool (if(n != 0)=true then false else if((u:Int) != 0)=true then false else if(s== [])=false then false else if decide (an=bn)=false then false else !(vs.any fun v=>Fe p v.k)))∧Below w.heap.size w w':=by
 have HB:=Hd (show Below w.heap.size w (w.alloc (.cells #[Aa Ab k,Aa Ab n,Aa Ac (u:Int),.string ⟨s.toArray⟩,.slice A an ac,.slice B bn bc] 26)) from(Below.refl _ _).alloc (Ath _) _);have HX:=Hd (Af.new w 26 #[Aa Ab k,Aa Ab n,Aa Ac (u:Int),.string ⟨s.toArray⟩,.slice A an ac,.slice B bn bc]);have HI:=Hd hI;have HU:=Hd hU;have HP:=Hd hp;have HK:=Hd (And.intro h1 h17);have d1:decide (k<1)=false:=decide_eq_false (by omega);have d17:decide (17<k)=false:=decide_eq_false (by omega);clear hI hU hp h1 h17;go_enter Tryz.func74,Tryz.ntmps74;go_upto_region 3 with fail
 have hBI:=HI.o.alloc (.cells #[Aa Ab k,Aa Ab n,Aa Ac (u:Int),.string ⟨s.toArray⟩,.slice A an ac,.slice B bn bc] 26);replace HI:=Hd hBI;clear hBI d1 d17;generalize w.alloc (.cells #[Aa Ab k,Aa Ab n,Aa Ac (u:Int),.string ⟨s.toArray⟩,.slice A an ac,.slice B bn bc] 26)=w1 at HB HX HI⊢;generalize w.heap.size=g at HX⊢;have c0:w1.cell? ⟨g,0,none⟩=some (Aa Ab k):=HX.o.cell 0;have hne:=Nat.ne_of_lt (Ar c0);simp only at hne;go_cut [3,4] (fun u3 u4 wx=>∃wy,wy=wx∧u3= Aa Ab 8∧(∃h,u4= .pointer (some ⟨h,0,none⟩)∧Af wx h 3 #[Aa Ab p])∧Below w1.heap.size w1 wx)
 case first=>
  have eU:(0:Int)=0:=rfl;go_region_held3 (fun w'=>w'.cell? ⟨g,0,none⟩=some (Aa Ab k)) (first|with_reducible exact c0|with_reducible exact Ae c0|with_reducible exact Df _ c0|with_reducible exact Ae (Al _ c0)|with_reducible exact Df _ (Al _ c0)) (first|(go_at_call 117;(with_reducible refine(Hm k 8 _ HK.o.1 HK.o.2 HU.o).mono ?_);rintro e w' ⟨rfl,rfl⟩)|(go_at_call 118;(with_reducible refine(J1 k p _ HK.o.1 HK.o.2 HP.o).mono ?_);rintro e w' ⟨rfl,rfl⟩))
  all_goals
   go_wp2_with fail;go_meet;exact⟨_,rfl,rfl,⟨_,rfl,(Af.new _ _ _).drew⟩,((Below.refl _ _).alloc (Ath _) _).drew⟩
 case rest=>
 obtain⟨w2,rfl,rfl,⟨h,rfl,hbk⟩,hb⟩:=hcut;have HX2:=Hd (HX.o.pure hb);have HI2:=Hd (HI.o.pure hb);have HB2:=Hd (Ad HB.o hb);have HBK:=Hd hbk;obtain ⟨x0,x1,x2,x3,x4,x5⟩:=HX2.o.c6;have hs0:(s== [])=decide (s=[]):=by cases s <;>rfl
 obtain⟨bN,hbN⟩:∃b,(n != 0)=b:=⟨_,rfl⟩;obtain⟨bU,hbU⟩:∃b,((u:Int) != 0)=b:=⟨_,rfl⟩;obtain⟨bS,hbS⟩:∃b,(s== [])=b:=⟨_,rfl⟩;obtain⟨bA,hbA⟩:∃b,decide (0<an)=b:=⟨_,rfl⟩;have hbA2:decide ((0:Int)<(an:Int))=bA:=by rw [←hbA];exact decide_eq_decide.2 (by omega)
 clear hb hbk c0 hne hs0;obtain⟨bE,hbE⟩:∃b,decide (an=bn)=b:=⟨_,rfl⟩;have hbE2:((an:Int) != (bn:Int))=!bE:=by
  rw [←hbE,Bool.eq_iff_iff];simp only [bne_iff_ne,ne_eq,Bool.not_eq_true',decide_eq_false_iff_not];omega
 have hbE3:((an:Int)==(bn:Int))=bE:=by
  rw [←hbE,Bool.eq_iff_iff];simp only [beq_iff_eq,decide_eq_true_eq];omega
 cases bN with
 |true=>
  go_wp2_with fail;go_ret;exact⟨rfl,HB2.o⟩
 |false=>
 cases bU with
 |true=>
  go_wp2_with fail;go_ret;exact⟨rfl,HB2.o⟩
 |false=>
 cases bS with
 |false=>
  go_wp2_with fail;go_ret;exact⟨rfl,HB2.o⟩
 |true=>
 cases bE with
 |false=>
  go_wp2_with fail;go_ret;exact⟨rfl,HB2.o⟩
 |true=>
  go_wp2_with fail;go_at_call 120;refine(Gn h p B bn bc vs _ HI2.o hbn HBK.o).mono ?_;rintro e w3 ⟨rfl,hb3⟩;have HB3:=Hd (Ad HB2.o hb3);clear hb3 x0 x1 x2 x3 x4 x5;go_wp2_with fail;go_ret;exact⟨rfl,HB3.o⟩
theorem Anx(k n:Int)(u:Nat)(s:List UInt8)(A:Option Addr)(an ac:Nat)(B:Option Addr)(bn bc:Nat)(vs:List Nv)(p:Int)(w:World)(hI:Fh w B bn vs)(hbn:bn≤1099511627776)(h1:1≤k)(h17:k≤17)(hU:Kt k=0)(hp:As k=p)
  (e2:(k==2)=false) (e17:(k==17)=false) (e15:(k==15)=true) (_e16:(k==16)=false):
  Calls Tryz.prog 74 #[.agg #[Aa Ab k,Aa Ab n,Aa Ac (u:Int),.string ⟨s.toArray⟩,.slice A an ac,.slice B bn bc]] w fun e w'=>e= .returned (.bool (if(n != 0)=true then false else if((u:Int) != 0)=true then false else if(s== [])=false then false else if decide (0<an)=true then false else if decide (bn<2)=true then false else if decide (4<bn)=true then false else !(vs.any fun v=>Fe p v.k)))∧Below w.heap.size w w':=by
 have HB:=Hd (show Below w.heap.size w (w.alloc (.cells #[Aa Ab k,Aa Ab n,Aa Ac (u:Int),.string ⟨s.toArray⟩,.slice A an ac,.slice B bn bc] 26)) from(Below.refl _ _).alloc (Ath _) _);have HX:=Hd (Af.new w 26 #[Aa Ab k,Aa Ab n,Aa Ac (u:Int),.string ⟨s.toArray⟩,.slice A an ac,.slice B bn bc]);have HI:=Hd hI;have HU:=Hd hU;have HP:=Hd hp;have HK:=Hd (And.intro h1 h17);have d1:decide (k<1)=false:=decide_eq_false (by omega);have d17:decide (17<k)=false:=decide_eq_false (by omega);clear hI hU hp h1 h17;go_enter Tryz.func74,Tryz.ntmps74;go_upto_region 3 with fail
 have hBI:=HI.o.alloc (.cells #[Aa Ab k,Aa Ab n,Aa Ac (u:Int),.string ⟨s.toArray⟩,.slice A an ac,.slice B bn bc] 26);replace HI:=Hd hBI;clear hBI d1 d17;generalize w.alloc (.cells #[Aa Ab k,Aa Ab n,Aa Ac (u:Int),.string ⟨s.toArray⟩,.slice A an ac,.slice B bn bc] 26)=w1 at HB HX HI⊢;generalize w.heap.size=g at HX⊢;have c0:w1.cell? ⟨g,0,none⟩=some (Aa Ab k):=HX.o.cell 0;have hne:=Nat.ne_of_lt (Ar c0);simp only at hne;go_cut [3,4] (fun u3 u4 wx=>∃wy,wy=wx∧u3= Aa Ab 0∧(∃h,u4= .pointer (some ⟨h,0,none⟩)∧Af wx h 3 #[Aa Ab p])∧Below w1.heap.size w1 wx)
 case first=>
  have eU:(0:Int)=0:=rfl;go_region_held3 (fun w'=>w'.cell? ⟨g,0,none⟩=some (Aa Ab k)) (first|with_reducible exact c0|with_reducible exact Ae c0|with_reducible exact Df _ c0|with_reducible exact Ae (Al _ c0)|with_reducible exact Df _ (Al _ c0)) (first|(go_at_call 117;(with_reducible refine(Hm k 0 _ HK.o.1 HK.o.2 HU.o).mono ?_);rintro e w' ⟨rfl,rfl⟩)|(go_at_call 118;(with_reducible refine(J1 k p _ HK.o.1 HK.o.2 HP.o).mono ?_);rintro e w' ⟨rfl,rfl⟩))
  all_goals
   go_wp2_with fail;go_meet;exact⟨_,rfl,rfl,⟨_,rfl,(Af.new _ _ _).drew⟩,((Below.refl _ _).alloc (Ath _) _).drew⟩
 case rest=>
 obtain⟨w2,rfl,rfl,⟨h,rfl,hbk⟩,hb⟩:=hcut;have HX2:=Hd (HX.o.pure hb);have HI2:=Hd (HI.o.pure hb);have HB2:=Hd (Ad HB.o hb);have HBK:=Hd hbk;obtain ⟨x0,x1,x2,x3,x4,x5⟩:=HX2.o.c6;have hs0:(s== [])=decide (s=[]):=by cases s <;>rfl
 obtain⟨bN,hbN⟩:∃b,(n != 0)=b:=⟨_,rfl⟩;obtain⟨bU,hbU⟩:∃b,((u:Int) != 0)=b:=⟨_,rfl⟩;obtain⟨bS,hbS⟩:∃b,(s== [])=b:=⟨_,rfl⟩;obtain⟨bA,hbA⟩:∃b,decide (0<an)=b:=⟨_,rfl⟩;have hbA2:decide ((0:Int)<(an:Int))=bA:=by rw [←hbA];exact decide_eq_decide.2 (by omega)
 clear hb hbk c0 hne hs0;obtain⟨bl,hbl⟩:∃b,decide (bn<2)=b:=⟨_,rfl⟩;obtain⟨bg,hbg⟩:∃b,decide (4<bn)=b:=⟨_,rfl⟩;have hbl2:decide ((bn:Int)<2)=bl:=by rw [←hbl];exact decide_eq_decide.2 (by omega)
 have hbg2:decide (4<(bn:Int))=bg:=by rw [←hbg];exact decide_eq_decide.2 (by omega)
 cases bN with
 |true=>
  go_wp2_with fail;go_ret;exact⟨rfl,HB2.o⟩
 |false=>
 cases bU with
 |true=>
  go_wp2_with fail;go_ret;exact⟨rfl,HB2.o⟩
 |false=>
 cases bS with
 |false=>
  go_wp2_with fail;go_ret;exact⟨rfl,HB2.o⟩
 |true=>
 cases bA with
 |true=>
  go_wp2_with fail;go_ret;exact⟨rfl,HB2.o⟩
 |false=>
 cases bl with
 |true=>
  go_wp2_with fail;go_ret;exact⟨rfl,HB2.o⟩
 |false=>
 cases bg with
 |true=>
  go_wp2_with fail;go_ret;exact⟨rfl,HB2.o⟩
 |false=>
  go_wp2_with fail;go_at_call 120;refine(Gn h p B bn bc vs _ HI2.o hbn HBK.o).mono ?_;rintro e w3 ⟨rfl,hb3⟩;have HB3:=Hd (Ad HB2.o hb3);clear hb3 x0 x1 x2 x3 x4 x5;go_wp2_with fail;go_ret;exact⟨rfl,HB3.o⟩
theorem Anz(k n:Int)(u:Nat)(s:List UInt8)(A:Option Addr)(an ac:Nat)(B:Option Addr)(bn bc:Nat)(vs:List Nv)(p:Int)(w:World)(hI:Fh w B bn vs)(hbn:bn≤1099511627776)(h1:1≤k)(h17:k≤17)(hU:Kt k=0)(hp:As k=p)
  (e2:(k==2)=false) (e17:(k==17)=false) (e15:(k==15)=false) (e16:(k==16)=true):
  Calls Tryz.prog 74 #[.agg #[Aa Ab k,Aa Ab n,Aa Ac (u:Int),.string ⟨s.toArray⟩,.slice A an ac,.slice B bn bc]] w fun e w'=>e= .returned (.bool (if(n != 0)=true then false else if((u:Int) != 0)=true then false else if(s== [])=false then false else if decide (0<an)=true then false else if decide (bn<2)=true then false else if decide (4<bn)=true then false else !(vs.any fun v=>Fe p v.k)))∧Below w.heap.size w w':=by
 have HB:=Hd (show Below w.heap.size w (w.alloc (.cells #[Aa Ab k,Aa Ab n,Aa Ac (u:Int),.string ⟨s.toArray⟩,.slice A an ac,.slice B bn bc] 26)) from(Below.refl _ _).alloc (Ath _) _);have HX:=Hd (Af.new w 26 #[Aa Ab k,Aa Ab n,Aa Ac (u:Int),.string ⟨s.toArray⟩,.slice A an ac,.slice B bn bc]);have HI:=Hd hI;have HU:=Hd hU;have HP:=Hd hp;have HK:=Hd (And.intro h1 h17);have d1:decide (k<1)=false:=decide_eq_false (by omega);have d17:decide (17<k)=false:=decide_eq_false (by omega);clear hI hU hp h1 h17;go_enter Tryz.func74,Tryz.ntmps74;go_upto_region 3 with fail
 have hBI:=HI.o.alloc (.cells #[Aa Ab k,Aa Ab n,Aa Ac (u:Int),.string ⟨s.toArray⟩,.slice A an ac,.slice B bn bc] 26);replace HI:=Hd hBI;clear hBI d1 d17;generalize w.alloc (.cells #[Aa Ab k,Aa Ab n,Aa Ac (u:Int),.string ⟨s.toArray⟩,.slice A an ac,.slice B bn bc] 26)=w1 at HB HX HI⊢;generalize w.heap.size=g at HX⊢;have c0:w1.cell? ⟨g,0,none⟩=some (Aa Ab k):=HX.o.cell 0;have hne:=Nat.ne_of_lt (Ar c0);simp only at hne;go_cut [3,4] (fun u3 u4 wx=>∃wy,wy=wx∧u3= Aa Ab 0∧(∃h,u4= .pointer (some ⟨h,0,none⟩)∧Af wx h 3 #[Aa Ab p])∧Below w1.heap.size w1 wx)
 case first=>
  have eU:(0:Int)=0:=rfl;go_region_held3 (fun w'=>w'.cell? ⟨g,0,none⟩=some (Aa Ab k)) (first|with_reducible exact c0|with_reducible exact Ae c0|with_reducible exact Df _ c0|with_reducible exact Ae (Al _ c0)|with_reducible exact Df _ (Al _ c0)) (first|(go_at_call 117;(with_reducible refine(Hm k 0 _ HK.o.1 HK.o.2 HU.o).mono ?_);rintro e w' ⟨rfl,rfl⟩)|(go_at_call 118;(with_reducible refine(J1 k p _ HK.o.1 HK.o.2 HP.o).mono ?_);rintro e w' ⟨rfl,rfl⟩))
  all_goals
   go_wp2_with fail;go_meet;exact⟨_,rfl,rfl,⟨_,rfl,(Af.new _ _ _).drew⟩,((Below.refl _ _).alloc (Ath _) _).drew⟩
 case rest=>
 obtain⟨w2,rfl,rfl,⟨h,rfl,hbk⟩,hb⟩:=hcut;have HX2:=Hd (HX.o.pure hb);have HI2:=Hd (HI.o.pure hb);have HB2:=Hd (Ad HB.o hb);have HBK:=Hd hbk;obtain ⟨x0,x1,x2,x3,x4,x5⟩:=HX2.o.c6;have hs0:(s== [])=decide (s=[]):=by cases s <;>rfl
 obtain⟨bN,hbN⟩:∃b,(n != 0)=b:=⟨_,rfl⟩;obtain⟨bU,hbU⟩:∃b,((u:Int) != 0)=b:=⟨_,rfl⟩;obtain⟨bS,hbS⟩:∃b,(s== [])=b:=⟨_,rfl⟩;obtain⟨bA,hbA⟩:∃b,decide (0<an)=b:=⟨_,rfl⟩;have hbA2:decide ((0:Int)<(an:Int))=bA:=by rw [←hbA];exact decide_eq_decide.2 (by omega)
 clear hb hbk c0 hne hs0;obtain⟨bl,hbl⟩:∃b,decide (bn<2)=b:=⟨_,rfl⟩;obtain⟨bg,hbg⟩:∃b,decide (4<bn)=b:=⟨_,rfl⟩;have hbl2:decide ((bn:Int)<2)=bl:=by rw [←hbl];exact decide_eq_decide.2 (by omega)
 have hbg2:decide (4<(bn:Int))=bg:=by rw [←hbg];exact decide_eq_decide.2 (by omega)
 cases bN with
 |true=>
  go_wp2_with fail;go_ret;exact⟨rfl,HB2.o⟩
 |false=>
 cases bU with
 |true=>
  go_wp2_with fail;go_ret;exact⟨rfl,HB2.o⟩
 |false=>
 cases bS with
 |false=>
  go_wp2_with fail;go_ret;exact⟨rfl,HB2.o⟩
 |true=>
 cases bA with
 |true=>
  go_wp2_with fail;go_ret;exact⟨rfl,HB2.o⟩
 |false=>
 cases bl with
 |true=>
  go_wp2_with fail;go_ret;exact⟨rfl,HB2.o⟩
 |false=>
 cases bg with
 |true=>
  go_wp2_with fail;go_ret;exact⟨rfl,HB2.o⟩
 |false=>
  go_wp2_with fail;go_at_call 120;refine(Gn h p B bn bc vs _ HI2.o hbn HBK.o).mono ?_;rintro e w3 ⟨rfl,hb3⟩;have HB3:=Hd (Ad HB2.o hb3);clear hb3 x0 x1 x2 x3 x4 x5;go_wp2_with fail;go_ret;exact⟨rfl,HB3.o⟩
end Go.Proofs.YtgbjodnegkbfoaaGreat
