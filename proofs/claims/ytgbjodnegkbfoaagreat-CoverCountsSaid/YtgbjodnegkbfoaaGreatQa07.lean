/- Parts of the proof. -/
import Derived.Test.YtgbjodnegkbfoaaGreatQa06
import Derived.Laws.EntriesVeiled
import Derived.MapKept
import Derived.Carry
set_option maxHeartbeats 1000000
set_option maxRecDepth 100000
open Go.Value renaming int→Aa
open Go.IntKind renaming i64→Ab,u64→Ac
open Nat renaming le_refl→Ath
open List renaming getElem?_eq_getElem→Ati,getD_eq_getElem?_getD→Atw
namespace Go.Proofs.YtgbjodnegkbfoaaGreat
open Go.RowKit Go.Acc
theorem Aqv(a y:Nat)(hy:0<y):((a:Int)+y-1).tdiv y*y=(upN a y:Nat):=by
 unfold upN;rw [show(a:Int)+y-1=((a+y-1:Nat):Int) by omega,Int.tdiv_eq_ediv_of_nonneg (by omega),←Int.natCast_ediv,←Int.natCast_mul]
theorem Asv(a y:Nat)(hy:0<y):a≤upN a y∧upN a y≤a+y:=by
 have h:=Nat.div_add_mod (a+y-1) y;have h2:=Nat.mod_lt (a+y-1) hy;unfold upN;rw [Nat.mul_comm] at h;constructor <;>omega
theorem Hr(v:Bv)(a i y:Nat)(r:Bool)(w:World)(hy:Av (y:Int)=true)(ha:a≤1048576)(hi:i≤1048576)(hr:Cu v a i y=r):
  Calls Tryz.prog 255 #[.agg #[Aa Ab (v.t:Int),Aa Ab (v.w:Int),Aa Ac (v.n:Int)],Aa Ab (a:Int),Aa Ab (i:Int),Aa Ab (y:Int)] w fun e w'=>e= .returned (.bool r)∧Below w.heap.size w w':=by
 have hB:=(Below.refl w.heap.size w).alloc (Ath _) (.cells #[Aa Ab (v.t:Int),Aa Ab (v.w:Int),Aa Ac (v.n:Int)] 210);have HB:=Hd hB;have hy8:1≤y∧y≤8:=by have:=C8 hy;omega
 clear hB hy;have hX:=Af.new w 210 #[Aa Ab (v.t:Int),Aa Ab (v.w:Int),Aa Ac (v.n:Int)];cases hin:inl v.t with
 |true=>
  have HI:=Hd (show An (v.t:Int)=true from hin);have HR:=Hd (show decide (v.w≤y)=r by rw [←hr];unfold Cu;rw [if_pos hin]);clear hr hin;have HX:=Hd hX;clear hX;go_enter Tryz.func255,Tryz.ntmps255;go_wp2_with fail;go_at_call 90;refine(Ce (v.t:Int) _).mono ?_;rw [HI.o];rintro e w' ⟨rfl,hb⟩;have HK:=Hd (HX.o.pure hb);have x1:w'.cell? ⟨w.heap.size,1,none⟩=some (Aa Ab (v.w:Int)):=HK.o.cell 1;have HB2:=Hd (Ad HB.o hb);clear hb;go_wp2_with fail;go_ret;exact⟨C0 HR.o,HB2.o⟩
 |false=>
  have HI:=Hd (show An (v.t:Int)=false from hin);have hne:¬inl v.t=true:=by rw [hin];decide
  have hr':decide (v.n≤a∧bWidth (upN a y+i*y-v.n)≤y)=r:=by rw [←hr];unfold Cu;rw [if_neg hne]
  have HX:=Hd hX;clear hr hin hne hX;by_cases hna:v.n≤a
  ·obtain⟨hu1,hu2⟩:=Asv a y (by omega);have hiy:i*y≤1048576*8:=Nat.mul_le_mul hi hy8.2;obtain⟨u,hu⟩:∃u,upN a y=u:=⟨_,rfl⟩;obtain⟨q,hq⟩:∃q:Nat,i*y=q:=⟨_,rfl⟩;have ht:=Aqv a y (by omega);rw [hu] at ht hu1 hu2 hr';rw [hq] at hiy hr';obtain⟨d,hd⟩:∃d,u+q-v.n=d:=⟨_,rfl⟩;rw [hd] at hr';obtain⟨p,hp⟩:∃p:Nat,((a:Int)+y-1).tdiv y=p:=⟨(a+y-1)/y,by rw [show(a:Int)+y-1=((a+y-1:Nat):Int) by omega,Int.tdiv_eq_ediv_of_nonneg (by omega)];rfl⟩;rw [hp] at ht;have hp9:p≤u:=by
    have:(p:Int)*y=((p*y:Nat):Int):=by simp
    rw [this] at ht;have h3:p*y=u:=by exact_mod_cast ht
    have:p*1≤p*y:=Nat.mul_le_mul_left p (by omega);omega
   have HR:=Hd (show decide (bWidth d≤y)=r by rw [←hr'];exact decide_eq_decide.2 ⟨fun h=>⟨hna,h⟩,fun h=>h.2⟩);have e1:IntKind.i64.wrap ((a:Int)+y)=(a:Int)+y:=IntWalk.i64_in _ (by omega);have e2:IntKind.i64.wrap ((a:Int)+y-1)=(a:Int)+y-1:=IntWalk.i64_in _ (by omega);have e3:IntKind.i64.wrap (p:Int)=p:=IntWalk.i64_in _ (by omega);have hiq:(i:Int)*(y:Int)=(q:Int):=by rw [←hq];simp
   have e4:IntKind.i64.wrap (u:Int)=u:=IntWalk.i64_in _ (by omega);have e5:IntKind.i64.wrap (q:Int)=q:=IntWalk.i64_in _ (by omega);have e6:IntKind.i64.wrap ((u:Int)+q)=(u:Int)+q:=IntWalk.i64_in _ (by omega);have e7:IntKind.u64.wrap ((u:Int)+q)=(u:Int)+q:=B8 _ (by omega);have e8:(u:Int)+q-v.n=d:=by omega
   have e9:IntKind.u64.wrap (d:Int)=d:=B8 _ (by omega);have e10:IntKind.u64.wrap (a:Int)=a:=B8 _ (by omega);have hyn:¬y=0:=by omega
   have HWD:=Hd (show Vr d=(bWidth d:Nat) from Vs d);have hd64:d<18446744073709551616:=by omega
   obtain⟨bd,hbd⟩:∃x,bWidth d=x:=⟨_,rfl⟩;rw [hbd] at HR HWD;have hgt:decide ((a:Int)<(v.n:Int))=false:=decide_eq_false (by omega);have hgt':decide (a<v.n)=false:=decide_eq_false (by omega);have HH:=Hd (And.intro hd64 hbd);clear hr' hu hq hd hd64 hbd hna hp9 hu1 hu2 hiy;go_enter Tryz.func255,Tryz.ntmps255;go_wp2_with fail;go_at_call 90;refine(Ce (v.t:Int) _).mono ?_;rw [HI.o];rintro e w' ⟨rfl,hb⟩;have HK:=Hd (HX.o.pure hb);have x2:w'.cell? ⟨w.heap.size,2,none⟩=some (Aa Ac (v.n:Int)):=HK.o.cell 2;have HB2:=Hd (Ad HB.o hb);clear hb;go_wp2_with fail;go_at_call 54;refine(Lr d bd _ HH.o.1 HWD.o).mono ?_;rintro e w1 ⟨rfl,rfl⟩;clear ht hp e1 e2 e3 hiq e4 e5 e6 e7 e8 e9 e10 hyn hgt hgt' x2;go_wp2_with fail;go_ret;exact⟨C0 HR.o,HB2.o⟩
  ·have HR:=Hd (show false=r by rw [←hr',decide_eq_false];exact fun h=>hna h.1);have hgt:decide (a<v.n)=true:=decide_eq_true (by omega);have e10:IntKind.u64.wrap (a:Int)=a:=B8 _ (by omega);clear hr' hna;go_enter Tryz.func255,Tryz.ntmps255;go_wp2_with fail;go_at_call 90;refine(Ce (v.t:Int) _).mono ?_;rw [HI.o];rintro e w' ⟨rfl,hb⟩;have HK:=Hd (HX.o.pure hb);have x2:w'.cell? ⟨w.heap.size,2,none⟩=some (Aa Ac (v.n:Int)):=HK.o.cell 2;have HB2:=Hd (Ad HB.o hb);clear hb;go_wp2_with fail;go_ret;exact⟨C0 HR.o,HB2.o⟩
theorem Aeq(y:Fin 4):Av ((2^y.val:Nat):Int)=true:=by
 have h:∀y:Fin 4,Av ((2^y.val:Nat):Int)=true:=by decide
 exact h y
theorem Akh(v:Bv)(a i y bv ba bi:Nat)(w:World)(hv:Af w bv 210 #[Aa Ab (v.t:Int),Aa Ab (v.w:Int),Aa Ac (v.n:Int)])(ha:Af w ba 3 #[Aa Ab (a:Int)])(hi:Af w bi 3 #[Aa Ab (i:Int)])
  (hy:Av (y:Int)=true) (ha2:a≤1048576) (hi2:i≤1048576):
  Calls Tryz.prog 254 #[Aa Ab (y:Int),.pointer (some ⟨bv,0,none⟩),.pointer (some ⟨ba,0,none⟩),.pointer (some ⟨bi,0,none⟩)] w fun e w'=>e= .returned (.bool (Cu v a i y))∧Below w.heap.size w w':=by
 obtain⟨r,hr⟩:∃r,Cu v a i y=r:=⟨_,rfl⟩;rw [hr];have HF:=Hd (Hr v a i y r w hy ha2 hi2 hr);obtain ⟨v0,v1,v2⟩:=hv.c3;have a0:w.cell? ⟨ba,0,none⟩=some (Aa Ab (a:Int)):=ha.cell 0;have i0:w.cell? ⟨bi,0,none⟩=some (Aa Ab (i:Int)):=hi.cell 0;clear hv ha hi hy ha2 hi2 hr;go_enter Tryz.func254,Tryz.ntmps254;go_wp2_with fail;go_at_call 255;refine HF.o.mono ?_;rintro e w' ⟨rfl,hb⟩;have HB:=Hd hb;clear hb v0 v1 v2 a0 i0;go_wp2_with fail;go_ret;exact⟨rfl,HB.o⟩
theorem Am5(v:Bv)(a i:Nat)(w:World)(ha2:a≤1048576)(hi2:i≤1048576):
  Calls Tryz.prog 158 #[.agg #[Aa Ab (v.t:Int),Aa Ab (v.w:Int),Aa Ac (v.n:Int)],Aa Ab (a:Int),Aa Ab (i:Int)] w fun e w'=>e= .returned (Aa Ab (leastW (Cu v a i):Nat))∧Below w.heap.size w w':=by
 have HB:=Hd (show Below w.heap.size w (((w.alloc (.cells #[Aa Ab (v.t:Int),Aa Ab (v.w:Int),Aa Ac (v.n:Int)] 210)).alloc (.cells #[Aa Ab (a:Int)] 3)).alloc (.cells #[Aa Ab (i:Int)] 3)) from(((Below.refl _ _).alloc (Ath _) _).alloc (by simp) _).alloc (by simp;omega) _);have HX:=Hd (((Af.new w 210 #[Aa Ab (v.t:Int),Aa Ab (v.w:Int),Aa Ac (v.n:Int)]).alloc (.cells #[Aa Ab (a:Int)] 3)).alloc (.cells #[Aa Ab (i:Int)] 3));have HY:=Hd ((B5 w (.cells #[Aa Ab (v.t:Int),Aa Ab (v.w:Int),Aa Ac (v.n:Int)] 210) 3 #[Aa Ab (a:Int)]).alloc (.cells #[Aa Ab (i:Int)] 3));have HZ:=Hd (B5 (w.alloc (.cells #[Aa Ab (v.t:Int),Aa Ab (v.w:Int),Aa Ac (v.n:Int)] 210)) (.cells #[Aa Ab (a:Int)] 3) 3 #[Aa Ab (i:Int)]);have e:(w.alloc (.cells #[Aa Ab (v.t:Int),Aa Ab (v.w:Int),Aa Ac (v.n:Int)] 210)).heap.size+1=w.heap.size+1+1:=by simp
 rw [e] at HZ;obtain⟨r,hr⟩:∃r,leastW (Cu v a i)=r:=⟨_,rfl⟩;have HRR:=Hd hr;rw [hr];have HA:=Hd (And.intro ha2 hi2);clear e hr;go_enter Tryz.func158,Tryz.ntmps158;go_wp2_with fail;go_at_call 252;refine(Ms a _ (by omega)).mono ?_;rintro e w' ⟨rfl,rfl⟩;go_wp2_with fail;go_at_call 252;refine(Ms i _ (by omega)).mono ?_;rintro e w' ⟨rfl,rfl⟩;go_wp2_with fail;go_at_call 253;generalize (((w.alloc (.cells #[Aa Ab (v.t:Int),Aa Ab (v.w:Int),Aa Ac (v.n:Int)] 210)).alloc (.cells #[Aa Ab (a:Int)] 3)).alloc (.cells #[Aa Ab (i:Int)] 3))=w1 at HB HX HY HZ⊢;generalize w.heap.size+1+1=bi at HZ⊢;generalize w.heap.size+1=ba at HY⊢;have HF:=fun(y:Fin 4) (W:World) (hW:Below w1.heap.size w1 W)=>Akh v a i (2^y.val) w.heap.size ba bi W (HX.o.pure hW) (HY.o.pure hW) (HZ.o.pure hW) (Aeq y) HA.o.1 HA.o.2
 refine(U1 254 #[.pointer (some ⟨w.heap.size,0,none⟩),.pointer (some ⟨ba,0,none⟩),.pointer (some ⟨bi,0,none⟩)] (Cu v a i) w1 Tryz.call254 HF).mono ?_;rw [HRR.o];rintro e w' ⟨rfl,hb⟩;have HB2:=Hd (Ad HB.o hb);clear hb;go_wp2_with fail;go_ret;exact⟨rfl,HB2.o⟩
def Ke(x:Int):Int:=if Av x=true then 0 else 2
def Aga(x:Int):Int:=if x=2 then 1 else if x=4 then 2 else if x=8 then 3 else 0
theorem Ii(x:Int)(w:World):Calls Tryz.prog 53 #[Aa Ab x] w fun e w'=>e= .returned (.tuple #[Aa Ab (Aga x),Aa Ab (Ke x)])∧w=w':=by
 cases hw:Av x with
 |true=>
  have hx:=Ck.1 hw;clear hw;rcases hx with rfl|rfl|rfl|rfl
  all_goals
   go_enter Tryz.func53,Tryz.ntmps53;go_wp2;refine wp_loop_rounds 5 ?_
   repeat (rw [rounds_succ];go_wp2)
   go_ret2;exact⟨rfl,rfl⟩
 |false=>
  have hx:=Ajm.1 hw;have H1:=Hd (show Aga x=0 by unfold Aga;rw [if_neg hx.2.1,if_neg hx.2.2.1,if_neg hx.2.2.2]);have H2:=Hd (show Ke x=2 by unfold Ke;rw [hw];rfl);rw [H1.o,H2.o];have e1:(x==1)=false:=beq_eq_false_iff_ne.mpr hx.1;have e2:(x==2)=false:=beq_eq_false_iff_ne.mpr hx.2.1;have e4:(x==4)=false:=beq_eq_false_iff_ne.mpr hx.2.2.1;have e8:(x==8)=false:=beq_eq_false_iff_ne.mpr hx.2.2.2;clear hx hw;go_enter Tryz.func53,Tryz.ntmps53;go_wp2;refine wp_loop_rounds 5 ?_
  repeat (rw [rounds_succ];go_wp2)
  go_ret2;exact⟨rfl,rfl⟩
theorem Z0{x:Int}(h:Av x=false):Ke x=2:=by unfold Ke;rw [h];rfl
theorem Xk{x:Int}(h:Av x=true):Ke x=0:=by unfold Ke;rw [h];rfl
theorem Mx(x:Int)(w:World):Calls Tryz.prog 87 #[Aa Ab x] w fun e w'=>e= .returned (.bool (Av x))∧w=w':=by
 cases hw:Av x with
 |true=>
  have H:=Hd (Xk hw);clear hw;go_enter Tryz.func87,Tryz.ntmps87;go_wp2_with fail;go_at_call 53;refine(Ii _ _).mono ?_;rw [H.o];rintro e w1 ⟨rfl,rfl⟩;go_wp2;go_ret;exact⟨rfl,rfl⟩
 |false=>
  have H:=Hd (Z0 hw);clear hw;go_enter Tryz.func87,Tryz.ntmps87;go_wp2_with fail;go_at_call 53;refine(Ii _ _).mono ?_;rw [H.o];rintro e w1 ⟨rfl,rfl⟩;go_wp2;go_ret;exact⟨rfl,rfl⟩
theorem Da(A:Option Addr)(n c:Nat)(a m:Int)(w:World)(hn:n≤9223372036854775807):Calls Tryz.prog 206 #[.slice A n c,Aa Ab a,Aa Ab m] w fun e w'=>e= .returned (.bool (Gs n a m))∧w=w':=by
 by_cases h1:0≤a
 ·by_cases h2:0≤m
  ·by_cases h3:a≤n
   ·have ha:(0:Int)≤(n:Int)-a:=by omega
    by_cases h4:m≤(n:Int)-a
    ·have H:=Hd (show Gs n a m=true from Dn.2 ⟨h1,h2,by omega⟩);go_enter Tryz.func206,Tryz.ntmps206;go_wp2;go_ret;exact⟨C0 H.o.symm,rfl⟩
    ·have H:=Hd (show Gs n a m=false from decide_eq_false (fun h=>h4 (by omega)));have hd:decide (m≤(n:Int)-a)=false:=decide_eq_false h4;go_enter Tryz.func206,Tryz.ntmps206;go_wp2;go_ret;exact⟨C0 H.o.symm,rfl⟩
   ·have H:=Hd (show Gs n a m=false from decide_eq_false (fun h=>h3 (by omega)));have hd:decide (a≤(n:Int))=false:=decide_eq_false h3;go_enter Tryz.func206,Tryz.ntmps206;go_wp2;go_ret;exact⟨C0 H.o.symm,rfl⟩
  ·have H:=Hd (show Gs n a m=false from decide_eq_false (fun h=>h2 (by omega)));have hd:decide (0≤m)=false:=decide_eq_false h2;go_enter Tryz.func206,Tryz.ntmps206;go_wp2;go_ret;exact⟨C0 H.o.symm,rfl⟩
 ·have H:=Hd (show Gs n a m=false from decide_eq_false (fun h=>h1 (by omega)));have hd:decide (0≤a)=false:=decide_eq_false h1;go_enter Tryz.func206,Tryz.ntmps206;go_wp2;go_ret;exact⟨C0 H.o.symm,rfl⟩
theorem Az{w:World}{g:Nat}{t:TypeId}{p q t' v:Value}(h:Af w g t #[p,q,t',v]):w.cell? ⟨g,0,none⟩=some p:=h.cell 0
theorem Ax{w:World}{g:Nat}{t:TypeId}{p q t' v:Value}(h:Af w g t #[p,q,t',v]):w.cell? ⟨g,1,none⟩=some q:=h.cell 1
theorem Aw{w:World}{g:Nat}{t:TypeId}{p q t' v:Value}(h:Af w g t #[p,q,t',v]):w.cell? ⟨g,2,none⟩=some t':=h.cell 2
theorem A6{w:World}{g:Nat}{t:TypeId}{p q t' v:Value}(h:Af w g t #[p,q,t',v]):w.cell? ⟨g,3,none⟩=some v:=h.cell 3
theorem Akb(b:Nat)(p q t v:Int)(w:World)(hK:Af w b 75 #[Aa Ab p,Aa Ab q,Aa Ab t,Aa Ab v]):Calls Tryz.prog 204 #[.pointer (some ⟨b,0,none⟩)] w fun e w'=>e= .returned (.bool (Ip q t v))∧Below w.heap.size w w':=by
 have c2:=Aw hK;have HK:=Hd hK;clear hK;cases hl:Be t with
 |false=>
  have HL:=Hd hl;have HF:=Hd (show Ip q t v=false by unfold Ip;rw [hl];rfl);rw [HF.o];clear hl;go_enter Tryz.func204,Tryz.ntmps204;go_wp2_with fail;go_at_call 111;refine(Gw t _).mono ?_;rw [HL.o];rintro e w1 ⟨rfl,hb⟩;have HB:=Hd hb;clear hb;go_wp2;go_ret;exact⟨rfl,HB.o⟩
 |true=>
  have HL:=Hd hl;have HF:=Hd (show Ip q t v=(Av q&&Av v) by unfold Ip;rw [hl];rfl);rw [HF.o];clear hl;go_enter Tryz.func204,Tryz.ntmps204;go_wp2_with fail;go_at_call 111;refine(Gw t _).mono ?_;rw [HL.o];rintro e w1 ⟨rfl,hb⟩;have HB:=Hd hb;have c1:=Ax (HK.o.pure hb);have c3:=A6 (HK.o.pure hb);clear hb;go_wp2_with fail;go_at_call 87;refine(Mx q _).mono ?_;rintro e w1 ⟨rfl,rfl⟩;cases hq:Av q with
  |false=>
   have HQ:=Hd hq;clear hq;go_wp2;go_ret;exact⟨C0 (by rw [HQ.o];rfl),HB.o⟩
  |true=>
   have HQ:=Hd hq;clear hq;go_wp2_with fail;go_at_call 87;refine(Mx v _).mono ?_;rintro e w1 ⟨rfl,rfl⟩;go_wp2;go_ret;exact⟨C0 (by rw [HQ.o];rfl),HB.o⟩
theorem Akc(a b:Nat)(A:Option Addr)(n c:Nat)(p q t v:Int)(w:World)(hn:n≤9223372036854775807)(hA:Af w a 28 #[.slice A n c])(hK:Af w b 75 #[Aa Ab p,Aa Ab q,Aa Ab t,Aa Ab v]):
  Calls Tryz.prog 205 #[.pointer (some ⟨a,0,none⟩),.pointer (some ⟨b,0,none⟩)] w fun e w'=>e= .returned (.bool (Gs n p q))∧w=w':=by
 have c0:=Az hK;have c1:=Ax hK;have a0:w.cell? ⟨a,0,none⟩=some (.slice A n c):=hA.cell 0;clear hK hA;go_enter Tryz.func205,Tryz.ntmps205;go_wp2_with fail;go_at_call 206;refine(Da A n c p q _ hn).mono ?_;rintro e w1 ⟨rfl,rfl⟩;go_wp2;go_ret;exact⟨rfl,rfl⟩
theorem M4(A:Option Addr)(n c:Nat)(p q t v:Int)(w:World)(hn:n≤9223372036854775807):Calls Tryz.prog 123 #[.slice A n c,.agg #[Aa Ab p,Aa Ab q,Aa Ab t,Aa Ab v]] w fun e w'=>e= .returned (Aa Ab (Bm n p q t v))∧Below w.heap.size w w':=by
 have HA:=Hd ((Af.new w 28 #[.slice A n c]).alloc (.cells #[Aa Ab p,Aa Ab q,Aa Ab t,Aa Ab v] 75));have HK:=Hd (Af.new_ (w:=w.alloc (.cells #[.slice A n c] 28)) (g:=w.heap.size+1) (by simp) 75 #[Aa Ab p,Aa Ab q,Aa Ab t,Aa Ab v]);have HF1:=Tryz.call204;have HF2:=Tryz.call205;go_enter Tryz.func123,Tryz.ntmps123;go_wp2;refine wp_loop_rounds 3 ?_;rw [rounds_succ];go_wp2_with fail;refine(Akb (w.heap.size+1) p q t v _ ((HK.o.alloc _).alloc _)).mono ?_;rintro e w1 ⟨rfl,hb⟩;have HL:=Hd ((Af.new_ (w:=((w.alloc (.cells #[.slice A n c] 28)).alloc (.cells #[Aa Ab p,Aa Ab q,Aa Ab t,Aa Ab v] 75))) (g:=w.heap.size+1+1) (by simp) _ _).alloc _ |>.pure hb);have HX:=Hd ((Af.new_ (g:=w.heap.size+1+1+1) (by simp) _ _).pure hb);have HA:=Hd (((HA.o.alloc _).alloc _).pure hb);have HK:=Hd (((HK.o.alloc _).alloc _).pure hb);have HB:=Hd (((((Below.refl w.heap.size w).alloc (Ath _) _).alloc (by simp) _).alloc (by simp;omega) _).alloc (by simp;omega) _ |>.trans (hb.mono (by simp;omega)));have hs:w.heap.size+1+1+1<w1.heap.size:=by have:=HX.o.lt;omega
 clear hb;cases hf:Ip q t v with
 |false=>
  have HE:=Hd (show Bm n p q t v=2 by unfold Bm;rw [hf];rfl);have x1:=(HX.o.cell 1).trans (show _=some (Aa Ab 2) from rfl);clear hf HF1 HF2;go_wp2;go_ret;exact⟨He HE.o.symm,HB.o⟩
 |true=>
  have HE:=Hd (show Bm n p q t v=if Gs n p q=true then 0 else 6 by unfold Bm;rw [hf];rfl);have l2:=HL.o.cell 2;have l3:=HL.o.cell 3;simp only [List.getElem?_toArray,List.getElem?_cons_succ,List.getElem?_cons_zero] at l2 l3;clear hf;go_wp2;rw [rounds_succ];go_wp2_with fail;refine(Akc w.heap.size (w.heap.size+1) A n c p q t v _ hn (HA.o.alloc _) (HK.o.alloc _)).mono ?_;rintro e w2 ⟨rfl,rfl⟩;clear l2 l3;cases hi:Gs n p q with
  |true=>
   have HI:=Hd hi;clear hi;go_wp2;rw [rounds_succ];go_wp2;go_ret;exact⟨He (by rw [HE.o,HI.o];rfl),HB.o.alloc (by omega) _⟩
  |false=>
   have HI:=Hd hi;clear hi;go_wp2;go_ret;exact⟨He (by rw [HE.o,HI.o];rfl),HB.o.alloc (by omega) _⟩
theorem Vi{k k':IntKind}{a b c d:Int}(h:a=b)(h':c=d):Ending.returned (.tuple #[.int k a,.int k' c])= .returned (.tuple #[.int k b,.int k' d]):=by rw [h,h']
theorem Y2{w w':World}(h:Below w.heap.size w w'):Below w.heap.size w w':=h
theorem G2(A:Option Addr)(n c:Nat)(p q t v:Int)(l:List UInt8)(w:World)(hl:Cw w A n l)(hc:n≤c)(hn:n≤9223372036854775807):
  Calls Tryz.prog 91 #[.slice A n c,.agg #[Aa Ab p,Aa Ab q,Aa Ab t,Aa Ab v]] w fun e w'=>e= .returned (.tuple #[Aa Ab (Bg l p q t v),Aa Ab (Bh l p q t v)])∧Below w.heap.size w w':=by
 have hlen:=hl.1;subst hlen;have HL:=Hd (hl.alloc (.cells #[Aa Ab p,Aa Ab q,Aa Ab t,Aa Ab v] 75));have HK:=Hd (Af.new w 75 #[Aa Ab p,Aa Ab q,Aa Ab t,Aa Ab v]);have HB:=Hd ((Below.refl w.heap.size w).alloc (Ath _) (.cells #[Aa Ab p,Aa Ab q,Aa Ab t,Aa Ab v] 75));clear hl;go_enter Tryz.func91,Tryz.ntmps91;go_wp2_with fail;go_at_call 123;refine(M4 A l.length c p q t v _ hn).mono ?_;rintro e w1 ⟨rfl,hb⟩;by_cases hm:Bm l.length p q t v=0
 ·rw [hm];have HB:=Hd (Ad HB.o hb);have HK:=Hd (HK.o.pure hb);have HL:=Hd (HL.o.pure hb);have c0:=Az HK.o;have c1:=Ax HK.o;have c2:=Aw HK.o;have c3:=A6 HK.o;clear hb;go_wp2_with fail;go_at_call 90;refine(Ce t _).mono ?_;rintro e w2 ⟨rfl,hb⟩;have hb:=Y2 hb;clear c0 c1 c2 c3;cases hi:An t with
  |true=>
   have HE:=Hd (Acj hm hi);have HT:=Hd (Aqp hm hi);have HB:=Hd (Ad HB.o hb);clear hm hi hb;go_wp2;go_ret2;exact⟨Vi HT.o.symm HE.o.symm,HB.o⟩
  |false=>
   obtain⟨h1,h2⟩:=D7.1 hm;have h2:=Dn.1 h2;have h1:=Cv.1 h1;have hp0:=h2.1;have hpn:=h2.2.2;have hq1:1≤q:=by have:=Ck.1 h1.2.1;omega
   have HLE:=Hd (Am2 hm);have HB:=Hd (Ad HB.o hb);have HK:=Hd (HK.o.pure hb);have HL:=Hd (HL.o.pure hb);have c0:=Az HK.o;have c1:=Ax HK.o;have c2:=Aw HK.o;have c3:=A6 HK.o;clear hb;go_wp2_with fail;go_at_call 167;refine(Jz A l.length c p q _ _ HL.o hc hn).mono ?_;rw [HLE.o];rintro e w3 ⟨rfl,hb⟩;clear c0 c1 c2 c3;have HB:=Hd (Ad HB.o hb);have HK:=Hd (HK.o.pure hb);have HL:=Hd (HL.o.pure hb);have c0:=Az HK.o;have c1:=Ax HK.o;have c2:=Aw HK.o;have c3:=A6 HK.o;clear hb;by_cases hu:p<(loadU l p q:Int)
   ·have HE:=Hd (Ack hm hi hu);have HT:=Hd (Aqr hm hi hu);generalize loadU l p q=u at hu;clear hm hi h1 h2;have hw:IntKind.u64.wrap p=p:=B8 p (by omega);go_wp2;go_ret2;exact⟨Vi HT.o.symm HE.o.symm,HB.o⟩
   ·have HE:=Hd (Sd hm hi hu);have HT:=Hd (Acl hm hi hu);have HU:=Hd (show loadU l p q=loadU l p q from rfl);obtain⟨u,hue⟩:∃u,loadU l p q=u:=⟨_,rfl⟩;rw [hue] at hu HT⊢;clear hm hi h1 h2 hue HU;have hw:IntKind.u64.wrap p=p:=B8 p (by omega);have hw2:wrap64 (u:Int)=u:=Dr _ (by omega);have hw3:wrap64 (p-(u:Int))=p-u:=Dr _ (by omega);go_wp2;go_ret2;exact⟨Vi HT.o.symm HE.o.symm,HB.o⟩
 ·have HE:=Hd (Nb hm);have HT:=Hd (Aqq hm);have hne:(Bm l.length p q t v != 0)=true:=by simpa using hm
  have HB:=Hd (Ad HB.o hb);have HK:=Hd (HK.o.pure hb);have HL:=Hd (HL.o.pure hb);have c0:=Az HK.o;have c1:=Ax HK.o;have c2:=Aw HK.o;have c3:=A6 HK.o;clear hb;clear hm;go_wp2;go_ret2;exact⟨Vi HT.o.symm HE.o.symm,HB.o⟩
theorem K5{a b c d e:Int}{r:(Int×Int×Int×Int)}{f:Int}(h:r=(a,b,c,d))(h':f=e):
  Ending.returned (.tuple #[.agg #[Aa Ab a,Aa Ab b,Aa Ab c,Aa Ab d],Aa Ab e])= .returned (.tuple #[.agg #[Aa Ab r.1,Aa Ab r.2.1,Aa Ab r.2.2.1,Aa Ab r.2.2.2],Aa Ab f]):=by
 subst h h';rfl
theorem M8{l:List UInt8}(h:El l≠0):Er l=(0,0,0,0):=if_neg h
theorem Wm{l:List UInt8}(h:l.length<3):El l=210:=if_pos (.inl h)
theorem Wn{l:List UInt8}{x:UInt8}(hx:l.getD (l.length-1) 0=x)(hw:Av (x.toNat:Int)=false):El l=210:=by
 unfold El;rw [hx,if_pos (.inr hw)]
theorem Aex{l:List UInt8}{x y:UInt8}(h3:¬l.length<3)(hx:l.getD (l.length-1) 0=x)(hy:l.getD (l.length-2) 0=y)(hw:Av (x.toNat:Int)=true)(hu:Hl y≠0):El l=Hl y:=by
 unfold El;rw [hx,hy,if_neg (by rw [hw];simp;omega),if_pos hu]
theorem Aey{l:List UInt8}{x y:UInt8}(h3:¬l.length<3)(hx:l.getD (l.length-1) 0=x)(hy:l.getD (l.length-2) 0=y)(hw:Av (x.toNat:Int)=true)(hu:Hl y=0):
  El l=if(l.length:Int)-2-x.toNat<0∨((l.length:Int)-2-x.toNat) % x.toNat≠0 then 210 else 0:=by
 unfold El;rw [hx,hy,if_neg (by rw [hw];simp;omega),if_neg (by simpa using hu)]
theorem Ab4{l:List UInt8}{x y:UInt8}(hx:l.getD (l.length-1) 0=x)(hy:l.getD (l.length-2) 0=y)(he:El l=0):Er l=((l.length:Int)-2-x.toNat,((x.toNat:Nat):Int),Ly y,Lz y):=by
 unfold Er;rw [if_pos he,hx,hy]
theorem Yi(A:Option Addr)(n c:Nat)(l:List UInt8)(w:World)(hl:Cw w A n l)(hn:n≤9223372036854775807):
  Calls Tryz.prog 44 #[.slice A n c] w fun e w'=>e= .returned (.tuple #[.agg #[Aa Ab (Er l).1,Aa Ab (Er l).2.1,Aa Ab (Er l).2.2.1,Aa Ab (Er l).2.2.2],Aa Ab (El l)])∧Below w.heap.size w w':=by
 have hlen:=hl.1;subst hlen;by_cases h3:l.length<3
 ·have HE:=Hd (Wm h3);have HR:=Hd (M8 (by rw [Wm h3];decide));go_enter Tryz.func44,Tryz.ntmps44;go_wp2;refine bodyPost_ret (v:= .tuple #[.agg #[Aa Ab 0,Aa Ab 0,Aa Ab 0,Aa Ab 0],Aa Ab 210]) (by simp [results,Tryz.results44,go_sem]) rfl ⟨K5 HR.o HE.o,?_⟩;exact(Below.refl _ _).alloc (Ath _) _
 ·obtain⟨b,off,rfl,hk1,v1⟩:=Kk hl (k:=l.length-1) (by omega);obtain⟨b',off',e',hk2,v2⟩:=Kk hl (k:=l.length-2) (by omega);injection e' with e'
  injection e' with e1 e2
  subst e1 e2;have hx:l.getD (l.length-1) 0=l[l.length-1]:=by rw [Atw,Ati hk1];rfl
  have hy:l.getD (l.length-2) 0=l[l.length-2]:=by rw [Atw,Ati hk2];rfl
  generalize l[l.length-1]=x at hx v1;generalize l[l.length-2]=y at hy v2;have hxb:=x.toNat_lt;have HX:=Hd hx;have HY:=Hd hy;have HV1:=Hd v1;have HV2:=Hd v2;have v1:(w.alloc (.cells #[Aa Ab 0,Aa Ab 0,Aa Ab 0,Aa Ab 0] 75)).cell? ⟨b,off+(l.length-1),none⟩=some (.int .u8 (x.toNat:Int)):=Ag ((Below.refl _ _).alloc (Ath _) _) HV1.o;clear hl hx hy hk1 hk2 v2;go_enter Tryz.func44,Tryz.ntmps44;go_wp2_with fail;go_at_call 87;refine(Mx _ _).mono ?_;rintro e w1 ⟨rfl,rfl⟩;cases hw:Av (x.toNat:Int) with
  |false=>
   have HE:=Hd (Wn HX.o hw);have HR:=Hd (M8 (by rw [Wn HX.o hw];decide));clear hw;go_wp2;refine bodyPost_ret (v:= .tuple #[.agg #[Aa Ab 0,Aa Ab 0,Aa Ab 0,Aa Ab 0],Aa Ab 210]) (by simp [results,Tryz.results44,go_sem]) rfl ⟨K5 HR.o HE.o,?_⟩;exact(Below.refl _ _).alloc (Ath _) _
  |true=>
   have HW:=Hd hw;have hx1:1≤x.toNat∧x.toNat≤8:=by have:=Ck.1 hw;omega
   have hx2:=hx1.1;have hx3:=hx1.2;have v2:(w.alloc (.cells #[Aa Ab 0,Aa Ab 0,Aa Ab 0,Aa Ab 0] 75)).cell? ⟨b,off+(l.length-2),none⟩=some (.int .u8 (y.toNat:Int)):=Ag ((Below.refl _ _).alloc (Ath _) _) HV2.o;clear hw hx1;go_wp2_with fail;go_at_call 66;refine(S0 y _).mono ?_;rintro e w1 ⟨rfl,hb⟩;have HB:=Hd (B6 ((Below.refl w.heap.size w).alloc (Ath _) _) hb);have HK:=Hd ((Af.new w 75 #[Aa Ab 0,Aa Ab 0,Aa Ab 0,Aa Ab 0]).pure hb);have c0:=Az HK.o;have c1:=Ax HK.o;have c2:=Aw HK.o;have c3:=A6 HK.o;have f0:=HK.o.frozen 0;have f1:=HK.o.frozen 1;have f2:=HK.o.frozen 2;have f3:=HK.o.frozen 3;have v1:=Ag HB.o HV1.o;clear v2 hb;by_cases hu:Hl y=0
   ·have HE4:=Hd (Aey h3 HX.o HY.o HW.o hu);rw [hu];clear hu;by_cases hp:(l.length:Int)-2-x.toNat<0
    ·have HE:=Hd (show El l=210 by rw [HE4.o,if_pos (.inl hp)]);have HR:=Hd (M8 (by rw [HE.o];decide));go_wp2;refine bodyPost_ret (v:= .tuple #[.agg #[Aa Ab 0,Aa Ab 0,Aa Ab 0,Aa Ab 0],Aa Ab 210]) (by simp [results,Tryz.results44,go_sem,c0,c1,c2,c3]) rfl ⟨K5 HR.o HE.o,?_⟩;exact(((HB.o.setCell (Ath _) _).setCell (Ath _) _).setCell (Ath _) _).setCell (Ath _) _
    ·have hp0:0≤(l.length:Int)-2-x.toNat:=by omega
     have hxn:(x.toNat==0)=false:=by simp;omega
     by_cases hm:((l.length:Int)-2-x.toNat) % x.toNat=0
     ·have HE:=Hd (show El l=0 by rw [HE4.o,if_neg (by omega)]);have HR:=Hd (Ab4 HX.o HY.o HE.o);have hm2:(((l.length:Int)-2) % (x.toNat:Int) != 0)=false:=by simpa using hm
      clear hm;go_wp2;refine bodyPost_ret (v:= .tuple #[.agg #[Aa Ab ((l.length:Int)-2-x.toNat),Aa Ab ((x.toNat:Nat):Int),Aa Ab (Ly y),Aa Ab (Lz y)],Aa Ab 0]) (by simp [results,Tryz.results44,go_sem,c0,c1,c2,c3]) rfl ⟨K5 HR.o HE.o,?_⟩;exact(((HB.o.setCell (Ath _) _).setCell (Ath _) _).setCell (Ath _) _).setCell (Ath _) _
     ·have HE:=Hd (show El l=210 by rw [HE4.o,if_pos (.inr hm)]);have HR:=Hd (M8 (by rw [HE.o];decide));have hm2:(((l.length:Int)-2) % (x.toNat:Int) != 0)=true:=by simpa using hm
      clear hm;go_wp2;refine bodyPost_ret (v:= .tuple #[.agg #[Aa Ab 0,Aa Ab 0,Aa Ab 0,Aa Ab 0],Aa Ab 210]) (by simp [results,Tryz.results44,go_sem,c0,c1,c2,c3]) rfl ⟨K5 HR.o HE.o,?_⟩;exact(((HB.o.setCell (Ath _) _).setCell (Ath _) _).setCell (Ath _) _).setCell (Ath _) _
   ·have HE:=Hd (Aex h3 HX.o HY.o HW.o hu);have HR:=Hd (M8 (by rw [HE.o];exact hu));have hne:(Hl y != 0)=true:=by simpa using hu
    clear hu;go_wp2;refine bodyPost_ret (v:= .tuple #[.agg #[Aa Ab 0,Aa Ab 0,Aa Ab 0,Aa Ab 0],Aa Ab (Hl y)]) (by simp [results,Tryz.results44,go_sem,c0,c1,c2,c3]) rfl ⟨K5 HR.o HE.o,?_⟩;exact(((HB.o.setCell (Ath _) _).setCell (Ath _) _).setCell (Ath _) _).setCell (Ath _) _
end Go.Proofs.YtgbjodnegkbfoaaGreat
namespace Go.Acc
open Go.RowKit
section
variable {P:Program} {mt kt et:TypeId}
theorem Wo(hu:P.underlying mt=some (.map kt et))(hk:P.underlying kt=some (.int .i64))(W:World)(es:Array MapEntry)(c g:Nat)(x:Int)(v:Value)(hg:g=W.heap.size)
  (hn:Instr.findNow (.int .i64) (Aa Ab x) es.toList 0=some none):
  (Instr.mapUpdate mt (.map (some g)) (.int .i64 x) v).run P (W.alloc (.map es c))= .ok () (W.alloc (.map (es.push { key:= .int .i64 x,val:=v,born:=c}) (c+1))):=by
 subst hg;have hb:(W.alloc (.map es c)).heap[W.heap.size]?=some (.map es c):=heap_alloc_new W _;have e:∀o o':Obj,(W.heap.push o).setIfInBounds W.heap.size o'=W.heap.push o':=by
  intro o o';apply Array.ext_getElem?;intro i;rw [Array.getElem?_setIfInBounds,Array.getElem?_push,Array.getElem?_push];by_cases h:W.heap.size=i
  ·subst h;simp
  ·rw [if_neg h,if_neg (fun e=>h e.symm)];rw [if_neg (fun e=>h e.symm)]
 have h1:(Instr.checkKey false 10000 kt (.int .i64 x)).run P (W.alloc (.map es c))= .ok () (W.alloc (.map es c)):=MapKept.run_checkKey (n:=9999) (k:= .int .i64 x) hk rfl false;have h2:(Instr.findKey kt (.int .i64 x) es.toList).run P (W.alloc (.map es c))= .ok none (W.alloc (.map es c)):=MapKept.run_findKey hk hn;have h3:=MapKept.run_setObj_map (P:=P) (.map (es.push { key:= .int .i64 x,val:=v,born:=c}) (c+1)) hb;simp only [Instr.mapUpdate,Sem.run_bind,run_underlying hu,Result.andThen_ok,MapKept.run_getObj_map hb,h1,h2,h3];simp only [World.alloc,e]
theorem Ts(hu:P.underlying mt=some (.map kt et))(hk:P.underlying kt=some (.int .i64))(z:Value)(hz:∀W,(zeroValue et).run P W= .ok z W)(W:World)(es:Array MapEntry)(c g:Nat)(x:Int)(b:Bool)(r:Option (Nat×Value))
  (hb:W.heap[g]?=some (.map es c)) (hn:Instr.findNow (.int .i64) (Aa Ab x) es.toList 0=some r):
  (Instr.lookup mt (.map (some g)) (Aa Ab x) b).run P W= .ok (if b then .tuple #[(r.map (·.2)).getD z,.bool r.isSome] else(r.map (·.2)).getD z) W:=by
 have h1:(Instr.checkKey es.isEmpty 10000 kt (Aa Ab x)).run P W= .ok () W:=MapKept.run_checkKey (n:=9999) (k:= Aa Ab x) hk rfl _;have h2:(Instr.findKey kt (Aa Ab x) es.toList).run P W= .ok r W:=MapKept.run_findKey hk hn;cases r with
 |none=>
  simp only [Instr.lookup,Sem.run_bind,run_underlying hu,Result.andThen_ok,MapKept.run_getObj_map hb,h1,h2,hz,Sem.run_pure];rfl
 |some p=>
  obtain⟨i,u⟩:=p;simp only [Instr.lookup,Sem.run_bind,run_underlying hu,Result.andThen_ok,MapKept.run_getObj_map hb,h1,h2,Sem.run_pure];rfl
end
end Go.Acc
namespace Go.Proofs.YtgbjodnegkbfoaaGreat
open Go.RowKit Go.Acc
def Ab2:Array MapEntry:=#[⟨Aa Ab 0,.func (.func 348) #[] #[],0⟩,⟨Aa Ab 26,.func (.func 349) #[] #[],1⟩,⟨Aa Ab 1,.func (.func 351) #[] #[],2⟩,⟨Aa Ab 6,.func (.func 351) #[] #[],3⟩,⟨Aa Ab 2,.func (.func 350) #[] #[],4⟩,⟨Aa Ab 7,.func (.func 350) #[] #[],5⟩]
def rdF(t:Int):Option Value:=if t=0 then some (.func (.func 348) #[] #[]) else if t=26 then some (.func (.func 349) #[] #[]) else if t=1∨t=6 then some (.func (.func 351) #[] #[]) else if t=2∨t=7 then some (.func (.func 350) #[] #[]) else none
theorem Aqb(t:Int):∃r,Instr.findNow (.int .i64) (Aa Ab t) Ab2.toList 0=some r∧r.map (·.2)=rdF t:=by
 by_cases h0:t=0
 ·subst h0;exact⟨_,rfl,rfl⟩
 by_cases h1:t=26
 ·subst h1;exact⟨_,rfl,rfl⟩
 by_cases h2:t=1
 ·subst h2;exact⟨_,rfl,rfl⟩
 by_cases h3:t=6
 ·subst h3;exact⟨_,rfl,rfl⟩
 by_cases h4:t=2
 ·subst h4;exact⟨_,rfl,rfl⟩
 by_cases h5:t=7
 ·subst h5;exact⟨_,rfl,rfl⟩
 refine⟨none,?_,?_⟩
 ·have e0:(t==0)=false:=by simpa using h0
  have e1:(t==26)=false:=by simpa using h1
  have e2:(t==1)=false:=by simpa using h2
  have e3:(t==6)=false:=by simpa using h3
  have e4:(t==2)=false:=by simpa using h4
  have e5:(t==7)=false:=by simpa using h5
  simp only [Ab2,Instr.findNow,Instr.sameNow,if_true,e0,e1,e2,e3,e4,e5]
 ·simp [rdF,h0,h1,h2,h3,h4,h5]
def RdW(w:World)(e:Ending)(w':World):Prop:=∃g,e= .returned (.map (some g))∧w'.heap[g]?=some (.map Ab2 6)∧Below w.heap.size w w'
theorem Ab3(w:World):Calls Tryz.prog 282 #[] w (RdW w):=by
 have h0:=run_makeMap (P:=Tryz.prog) 325;have h1:∀(W:World) (es:Array MapEntry) (c:Nat) (x:Int) (v:Value),Instr.findNow (.int .i64) (.int .i64 x) es.toList 0=some none→(Instr.mapUpdate 325 (.map (some W.heap.size)) (.int .i64 x) v).run Tryz.prog (W.alloc (.map es c))= .ok () (W.alloc (.map (es.push { key:= .int .i64 x,val:=v,born:=c}) (c+1))):=
  fun W es c x v h=>Wo Tryz.underlying325 Tryz.underlying3 W es c _ x v rfl h
 have i0:∀W:World,(Instr.mapUpdate 325 (.map (some W.heap.size)) (.int .i64 0) (.func (.func 348) #[] #[])).run Tryz.prog (W.alloc (.map #[] 0))= .ok () (W.alloc (.map #[⟨.int .i64 0,.func (.func 348) #[] #[],0⟩] 1)):=fun W=>h1 W #[] 0 0 _ rfl
 have i1:∀W:World,(Instr.mapUpdate 325 (.map (some W.heap.size)) (.int .i64 26) (.func (.func 349) #[] #[])).run Tryz.prog (W.alloc (.map #[⟨.int .i64 0,.func (.func 348) #[] #[],0⟩] 1))= .ok () (W.alloc (.map #[⟨.int .i64 0,.func (.func 348) #[] #[],0⟩,⟨.int .i64 26,.func (.func 349) #[] #[],1⟩] 2)):=fun W=>h1 W #[⟨.int .i64 0,.func (.func 348) #[] #[],0⟩] 1 26 _ rfl
 have i2:∀W:World,(Instr.mapUpdate 325 (.map (some W.heap.size)) (.int .i64 1) (.func (.func 351) #[] #[])).run Tryz.prog (W.alloc (.map #[⟨.int .i64 0,.func (.func 348) #[] #[],0⟩,⟨.int .i64 26,.func (.func 349) #[] #[],1⟩] 2))= .ok () (W.alloc (.map #[⟨.int .i64 0,.func (.func 348) #[] #[],0⟩,⟨.int .i64 26,.func (.func 349) #[] #[],1⟩,⟨.int .i64 1,.func (.func 351) #[] #[],2⟩] 3)):=fun W=>h1 W #[⟨.int .i64 0,.func (.func 348) #[] #[],0⟩,⟨.int .i64 26,.func (.func 349) #[] #[],1⟩] 2 1 _ rfl
 have i3:∀W:World,(Instr.mapUpdate 325 (.map (some W.heap.size)) (.int .i64 6) (.func (.func 351) #[] #[])).run Tryz.prog (W.alloc (.map #[⟨.int .i64 0,.func (.func 348) #[] #[],0⟩,⟨.int .i64 26,.func (.func 349) #[] #[],1⟩,⟨.int .i64 1,.func (.func 351) #[] #[],2⟩] 3))= .ok () (W.alloc (.map #[⟨.int .i64 0,.func (.func 348) #[] #[],0⟩,⟨.int .i64 26,.func (.func 349) #[] #[],1⟩,⟨.int .i64 1,.func (.func 351) #[] #[],2⟩,⟨.int .i64 6,.func (.func 351) #[] #[],3⟩] 4)):=fun W=>h1 W #[⟨.int .i64 0,.func (.func 348) #[] #[],0⟩,⟨.int .i64 26,.func (.func 349) #[] #[],1⟩,⟨.int .i64 1,.func (.func 351) #[] #[],2⟩] 3 6 _ rfl
 have i4:∀W:World,(Instr.mapUpdate 325 (.map (some W.heap.size)) (.int .i64 2) (.func (.func 350) #[] #[])).run Tryz.prog (W.alloc (.map #[⟨.int .i64 0,.func (.func 348) #[] #[],0⟩,⟨.int .i64 26,.func (.func 349) #[] #[],1⟩,⟨.int .i64 1,.func (.func 351) #[] #[],2⟩,⟨.int .i64 6,.func (.func 351) #[] #[],3⟩] 4))= .ok () (W.alloc (.map #[⟨.int .i64 0,.func (.func 348) #[] #[],0⟩,⟨.int .i64 26,.func (.func 349) #[] #[],1⟩,⟨.int .i64 1,.func (.func 351) #[] #[],2⟩,⟨.int .i64 6,.func (.func 351) #[] #[],3⟩,⟨.int .i64 2,.func (.func 350) #[] #[],4⟩] 5)):=fun W=>h1 W #[⟨.int .i64 0,.func (.func 348) #[] #[],0⟩,⟨.int .i64 26,.func (.func 349) #[] #[],1⟩,⟨.int .i64 1,.func (.func 351) #[] #[],2⟩,⟨.int .i64 6,.func (.func 351) #[] #[],3⟩] 4 2 _ rfl
 have i5:∀W:World,(Instr.mapUpdate 325 (.map (some W.heap.size)) (.int .i64 7) (.func (.func 350) #[] #[])).run Tryz.prog (W.alloc (.map #[⟨.int .i64 0,.func (.func 348) #[] #[],0⟩,⟨.int .i64 26,.func (.func 349) #[] #[],1⟩,⟨.int .i64 1,.func (.func 351) #[] #[],2⟩,⟨.int .i64 6,.func (.func 351) #[] #[],3⟩,⟨.int .i64 2,.func (.func 350) #[] #[],4⟩] 5))= .ok () (W.alloc (.map #[⟨.int .i64 0,.func (.func 348) #[] #[],0⟩,⟨.int .i64 26,.func (.func 349) #[] #[],1⟩,⟨.int .i64 1,.func (.func 351) #[] #[],2⟩,⟨.int .i64 6,.func (.func 351) #[] #[],3⟩,⟨.int .i64 2,.func (.func 350) #[] #[],4⟩,⟨.int .i64 7,.func (.func 350) #[] #[],5⟩] 6)):=fun W=>h1 W #[⟨.int .i64 0,.func (.func 348) #[] #[],0⟩,⟨.int .i64 26,.func (.func 349) #[] #[],1⟩,⟨.int .i64 1,.func (.func 351) #[] #[],2⟩,⟨.int .i64 6,.func (.func 351) #[] #[],3⟩,⟨.int .i64 2,.func (.func 350) #[] #[],4⟩] 5 7 _ rfl
 clear h1;go_enter Tryz.func282,Tryz.ntmps282;go_wp2;go_ret;exact⟨_,rfl,heap_alloc_new w _,(Below.refl _ _).alloc (Ath _) _⟩
def Wl:Array MapEntry:=#[⟨Aa Ab 1,Aa Ab 0,0⟩,⟨Aa Ab 2,Aa Ab 1,1⟩,⟨Aa Ab 4,Aa Ab 2,2⟩,⟨Aa Ab 8,Aa Ab 3,3⟩]
theorem Ap7{y:Nat}(h:Av (y:Int)=true):∃i,Instr.findNow (.int .i64) (Aa Ab (y:Int)) Wl.toList 0=some (some (i,Aa Ab (bCode y:Int))):=by
 rcases C8 h with rfl|rfl|rfl|rfl <;>exact⟨_,rfl⟩
theorem Rh(t y:Nat)(w:World)(ht:Be (t:Int)=true)(hy:Av (y:Int)=true):
  Calls Tryz.prog 162 #[Aa Ab (t:Int),Aa Ab (y:Int)] w fun e w'=>e= .returned (.tuple #[.int .u8 ((UInt8.ofNat (4*t+bCode y)).toNat:Int),Aa Ab 0])∧Below w.heap.size w w':=by
 have h0:=run_makeMap (P:=Tryz.prog) 115;have h1:∀(W:World) (es:Array MapEntry) (c:Nat) (x:Int) (v:Value),Instr.findNow (.int .i64) (.int .i64 x) es.toList 0=some none→(Instr.mapUpdate 115 (.map (some W.heap.size)) (.int .i64 x) v).run Tryz.prog (W.alloc (.map es c))= .ok () (W.alloc (.map (es.push { key:= .int .i64 x,val:=v,born:=c}) (c+1))):=
  fun W es c x v h=>Wo Tryz.underlying115 Tryz.underlying3 W es c _ x v rfl h
 have i0:∀W:World,(Instr.mapUpdate 115 (.map (some W.heap.size)) (.int .i64 1) (.int .i64 0)).run Tryz.prog (W.alloc (.map #[] 0))= .ok () (W.alloc (.map #[⟨.int .i64 1,.int .i64 0,0⟩] 1)):=fun W=>h1 W #[] 0 1 _ rfl
 have i1:∀W:World,(Instr.mapUpdate 115 (.map (some W.heap.size)) (.int .i64 2) (.int .i64 1)).run Tryz.prog (W.alloc (.map #[⟨.int .i64 1,.int .i64 0,0⟩] 1))= .ok () (W.alloc (.map #[⟨.int .i64 1,.int .i64 0,0⟩,⟨.int .i64 2,.int .i64 1,1⟩] 2)):=fun W=>h1 W _ 1 2 _ rfl
 have i2:∀W:World,(Instr.mapUpdate 115 (.map (some W.heap.size)) (.int .i64 4) (.int .i64 2)).run Tryz.prog (W.alloc (.map #[⟨.int .i64 1,.int .i64 0,0⟩,⟨.int .i64 2,.int .i64 1,1⟩] 2))= .ok () (W.alloc (.map #[⟨.int .i64 1,.int .i64 0,0⟩,⟨.int .i64 2,.int .i64 1,1⟩,⟨.int .i64 4,.int .i64 2,2⟩] 3)):=fun W=>h1 W _ 2 4 _ rfl
 have i3:∀W:World,(Instr.mapUpdate 115 (.map (some W.heap.size)) (.int .i64 8) (.int .i64 3)).run Tryz.prog (W.alloc (.map #[⟨.int .i64 1,.int .i64 0,0⟩,⟨.int .i64 2,.int .i64 1,1⟩,⟨.int .i64 4,.int .i64 2,2⟩] 3))= .ok () (W.alloc (.map Wl 4)):=fun W=>h1 W _ 3 8 _ rfl
 obtain⟨i,hi⟩:=Ap7 hy;have i4:∀W:World,(Instr.lookup 115 (.map (some W.heap.size)) (Aa Ab (y:Int)) true).run Tryz.prog (W.alloc (.map Wl 4))= .ok (.tuple #[Aa Ab (bCode y:Int),.bool true]) (W.alloc (.map Wl 4)):=fun W=>Ts Tryz.underlying115 Tryz.underlying3 (Aa Ab 0) (fun W=>Tryz.zeroValue3 W) (W.alloc (.map Wl 4)) Wl 4 W.heap.size y true _ (heap_alloc_new W _) hi
 have HT:=Hd ht;have ht36:t≤36:=by have:=F9.1 (Gv ht);omega
 obtain⟨c,hc⟩:∃c,bCode y=c:=⟨_,rfl⟩;have hc3:c≤3:=by rw [←hc];unfold bCode;(repeat' split) <;>omega
 rw [hc] at i4⊢;have HR:=Hd (show(4*(t:Int)+c)=((UInt8.ofNat (4*t+c)).toNat:Int) by
  rw [UInt8.toNat_ofNat'];show(4*(t:Int)+c)=(((4*t+c) % 256:Nat):Int);omega)
 have e1:IntKind.i64.wrap (4*(t:Int))=4*(t:Int):=by rw [IntKind.wrap_i64];omega
 have e2:IntKind.i64.wrap (4*(t:Int)+c)=4*(t:Int)+c:=by rw [IntKind.wrap_i64];omega
 clear h1 hi hy ht hc;go_enter Tryz.func162,Tryz.ntmps162;go_wp2_with fail;go_at_call 111;refine(Gw (t:Int) _).mono ?_;rw [HT.o];rintro e w1 ⟨rfl,hb⟩;have HB:=Hd hb;clear hb;go_wp2_with fail;go_ret2;exact⟨Arx HR.o,HB.o.alloc HB.o.size _⟩
end Go.Proofs.YtgbjodnegkbfoaaGreat
