/- Parts of the proof. -/
import Derived.Test.YtgbjodnegkbfoaaGreatQm15
import Derived.RangeFuncNested
import Derived.RangeFuncBound
import Derived.RangeFuncCalls
import Derived.RangeFuncLeaves
import Derived.Shelf.Abstract
import Derived.Shelf.RegionOpen
import Derived.OwnWalkIn
import Derived.TacticsInMore
import Derived.LoopNIn
import Derived.LoopIn
set_option maxHeartbeats 2000000
set_option maxRecDepth 100000
open Go.Value renaming int→Aa
open Go.IntKind renaming i64→Ab
open Nat renaming le_refl→Asp
namespace Go.Proofs.YtgbjodnegkbfoaaGreat
open Go.RowKit Go.Acc
def mnS(l:List UInt8)(a x v:Int):Bool:=decide (Rc (Ia l a x)≤v)
def mnP(l:List UInt8)(a x v:Int):Bool:=decide (Kc (loadU l a x)≤v)
structure E0 where
 bw:Nat
 A:Option Addr
 n:Nat
 c:Nat
 l:List UInt8
structure Ie(E:E0)(w:World):Prop where
 hc:E.n≤E.c
 hn:E.n≤4294967296
 b:Cd w E.A E.n E.l
 c0:w.cell? ⟨E.bw,0,none⟩=some (.slice E.A E.n E.c)
theorem Ie.pure{E:E0}{w w':World}(h:Ie E w)(hb:Below w.heap.size w w'):Ie E w':=⟨h.hc,h.hn,h.b.pure hb,Ae hb h.c0⟩
theorem Ie.drew{E:E0}{w:World}(h:Ie E w):Ie E w.drew:=h.pure ((Below.refl _ _).drew)
theorem Ie.alloc{E:E0}{w:World}(h:Ie E w)(o:Obj):Ie E (w.alloc o):=h.pure ((Below.refl _ _).alloc (Asp _) o)
theorem Yi(E:E0)(a x v:Int)(r:Bool)(w:World)(h:Ie E w)(hr:mnS E.l a x v=r):Calls Tryz.prog 88 #[.pointer (some ⟨E.bw,0,none⟩),Aa Ab a,Aa Ab x,Aa Ab v] w fun e w'=>e= .returned (.bool r)∧Below w.heap.size w w':=by
 unfold mnS at hr;have hl:=Agg E.A E.n E.c a x E.l w h.b h.hc (by have:=h.hn;omega);obtain⟨n,hn⟩:∃n,Ia E.l a x=n:=⟨_,rfl⟩;have hb:=Al1 E.l a x;rw [hn] at hb hr hl;obtain⟨k,hk⟩:∃k,Rc n=k:=⟨_,rfl⟩;rw [hk] at hr;have HW:=Hd (fun W=>Ae1 n k W hb hk);have HL:=Hd hl;have c0:=h.c0;clear h hl hn hb hk;go_enter Tryz.func88,Tryz.ntmps88;go_wp2_with fail;go_at_call 166;refine HL.o.mono ?_;rintro e w' ⟨rfl,hb⟩;have HB:=Hd hb;clear hb HL c0;go_wp2_with fail;go_at_call 56;refine(HW.o _).mono ?_;rintro e w'' ⟨rfl,rfl⟩;go_wp2;go_ret;exact⟨rfl,HB.o⟩
theorem Abh(E:E0)(a x v:Int)(r:Bool)(w:World)(h:Ie E w)(hr:mnP E.l a x v=r):Calls Tryz.prog 89 #[.pointer (some ⟨E.bw,0,none⟩),Aa Ab a,Aa Ab x,Aa Ab v] w fun e w'=>e= .returned (.bool r)∧Below w.heap.size w w':=by
 unfold mnP at hr;have hl:=Hy E.A E.n E.c a x E.l w h.b h.hc (by have:=h.hn;omega);obtain⟨n,hn⟩:∃n,loadU E.l a x=n:=⟨_,rfl⟩;have hb:=Al2 E.l a x;rw [hn] at hb hr hl;obtain⟨k,hk⟩:∃k,Kc n=k:=⟨_,rfl⟩;rw [hk] at hr;have HW:=Hd (fun W=>Hc n k W (by omega) hk);have HL:=Hd hl;have c0:=h.c0;clear h hl hn hb hk;go_enter Tryz.func89,Tryz.ntmps89;go_wp2_with fail;go_at_call 167;refine HL.o.mono ?_;rintro e w' ⟨rfl,hb⟩;have HB:=Hd hb;clear hb HL c0;go_wp2_with fail;go_at_call 54;refine(HW.o _).mono ?_;rintro e w'' ⟨rfl,rfl⟩;go_wp2;go_ret;exact⟨rfl,HB.o⟩
def C0(l:List UInt8)(p q t w pos v:Int):Bool:=
 if t=1 then mnS l p q v else if t=2 then mnP l p q v else if Aw t=true then true
 else decide (Bb l p q t w≤pos)&&decide (Kc (pos-Bb l p q t w).toNat≤v)
theorem Kt{B:Nat}{a w:World}(h:Below B a w):Below B a w.drew:=h.drew
theorem Am8(A:Option Addr)(n c:Nat)(p q t v a:Int)(l:List UInt8)(w:World)(hl:Cd w A n l)(hc:n≤c)(hn:n≤1099511627776)(h1:Bb l p q t v=a):
  Calls Tryz.prog 91 #[.slice A n c,.agg #[Aa Ab p,Aa Ab q,Aa Ab t,Aa Ab v]] w fun e w'=>e= .returned (.tuple #[Aa Ab a,Aa Ab (Bh l p q t v)])∧Below w.heap.size w w':=by
 subst h1;exact Fp A n c p q t v l w hl hc (by omega)
theorem Akj(l:List UInt8)(p q t v:Int):0≤Bb l p q t v∧Bb l p q t v≤l.length:=by
 by_cases g:Bh l p q t v=0
 ·exact R1 g
 ·unfold Bb;rw [if_neg g];omega
theorem Q4(E:E0)(p q t v pos f:Int)(r:Bool)(w:World)(h:Ie E w)(hp:pos≤1099511627776)(hr:C0 E.l p q t v pos f=r):
  Calls Tryz.prog 45 #[.pointer (some ⟨E.bw,0,none⟩),.agg #[Aa Ab p,Aa Ab q,Aa Ab t,Aa Ab v],Aa Ab pos,Aa Ab f] w fun e w'=>e= .returned (.bool r)∧Below w.heap.size w w':=by
 unfold C0 at hr;by_cases h1:t=1
 ·subst h1;rw [if_pos rfl] at hr;have HM:=Hd (h.alloc (.cells #[Aa Ab p,Aa Ab q,Aa Ab 1,Aa Ab v] 75));have HX:=Hd (Ag.new w 75 #[Aa Ab p,Aa Ab q,Aa Ab 1,Aa Ab v]);have HB:=Hd ((Below.refl w.heap.size w).alloc (Asp _) (.cells #[Aa Ab p,Aa Ab q,Aa Ab 1,Aa Ab v] 75));have hnn:=h.hn;have hcc:=h.hc;clear h;have c0:=HM.o.c0;have x0:=Al HX.o;have x1:=Ak HX.o;have x2:=Aj HX.o;have x3:=Am HX.o;have HR:=Hd hr;clear hr;go_enter Tryz.func45,Tryz.ntmps45;go_wp2_with fail;go_at_call 88;refine(Yi E p q f r _ HM.o HR.o).mono ?_;rintro e w' ⟨rfl,hb⟩;replace HB:=Hd (Ad HB.o hb);clear hb;go_wp2;go_ret;exact⟨rfl,HB.o⟩
 rw [if_neg h1] at hr;have e1:(t==1)=false:=beq_eq_false_iff_ne.mpr h1;by_cases h2:t=2
 ·subst h2;rw [if_pos rfl] at hr;have HM:=Hd (h.alloc (.cells #[Aa Ab p,Aa Ab q,Aa Ab 2,Aa Ab v] 75));have HX:=Hd (Ag.new w 75 #[Aa Ab p,Aa Ab q,Aa Ab 2,Aa Ab v]);have HB:=Hd ((Below.refl w.heap.size w).alloc (Asp _) (.cells #[Aa Ab p,Aa Ab q,Aa Ab 2,Aa Ab v] 75));have hnn:=h.hn;have hcc:=h.hc;clear h;have c0:=HM.o.c0;have x0:=Al HX.o;have x1:=Ak HX.o;have x2:=Aj HX.o;have x3:=Am HX.o;have HR:=Hd hr;clear hr h1 e1;go_enter Tryz.func45,Tryz.ntmps45;go_wp2_with fail;go_at_call 89;refine(Abh E p q f r _ HM.o HR.o).mono ?_;rintro e w' ⟨rfl,hb⟩;replace HB:=Hd (Ad HB.o hb);clear hb;go_wp2;go_ret;exact⟨rfl,HB.o⟩
 rw [if_neg h2] at hr;have e2:(t==2)=false:=beq_eq_false_iff_ne.mpr h2;have HM:=Hd (h.alloc (.cells #[Aa Ab p,Aa Ab q,Aa Ab t,Aa Ab v] 75));have HX:=Hd (Ag.new w 75 #[Aa Ab p,Aa Ab q,Aa Ab t,Aa Ab v]);have HB:=Hd ((Below.refl w.heap.size w).alloc (Asp _) (.cells #[Aa Ab p,Aa Ab q,Aa Ab t,Aa Ab v] 75));have hnn:=h.hn;have hcc:=h.hc;clear h;have c0:=HM.o.c0;have x0:=Al HX.o;have x1:=Ak HX.o;have x2:=Aj HX.o;have x3:=Am HX.o;clear h1 h2;obtain⟨i,hi⟩:∃i,Aw t=i:=⟨_,rfl⟩;rw [hi] at hr;have HI:=Hd hi;clear hi;go_enter Tryz.func45,Tryz.ntmps45;go_wp2_with fail;go_at_call 90;refine(Mz t i _ HI.o).mono ?_;rintro e w1 ⟨rfl,hb⟩;replace HB:=Hd (Ad HB.o hb);replace HM:=Hd (HM.o.pure hb);replace HX:=Hd (HX.o.pure hb);clear c0 x0 x1 x2 x3;clear hb;have c0:=HM.o.c0;have x0:=Al HX.o;have x1:=Ak HX.o;have x2:=Aj HX.o;have x3:=Am HX.o;cases i with
 |true=>
  rw [if_pos rfl] at hr;subst hr;go_wp2;go_ret;exact⟨rfl,HB.o⟩
 |false=>
  rw [if_neg (by decide)] at hr;have hbd:=Akj E.l p q t v;have hlen:=HM.o.b.1;obtain⟨a,ha⟩:∃a,Bb E.l p q t v=a:=⟨_,rfl⟩;rw [ha] at hr hbd;have HA:=Hd ha;obtain⟨ha0,ha1⟩:=hbd;clear ha;go_wp2_with fail;go_region_held3 (fun w'=>w'.cell? ⟨E.bw,0,none⟩=some (.slice E.A E.n E.c)∧(w'.cell? ⟨w.heap.size,0,none⟩=some (Aa Ab p)∧w'.cell? ⟨w.heap.size,1,none⟩=some (Aa Ab q)∧w'.cell? ⟨w.heap.size,2,none⟩=some (Aa Ab t)∧w'.cell? ⟨w.heap.size,3,none⟩=some (Aa Ab v))) (first|with_reducible exact⟨c0,x0,x1,x2,x3⟩|with_reducible exact⟨Ah c0,Ah x0,Ah x1,Ah x2,Ah x3⟩) (first|(go_at_call 91;(with_reducible refine(Am8 E.A E.n E.c p q t v a E.l _ HM.o.drew.b hcc (by omega) HA.o).mono ?_);rintro e w5 ⟨rfl,hb⟩;replace HB:=Hd (Ad (Kt HB.o) hb);replace HM:=Hd (HM.o.drew.pure hb);replace HX:=Hd (HX.o.drew.pure hb);clear c0 x0 x1 x2 x3;clear hb;have c0:=HM.o.c0;have x0:=Al HX.o;have x1:=Ak HX.o;have x2:=Aj HX.o;have x3:=Am HX.o));clear c0 x0 x1 x2 x3;clear HM HX;by_cases hap:a≤pos
  ·obtain⟨u,hu⟩:∃u:Nat,pos-a=u:=⟨(pos-a).toNat,by omega⟩;rw [decide_eq_true hap,Bool.true_and,hu,Int.toNat_natCast] at hr;have hw1:IntKind.i64.wrap (pos-a)=u:=by rw [hu];exact IntWalk.i64_in _ (by omega)
   have hw2:IntKind.u64.wrap (u:Int)=u:=by rw [IntKind.wrap_u64];omega
   obtain⟨k,hk⟩:∃k,Kc u=k:=⟨_,rfl⟩;rw [hk] at hr;have HW:=Hd (fun W=>Hc u k W (by omega) hk);have HU:=Hd hu;clear hk hu;go_wp2_with fail;go_at_call 54;refine(HW.o _).mono ?_;rintro e w6 ⟨rfl,rfl⟩;go_wp2;go_ret;exact⟨rfl,HB.o⟩
  ·rw [decide_eq_false hap,Bool.false_and] at hr;subst hr;have hd:decide (a≤pos)=false:=decide_eq_false hap;go_wp2;go_ret;exact⟨rfl,HB.o⟩
theorem Yj(A:Option Addr)(n c:Nat)(p q t v a x:Int)(l:List UInt8)(w:World)(hl:Cd w A n l)(hc:n≤c)(hn:n≤1099511627776)(h1:E8 l p q t v=a)(h2:Fg l p q t v=x):
  Calls Tryz.prog 188 #[.slice A n c,.agg #[Aa Ab p,Aa Ab q,Aa Ab t,Aa Ab v]] w fun e w'=>e= .returned (.tuple #[Aa Ab a,Aa Ab x,Aa Ab (Dk l p q t v)])∧Below w.heap.size w w':=by
 subst h1 h2;exact Sj A n c p q t v l w hl hc (by omega)
def Vh(l:List UInt8)(p q t v f:Int):Bool:=decide (Kc (Ea l p q t v [4,5,25]).length≤f)
def Y5(l:List UInt8)(p q t v f:Int):Bool:=mnS l (E8 l p q t v) (Fg l p q t v) f
def Vi(l:List UInt8)(p q t v f:Int):Bool:=mnP l (E8 l p q t v) (Fg l p q t v) f
theorem Aoe(l:List UInt8)(p q t v:Int):(Ea l p q t v [4,5,25]).length≤l.length:=by
 by_cases h:Dj l p q t v [4,5,25]=0
 ·have h2:=(Lj h).2.1;have h1:=(Lj h).1;omega
 ·unfold Ea;rw [if_neg h];simp
theorem Al9(E:E0)(p q t v f:Int)(r:Bool)(w:World)(h:Ie E w)(hr:Vh E.l p q t v f=r):
  Calls Tryz.prog 169 #[.pointer (some ⟨E.bw,0,none⟩),.agg #[Aa Ab p,Aa Ab q,Aa Ab t,Aa Ab v],Aa Ab f] w fun e w'=>e= .returned (.bool r)∧Below w.heap.size w w':=by
 unfold Vh at hr;have hle:=Aoe E.l p q t v;obtain⟨m,hm⟩:∃m,(Ea E.l p q t v [4,5,25]).length=m:=⟨_,rfl⟩;rw [hm] at hr hle;have HMM:=Hd (show((Ea E.l p q t v [4,5,25]).length:Int)=(m:Int) by rw [hm]);clear hm;have HM:=Hd (h.alloc (.cells #[Aa Ab p,Aa Ab q,Aa Ab t,Aa Ab v] 75));have HX:=Hd (Ag.new w 75 #[Aa Ab p,Aa Ab q,Aa Ab t,Aa Ab v]);have HB:=Hd ((Below.refl w.heap.size w).alloc (Asp _) (.cells #[Aa Ab p,Aa Ab q,Aa Ab t,Aa Ab v] 75));have hnn:=h.hn;have hcc:=h.hc;have hlen:=h.b.1;clear h;have c0:=HM.o.c0;have x0:=Al HX.o;have x1:=Ak HX.o;have x2:=Aj HX.o;have x3:=Am HX.o;obtain⟨k,hk⟩:∃k,Kc m=k:=⟨_,rfl⟩;rw [hk] at hr;have HW:=Hd (fun W=>Hc m k W (by omega) hk);have hw2:IntKind.u64.wrap (m:Int)=m:=by rw [IntKind.wrap_u64];omega
 clear hk hle;go_enter Tryz.func169,Tryz.ntmps169;go_wp2_with fail;go_region_held3 (fun w'=>w'.cell? ⟨E.bw,0,none⟩=some (.slice E.A E.n E.c)∧(w'.cell? ⟨w.heap.size,0,none⟩=some (Aa Ab p)∧w'.cell? ⟨w.heap.size,1,none⟩=some (Aa Ab q)∧w'.cell? ⟨w.heap.size,2,none⟩=some (Aa Ab t)∧w'.cell? ⟨w.heap.size,3,none⟩=some (Aa Ab v))) (first|with_reducible exact⟨c0,x0,x1,x2,x3⟩|with_reducible exact⟨Ah c0,Ah x0,Ah x1,Ah x2,Ah x3⟩) (first|(go_at_call 187;(with_reducible refine(Yn E.A E.n E.c p q t v _ m _ E.l _ HM.o.drew.b hcc (by omega) rfl HMM.o rfl).mono ?_);rintro e w5 ⟨rfl,hb⟩;replace HB:=Hd (Ad (Kt HB.o) hb);replace HM:=Hd (HM.o.drew.pure hb);replace HX:=Hd (HX.o.drew.pure hb);clear c0 x0 x1 x2 x3;clear hb;have c0:=HM.o.c0;have x0:=Al HX.o;have x1:=Ak HX.o;have x2:=Aj HX.o;have x3:=Am HX.o));clear c0 x0 x1 x2 x3;clear HM HX;go_wp2_with fail;go_at_call 54;refine(HW.o _).mono ?_;rintro e w6 ⟨rfl,rfl⟩;go_wp2;go_ret;exact⟨rfl,HB.o⟩
theorem Aoz(E:E0)(p q t v f:Int)(r:Bool)(w:World)(h:Ie E w)(hr:Y5 E.l p q t v f=r):
  Calls Tryz.prog 170 #[.pointer (some ⟨E.bw,0,none⟩),.agg #[Aa Ab p,Aa Ab q,Aa Ab t,Aa Ab v],Aa Ab f] w fun e w'=>e= .returned (.bool r)∧Below w.heap.size w w':=by
 unfold Y5 at hr;obtain⟨a,ha⟩:∃a,E8 E.l p q t v=a:=⟨_,rfl⟩;obtain⟨x,hx⟩:∃a,Fg E.l p q t v=a:=⟨_,rfl⟩;rw [ha,hx] at hr;have HA:=Hd ha;have HXX:=Hd hx;have HR:=Hd hr;clear ha hx hr;have HM:=Hd (h.alloc (.cells #[Aa Ab p,Aa Ab q,Aa Ab t,Aa Ab v] 75));have HX:=Hd (Ag.new w 75 #[Aa Ab p,Aa Ab q,Aa Ab t,Aa Ab v]);have HB:=Hd ((Below.refl w.heap.size w).alloc (Asp _) (.cells #[Aa Ab p,Aa Ab q,Aa Ab t,Aa Ab v] 75));have hnn:=h.hn;have hcc:=h.hc;have hlen:=h.b.1;clear h;have c0:=HM.o.c0;have x0:=Al HX.o;have x1:=Ak HX.o;have x2:=Aj HX.o;have x3:=Am HX.o;go_enter Tryz.func170,Tryz.ntmps170;go_wp2_with fail;go_region_held3 (fun w'=>w'.cell? ⟨E.bw,0,none⟩=some (.slice E.A E.n E.c)∧(w'.cell? ⟨w.heap.size,0,none⟩=some (Aa Ab p)∧w'.cell? ⟨w.heap.size,1,none⟩=some (Aa Ab q)∧w'.cell? ⟨w.heap.size,2,none⟩=some (Aa Ab t)∧w'.cell? ⟨w.heap.size,3,none⟩=some (Aa Ab v))) (first|with_reducible exact⟨c0,x0,x1,x2,x3⟩|with_reducible exact⟨Ah c0,Ah x0,Ah x1,Ah x2,Ah x3⟩) (first|(go_at_call 188;(with_reducible refine(Yj E.A E.n E.c p q t v a x E.l _ HM.o.drew.b hcc (by omega) HA.o HXX.o).mono ?_);rintro e w5 ⟨rfl,hb⟩;replace HB:=Hd (Ad (Kt HB.o) hb);replace HM:=Hd (HM.o.drew.pure hb);replace HX:=Hd (HX.o.drew.pure hb);clear c0 x0 x1 x2 x3;clear hb;have c0:=HM.o.c0;have x0:=Al HX.o;have x1:=Ak HX.o;have x2:=Aj HX.o;have x3:=Am HX.o));go_wp2_with fail;go_at_call 88;refine(Yi E a x f r _ HM.o HR.o).mono ?_;rintro e w6 ⟨rfl,hb⟩;replace HB:=Hd (Ad HB.o hb);clear hb;go_wp2;go_ret;exact⟨rfl,HB.o⟩
theorem Ama(E:E0)(p q t v f:Int)(r:Bool)(w:World)(h:Ie E w)(hr:Vi E.l p q t v f=r):
  Calls Tryz.prog 171 #[.pointer (some ⟨E.bw,0,none⟩),.agg #[Aa Ab p,Aa Ab q,Aa Ab t,Aa Ab v],Aa Ab f] w fun e w'=>e= .returned (.bool r)∧Below w.heap.size w w':=by
 unfold Vi at hr;obtain⟨a,ha⟩:∃a,E8 E.l p q t v=a:=⟨_,rfl⟩;obtain⟨x,hx⟩:∃a,Fg E.l p q t v=a:=⟨_,rfl⟩;rw [ha,hx] at hr;have HA:=Hd ha;have HXX:=Hd hx;have HR:=Hd hr;clear ha hx hr;have HM:=Hd (h.alloc (.cells #[Aa Ab p,Aa Ab q,Aa Ab t,Aa Ab v] 75));have HX:=Hd (Ag.new w 75 #[Aa Ab p,Aa Ab q,Aa Ab t,Aa Ab v]);have HB:=Hd ((Below.refl w.heap.size w).alloc (Asp _) (.cells #[Aa Ab p,Aa Ab q,Aa Ab t,Aa Ab v] 75));have hnn:=h.hn;have hcc:=h.hc;have hlen:=h.b.1;clear h;have c0:=HM.o.c0;have x0:=Al HX.o;have x1:=Ak HX.o;have x2:=Aj HX.o;have x3:=Am HX.o;go_enter Tryz.func171,Tryz.ntmps171;go_wp2_with fail;go_region_held3 (fun w'=>w'.cell? ⟨E.bw,0,none⟩=some (.slice E.A E.n E.c)∧(w'.cell? ⟨w.heap.size,0,none⟩=some (Aa Ab p)∧w'.cell? ⟨w.heap.size,1,none⟩=some (Aa Ab q)∧w'.cell? ⟨w.heap.size,2,none⟩=some (Aa Ab t)∧w'.cell? ⟨w.heap.size,3,none⟩=some (Aa Ab v))) (first|with_reducible exact⟨c0,x0,x1,x2,x3⟩|with_reducible exact⟨Ah c0,Ah x0,Ah x1,Ah x2,Ah x3⟩) (first|(go_at_call 188;(with_reducible refine(Yj E.A E.n E.c p q t v a x E.l _ HM.o.drew.b hcc (by omega) HA.o HXX.o).mono ?_);rintro e w5 ⟨rfl,hb⟩;replace HB:=Hd (Ad (Kt HB.o) hb);replace HM:=Hd (HM.o.drew.pure hb);replace HX:=Hd (HX.o.drew.pure hb);clear c0 x0 x1 x2 x3;clear hb;have c0:=HM.o.c0;have x0:=Al HX.o;have x1:=Ak HX.o;have x2:=Aj HX.o;have x3:=Am HX.o));go_wp2_with fail;go_at_call 89;refine(Abh E a x f r _ HM.o HR.o).mono ?_;rintro e w6 ⟨rfl,hb⟩;replace HB:=Hd (Ad HB.o hb);clear hb;go_wp2;go_ret;exact⟨rfl,HB.o⟩
attribute [local go_sem] Oper.semAt_some
theorem Ahm{w w':World}(h:Below w.heap.size w w'):w.grownBy w' none:=⟨h.os,h.tape,h.output,h.size,fun k hk _=>h.block k hk⟩
structure Nr(E:E0)(p q t v:Int)(bx br:Nat)(w:World):Prop where
 m:Ie E w
 x:Ag w bx 78 #[.pointer (some ⟨E.bw,0,none⟩)]
 r:Ag w br 75 #[Aa Ab p,Aa Ab q,Aa Ab t,Aa Ab v]
theorem Nr.pure{E:E0}{p q t v:Int}{bx br:Nat}{w w':World}(h:Nr E p q t v bx br w)(hb:Below w.heap.size w w'):Nr E p q t v bx br w':=⟨h.m.pure hb,h.x.pure hb,h.r.pure hb⟩
def ItK(E:E0)(p q t v:Int)(bx br:Nat)(w w':World):Prop:=Nr E p q t v bx br w→Nr E p q t v bx br w'
def Z6(l:List UInt8)(r:Rq)(N:Nat)(i:Fin N):Array Value:=#[Aa Ab (i.val:Int),.agg #[Aa Ab (Bw l r i.val).p,Aa Ab (Bw l r i.val).q,Aa Ab (Bw l r i.val).t,Aa Ab (Bw l r i.val).v]]
theorem Uk(E:E0)(p q t v:Int)(w:World):Calls Tryz.prog 94 #[.pointer (some ⟨E.bw,0,none⟩),.agg #[Aa Ab p,Aa Ab q,Aa Ab t,Aa Ab v]] w fun e w'=>e= .returned (.func (.func 174) #[] #[.pointer (some ⟨w.heap.size,0,none⟩),.pointer (some ⟨w.heap.size+1,0,none⟩)])∧w'=(w.alloc (.cells #[.pointer (some ⟨E.bw,0,none⟩)] 78)).alloc (.cells #[Aa Ab p,Aa Ab q,Aa Ab t,Aa Ab v] 75):=by
 go_enter Tryz.func94,Tryz.ntmps94;go_wp2;go_ret;exact⟨rfl,rfl⟩
theorem Aa2(l:List UInt8)(p q t v:Int):lsLen l p q t v≤l.length:=by
 by_cases h:Bs l p q t v=0
 ·obtain⟨h1,_,_,h4⟩:=Kn h;have h5:lsLen l p q t v*1≤lsLen l p q t v*(v.toNat+tgs t):=Nat.mul_le_mul_left _ (by omega);omega
 ·unfold lsLen;rw [if_neg h];exact Nat.zero_le _
theorem P9(E:E0)(p q t v:Int)(bx br N:Nat)(w:World)(hN:lsLen E.l p q t v=N)(h:Nr E p q t v bx br w)(n:Nat)(hn:1≤n):
  SeqStopsK Fence.wide n Tryz.prog 174 #[.pointer (some ⟨bx,0,none⟩),.pointer (some ⟨br,0,none⟩)] (Z6 E.l ⟨p,q,t,v⟩ N) (ItK E p q t v bx br) (fun xs=>xs=List.finRange N) (fun pre=>pre<+:List.finRange N) N w:=by
 intro l J Jx W hW hJ hJx hY h0;have HI:=Hd (h.pure hW);have HJ:=Hd h0;have HJA:=Hd hJ;have HY:=Hd hY;have HN:=Hd hN;clear h hW h0 hJ hY hN hJx;refine callsIn_wide.2 ?_;obtain⟨er,he⟩:∃a,Bs E.l p q t v=a:=⟨_,rfl⟩;have HEE:=Hd he;have HNI:=Hd (show(lsLen E.l p q t v:Int)=(N:Int) by rw [HN.o]);have hcc:=HI.o.m.hc;have hnn:=HI.o.m.hn;have hNb:N≤4294967296:=by have h1:=Aa2 E.l p q t v;have h2:=HI.o.m.b.1;have h3:=HN.o;omega
 clear he;have c0:=HI.o.m.c0;have b0:W.cell? ⟨bx,0,none⟩=some (.pointer (some ⟨E.bw,0,none⟩)):=HI.o.x.cell 0;have x0:=Al HI.o.r;have x1:=Ak HI.o.r;have x2:=Aj HI.o.r;have x3:=Am HI.o.r;go_enter Tryz.func174,Tryz.ntmps174;go_wp2_with fail;go_region_held3 (fun w'=>w'.cell? ⟨bx,0,none⟩=some (.pointer (some ⟨E.bw,0,none⟩))∧w'.cell? ⟨E.bw,0,none⟩=some (.slice E.A E.n E.c)∧(w'.cell? ⟨br,0,none⟩=some (Aa Ab p)∧w'.cell? ⟨br,1,none⟩=some (Aa Ab q)∧w'.cell? ⟨br,2,none⟩=some (Aa Ab t)∧w'.cell? ⟨br,3,none⟩=some (Aa Ab v)))
  (first|with_reducible exact⟨b0,c0,x0,x1,x2,x3⟩|with_reducible exact⟨Ah b0,Ah c0,Ah x0,Ah x1,Ah x2,Ah x3⟩)
  (first|(go_at_call 175;(with_reducible refine(Wg E.A E.n E.c p q t v N er E.l _ HI.o.m.drew.b hcc (by omega) HNI.o HEE.o).mono ?_);rintro e w5 ⟨rfl,hb⟩;have hb2:=Be (Cm W) hb;replace HI:=Hd (HI.o.pure hb2);replace HJ:=Hd (HJA.o _ _ _ none HJ.o (Ahm hb2) (fun r e=>by cases e));replace b0:=Ae hb2 b0;replace c0:=Ae hb2 c0;replace x0:=Ae hb2 x0;replace x1:=Ae hb2 x1;replace x2:=Ae hb2 x2;replace x3:=Ae hb2 x3;clear hb hb2))
 clear b0 c0 x0 x1 x2 x3;go_wp2_with fail;go_loopw [19] (fun u wr=>∃k:Nat,u= Aa Ab k∧k≤N∧Nr E p q t v bx br wr∧J ((List.finRange N).take k) wr) (fun u _=>N-(intOf u).toNat)
 case atStart=>exact⟨0,rfl,Nat.zero_le _,HI.o,by rw [List.take_zero];exact HJ.o⟩
 case round=>
  clear HI HJ;obtain⟨k,rfl,hkN,hI1,hJ1⟩:=hrel;have HI:=Hd hI1;have HJ:=Hd hJ1;clear hI1 hJ1;by_cases hk:k<N
  ·obtain⟨kp,hk1⟩:∃x,Ij E.l p q t v k=x:=⟨_,rfl⟩;obtain⟨kq,hk2⟩:∃x,Ik E.l p q t v k=x:=⟨_,rfl⟩;obtain⟨kt,hk3⟩:∃x,Ih E.l p q t v k=x:=⟨_,rfl⟩;obtain⟨kv,hk4⟩:∃x,Il E.l p q t v k=x:=⟨_,rfl⟩;obtain⟨ee,hee'⟩:∃x,Es E.l p q t v k=x:=⟨_,rfl⟩;have HP:=Hd hk1;have HQQ:=Hd hk2;have HT:=Hd hk3;have HV:=Hd hk4;have HKE:=Hd hee';clear hk1 hk2 hk3 hk4 hee';go_upto_region 4 with fail
   go_cut [7,8] (fun u7 u8 wx=>∃wy,wy=wx∧u8= Aa Ab ee∧∃g,u7= .pointer (some ⟨g,0,none⟩)∧Ag wx g 75 #[Aa Ab kp,Aa Ab kq,Aa Ab kt,Aa Ab kv]∧Below wr.heap.size wr wx)
   case first=>
    have HQ:=Hd (Below.refl wr.heap.size wr);have HL:=Hd HI.o.m.b;have HX0:=Hd HI.o;have HB0:=Hd (show wr.cell? ⟨bx,0,none⟩=some (.pointer (some ⟨E.bw,0,none⟩)) from HI.o.x.cell 0);have hn1:E.bw≠wr.heap.size:=by have:=Ao HI.o.m.c0;simp only at this;omega
    have hn2:br≠wr.heap.size:=by have:=HI.o.r.lt;omega
    have hn3:bx≠wr.heap.size:=by have:=HI.o.x.lt;omega
    have c0:=HI.o.m.c0;have b0:wr.cell? ⟨bx,0,none⟩=some (.pointer (some ⟨E.bw,0,none⟩)):=HI.o.x.cell 0;have x0:=Al HI.o.r;have x1:=Ak HI.o.r;have x2:=Aj HI.o.r;have x3:=Am HI.o.r;clear HI HJ;go_region_held3 (fun w'=>w'.cell? ⟨bx,0,none⟩=some (.pointer (some ⟨E.bw,0,none⟩))∧w'.cell? ⟨E.bw,0,none⟩=some (.slice E.A E.n E.c)∧(w'.cell? ⟨br,0,none⟩=some (Aa Ab p)∧w'.cell? ⟨br,1,none⟩=some (Aa Ab q)∧w'.cell? ⟨br,2,none⟩=some (Aa Ab t)∧w'.cell? ⟨br,3,none⟩=some (Aa Ab v)))
     ((with_reducible refine⟨?_,?_,?_,?_,?_,?_⟩) <;>(repeat (first|with_reducible assumption|with_reducible refine Bq ?_|with_reducible refine Fz _ ?_|with_reducible refine Oz ?_ ?_)))
     (first|(go_at_call 176;(first|(with_reducible refine(Ut E.A E.n E.c p q t v k kp kq kt kv ee E.l _ (HL.o.pure HQ.o.drew) hcc (by omega) HP.o HQQ.o HT.o HV.o HKE.o).mono ?_)|(with_reducible refine(Ut E.A E.n E.c p q t v k kp kq kt kv ee E.l _ (HL.o.pure (HQ.o.alloc HQ.o.size _).drew) hcc (by omega) HP.o HQQ.o HT.o HV.o HKE.o).mono ?_));rintro e w7 ⟨rfl,hb⟩;(first|(with_reducible replace HQ:=Hd (Ad HQ.o.drew hb))|((with_reducible have HK:=Hd ((Ag.new wr 75 #[Aa Ab 0,Aa Ab 0,Aa Ab 0,Aa Ab 0]).drew.pure hb));(with_reducible replace HQ:=Hd (Ad (HQ.o.alloc HQ.o.size _).drew hb));have q0:=Al HK.o;have q1:=Ak HK.o;have q2:=Aj HK.o;have q3:=Am HK.o;have p0:=HK.o.frozen 0;have p1:=HK.o.frozen 1;have p2:=HK.o.frozen 2;have p3:=HK.o.frozen 3));replace b0:=Ae HQ.o HB0.o;replace c0:=Ae HQ.o HX0.o.m.c0;replace x0:=Ae HQ.o (Al HX0.o.r);replace x1:=Ae HQ.o (Ak HX0.o.r);replace x2:=Ae HQ.o (Aj HX0.o.r);replace x3:=Ae HQ.o (Am HX0.o.r);have hn4:E.bw≠w7.heap.size:=(by have:=Ao c0;simp only at this;omega);have hn5:br≠w7.heap.size:=(by have:=Ao x0;simp only at this;omega);have hn6:bx≠w7.heap.size:=(by have:=Ao b0;simp only at this;omega);clear hb))
    all_goals
     go_wp2_with fail;go_meet
     first
      |with_reducible exact⟨_,rfl,rfl,_,rfl,Ag.new _ _ _,HQ.o.alloc HQ.o.size _⟩
      |exact⟨_,rfl,rfl,_,rfl,(((HK.o.set_ 0 _).set_ 1 _).set_ 2 _).set_ 3 _,Cn _ HQ.o (Asp _) _ _ _ _⟩
   case rest=>
   obtain⟨w6,rfl,rfl,g,rfl,hK,hb⟩:=hcut;replace HI:=Hd (HI.o.pure hb);replace HJ:=Hd (HJA.o _ _ _ none HJ.o (Ahm hb) (fun r e=>by cases e));have k0:=Al hK;have k1:=Ak hK;have k2:=Aj hK;have k3:=Am hK;have henc:Z6 E.l ⟨p,q,t,v⟩ N ⟨k,hk⟩=#[Aa Ab (k:Int),.agg #[Aa Ab kp,Aa Ab kq,Aa Ab kt,Aa Ab kv]]:=by
    unfold Z6 Bw;simp only [HP.o,HQQ.o,HT.o,HV.o]
   obtain⟨fn,tmps,assign,body,hy,hR⟩:=HY.o ((List.finRange N).take k) ⟨k,hk⟩ _ HJ.o (by rw [List.length_take,List.length_finRange];omega);rw [henc] at hy;clear hb hK henc;go_upto_region 5 with fail
   refine(wpIn_wide (n:=n)).1 ?_
   gi_wp2
   refine hR.mono ?_;rintro e W9 (⟨rfl,hJ9,hk9⟩|⟨rfl,hJ9⟩)
   ·have HI9:=Hd (hk9 HI.o);have HJ9:=Hd hJ9;clear hJ9 hk9 hR hy HI HJ k0 k1 k2 k3
    gi_wp2
    have hwk:IntKind.i64.wrap ((k:Int)+1)=(k:Int)+1:=IntWalk.i64_in _ (by omega);go_wp2_with fail;go_roundw
    case rel=>
     refine⟨k+1,by go_num,hk,HI9.o,?_⟩;have e:(List.finRange N).take (k+1)=(List.finRange N).take k++ [⟨k,hk⟩]:=by
      rw [←List.take_append_getElem (by rw [List.length_finRange];exact hk)];simp
     rw [e];exact HJ9.o
    case measure=>simp [intOf];omega
   ·have HJ9:=Hd hJ9;have HPF:=Hd (show(List.finRange N).take k++ [⟨k,hk⟩]<+:List.finRange N by
     have e:(List.finRange N).take (k+1)=(List.finRange N).take k++ [⟨k,hk⟩]:=by
      rw [←List.take_append_getElem (by rw [List.length_finRange];exact hk)];simp
     rw [←e];exact List.take_prefix _ _)
    clear hJ9 hR hy HI HJ k0 k1 k2 k3
    gi_wp2
    go_wp2_with fail;refine bodyPost_ret (results_none rfl _ _ _) rfl ?_;exact⟨⟨_,rfl⟩,.inr ⟨_,HPF.o,HJ9.o⟩⟩
  ·have hkk:k=N:=by omega
   have hd:decide (k<N)=false:=decide_eq_false (by omega);have HE:=Hd (show(List.finRange N).take k=List.finRange N from List.take_of_length_le (by rw [List.length_finRange];omega));clear hk hkk;go_wp2_with fail;go_end0;refine⟨⟨_,rfl⟩,.inl ⟨_,rfl,?_⟩⟩;have:=HJ.o;rw [HE.o] at this;exact this
end Go.Proofs.YtgbjodnegkbfoaaGreat
