/- Parts of the proof. -/
import Derived.Test.YtgbjodnegkbfoaaGreatQm08
import Derived.Deep.DeepCutAuto
import Derived.RangeFuncNested
import Derived.RangeFuncBound
import Derived.RangeFuncCalls
import Derived.RangeFuncLeaves
import Derived.Shelf.Abstract
import Derived.Shelf.RegionOpen
import Derived.OwnWalkIn
import Derived.TacticsInMore
import Derived.LoopNIn
import Derived.LoopIn
import Derived.MapKept
import Derived.Carry
set_option maxHeartbeats 2000000
set_option maxRecDepth 100000
open Go.Value renaming int→Aa
open Go.IntKind renaming i64→Ab,u64→Ac
open Nat renaming le_refl→Asp
namespace Go.Proofs.YtgbjodnegkbfoaaGreat
open Go.RowKit Go.Acc
structure Np(M:Bp)(v:Bv)(t bx bv bt:Nat)(w:World)(o:Nat→Nat):Prop where
 x:Ag w bx 120 #[.pointer (some ⟨M.β,0,none⟩)]
 v:Ag w bv 210 #[Aa Ab (v.t:Int),Aa Ab (v.w:Int),Aa Ac (v.n:Int)]
 t:Ag w bt 3 #[Aa Ab (t:Int)]
 ox:o bx=0
 ov:o bv=0
 ot:o bt=0
theorem Np.to_{M:Bp}{v:Bv}{t bx bv bt:Nat}{w w':World}{o o':Nat→Nat}{I:Nat→Prop}(h:Np M v t bx bv bt w o)(ht:To I w o w' o')(hI:¬I 0):Np M v t bx bv bt w' o':=
 ⟨h.x.to_ ht (by rw [h.ox];exact hI),h.v.to_ ht (by rw [h.ov];exact hI),h.t.to_ ht (by rw [h.ot];exact hI),by rw [ht.ow _ h.x.lt];exact h.ox,by rw [ht.ow _ h.v.lt];exact h.ov,by rw [ht.ow _ h.t.lt];exact h.ot⟩
theorem Np.cells{M:Bp}{v:Bv}{t bx bv bt:Nat}{w:World}{o:Nat→Nat}(h:Np M v t bx bv bt w o):
  w.cell? ⟨bx,0,none⟩=some (.pointer (some ⟨M.β,0,none⟩))∧w.cell? ⟨bv,0,none⟩=some (Aa Ab (v.t:Int))∧w.cell? ⟨bv,1,none⟩=some (Aa Ab (v.w:Int))∧w.cell? ⟨bv,2,none⟩=some (Aa Ac (v.n:Int))∧w.cell? ⟨bt,0,none⟩=some (Aa Ab (t:Int)):=
 ⟨h.x.cell 0,h.v.cell 0,h.v.cell 1,h.v.cell 2,h.t.cell 0⟩
theorem Np.drew{M:Bp}{v:Bv}{t bx bv bt:Nat}{w:World}{o:Nat→Nat}(h:Np M v t bx bv bt w o):Np M v t bx bv bt w.drew o:=⟨h.x,h.v,h.t,h.ox,h.ov,h.ot⟩
theorem Np.drewN{M:Bp}{v:Bv}{t bx bv bt:Nat}{w:World}{o:Nat→Nat}(n:Nat)(h:Np M v t bx bv bt w o):Np M v t bx bv bt (w.drewN n) o:=⟨h.x,h.v,h.t,h.ox,h.ov,h.ot⟩
theorem BM.drew{M:Bp}{fl:Int}{w:World}{o:Nat→Nat}{b:Bd}(h:BM M fl w o b):BM M fl w.drew o b:=h.pure (Below.refl _ _).drew
theorem I3(n y:Nat):Dv y (n % 2^(8*y))=true:=decide_eq_true (.inr (Nat.mod_lt _ (Nat.two_pow_pos _)))
theorem Mj(n:Nat){y:Nat}(hy:Av (y:Int)=true):((n % 2^(8*y):Nat):Int)<18446744073709551616:=by
 have h:=Nat.mod_lt n (Nat.two_pow_pos (8*y));have h2:2^(8*y)≤2^64:=Nat.pow_le_pow_right (by omega) (by have:=C1 hy;omega);have h3:n % 2^(8*y)<18446744073709551616:=Nat.lt_of_lt_of_le h h2;omega
theorem Ahk(l:List UInt8){y:Nat}(hy:Av (y:Int)=true)(hm:l.length+15≤1048576):(An y l).length+y≤1048576:=by
 have h8:y≤8:=by
  have:=C1 hy;omega
 have:=Cy l h8;omega
theorem Mo(M:Bp)(fl:Int)(b:Bd)(t y n:Nat)(w:World)(o:Nat→Nat)(h:BM M fl w o b)(hs:b.s.length<65536):
  Calls Tryz.prog 235 #[.pointer (some ⟨M.β,0,none⟩),.agg #[Aa Ab (t:Int),Aa Ab (y:Int),Aa Ac (n:Int)]] w (Ck M fl (b.push ⟨t,y,n⟩) w o):=Ll M fl b ⟨t,y,n⟩ w o h hs
theorem Aja(n y q:Nat)(w:World)(hy:Av (y:Int)=true)(hq:n % 2^(8*y)=q):Calls Tryz.prog 161 #[Aa Ac (n:Int),Aa Ab (y:Int)] w fun e w'=>e= .returned (Aa Ac (q:Int))∧w=w':=by
 subst hq;exact Al3 n y w hy
theorem Acf(M:Bp)(fl:Int)(b:Bd)(v:Bv)(t bx bv bt:Nat)(w:World)(o:Nat→Nat)(h:BM M fl w o b)(hc:Np M v t bx bv bt w o)(hs:b.s.length<65536)(hy:Av (v.w:Int)=true)(hm:b.b.length+15≤1048576):
  Calls Tryz.prog 389 #[.pointer (some ⟨bx,0,none⟩),.pointer (some ⟨bv,0,none⟩),.pointer (some ⟨bt,0,none⟩)] w (Ck M fl (b.apart t v.w v.n) w o):=by
 have HM:=Hd h;have HC:=Hd hc;have HS:=Hd hs;have HY:=Hd hy;have HL:=Hd (show b.b.length+7≤1048576 by omega);have HL2:=Hd (show(An v.w b.b).length+v.w≤1048576 from(Ahk b.b hy hm));obtain⟨x0,v0,v1,v2,t0⟩:=hc.cells;have b0:=h.head.cells.1;clear h hc hs hy hm;go_enter Tryz.func389,Tryz.ntmps389;go_wp2_with fail;go_region_held3 (fun w'=>w'.cell? ⟨bx,0,none⟩=some (.pointer (some ⟨M.β,0,none⟩))∧w'.cell? ⟨bv,0,none⟩=some (Aa Ab (v.t:Int))∧w'.cell? ⟨bv,1,none⟩=some (Aa Ab (v.w:Int))∧w'.cell? ⟨bv,2,none⟩=some (Aa Ac (v.n:Int))∧w'.cell? ⟨bt,0,none⟩=some (Aa Ab (t:Int))∧w'.cell? ⟨M.β,0,none⟩=some (.pointer (some ⟨M.bb,0,none⟩))) (first|with_reducible exact⟨x0,v0,v1,v2,t0,b0⟩|with_reducible exact⟨Af x0,Af v0,Af v1,Af v2,Af t0,Af b0⟩|with_reducible exact⟨y0,y1,y2,y3,y4,y5⟩) (first|(go_at_call 160;(with_reducible refine(Gm M.bb v.w b.b _ o HM.o.drew.buf HY.o HL.o).mono ?_);rintro e W1 ⟨rfl,o1,hB1,hT1⟩;have hM1:=HM.o.drew.buf_ hT1 hB1;have hC1:=HC.o.drew.to_ hT1 (by omega);obtain⟨y0,y1,y2,y3,y4⟩:=hC1.cells;have y5:=hM1.head.cells.1;have HM1:=Hd hM1;have HC1:=Hd hC1;have HT1:=Hd hT1.from_drew;clear hB1 hT1 hM1 hC1));clear x0 v0 v1 v2 t0 b0;obtain⟨m,hmm⟩:∃x,(An v.w b.b).length=x:=⟨_,rfl⟩;have HMM:=Hd hmm;have HAP:=Hd (show b.apart t v.w v.n=({ b with b:=An v.w b.b++Ai v.w (v.n % 2^(8*v.w))}:Bd).push ⟨t,v.w,m⟩ by unfold Bd.apart Bd.push;rw [←hmm]);obtain⟨q,hq⟩:∃q,v.n % 2^(8*v.w)=q:=⟨_,rfl⟩;have HFL:=Hd (show Dv v.w q=true by rw [←hq];exact I3 v.n v.w);have HLT:=Hd (show(q:Int)<18446744073709551616 by rw [←hq];exact Mj v.n HY.o);have HQ:=Hd hq;clear hmm hq;go_wp2_with (go_at_call 159;refine(C9 m HM1.o.buf HMM.o).mono ?_;rintro e w' ⟨rfl,rfl⟩);go_region_held3 (fun w'=>w'.cell? ⟨bx,0,none⟩=some (.pointer (some ⟨M.β,0,none⟩))∧w'.cell? ⟨bv,0,none⟩=some (Aa Ab (v.t:Int))∧w'.cell? ⟨bv,1,none⟩=some (Aa Ab (v.w:Int))∧w'.cell? ⟨bv,2,none⟩=some (Aa Ac (v.n:Int))∧w'.cell? ⟨bt,0,none⟩=some (Aa Ab (t:Int))∧w'.cell? ⟨M.β,0,none⟩=some (.pointer (some ⟨M.bb,0,none⟩))) (first|with_reducible exact⟨y0,y1,y2,y3,y4,y5⟩|with_reducible exact⟨Af y0,Af y1,Af y2,Af y3,Af y4,Af y5⟩|with_reducible exact⟨z0,z1,z2,z3,z4,z5⟩) (first|(go_at_call 161;(with_reducible refine(Aja v.n v.w q _ HY.o HQ.o).mono ?_);rintro e w' ⟨rfl,rfl⟩)|(go_at_call 163;(with_reducible refine(D2 M.bb v.w q (An v.w b.b) _ o1 HM1.o.drew.buf HY.o HFL.o HLT.o HL2.o).mono ?_);rintro e W2 ⟨rfl,o2,hB2,hT2⟩;have hM2:=HM1.o.drew.buf_ hT2 hB2;have hC2:=HC1.o.drew.to_ hT2 (by omega);obtain⟨z0,z1,z2,z3,z4⟩:=hC2.cells;have z5:=hM2.head.cells.1;have HM2:=Hd hM2;have HC2:=Hd hC2;have HT2:=Hd hT2.from_drew;clear hB2 hT2 hM2 hC2));clear y0 y1 y2 y3 y4 y5;have hwm:IntKind.u64.wrap (m:Int)=(m:Int):=B7 _ (by have:=HL2.o;have:=HMM.o;omega);go_wp2_with fail;go_region_held3 (fun w'=>w'.cell? ⟨bx,0,none⟩=some (.pointer (some ⟨M.β,0,none⟩))∧w'.cell? ⟨bv,0,none⟩=some (Aa Ab (v.t:Int))∧w'.cell? ⟨bv,1,none⟩=some (Aa Ab (v.w:Int))∧w'.cell? ⟨bv,2,none⟩=some (Aa Ac (v.n:Int))∧w'.cell? ⟨bt,0,none⟩=some (Aa Ab (t:Int))∧w'.cell? ⟨M.β,0,none⟩=some (.pointer (some ⟨M.bb,0,none⟩))) (first|with_reducible exact⟨z0,z1,z2,z3,z4,z5⟩|with_reducible exact⟨Af z0,Af z1,Af z2,Af z3,Af z4,Af z5⟩|with_reducible exact⟨x0,x1,x2,x3,x4,x5⟩) (first|(go_at_call 235;(with_reducible refine(Mo M fl { b with b:=An v.w b.b++Ai v.w q} t v.w m _ o2 HM2.o.drew HS.o).mono ?_);rintro e W3 ⟨rfl,o3,hM3,hT3⟩;have hC3:=HC2.o.drew.to_ hT3 Bg;obtain⟨x0,x1,x2,x3,x4⟩:=hC3.cells;have x5:=hM3.head.cells.1;have HM3:=Hd hM3;have HT3:=Hd hT3.from_drew;clear hT3 hM3 hC3));go_end0;rw [HAP.o,HQ.o];exact⟨rfl,o3,HM3.o,((HT1.o.trans HT2.o).mono fun _ h=>Hj h).trans HT3.o⟩
theorem Nf(w:World)(x y z:Obj):Below w.heap.size w (((w.alloc x).alloc y).alloc z):=(Ba w x y).alloc (by simp;omega) _
theorem T5(M:Bp)(fl:Int)(b:Bd)(v:Bv)(t:Nat)(w:World)(o:Nat→Nat)(h:BM M fl w o b)(hs:b.s.length<65536)(hy:Av (v.w:Int)=true)(hm:b.b.length+15≤1048576):
  Calls Tryz.prog 333 #[.pointer (some ⟨M.β,0,none⟩),Aa Ab (t:Int),.agg #[Aa Ab (v.t:Int),Aa Ab (v.w:Int),Aa Ac (v.n:Int)]] w (Ck M fl (b.apart t v.w v.n) w o):=by
 have HS:=Hd hs;have HY:=Hd hy;have HL:=Hd hm;have hB:=Nf w (.cells #[.pointer (some ⟨M.β,0,none⟩)] 120) (.cells #[Aa Ab (t:Int)] 3) (.cells #[Aa Ab (v.t:Int),Aa Ab (v.w:Int),Aa Ac (v.n:Int)] 210);have HB:=Hd hB;have HM:=Hd (h.fresh hB 0);have HC:=Hd (show Np M v t w.heap.size (w.heap.size+1+1) (w.heap.size+1) (((w.alloc (.cells #[.pointer (some ⟨M.β,0,none⟩)] 120)).alloc (.cells #[Aa Ab (t:Int)] 3)).alloc (.cells #[Aa Ab (v.t:Int),Aa Ab (v.w:Int),Aa Ac (v.n:Int)] 210)) (Aq o w.heap.size 0) from
  ⟨((Ag.new w 120 #[.pointer (some ⟨M.β,0,none⟩)]).alloc _).alloc _,Ki w _ _ _ _,(B3 w _ 3 #[Aa Ab (t:Int)]).alloc _,As (by omega),As (by omega),As (by omega)⟩)
 clear h hs hB hy hm;go_enter Tryz.func333,Tryz.ntmps333;go_wp2_with fail;go_at_call 225;refine(Dh M fl 389 _ _ (Aq o w.heap.size 0) b.vals _ HM.o.head Tryz.call389 ((Acf M fl b v t w.heap.size (w.heap.size+1+1) (w.heap.size+1) _ (Aq o w.heap.size 0) HM.o HC.o HS.o HY.o HL.o).mono fun e w' h=>⟨h.1,h⟩)).mono ?_;rintro e w' hR;obtain rfl:=hR.1;have HR:=Hd (hR.from_fresh HB.o);clear hR;go_wp2;go_end0;exact HR.o
theorem Afo(M:Bp)(fl:Int)(b:Bd)(n:Int)(w:World)(o:Nat→Nat)(h:BM M fl w o b)(hs:b.s.length<65536)(hm:b.b.length+15≤1048576)(hn: -9223372036854775808≤n∧n≤9223372036854775807):
  Calls Tryz.prog 246 #[.pointer (some ⟨M.β,0,none⟩),Aa Ab n] w (Ck M fl (b.apart 6 (bWidthI n) (bits n)) w o):=by
 have H:=Hd h;have HS:=Hd hs;have HL:=Hd hm;have HY:=Hd (G4 n);have HN:=Hd hn;clear h hs hm hn;go_enter Tryz.func246,Tryz.ntmps246;go_wp2_with fail;go_at_call 220;refine(Tf n _ HN.o).mono ?_;rintro e w1 ⟨rfl,hB⟩;have HB:=Hd hB;clear hB;go_wp2_with fail;go_at_call 333;refine(T5 M fl b (Cq n) 6 _ o (H.o.pure HB.o) HS.o HY.o HL.o).mono ?_;intro e w2 hR;obtain rfl:=hR.1;have HR:=Hd (hR.from_pure HB.o);clear hR;go_wp2;go_end0;exact HR.o
theorem Ack(M:Bp)(fl:Int)(b:Bd)(u:Nat)(w:World)(o:Nat→Nat)(h:BM M fl w o b)(hs:b.s.length<65536)(hm:b.b.length+15≤1048576)(hu:u<18446744073709551616):
  Calls Tryz.prog 247 #[.pointer (some ⟨M.β,0,none⟩),Aa Ac (u:Int)] w (Ck M fl (b.apart 7 (bWidth u) u) w o):=by
 have H:=Hd h;have HS:=Hd hs;have HL:=Hd hm;have HY:=Hd (D1 u);have HN:=Hd hu;clear h hs hm hu;go_enter Tryz.func247,Tryz.ntmps247;go_wp2_with fail;go_at_call 222;refine(Tu u _ HN.o).mono ?_;rintro e w1 ⟨rfl,hB⟩;have HB:=Hd hB;clear hB;go_wp2_with fail;go_at_call 333;refine(T5 M fl b (Cu u) 7 _ o (H.o.pure HB.o) HS.o HY.o HL.o).mono ?_;intro e w2 hR;obtain rfl:=hR.1;have HR:=Hd (hR.from_pure HB.o);clear hR;go_wp2;go_end0;exact HR.o
attribute [local go_sem] Oper.semAt_some
theorem Mc(n:Nat)(w:World)(hn:n≤1073741824):Calls Tryz.prog 252 #[Aa Ab (n:Int)] w fun e w'=>e= .returned (.bool true)∧w=w':=by
 have h0:(0:Int)≤(n:Int):=by omega
 have h1:(n:Int)≤1073741824:=by omega
 go_enter Tryz.func252,Tryz.ntmps252;go_wp2;go_ret;exact⟨rfl,rfl⟩
theorem Jn{W W':World}{row:Option Nat}(hg:W.grownBy W' row)(hr:∀r,row=some r→∃o:Obj,W.heap[r]?=some o∧o.isCells=false){g:Nat}{t:TypeId}{cs:Array Value}(h:Ag W g t cs):Ag W' g t cs:=(grownBy_keeps_cells hg hr h rfl).trans h
theorem Hf{B:Nat}{W W':World}(hb:Below W.heap.size W W'):KeepsFrom B W W':=⟨hb.size,fun k _ _ hk _=>(hb.block k (Array.getElem?_eq_some_iff.1 hk).1).trans hk⟩
theorem Akp{F:Fence}{n:Nat}{P:Program}{c:Code}{Q:Exit→Act→World→Prop}{a:Act}{w:World}(h:∀a0,a0=a→c.wpIn F n P Q a0 w):c.wpIn F n P Q a w:=h a rfl
def Kd:List (Fin 4):=[0,1,2,3]
def V9(i:Fin 4):Array Value:=#[Aa Ab ((2^i.val:Nat):Int)]
theorem Yz(w:World)(n:Nat)(hn:1≤n):
  SeqStopsK Fence.wide n Tryz.prog 390 #[] V9 (fun _ _=>True) (fun xs=>xs=Kd) (fun pre=>pre<+:Kd) 4 w:=by
 intro l J Jx W hW hJ hJx hY h0;have HJ:=Hd h0;have HY:=Hd hY;clear hW h0 hJ hY hJx;refine callsIn_wide.2 ?_;go_enter Tryz.func390,Tryz.ntmps390;go_wp2_with fail;go_loopw [2] (fun u wr=>∃k:Nat,k≤4∧u= Aa Ab ((2^k:Nat):Int)∧J (Kd.take k) wr) (fun u _=>16-(intOf u).toNat)
 case atStart=>exact⟨0,by omega,rfl,HJ.o⟩
 case round=>
  clear HJ;obtain⟨k,hk,rfl,hJ1⟩:=hrel;have HJ:=Hd hJ1;clear hJ1;obtain rfl|rfl|rfl|rfl|rfl:k=0∨k=1∨k=2∨k=3∨k=4:=by omega
  ·have HJK:=Hd (show J (Kd.take 0) wr from HJ.o);simp only [Nat.reducePow,Int.cast_ofNat_Int];clear HJ;go_upto_region 3 with fail
   obtain⟨fn,tmps,assign,body,hy,hR⟩:=HY.o (Kd.take 0) 0 _ HJK.o (by decide);rw [show V9 0=#[Aa Ab 1] from rfl] at hy;refine(wpIn_wide (n:=n)).1 ?_
   gi_wp2
   refine hR.mono ?_;rintro e W9 (⟨rfl,hJ9, -⟩|⟨rfl,hJ9⟩)
   ·have HJ9:=Hd hJ9;clear hJ9 hR hy HJK
    gi_wp2
    go_wp2_with fail;go_roundw
    case rel=>exact⟨0+1,by omega,rfl,HJ9.o⟩
    case measure=>simp [intOf]
   ·have HJ9:=Hd hJ9;clear hJ9 hR hy HJK
    gi_wp2
    go_wp2_with fail;refine bodyPost_ret (results_none rfl _ _ _) rfl ?_;exact⟨⟨_,rfl⟩,.inr ⟨[0],by decide,HJ9.o⟩⟩
  ·have HJK:=Hd (show J (Kd.take 1) wr from HJ.o);simp only [Nat.reducePow,Int.cast_ofNat_Int];clear HJ;go_upto_region 3 with fail
   obtain⟨fn,tmps,assign,body,hy,hR⟩:=HY.o (Kd.take 1) 1 _ HJK.o (by decide);rw [show V9 1=#[Aa Ab 2] from rfl] at hy;refine(wpIn_wide (n:=n)).1 ?_
   gi_wp2
   refine hR.mono ?_;rintro e W9 (⟨rfl,hJ9, -⟩|⟨rfl,hJ9⟩)
   ·have HJ9:=Hd hJ9;clear hJ9 hR hy HJK
    gi_wp2
    go_wp2_with fail;go_roundw
    case rel=>exact⟨1+1,by omega,rfl,HJ9.o⟩
    case measure=>simp [intOf]
   ·have HJ9:=Hd hJ9;clear hJ9 hR hy HJK
    gi_wp2
    go_wp2_with fail;refine bodyPost_ret (results_none rfl _ _ _) rfl ?_;exact⟨⟨_,rfl⟩,.inr ⟨[0,1],by decide,HJ9.o⟩⟩
  ·have HJK:=Hd (show J (Kd.take 2) wr from HJ.o);simp only [Nat.reducePow,Int.cast_ofNat_Int];clear HJ;go_upto_region 3 with fail
   obtain⟨fn,tmps,assign,body,hy,hR⟩:=HY.o (Kd.take 2) 2 _ HJK.o (by decide);rw [show V9 2=#[Aa Ab 4] from rfl] at hy;refine(wpIn_wide (n:=n)).1 ?_
   gi_wp2
   refine hR.mono ?_;rintro e W9 (⟨rfl,hJ9, -⟩|⟨rfl,hJ9⟩)
   ·have HJ9:=Hd hJ9;clear hJ9 hR hy HJK
    gi_wp2
    go_wp2_with fail;go_roundw
    case rel=>exact⟨2+1,by omega,rfl,HJ9.o⟩
    case measure=>simp [intOf]
   ·have HJ9:=Hd hJ9;clear hJ9 hR hy HJK
    gi_wp2
    go_wp2_with fail;refine bodyPost_ret (results_none rfl _ _ _) rfl ?_;exact⟨⟨_,rfl⟩,.inr ⟨[0,1,2],by decide,HJ9.o⟩⟩
  ·have HJK:=Hd (show J (Kd.take 3) wr from HJ.o);simp only [Nat.reducePow,Int.cast_ofNat_Int];clear HJ;go_upto_region 3 with fail
   obtain⟨fn,tmps,assign,body,hy,hR⟩:=HY.o (Kd.take 3) 3 _ HJK.o (by decide);rw [show V9 3=#[Aa Ab 8] from rfl] at hy;refine(wpIn_wide (n:=n)).1 ?_
   gi_wp2
   refine hR.mono ?_;rintro e W9 (⟨rfl,hJ9, -⟩|⟨rfl,hJ9⟩)
   ·have HJ9:=Hd hJ9;clear hJ9 hR hy HJK
    gi_wp2
    go_wp2_with fail;go_roundw
    case rel=>exact⟨3+1,by omega,rfl,HJ9.o⟩
    case measure=>simp [intOf]
   ·have HJ9:=Hd hJ9;clear hJ9 hR hy HJK
    gi_wp2
    go_wp2_with fail;refine bodyPost_ret (results_none rfl _ _ _) rfl ?_;exact⟨⟨_,rfl⟩,.inr ⟨[0,1,2,3],by decide,HJ9.o⟩⟩
  ·simp only [Nat.reducePow,Int.cast_ofNat_Int];go_wp2_with fail;go_end0;exact⟨⟨_,rfl⟩,.inl ⟨_,rfl,HJ.o⟩⟩
attribute [local go_sem] Oper.semAt_some
theorem Ade(w:World):Calls Tryz.prog 338 #[] w fun e w'=>e= .returned (.func (.func 390) #[] #[])∧w=w':=by
 go_enter Tryz.func338,Tryz.ntmps338;go_wp2;go_ret;exact⟨rfl,rfl⟩
theorem Aay{f:Nat→Bool}{y:Fin 4}{pre:List (Fin 4)}(hp:pre++ [y]<+:Kd)(h:∀z∈pre,f (2^z.val)=false)(hy:f (2^y.val)=true):leastW f=2^y.val:=by
 unfold leastW;obtain⟨r,hr⟩:=hp;rcases pre with _|⟨a,_|⟨b,_|⟨c,_|⟨d,pre⟩⟩⟩⟩
 ·simp [Kd] at hr;obtain⟨rfl,_⟩:=hr;rw [if_pos (show f 1=true from hy)];rfl
 ·simp [Kd] at hr;obtain⟨rfl,rfl,_⟩:=hr;have h0:f 1=false:=h 0 (by simp);rw [if_neg (by rw [h0];decide),if_pos (show f 2=true from hy)];rfl
 ·simp [Kd] at hr;obtain⟨rfl,rfl,rfl,_⟩:=hr;have h0:f 1=false:=h 0 (by simp);have h1:f 2=false:=h 1 (by simp);rw [if_neg (by rw [h0];decide),if_neg (by rw [h1];decide),if_pos (show f 4=true from hy)];rfl
 ·simp [Kd] at hr;obtain⟨rfl,rfl,rfl,rfl,_⟩:=hr;have h0:f 1=false:=h 0 (by simp);have h1:f 2=false:=h 1 (by simp);have h2:f 4=false:=h 2 (by simp);rw [if_neg (by rw [h0];decide),if_neg (by rw [h1];decide),if_neg (by rw [h2];decide),if_pos (show f 8=true from hy)];rfl
 ·exfalso;have:=congrArg List.length hr;simp [Kd] at this
theorem Ai4{f:Nat→Bool}(h:∀z∈Kd,f (2^z.val)=false):leastW f=0:=by
 unfold leastW;have h0:f 1=false:=h 0 (by decide);have h1:f 2=false:=h 1 (by decide);have h2:f 4=false:=h 2 (by decide);have h3:f 8=false:=h 3 (by decide);rw [h0,h1,h2,h3];rfl
theorem Uw(F:Nat)(caps:Array Value)(f:Nat→Bool)(w:World)
  (hF:∀(args:Array Value) (w:World),(callFunc F args).run Tryz.prog w= .ok (.enter F args) w)
  (hf:∀y:Fin 4,∀W,Below w.heap.size w W→Calls Tryz.prog F (#[Aa Ab ((2^y.val:Nat):Int)]++caps) W fun e W'=>e= .returned (.bool (f (2^y.val)))∧Below W.heap.size W W'):
  Calls Tryz.prog 253 #[.func (.func F) #[] caps] w fun e w'=>e= .returned (Aa Ab (leastW f:Nat))∧Below w.heap.size w w':=by
 have HF:=Hd hf;clear hf;refine callsIn_wide.1 (callsIn_of_wp_marks (n:=6) Tryz.func253 rfl trivial (wpIn_wide.2 ?_));simp only [Tryz.ntmps253,List.size_toArray,List.length_cons,List.length_nil,Nat.reduceAdd,Nat.reduceSub,Array.replicate_succ,Array.replicate_zero,List.push_toArray,List.append_toArray,List.nil_append,List.cons_append];have HB:=Hd (show Below w.heap.size w ((w.alloc (.cells #[.func (.func F) #[] caps] 126)).alloc (.cells #[Aa Ab 0] 3)) from((Below.refl _ _).alloc (Asp _) _).alloc (by simp) _);have HX:=Hd ((Ag.new w 126 #[.func (.func F) #[] caps]).alloc (.cells #[Aa Ab 0] 3));have HY:=Hd (B3 w (.cells #[.func (.func F) #[] caps] 126) 3 #[Aa Ab 0]);go_wp2_with (go_at_call 338;refine(Ade _).mono ?_;rintro e w' ⟨rfl,rfl⟩);have HN0:=Hd (show w.heap.size≤w.heap.size from Asp _);generalize (w.alloc (.cells #[.func (.func F) #[] caps] 126)).alloc (.cells #[Aa Ab 0] 3)=w1 at HB HX HY⊢;obtain⟨n0,hn0⟩:∃n0,w.heap.size=n0:=⟨_,rfl⟩;have HSL:=Hd (show n0≤n0+1 by omega);rw [hn0] at HB HX HY HF⊢;have HNN:=Hd hn0;have HN1:=Hd (show n0≤w1.heap.size from by rw [←hn0];have:=HB.o.size;omega);generalize n0+1=bY at HSL HY⊢;clear HN0 hn0;refine(wpIn_wide (n:=6)).1 ?_;refine Akp fun a0 ha0=>?_
 refine wpIn_rangeFunc_ownH rfl (by omega) (gf:=390) (lb:=#[]) (by rw [ha0];rfl) trivial (enters_of Tryz.func390 (by kernel_rfl) rfl)
  (Yz w1 (6-1) (by omega)) (fun _ _=>trivial) (fun _ _ _ _ _ _ _ _=>trivial) (Below.refl _ _) (fun _=>rfl)
  (fun pre W=>(Ag W n0 126 #[.func (.func F) #[] caps]∧Ag W bY 3 #[Aa Ab 0]∧∀z∈pre,f (2^z.val)=false)∧Below n0 w W)
  (fun c pre W=>(c= .ret∧∃p y,pre=p++ [y]∧(∀z∈p,f (2^z.val)=false)∧f (2^y.val)=true∧Ag W bY 3 #[Aa Ab ((2^y.val:Nat):Int)])∧Below n0 w W)
  (OwnFrom.and (fun s A B row hs hg hr=>⟨Jn hg (fun r e=>(hr r e).2) hs.1,Jn hg (fun r e=>(hr r e).2) hs.2.1,hs.2.2⟩) (ownFrom_below (Nat.le_of_eq HNN.o.symm) HN1.o))
  (fun c=>OwnFrom.and (fun s A B row hs hg hr=>by obtain⟨h1,p,y,h2,h3,h4,h5⟩:=hs;exact⟨h1,p,y,h2,h3,h4,Jn hg (fun r e=>(hr r e).2) h5⟩) (ownFrom_below (Nat.le_of_eq HNN.o.symm) HN1.o))
  ⟨⟨HX.o,HY.o,fun i h=>by cases h⟩,HB.o⟩
  (fun x a' W=>a'={ tmps:=(a0.tmps.setIfInBounds 5 (Aa Ab ((2^x.val:Nat):Int))).setIfInBounds 3 (Aa Ab ((2^x.val:Nat):Int)),defers:=[]})
  (fun x a' _ A B row hs hg hr=>hs)
  ?assign ?body ?done ?stop
 case assign=>
  rintro l pre x W K ⟨⟨hX,hY,hall⟩,hB⟩ hK;have HQ:=Hd hK;have HALL:=Hd hall;clear hK hall HX HY HB;subst ha0;unfold V9;generalize ((2^x.val:Nat):Int)=z at HQ⊢
  gi_wp2
  exact HQ.o _ _ (Hf (Below.refl _ _)) trivial ⟨⟨hX,hY,HALL.o⟩,hB⟩ rfl
 case body=>
  rintro l pre x a' W hl ⟨rr,hrr⟩ ⟨⟨hX,hY,hall⟩,hB⟩ rfl hlt;have HXX:=Hd hX;have HYY:=Hd hY;have HALL:=Hd hall;have HBB:=Hd hB;have x0:W.cell? ⟨n0,0,none⟩=some (.func (.func F) #[] caps):=hX.cell 0;have HC:=Hd (HF.o x W hB);clear hX hY hall hB HX HY HB hlt;subst ha0;obtain⟨z,hz⟩:∃z:Nat,2^x.val=z:=⟨_,rfl⟩;have HZ:=Hd hz;rw [hz] at HC⊢;obtain⟨t,ht⟩:∃t,f z=t:=⟨_,rfl⟩;rw [ht] at HC;have HT:=Hd ht;clear hz ht
  gi_wp2
  refine⟨trivial,(CallsIn.inRound l (callsIn_wide.2 HC.o)).mono ?_⟩;rintro e W3 ⟨rfl,hb⟩;have HB3:=Hd hb;have s0:W3.cell? ⟨bY,0,none⟩=some (Aa Ab 0):=(HYY.o.pure HB3.o).cell 0;have s1:=(HYY.o.pure HB3.o).frozen 0;have HB4:=Hd (Ad HBB.o HB3.o (Nat.le_of_eq HNN.o.symm));clear hb x0;cases t with
  |false=>
   gi_wp2
   refine⟨Hf HB3.o,trivial,⟨HXX.o.pure HB3.o,HYY.o.pure HB3.o,?_⟩,HB4.o⟩;intro j hj;rcases List.mem_append.1 hj with hj|hj
   ·exact HALL.o j hj
   ·rw [List.mem_singleton.1 hj,HZ.o];exact HT.o
  |true=>
   gi_wp2
   exact⟨(Hf HB3.o).trans ((KeepsOthers.setCell _ _ _).from _),⟨rfl,pre,x,rfl,HALL.o,by rw [HZ.o];exact HT.o,by rw [HZ.o];exact(HYY.o.pure HB3.o).set_ 0 _⟩,HB4.o.setCell (p:=⟨bY,0,none⟩) HSL.o _⟩
 case done=>
  rintro D ys W hD rfl ⟨⟨hX,hY,hall⟩,hB⟩ hK;subst ha0;have hz:=Ai4 hall;have HZ:=Hd hz;have s0:W.cell? ⟨bY,0,none⟩=some (Aa Ab 0):=hY.cell 0;have s1:=hY.frozen 0;have s2:=hY.set_ 0 (Aa Ab 0);have hK':=(KeepsOthers.setCell W ⟨bY,0,none⟩ (Aa Ab 0)).same D _ hK rfl;clear hz hall hX hY HX HY HB;go_wp2_with fail;refine⟨by simp,.inl ⟨_,_,rfl,run_takeDeferred hK',?_⟩⟩;have hc5:=Jn (grownBy_putObj' _ D (.deferred none)) (fun r e=>by cases e;exact⟨_,hK',rfl⟩) s2;have hc6:_=some (Aa Ab 0):=hc5.cell 0;refine⟨Aa Ab 0,?_,by rw [HZ.o];rfl,?_⟩
  ·simp [results,Tryz.f253,go_sem,hc6]
  ·rw [HNN.o];exact(hB.setCell (p:=⟨bY,0,none⟩) HSL.o _).trans (belowK_b (w:=w) (Nat.le_of_eq HNN.o.symm) _ D _ _ (by have:=HN1.o;have:=HNN.o;omega) hK' rfl rfl)
 case stop=>
  rintro D c pre W hD hpre ⟨⟨rfl,p,y,rfl,hall,hy,hY⟩,hB⟩ hK;have HZ:=Hd (Aay hpre hall hy);subst ha0;clear hall hy HX HY HB hpre
  gi_wp2
  refine⟨by simp,.inl ⟨_,_,rfl,run_takeDeferred hK,?_⟩⟩;have hc5:=Jn (grownBy_putObj' W D (.deferred none)) (fun r e=>by cases e;exact⟨_,hK,rfl⟩) hY;have hc6:_=some (Aa Ab ((2^y.val:Nat):Int)):=hc5.cell 0;refine⟨Aa Ab ((2^y.val:Nat):Int),?_,by rw [HZ.o],?_⟩
  ·simp [results,Tryz.f253,go_sem,hc6]
  ·rw [HNN.o];exact hB.trans (belowK_b (w:=w) (Nat.le_of_eq HNN.o.symm) _ D _ _ (by have:=HN1.o;have:=HNN.o;omega) hK rfl rfl)
theorem Apw(a y:Nat)(hy:0<y):((a:Int)+y-1).tdiv y*y=(upN a y:Nat):=by
 unfold upN;rw [show(a:Int)+y-1=((a+y-1:Nat):Int) by omega,Int.tdiv_eq_ediv_of_nonneg (by omega),←Int.natCast_ediv,←Int.natCast_mul]
theorem Aru(a y:Nat)(hy:0<y):a≤upN a y∧upN a y≤a+y:=by
 have h:=Nat.div_add_mod (a+y-1) y;have h2:=Nat.mod_lt (a+y-1) hy;unfold upN;rw [Nat.mul_comm] at h;constructor <;>omega
theorem G5(v:Bv)(a i y:Nat)(r:Bool)(w:World)(hy:Av (y:Int)=true)(ha:a≤1048576)(hi:i≤1048576)(hr:Cb v a i y=r):
  Calls Tryz.prog 255 #[.agg #[Aa Ab (v.t:Int),Aa Ab (v.w:Int),Aa Ac (v.n:Int)],Aa Ab (a:Int),Aa Ab (i:Int),Aa Ab (y:Int)] w fun e w'=>e= .returned (.bool r)∧Below w.heap.size w w':=by
 have hB:=(Below.refl w.heap.size w).alloc (Asp _) (.cells #[Aa Ab (v.t:Int),Aa Ab (v.w:Int),Aa Ac (v.n:Int)] 210);have HB:=Hd hB;have hy8:1≤y∧y≤8:=by have:=C1 hy;omega
 clear hB hy;have hX:=Ag.new w 210 #[Aa Ab (v.t:Int),Aa Ab (v.w:Int),Aa Ac (v.n:Int)];cases hin:inl v.t with
 |true=>
  have HI:=Hd (show Aw (v.t:Int)=true from hin);have HR:=Hd (show decide (v.w≤y)=r by rw [←hr];unfold Cb;rw [if_pos hin]);clear hr hin;have HX:=Hd hX;clear hX;go_enter Tryz.func255,Tryz.ntmps255;go_wp2_with fail;go_at_call 90;refine(B8 (v.t:Int) _).mono ?_;rw [HI.o];rintro e w' ⟨rfl,hb⟩;have HK:=Hd (HX.o.pure hb);have x1:w'.cell? ⟨w.heap.size,1,none⟩=some (Aa Ab (v.w:Int)):=HK.o.cell 1;have HB2:=Hd (Ad HB.o hb);clear hb;go_wp2_with fail;go_ret;exact⟨Ct HR.o,HB2.o⟩
 |false=>
  have HI:=Hd (show Aw (v.t:Int)=false from hin);have hne:¬inl v.t=true:=by rw [hin];decide
  have hr':decide (v.n≤a∧bWidth (upN a y+i*y-v.n)≤y)=r:=by rw [←hr];unfold Cb;rw [if_neg hne]
  have HX:=Hd hX;clear hr hin hne hX;by_cases hna:v.n≤a
  ·obtain⟨hu1,hu2⟩:=Aru a y (by omega);have hiy:i*y≤1048576*8:=Nat.mul_le_mul hi hy8.2;obtain⟨u,hu⟩:∃u,upN a y=u:=⟨_,rfl⟩;obtain⟨q,hq⟩:∃q:Nat,i*y=q:=⟨_,rfl⟩;have ht:=Apw a y (by omega);rw [hu] at ht hu1 hu2 hr';rw [hq] at hiy hr';obtain⟨d,hd⟩:∃d,u+q-v.n=d:=⟨_,rfl⟩;rw [hd] at hr';obtain⟨p,hp⟩:∃p:Nat,((a:Int)+y-1).tdiv y=p:=⟨(a+y-1)/y,by rw [show(a:Int)+y-1=((a+y-1:Nat):Int) by omega,Int.tdiv_eq_ediv_of_nonneg (by omega)];rfl⟩;rw [hp] at ht;have hp9:p≤u:=by
    have:(p:Int)*y=((p*y:Nat):Int):=by simp
    rw [this] at ht;have h3:p*y=u:=by exact_mod_cast ht
    have:p*1≤p*y:=Nat.mul_le_mul_left p (by omega);omega
   have HR:=Hd (show decide (bWidth d≤y)=r by rw [←hr'];exact decide_eq_decide.2 ⟨fun h=>⟨hna,h⟩,fun h=>h.2⟩);have e1:IntKind.i64.wrap ((a:Int)+y)=(a:Int)+y:=IntWalk.i64_in _ (by omega);have e2:IntKind.i64.wrap ((a:Int)+y-1)=(a:Int)+y-1:=IntWalk.i64_in _ (by omega);have e3:IntKind.i64.wrap (p:Int)=p:=IntWalk.i64_in _ (by omega);have hiq:(i:Int)*(y:Int)=(q:Int):=by rw [←hq];simp
   have e4:IntKind.i64.wrap (u:Int)=u:=IntWalk.i64_in _ (by omega);have e5:IntKind.i64.wrap (q:Int)=q:=IntWalk.i64_in _ (by omega);have e6:IntKind.i64.wrap ((u:Int)+q)=(u:Int)+q:=IntWalk.i64_in _ (by omega);have e7:IntKind.u64.wrap ((u:Int)+q)=(u:Int)+q:=B7 _ (by omega);have e8:(u:Int)+q-v.n=d:=by omega
   have e9:IntKind.u64.wrap (d:Int)=d:=B7 _ (by omega);have e10:IntKind.u64.wrap (a:Int)=a:=B7 _ (by omega);have hyn:¬y=0:=by omega
   have HWD:=Hd (show Kc d=(bWidth d:Nat) from Ky d);have hd64:d<18446744073709551616:=by omega
   obtain⟨bd,hbd⟩:∃x,bWidth d=x:=⟨_,rfl⟩;rw [hbd] at HR HWD;have hgt:decide ((a:Int)<(v.n:Int))=false:=decide_eq_false (by omega);have hgt':decide (a<v.n)=false:=decide_eq_false (by omega);have HH:=Hd (And.intro hd64 hbd);clear hr' hu hq hd hd64 hbd hna hp9 hu1 hu2 hiy;go_enter Tryz.func255,Tryz.ntmps255;go_wp2_with fail;go_at_call 90;refine(B8 (v.t:Int) _).mono ?_;rw [HI.o];rintro e w' ⟨rfl,hb⟩;have HK:=Hd (HX.o.pure hb);have x2:w'.cell? ⟨w.heap.size,2,none⟩=some (Aa Ac (v.n:Int)):=HK.o.cell 2;have HB2:=Hd (Ad HB.o hb);clear hb;go_wp2_with fail;go_at_call 54;refine(Hc d bd _ HH.o.1 HWD.o).mono ?_;rintro e w1 ⟨rfl,rfl⟩;clear ht hp e1 e2 e3 hiq e4 e5 e6 e7 e8 e9 e10 hyn hgt hgt' x2;go_wp2_with fail;go_ret;exact⟨Ct HR.o,HB2.o⟩
  ·have HR:=Hd (show false=r by rw [←hr',decide_eq_false];exact fun h=>hna h.1);have hgt:decide (a<v.n)=true:=decide_eq_true (by omega);have e10:IntKind.u64.wrap (a:Int)=a:=B7 _ (by omega);clear hr' hna;go_enter Tryz.func255,Tryz.ntmps255;go_wp2_with fail;go_at_call 90;refine(B8 (v.t:Int) _).mono ?_;rw [HI.o];rintro e w' ⟨rfl,hb⟩;have HK:=Hd (HX.o.pure hb);have x2:w'.cell? ⟨w.heap.size,2,none⟩=some (Aa Ac (v.n:Int)):=HK.o.cell 2;have HB2:=Hd (Ad HB.o hb);clear hb;go_wp2_with fail;go_ret;exact⟨Ct HR.o,HB2.o⟩
theorem Aea(y:Fin 4):Av ((2^y.val:Nat):Int)=true:=by
 have h:∀y:Fin 4,Av ((2^y.val:Nat):Int)=true:=by decide
 exact h y
theorem Ajo(v:Bv)(a i y bv ba bi:Nat)(w:World)(hv:Ag w bv 210 #[Aa Ab (v.t:Int),Aa Ab (v.w:Int),Aa Ac (v.n:Int)])(ha:Ag w ba 3 #[Aa Ab (a:Int)])(hi:Ag w bi 3 #[Aa Ab (i:Int)])
  (hy:Av (y:Int)=true) (ha2:a≤1048576) (hi2:i≤1048576):
  Calls Tryz.prog 254 #[Aa Ab (y:Int),.pointer (some ⟨bv,0,none⟩),.pointer (some ⟨ba,0,none⟩),.pointer (some ⟨bi,0,none⟩)] w fun e w'=>e= .returned (.bool (Cb v a i y))∧Below w.heap.size w w':=by
 obtain⟨r,hr⟩:∃r,Cb v a i y=r:=⟨_,rfl⟩;rw [hr];have HF:=Hd (G5 v a i y r w hy ha2 hi2 hr);obtain ⟨v0,v1,v2⟩:=hv.c3;have a0:w.cell? ⟨ba,0,none⟩=some (Aa Ab (a:Int)):=ha.cell 0;have i0:w.cell? ⟨bi,0,none⟩=some (Aa Ab (i:Int)):=hi.cell 0;clear hv ha hi hy ha2 hi2 hr;go_enter Tryz.func254,Tryz.ntmps254;go_wp2_with fail;go_at_call 255;refine HF.o.mono ?_;rintro e w' ⟨rfl,hb⟩;have HB:=Hd hb;clear hb v0 v1 v2 a0 i0;go_wp2_with fail;go_ret;exact⟨rfl,HB.o⟩
theorem Ame(v:Bv)(a i:Nat)(w:World)(ha2:a≤1048576)(hi2:i≤1048576):
  Calls Tryz.prog 158 #[.agg #[Aa Ab (v.t:Int),Aa Ab (v.w:Int),Aa Ac (v.n:Int)],Aa Ab (a:Int),Aa Ab (i:Int)] w fun e w'=>e= .returned (Aa Ab (leastW (Cb v a i):Nat))∧Below w.heap.size w w':=by
 have HB:=Hd (show Below w.heap.size w (((w.alloc (.cells #[Aa Ab (v.t:Int),Aa Ab (v.w:Int),Aa Ac (v.n:Int)] 210)).alloc (.cells #[Aa Ab (a:Int)] 3)).alloc (.cells #[Aa Ab (i:Int)] 3)) from(((Below.refl _ _).alloc (Asp _) _).alloc (by simp) _).alloc (by simp;omega) _);have HX:=Hd (((Ag.new w 210 #[Aa Ab (v.t:Int),Aa Ab (v.w:Int),Aa Ac (v.n:Int)]).alloc (.cells #[Aa Ab (a:Int)] 3)).alloc (.cells #[Aa Ab (i:Int)] 3));have HY:=Hd ((B3 w (.cells #[Aa Ab (v.t:Int),Aa Ab (v.w:Int),Aa Ac (v.n:Int)] 210) 3 #[Aa Ab (a:Int)]).alloc (.cells #[Aa Ab (i:Int)] 3));have HZ:=Hd (B3 (w.alloc (.cells #[Aa Ab (v.t:Int),Aa Ab (v.w:Int),Aa Ac (v.n:Int)] 210)) (.cells #[Aa Ab (a:Int)] 3) 3 #[Aa Ab (i:Int)]);have e:(w.alloc (.cells #[Aa Ab (v.t:Int),Aa Ab (v.w:Int),Aa Ac (v.n:Int)] 210)).heap.size+1=w.heap.size+1+1:=by simp
 rw [e] at HZ;obtain⟨r,hr⟩:∃r,leastW (Cb v a i)=r:=⟨_,rfl⟩;have HRR:=Hd hr;rw [hr];have HA:=Hd (And.intro ha2 hi2);clear e hr;go_enter Tryz.func158,Tryz.ntmps158;go_wp2_with fail;go_at_call 252;refine(Mc a _ (by omega)).mono ?_;rintro e w' ⟨rfl,rfl⟩;go_wp2_with fail;go_at_call 252;refine(Mc i _ (by omega)).mono ?_;rintro e w' ⟨rfl,rfl⟩;go_wp2_with fail;go_at_call 253;generalize (((w.alloc (.cells #[Aa Ab (v.t:Int),Aa Ab (v.w:Int),Aa Ac (v.n:Int)] 210)).alloc (.cells #[Aa Ab (a:Int)] 3)).alloc (.cells #[Aa Ab (i:Int)] 3))=w1 at HB HX HY HZ⊢;generalize w.heap.size+1+1=bi at HZ⊢;generalize w.heap.size+1=ba at HY⊢;have HF:=fun(y:Fin 4) (W:World) (hW:Below w1.heap.size w1 W)=>Ajo v a i (2^y.val) w.heap.size ba bi W (HX.o.pure hW) (HY.o.pure hW) (HZ.o.pure hW) (Aea y) HA.o.1 HA.o.2
 refine(Uw 254 #[.pointer (some ⟨w.heap.size,0,none⟩),.pointer (some ⟨ba,0,none⟩),.pointer (some ⟨bi,0,none⟩)] (Cb v a i) w1 Tryz.call254 HF).mono ?_;rw [HRR.o];rintro e w' ⟨rfl,hb⟩;have HB2:=Hd (Ad HB.o hb);clear hb;go_wp2_with fail;go_ret;exact⟨rfl,HB2.o⟩
end Go.Proofs.YtgbjodnegkbfoaaGreat
namespace Go.Acc
open Go.RowKit
section
variable {P:Program} {mt kt et:TypeId}
theorem Rx(hu:P.underlying mt=some (.map kt et))(hk:P.underlying kt=some (.int .i64))(W:World)(es:Array MapEntry)(c g:Nat)(x:Int)(v:Value)(hg:g=W.heap.size)
  (hn:Instr.findNow (.int .i64) (Aa Ab x) es.toList 0=some none):
  (Instr.mapUpdate mt (.map (some g)) (.int .i64 x) v).run P (W.alloc (.map es c))= .ok () (W.alloc (.map (es.push { key:= .int .i64 x,val:=v,born:=c}) (c+1))):=by
 subst hg;have hb:(W.alloc (.map es c)).heap[W.heap.size]?=some (.map es c):=heap_alloc_new W _;have e:∀o o':Obj,(W.heap.push o).setIfInBounds W.heap.size o'=W.heap.push o':=by
  intro o o';apply Array.ext_getElem?;intro i;rw [Array.getElem?_setIfInBounds,Array.getElem?_push,Array.getElem?_push];by_cases h:W.heap.size=i
  ·subst h;simp
  ·rw [if_neg h,if_neg (fun e=>h e.symm)];rw [if_neg (fun e=>h e.symm)]
 have h1:(Instr.checkKey false 10000 kt (.int .i64 x)).run P (W.alloc (.map es c))= .ok () (W.alloc (.map es c)):=MapKept.run_checkKey (n:=9999) (k:= .int .i64 x) hk rfl false;have h2:(Instr.findKey kt (.int .i64 x) es.toList).run P (W.alloc (.map es c))= .ok none (W.alloc (.map es c)):=MapKept.run_findKey hk hn;have h3:=MapKept.run_setObj_map (P:=P) (.map (es.push { key:= .int .i64 x,val:=v,born:=c}) (c+1)) hb;simp only [Instr.mapUpdate,Sem.run_bind,run_underlying hu,Result.andThen_ok,MapKept.run_getObj_map hb,h1,h2,h3];simp only [World.alloc,e]
theorem Ph(hu:P.underlying mt=some (.map kt et))(hk:P.underlying kt=some (.int .i64))(z:Value)(hz:∀W,(zeroValue et).run P W= .ok z W)(W:World)(es:Array MapEntry)(c g:Nat)(x:Int)(b:Bool)(r:Option (Nat×Value))
  (hb:W.heap[g]?=some (.map es c)) (hn:Instr.findNow (.int .i64) (Aa Ab x) es.toList 0=some r):
  (Instr.lookup mt (.map (some g)) (Aa Ab x) b).run P W= .ok (if b then .tuple #[(r.map (·.2)).getD z,.bool r.isSome] else(r.map (·.2)).getD z) W:=by
 have h1:(Instr.checkKey es.isEmpty 10000 kt (Aa Ab x)).run P W= .ok () W:=MapKept.run_checkKey (n:=9999) (k:= Aa Ab x) hk rfl _;have h2:(Instr.findKey kt (Aa Ab x) es.toList).run P W= .ok r W:=MapKept.run_findKey hk hn;cases r with
 |none=>
  simp only [Instr.lookup,Sem.run_bind,run_underlying hu,Result.andThen_ok,MapKept.run_getObj_map hb,h1,h2,hz,Sem.run_pure];rfl
 |some p=>
  obtain⟨i,u⟩:=p;simp only [Instr.lookup,Sem.run_bind,run_underlying hu,Result.andThen_ok,MapKept.run_getObj_map hb,h1,h2,Sem.run_pure];rfl
end
end Go.Acc
namespace Go.Proofs.YtgbjodnegkbfoaaGreat
open Go.RowKit Go.Acc
def Abp:Array MapEntry:=#[⟨Aa Ab 0,.func (.func 348) #[] #[],0⟩,⟨Aa Ab 26,.func (.func 349) #[] #[],1⟩,⟨Aa Ab 1,.func (.func 351) #[] #[],2⟩,⟨Aa Ab 6,.func (.func 351) #[] #[],3⟩,⟨Aa Ab 2,.func (.func 350) #[] #[],4⟩,⟨Aa Ab 7,.func (.func 350) #[] #[],5⟩]
def rdF(t:Int):Option Value:=if t=0 then some (.func (.func 348) #[] #[]) else if t=26 then some (.func (.func 349) #[] #[]) else if t=1∨t=6 then some (.func (.func 351) #[] #[]) else if t=2∨t=7 then some (.func (.func 350) #[] #[]) else none
theorem Apc(t:Int):∃r,Instr.findNow (.int .i64) (Aa Ab t) Abp.toList 0=some r∧r.map (·.2)=rdF t:=by
 by_cases h0:t=0
 ·subst h0;exact⟨_,rfl,rfl⟩
 by_cases h1:t=26
 ·subst h1;exact⟨_,rfl,rfl⟩
 by_cases h2:t=1
 ·subst h2;exact⟨_,rfl,rfl⟩
 by_cases h3:t=6
 ·subst h3;exact⟨_,rfl,rfl⟩
 by_cases h4:t=2
 ·subst h4;exact⟨_,rfl,rfl⟩
 by_cases h5:t=7
 ·subst h5;exact⟨_,rfl,rfl⟩
 refine⟨none,?_,?_⟩
 ·have e0:(t==0)=false:=by simpa using h0
  have e1:(t==26)=false:=by simpa using h1
  have e2:(t==1)=false:=by simpa using h2
  have e3:(t==6)=false:=by simpa using h3
  have e4:(t==2)=false:=by simpa using h4
  have e5:(t==7)=false:=by simpa using h5
  simp only [Abp,Instr.findNow,Instr.sameNow,if_true,e0,e1,e2,e3,e4,e5]
 ·simp [rdF,h0,h1,h2,h3,h4,h5]
def RdW(w:World)(e:Ending)(w':World):Prop:=∃g,e= .returned (.map (some g))∧w'.heap[g]?=some (.map Abp 6)∧Below w.heap.size w w'
theorem Abq(w:World):Calls Tryz.prog 282 #[] w (RdW w):=by
 have h0:=run_makeMap (P:=Tryz.prog) 325;have h1:∀(W:World) (es:Array MapEntry) (c:Nat) (x:Int) (v:Value),Instr.findNow (.int .i64) (.int .i64 x) es.toList 0=some none→(Instr.mapUpdate 325 (.map (some W.heap.size)) (.int .i64 x) v).run Tryz.prog (W.alloc (.map es c))= .ok () (W.alloc (.map (es.push { key:= .int .i64 x,val:=v,born:=c}) (c+1))):=
  fun W es c x v h=>Rx Tryz.underlying325 Tryz.underlying3 W es c _ x v rfl h
 have i0:∀W:World,(Instr.mapUpdate 325 (.map (some W.heap.size)) (.int .i64 0) (.func (.func 348) #[] #[])).run Tryz.prog (W.alloc (.map #[] 0))= .ok () (W.alloc (.map #[⟨.int .i64 0,.func (.func 348) #[] #[],0⟩] 1)):=fun W=>h1 W #[] 0 0 _ rfl
 have i1:∀W:World,(Instr.mapUpdate 325 (.map (some W.heap.size)) (.int .i64 26) (.func (.func 349) #[] #[])).run Tryz.prog (W.alloc (.map #[⟨.int .i64 0,.func (.func 348) #[] #[],0⟩] 1))= .ok () (W.alloc (.map #[⟨.int .i64 0,.func (.func 348) #[] #[],0⟩,⟨.int .i64 26,.func (.func 349) #[] #[],1⟩] 2)):=fun W=>h1 W #[⟨.int .i64 0,.func (.func 348) #[] #[],0⟩] 1 26 _ rfl
 have i2:∀W:World,(Instr.mapUpdate 325 (.map (some W.heap.size)) (.int .i64 1) (.func (.func 351) #[] #[])).run Tryz.prog (W.alloc (.map #[⟨.int .i64 0,.func (.func 348) #[] #[],0⟩,⟨.int .i64 26,.func (.func 349) #[] #[],1⟩] 2))= .ok () (W.alloc (.map #[⟨.int .i64 0,.func (.func 348) #[] #[],0⟩,⟨.int .i64 26,.func (.func 349) #[] #[],1⟩,⟨.int .i64 1,.func (.func 351) #[] #[],2⟩] 3)):=fun W=>h1 W #[⟨.int .i64 0,.func (.func 348) #[] #[],0⟩,⟨.int .i64 26,.func (.func 349) #[] #[],1⟩] 2 1 _ rfl
 have i3:∀W:World,(Instr.mapUpdate 325 (.map (some W.heap.size)) (.int .i64 6) (.func (.func 351) #[] #[])).run Tryz.prog (W.alloc (.map #[⟨.int .i64 0,.func (.func 348) #[] #[],0⟩,⟨.int .i64 26,.func (.func 349) #[] #[],1⟩,⟨.int .i64 1,.func (.func 351) #[] #[],2⟩] 3))= .ok () (W.alloc (.map #[⟨.int .i64 0,.func (.func 348) #[] #[],0⟩,⟨.int .i64 26,.func (.func 349) #[] #[],1⟩,⟨.int .i64 1,.func (.func 351) #[] #[],2⟩,⟨.int .i64 6,.func (.func 351) #[] #[],3⟩] 4)):=fun W=>h1 W #[⟨.int .i64 0,.func (.func 348) #[] #[],0⟩,⟨.int .i64 26,.func (.func 349) #[] #[],1⟩,⟨.int .i64 1,.func (.func 351) #[] #[],2⟩] 3 6 _ rfl
 have i4:∀W:World,(Instr.mapUpdate 325 (.map (some W.heap.size)) (.int .i64 2) (.func (.func 350) #[] #[])).run Tryz.prog (W.alloc (.map #[⟨.int .i64 0,.func (.func 348) #[] #[],0⟩,⟨.int .i64 26,.func (.func 349) #[] #[],1⟩,⟨.int .i64 1,.func (.func 351) #[] #[],2⟩,⟨.int .i64 6,.func (.func 351) #[] #[],3⟩] 4))= .ok () (W.alloc (.map #[⟨.int .i64 0,.func (.func 348) #[] #[],0⟩,⟨.int .i64 26,.func (.func 349) #[] #[],1⟩,⟨.int .i64 1,.func (.func 351) #[] #[],2⟩,⟨.int .i64 6,.func (.func 351) #[] #[],3⟩,⟨.int .i64 2,.func (.func 350) #[] #[],4⟩] 5)):=fun W=>h1 W #[⟨.int .i64 0,.func (.func 348) #[] #[],0⟩,⟨.int .i64 26,.func (.func 349) #[] #[],1⟩,⟨.int .i64 1,.func (.func 351) #[] #[],2⟩,⟨.int .i64 6,.func (.func 351) #[] #[],3⟩] 4 2 _ rfl
 have i5:∀W:World,(Instr.mapUpdate 325 (.map (some W.heap.size)) (.int .i64 7) (.func (.func 350) #[] #[])).run Tryz.prog (W.alloc (.map #[⟨.int .i64 0,.func (.func 348) #[] #[],0⟩,⟨.int .i64 26,.func (.func 349) #[] #[],1⟩,⟨.int .i64 1,.func (.func 351) #[] #[],2⟩,⟨.int .i64 6,.func (.func 351) #[] #[],3⟩,⟨.int .i64 2,.func (.func 350) #[] #[],4⟩] 5))= .ok () (W.alloc (.map #[⟨.int .i64 0,.func (.func 348) #[] #[],0⟩,⟨.int .i64 26,.func (.func 349) #[] #[],1⟩,⟨.int .i64 1,.func (.func 351) #[] #[],2⟩,⟨.int .i64 6,.func (.func 351) #[] #[],3⟩,⟨.int .i64 2,.func (.func 350) #[] #[],4⟩,⟨.int .i64 7,.func (.func 350) #[] #[],5⟩] 6)):=fun W=>h1 W #[⟨.int .i64 0,.func (.func 348) #[] #[],0⟩,⟨.int .i64 26,.func (.func 349) #[] #[],1⟩,⟨.int .i64 1,.func (.func 351) #[] #[],2⟩,⟨.int .i64 6,.func (.func 351) #[] #[],3⟩,⟨.int .i64 2,.func (.func 350) #[] #[],4⟩] 5 7 _ rfl
 clear h1;go_enter Tryz.func282,Tryz.ntmps282;go_wp2;go_ret;exact⟨_,rfl,heap_alloc_new w _,(Below.refl _ _).alloc (Asp _) _⟩
def Wk:Array MapEntry:=#[⟨Aa Ab 1,Aa Ab 0,0⟩,⟨Aa Ab 2,Aa Ab 1,1⟩,⟨Aa Ab 4,Aa Ab 2,2⟩,⟨Aa Ab 8,Aa Ab 3,3⟩]
theorem Ao8{y:Nat}(h:Av (y:Int)=true):∃i,Instr.findNow (.int .i64) (Aa Ab (y:Int)) Wk.toList 0=some (some (i,Aa Ab (bCode y:Int))):=by
 rcases C1 h with rfl|rfl|rfl|rfl <;>exact⟨_,rfl⟩
theorem Qx(t y:Nat)(w:World)(ht:Bc (t:Int)=true)(hy:Av (y:Int)=true):
  Calls Tryz.prog 162 #[Aa Ab (t:Int),Aa Ab (y:Int)] w fun e w'=>e= .returned (.tuple #[.int .u8 ((UInt8.ofNat (4*t+bCode y)).toNat:Int),Aa Ab 0])∧Below w.heap.size w w':=by
 have h0:=run_makeMap (P:=Tryz.prog) 115;have h1:∀(W:World) (es:Array MapEntry) (c:Nat) (x:Int) (v:Value),Instr.findNow (.int .i64) (.int .i64 x) es.toList 0=some none→(Instr.mapUpdate 115 (.map (some W.heap.size)) (.int .i64 x) v).run Tryz.prog (W.alloc (.map es c))= .ok () (W.alloc (.map (es.push { key:= .int .i64 x,val:=v,born:=c}) (c+1))):=
  fun W es c x v h=>Rx Tryz.underlying115 Tryz.underlying3 W es c _ x v rfl h
 have i0:∀W:World,(Instr.mapUpdate 115 (.map (some W.heap.size)) (.int .i64 1) (.int .i64 0)).run Tryz.prog (W.alloc (.map #[] 0))= .ok () (W.alloc (.map #[⟨.int .i64 1,.int .i64 0,0⟩] 1)):=fun W=>h1 W #[] 0 1 _ rfl
 have i1:∀W:World,(Instr.mapUpdate 115 (.map (some W.heap.size)) (.int .i64 2) (.int .i64 1)).run Tryz.prog (W.alloc (.map #[⟨.int .i64 1,.int .i64 0,0⟩] 1))= .ok () (W.alloc (.map #[⟨.int .i64 1,.int .i64 0,0⟩,⟨.int .i64 2,.int .i64 1,1⟩] 2)):=fun W=>h1 W _ 1 2 _ rfl
 have i2:∀W:World,(Instr.mapUpdate 115 (.map (some W.heap.size)) (.int .i64 4) (.int .i64 2)).run Tryz.prog (W.alloc (.map #[⟨.int .i64 1,.int .i64 0,0⟩,⟨.int .i64 2,.int .i64 1,1⟩] 2))= .ok () (W.alloc (.map #[⟨.int .i64 1,.int .i64 0,0⟩,⟨.int .i64 2,.int .i64 1,1⟩,⟨.int .i64 4,.int .i64 2,2⟩] 3)):=fun W=>h1 W _ 2 4 _ rfl
 have i3:∀W:World,(Instr.mapUpdate 115 (.map (some W.heap.size)) (.int .i64 8) (.int .i64 3)).run Tryz.prog (W.alloc (.map #[⟨.int .i64 1,.int .i64 0,0⟩,⟨.int .i64 2,.int .i64 1,1⟩,⟨.int .i64 4,.int .i64 2,2⟩] 3))= .ok () (W.alloc (.map Wk 4)):=fun W=>h1 W _ 3 8 _ rfl
 obtain⟨i,hi⟩:=Ao8 hy;have i4:∀W:World,(Instr.lookup 115 (.map (some W.heap.size)) (Aa Ab (y:Int)) true).run Tryz.prog (W.alloc (.map Wk 4))= .ok (.tuple #[Aa Ab (bCode y:Int),.bool true]) (W.alloc (.map Wk 4)):=fun W=>Ph Tryz.underlying115 Tryz.underlying3 (Aa Ab 0) (fun W=>Tryz.zeroValue3 W) (W.alloc (.map Wk 4)) Wk 4 W.heap.size y true _ (heap_alloc_new W _) hi
 have HT:=Hd ht;have ht36:t≤36:=by have:=Fs.1 (Gz ht);omega
 obtain⟨c,hc⟩:∃c,bCode y=c:=⟨_,rfl⟩;have hc3:c≤3:=by rw [←hc];unfold bCode;(repeat' split) <;>omega
 rw [hc] at i4⊢;have HR:=Hd (show(4*(t:Int)+c)=((UInt8.ofNat (4*t+c)).toNat:Int) by
  rw [UInt8.toNat_ofNat'];show(4*(t:Int)+c)=(((4*t+c) % 256:Nat):Int);omega)
 have e1:IntKind.i64.wrap (4*(t:Int))=4*(t:Int):=by rw [IntKind.wrap_i64];omega
 have e2:IntKind.i64.wrap (4*(t:Int)+c)=4*(t:Int)+c:=by rw [IntKind.wrap_i64];omega
 clear h1 hi hy ht hc;go_enter Tryz.func162,Tryz.ntmps162;go_wp2_with fail;go_at_call 111;refine(Gi (t:Int) _).mono ?_;rw [HT.o];rintro e w1 ⟨rfl,hb⟩;have HB:=Hd hb;clear hb;go_wp2_with fail;go_ret2;exact⟨Aj1 HR.o,HB.o.alloc HB.o.size _⟩
end Go.Proofs.YtgbjodnegkbfoaaGreat
