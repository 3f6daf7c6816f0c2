/- Parts of the proof. -/
import Derived.Test.YtgbjodnegkbfoaaGreatQm09
import Derived.Lib.BytesEntry
set_option maxHeartbeats 4000000
set_option maxRecDepth 100000
open Go.Value renaming int→Aa
open Go.IntKind renaming i64→Ab,u64→Ac
open Nat renaming le_refl→Asp
open List renaming length_append→Ass,replicate→Ast
namespace Go.Proofs.YtgbjodnegkbfoaaGreat
open Go.RowKit Go.Acc
theorem Alm{M:Bp}{fl:Int}(x:Int){w:World}{o:Nat→Nat}{b:Bd}(h:BM M fl w o b):Calls Tryz.prog 157 #[.pointer (some ⟨M.β,0,none⟩),Aa Ab x] w fun e w'=>e= .returned (.tuple #[])∧To (fun i=>i=2) w o w' o:=by
 have HO:=Hd h.head.own;obtain⟨c0,c1,c2,c9,f2⟩:=h.head.cells;clear h;go_enter Tryz.func157,Tryz.ntmps157;go_wp2;go_end0;refine⟨rfl,To.of_fr0 (Fr.setCell (S:=fun k=>k=M.β) (Fr.refl _ w) (fun _=>rfl) _) ?_⟩;rintro k _ rfl;exact HO.o
structure Ae4(l:List UInt8)(v:Bv)(y:Nat):Prop where
 legal:Bc v.t=true
 own:Av (v.w:Int)=true
 ly:leastW (Cb v l.length 0)=y
 w:Av (y:Int)=true
 fit:Dv y (Ca y (An y l).length v)=true
 lt:((Ca y (An y l).length v:Nat):Int)<18446744073709551616
 le:inl v.t=false→v.n≤(An y l).length
 len:l.length+20≤1048576
def Ar6(w:World)(o:Nat→Nat)(m:List UInt8)(e:Ending)(w':World):Prop:=
 ∃A n c,e= .returned (.tuple #[.slice A n c,Aa Ab 0])∧Kf w' w.heap.size A n c m∧∃o',To B6 w o w' o'
theorem Aqo(v:Bv)(a y:Nat)(w:World)(ha2:a≤1048576)(hy:leastW (Cb v a 0)=y):
  Calls Tryz.prog 158 #[.agg #[Aa Ab (v.t:Int),Aa Ab (v.w:Int),Aa Ac (v.n:Int)],Aa Ab (a:Int),Aa Ab 0] w fun e w'=>e= .returned (Aa Ab (y:Int))∧Below w.heap.size w w':=by
 subst hy;exact Ame v a 0 w ha2 (by omega)
theorem Akl(W:World)(t:UInt8)(y:Nat)(hy:y≤8):Cd (W.alloc (.cells #[.int .u8 (t.toNat:Int),.int .u8 (y:Int)] 5)) (some ⟨W.heap.size,0,none⟩) 2 [t,UInt8.ofNat y]:=by
 refine⟨rfl,fun j u hu=>⟨_,_,rfl,?_⟩⟩;rw [Nat.zero_add,(Ag.new W _ _).cell j];have e:((UInt8.ofNat y).toNat:Int)=y:=by rw [UInt8.toNat_ofNat'];omega
 have hu2: [Value.int .u8 (t.toNat:Int),.int .u8 ((UInt8.ofNat y).toNat:Int)][j]?=some u:=hu;rw [e] at hu2;simpa using hu2
theorem N0(W:World)(s:List UInt8):Ek (W.alloc (.cells #[.string ⟨s.toArray⟩] 9)) (some ⟨W.heap.size,0,none⟩) 1 [s]:=by
 refine⟨rfl,fun j u hu=>⟨_,_,rfl,?_⟩⟩;rw [Nat.zero_add,(Ag.new W _ _).cell j];simpa [It] using hu
structure Iy(M:Bp)(fl:Int)(b:Bd)(v:Bv)(vb:Nat)(w:World)(o:Nat→Nat):Prop where
 m:BM M fl w o b
 x:Ag w vb 210 #[Aa Ab (v.t:Int),Aa Ab (v.w:Int),Aa Ac (v.n:Int)]
 ox:o vb=0
theorem Iy.pure{M:Bp}{fl:Int}{b:Bd}{v:Bv}{vb:Nat}{w w':World}{o:Nat→Nat}(h:Iy M fl b v vb w o)(hb:Below w.heap.size w w'):Iy M fl b v vb w' o:=⟨h.m.pure hb,h.x.pure hb,h.ox⟩
theorem Iy.fresh{M:Bp}{fl:Int}{b:Bd}{v:Bv}{vb:Nat}{w w':World}{o:Nat→Nat}(h:Iy M fl b v vb w o)(hb:Below w.heap.size w w'):Iy M fl b v vb w' (Aq o w.heap.size 0):=⟨h.m.fresh hb 0,h.x.pure hb,by rw [Ax h.x.lt];exact h.ox⟩
theorem Iy.drew{M:Bp}{fl:Int}{b:Bd}{v:Bv}{vb:Nat}{w:World}{o:Nat→Nat}(h:Iy M fl b v vb w o):Iy M fl b v vb w.drew o:=h.pure (Below.refl _ _).drew
theorem Iy.buf_{M:Bp}{fl:Int}{b:Bd}{v:Bv}{vb:Nat}{w w':World}{o o':Nat→Nat}{l:List UInt8}(h:Iy M fl b v vb w o)(ht:To (fun i=>i=1) w o w' o')(hb:Cg w' o' M.bb l):Iy M fl { b with b:=l} v vb w' o':=
 ⟨h.m.buf_ ht hb,h.x.to_ ht (by rw [h.ox];omega),by rw [ht.ow _ h.x.lt];exact h.ox⟩
theorem Iy.cells{M:Bp}{fl:Int}{b:Bd}{v:Bv}{vb:Nat}{w:World}{o:Nat→Nat}(h:Iy M fl b v vb w o):
  w.cell? ⟨vb,0,none⟩=some (Aa Ab (v.t:Int))∧w.cell? ⟨vb,1,none⟩=some (Aa Ab (v.w:Int))∧w.cell? ⟨vb,2,none⟩=some (Aa Ac (v.n:Int))∧w.cell? ⟨M.β,0,none⟩=some (.pointer (some ⟨M.bb,0,none⟩)):=
 ⟨h.x.cell 0,h.x.cell 1,h.x.cell 2,h.m.head.cells.1⟩
theorem Ac0(M:Bp)(fl:Int)(b:Bd)(v:Bv)(y:Nat)(w:World)(o:Nat→Nat)(h:BM M fl w o b)(hs:b.s=[v])(hf:Ae4 b.b v y):
  Calls Tryz.prog 84 #[.pointer (some ⟨M.β,0,none⟩)] w (Ar6 w o (An y b.b++Ai y (Ca y (An y b.b).length v)++ [C5 y v,UInt8.ofNat y])):=by
 have HM:=Hd h;have HF:=Hd hf;have HS:=Hd hs;obtain⟨b0,b1,b2,b9,f2⟩:=h.head.cells;have HK:=Hd (show(0:Nat)≤b.s.length from Nat.zero_le _);obtain⟨a,ha⟩:∃a,b.b.length=a:=⟨_,rfl⟩;have HA:=Hd ha;have HA2:=Hd (show a≤1048576 by have:=hf.len;omega);have HLY:=Hd (show leastW (Cb v a 0)=y by rw [←ha];exact hf.ly);have HL7:=Hd (show b.b.length+7≤1048576 by have:=hf.len;omega);clear h hs hf f2 ha;go_enter Tryz.func84,Tryz.ntmps84;go_wp2_with (go_at_call 155;refine(Oj M.β _ (by assumption)).mono ?_;rintro e w' ⟨rfl,rfl⟩);refine(Abs M.sb 0 b.s _ o HM.o.stk HK.o).mono ?_;rw [List.drop_zero,HS.o];rintro e W1 ⟨A,n,c,rfl,hO,hB⟩;have hn:n=1:=by rw [←hO.1];rfl
 have HI1:=Hd (show Dx W1 A 1 [vv v] by have h:=hO.is;rw [hn] at h;exact h);have HM1:=Hd (HM.o.pure hB);obtain⟨d0,d1,d2,d9,f2⟩:=HM1.o.head.cells;have HB1:=Hd hB;subst hn;obtain⟨g,off,rfl,hk,h0,h1,h2⟩:=Aix HI1.o (Nat.zero_lt_one);simp only [Nat.zero_mul,Nat.add_zero] at h0 h1 h2;have v0:W1.cell? ⟨g,off,none⟩=some (Aa Ab (v.t:Int)):=h0;have v1:W1.cell? ⟨g,off+1,none⟩=some (Aa Ab (v.w:Int)):=h1;have v2:W1.cell? ⟨g,off+2,none⟩=some (Aa Ac (v.n:Int)):=h2;clear hO hB b0 b1 b2 b9 f2 d9 h0 h1 h2 hk;have hB2:Below W1.heap.size W1 (W1.alloc (.cells #[Aa Ab (v.t:Int),Aa Ab (v.w:Int),Aa Ac (v.n:Int)] 210)):=(Below.refl _ _).alloc (Asp _) _;have HZ2:=Hd (show Iy M fl b v W1.heap.size (W1.alloc (.cells #[Aa Ab (v.t:Int),Aa Ab (v.w:Int),Aa Ac (v.n:Int)] 210)) (Aq o W1.heap.size 0) from⟨HM1.o.fresh hB2 0,Ag.new _ _ _,As (Asp _)⟩);have HT2:=Hd (show To B6 w o (W1.alloc (.cells #[Aa Ab (v.t:Int),Aa Ab (v.w:Int),Aa Ac (v.n:Int)] 210)) (Aq o W1.heap.size 0) from To.from_pure HB1.o (To.fresh _ hB2 o 0));clear hB2;go_upto_region 9 with fail
 generalize W1.alloc (.cells #[Aa Ab (v.t:Int),Aa Ab (v.w:Int),Aa Ac (v.n:Int)] 210)=W2 at HZ2 HT2⊢;generalize Aq o W1.heap.size 0=o2 at HZ2 HT2;have HSZ:=Hd HB1.o.size;generalize W1.heap.size=vb at HZ2⊢;clear HI1 HM1 d0 d1 d2 v0 v1 v2;obtain⟨x0,x1,x2,x3⟩:=HZ2.o.cells;go_region_held3 (fun w'=>w'.cell? ⟨vb,0,none⟩=some (Aa Ab (v.t:Int))∧w'.cell? ⟨vb,1,none⟩=some (Aa Ab (v.w:Int))∧w'.cell? ⟨vb,2,none⟩=some (Aa Ac (v.n:Int))∧w'.cell? ⟨M.β,0,none⟩=some (.pointer (some ⟨M.bb,0,none⟩))) (first|with_reducible exact⟨x0,x1,x2,x3⟩|with_reducible exact⟨Af x0,Af x1,Af x2,Af x3⟩|with_reducible exact⟨C7 _ x0,C7 _ x1,C7 _ x2,C7 _ x3⟩|with_reducible exact⟨y0,y1,y2,y3⟩) (first|(go_at_call 159;(with_reducible refine(C9 a HZ2.o.drew.m.buf HA.o).mono ?_);rintro e w' ⟨rfl,rfl⟩)|(go_at_call 158;(with_reducible refine(Aqo v a y _ HA2.o HLY.o).mono ?_);rintro e W3 ⟨rfl,hb⟩;have HZ3:=Hd (HZ2.o.drew.pure hb);obtain⟨y0,y1,y2,y3⟩:=HZ3.o.cells;have HT3:=Hd (HT2.o.trans (To.pure B6 hb o2).from_drew);clear hb));clear x0 x1 x2 x3 HZ2;go_wp2_with fail;go_at_call 160;refine(Gm M.bb y b.b _ o2 HZ3.o.m.buf HF.o.w HL7.o).mono ?_;rintro e W4 ⟨rfl,o4,hB4,hT4⟩;have HZ4:=Hd (HZ3.o.buf_ hT4 hB4);have HT4:=Hd (HT3.o.trans (hT4.mono fun _ h=>Hj h));obtain⟨x0,x1,x2,x3⟩:=HZ4.o.cells;clear hB4 hT4 y0 y1 y2 y3;go_wp2_with fail;go_at_call 90;refine(B8 (v.t:Int) _).mono ?_;obtain⟨iv,hiv⟩:∃x,Aw (v.t:Int)=x:=⟨_,rfl⟩;have HIV:=Hd hiv;rw [hiv];clear hiv;rintro e W5 ⟨rfl,hb⟩;have HZ5:=Hd (HZ4.o.pure hb);have HT5:=Hd (HT4.o.trans (To.pure B6 hb o4));clear hb x0 x1 x2 x3;obtain⟨x0,x1,x2,x3⟩:=HZ5.o.cells;obtain⟨m,hm⟩:∃m,(An y b.b).length=m:=⟨_,rfl⟩;have HMM:=Hd hm;obtain⟨q,hq⟩:∃q,Ca y m v=q:=⟨_,rfl⟩;have HQ:=Hd hq;have HFQ:=Hd (show Dv y q=true by rw [←hq,←hm];exact HF.o.fit);have HLQ:=Hd (show(q:Int)<18446744073709551616 by rw [←hq,←hm];exact HF.o.lt);clear hm hq;obtain⟨ow,how⟩:∃x,(if inl v.t=true then y else v.w)=x:=⟨_,rfl⟩;have HOW:=Hd how;clear how;go_upto_if 65 with fail
 go_cut [8,9] (fun u8 u9 wx=>∃wy,wy=wx∧u8= Aa Ab (ow:Int)∧u9= Aa Ac (q:Int)∧Below W5.heap.size W5 wx)
 case first=>
  cases iv with
  |true=>
   have hin:inl v.t=true:=HIV.o;have HQ2:=Hd (show v.n % 2^(8*y)=q by rw [←HQ.o];unfold Ca;rw [if_pos hin]);have HO2:=Hd (show ow=y by rw [←HOW.o,if_pos hin]);clear hin;go_wp2_with (go_at_call 161;(refine(Aja v.n y q _ HF.o.w HQ2.o).mono ?_);rintro e w' ⟨rfl,rfl⟩);go_meet;exact⟨_,rfl,by rw [HO2.o],rfl,Below.refl _ _⟩
  |false=>
   have hin:inl v.t=false:=HIV.o;have hne:¬inl v.t=true:=by rw [hin];decide
   have hle:v.n≤m:=by rw [←HMM.o];exact HF.o.le hin
   have hmb:m≤1048576:=by
    have h1:=Cy b.b (show y≤8 by have h2:=C1 HF.o.w;omega);have h2:=HL7.o;have h3:=HMM.o;omega
   have hq2:m-v.n=q:=by rw [←HQ.o];unfold Ca;rw [if_neg hne]
   have HO2:=Hd (show ow=v.w by rw [←HOW.o,if_neg hne]);have e1:IntKind.u64.wrap (m:Int)=m:=B7 _ (by omega);have e2:(m:Int)-(v.n:Int)=q:=by omega
   have e3:IntKind.u64.wrap (q:Int)=q:=B7 _ (by omega);clear hin hne hq2;go_wp2_with fail;go_region_held3 (fun w'=>w'.cell? ⟨vb,0,none⟩=some (Aa Ab (v.t:Int))∧w'.cell? ⟨vb,1,none⟩=some (Aa Ab (v.w:Int))∧w'.cell? ⟨vb,2,none⟩=some (Aa Ac (v.n:Int))∧w'.cell? ⟨M.β,0,none⟩=some (.pointer (some ⟨M.bb,0,none⟩))) (first|with_reducible exact⟨x0,x1,x2,x3⟩|with_reducible exact⟨Af x0,Af x1,Af x2,Af x3⟩|with_reducible exact⟨C7 _ x0,C7 _ x1,C7 _ x2,C7 _ x3⟩|with_reducible exact⟨y0,y1,y2,y3⟩) (first|(go_at_call 159;(with_reducible refine(C9 m HZ5.o.drew.m.buf HMM.o).mono ?_);rintro e w' ⟨rfl,rfl⟩));go_wp2_with fail;go_meet;exact⟨_,rfl,by rw [HO2.o],rfl,(Below.refl _ _).drew⟩
 case rest=>
 obtain⟨w6,rfl,rfl,rfl,hb⟩:=hcut;have HZ6:=Hd (HZ5.o.pure hb);have HT6:=Hd (HT5.o.trans (To.pure B6 hb o4));clear hb x0 x1 x2 x3;obtain⟨x0,x1,x2,x3⟩:=HZ6.o.cells;have HPW:=Hd (show Av (ow:Int)=true by rw [←HOW.o];split;exact HF.o.w;exact HF.o.own);obtain⟨tb,htb⟩:∃x,UInt8.ofNat (4*v.t+bCode ow)=x:=⟨_,rfl⟩;have HTB:=Hd htb;have hpk:=Qx v.t ow w6 HF.o.legal HPW.o;rw [htb] at hpk;have HPK:=Hd hpk;clear htb hpk;go_wp2_with fail;go_at_call 162;refine HPK.o.mono ?_;rintro e W7 ⟨rfl,hb⟩;have HZ7:=Hd (HZ6.o.pure hb);have HT7:=Hd (HT6.o.trans (To.pure B6 hb o4));clear hb x0 x1 x2 x3;obtain⟨x0,x1,x2,x3⟩:=HZ7.o.cells;have HLN:=Hd (show(An y b.b).length+y≤1048576 by
  have h2:=C1 HF.o.w;have h1:=Cy b.b (show y≤8 by omega);have h3:=HF.o.len;omega)
 go_wp2_with fail;go_at_call 163;refine(D2 M.bb y q (An y b.b) _ o4 HZ7.o.m.buf HF.o.w HFQ.o HLQ.o HLN.o).mono ?_;rintro e W8 ⟨rfl,o8,hB8,hT8⟩;have HZ8:=Hd (HZ7.o.buf_ hT8 hB8);have HT8:=Hd (HT7.o.trans (hT8.mono fun _ h=>Hj h));clear hB8 hT8 x0 x1 x2 x3;obtain⟨x0,x1,x2,x3⟩:=HZ8.o.cells;go_upto_region 17 with fail
 have hy8:y≤8:=by have h2:=C1 HF.o.w;omega
 have e8:IntKind.u8.wrap (y:Int)=y:=by show(y:Int) % 256=y;omega
 have hI2:=Akl W8 tb y hy8;have hcv1:=Ji (c:=2) hI2;have hcv2:=Ji (c:=2) (w:=(W8.alloc (.cells #[.int .u8 (tb.toNat:Int),.int .u8 (y:Int)] 5)).drew) hI2;have hB9:Below W8.heap.size W8 (((W8.alloc (.cells #[.int .u8 (tb.toNat:Int),.int .u8 (y:Int)] 5)).alloc (.cells #[.string ⟨[tb,UInt8.ofNat y].toArray⟩] 9))).drew:=(Ba _ _ _).drew;have HZ9:=Hd (HZ8.o.fresh hB9);have HT9:=Hd (HT8.o.trans (To.fresh B6 hB9 o8 0));have hS9:=N0 (W8.alloc (.cells #[.int .u8 (tb.toNat:Int),.int .u8 (y:Int)] 5)) [tb,UInt8.ofNat y];have eS:(W8.alloc (.cells #[.int .u8 (tb.toNat:Int),.int .u8 (y:Int)] 5)).heap.size=W8.heap.size+1:=by simp
 rw [eS] at hS9;have HS9:=Hd (show Ek (((W8.alloc (.cells #[.int .u8 (tb.toNat:Int),.int .u8 (y:Int)] 5)).alloc (.cells #[.string ⟨[tb,UInt8.ofNat y].toArray⟩] 9))).drew (some ⟨W8.heap.size+1,0,none⟩) 1 [[tb,UInt8.ofNat y]] from hS9);have HO9:=Hd (show ∀ad,(some ⟨W8.heap.size+1,0,none⟩:Option Addr)=some ad→Aq o8 W8.heap.size 0 ad.block≠1 from fun ad h=>by injection h with h;subst h;rw [As (by show W8.heap.size≤W8.heap.size+1;omega)];omega);have HL9:=Hd (show(An y b.b++Ai y q).length+ [[tb,UInt8.ofNat y]].flatten.length≤1048576 by
  have h1:=Cy b.b hy8;have h3:=HF.o.len;rw [Ass,Au];show _+2≤_;omega)
 have n0:=Nat.ne_of_lt (Ao x0);have n3:=Nat.ne_of_lt (Ao x3);simp only at n0 n3;clear hI2 hB9 hS9 eS;have z3:=Ar (.cells #[.int .u8 (tb.toNat:Int),.int .u8 (y:Int)] 5) x3;have z4:=Ar (.cells #[.string ⟨[tb,UInt8.ofNat y].toArray⟩] 9) z3;go_region_with (first|(go_at_call 164;(with_reducible refine(Gc M.bb 1 _ _ [[tb,UInt8.ofNat y]] (An y b.b++Ai y q) _ _ HZ9.o.m.buf HS9.o HO9.o HL9.o (by omega)).mono ?_);rintro e W10 ⟨rfl,o10,hB10,hT10⟩;have HZ10:=Hd (HZ9.o.buf_ hT10 hB10);have HT10:=Hd (HT9.o.trans (hT10.mono fun _ h=>Hj h));clear hB10 hT10))
 all_goals
  have HZ10:=HZ10;clear z3 z4 hcv1 hcv2 n0 n3;obtain⟨y0,y1,y2,y3⟩:=HZ10.o.cells;have HLB:=Hd (show(An y b.b++Ai y q++ [[tb,UInt8.ofNat y]].flatten).length≤1048576 by have:=HL9.o;rw [Ass];omega);go_wp2_with fail;go_at_call 165;refine(Ach M.bb _ _ o10 HZ10.o.m.buf HLB.o).mono ?_;rintro e W11 ⟨A11,n11,c11,rfl,hO11,hB11⟩;have HZ11:=Hd (HZ10.o.m.fresh hB11 0);have HT11:=Hd (HT10.o.trans (To.fresh B6 hB11 o10 0));have HO11:=Hd hO11;have HF11:=Hd (show Of (Aq o10 W10.heap.size 0) A11 0 from fun ad h=>As (hO11.addr ad h).2.1);clear y0 y1 y2 y3 hO11 hB11;go_wp2_with fail;go_at_call 157;refine(Gs HZ11.o).mono ?_;rintro e W12 ⟨rfl,o12,hM12,hT12⟩;have HZ12:=Hd hM12;have HT12:=Hd (HT11.o.trans hT12);have HO12:=Hd (HO11.o.to_ HF11.o hT12 Bg);have HF12:=Hd (HF11.o.to_ HO11.o hT12);clear hM12 hT12;go_wp2_with fail;go_at_call 157;refine(Alm 140 HZ12.o).mono ?_;rintro e W13 ⟨rfl,hT13⟩;have HT13:=Hd (HT12.o.trans (hT13.mono fun _ h=>by subst h;exact⟨by omega,by omega⟩));have HO13:=Hd (HO12.o.to_ HF12.o hT13 (by omega));clear hT13;go_wp2_with fail;go_ret2;refine⟨A11,n11,c11,rfl,?_,o12,HT13.o⟩;have h:=HO13.o.rebase (B':=w.heap.size) HT10.o.size;have e:C5 y v=tb:=by unfold C5;rw [HOW.o,HTB.o]
  rw [HMM.o,HQ.o,e];exact h
def zeroAt(l:List UInt8)(a:Nat):Nat:=a+(l.drop a).findIdx (· ==0)
theorem Ahb{l:List UInt8}{k:Nat}(hk:k<l.length)(h:l[k]=0):zeroAt l k=k:=by
 unfold zeroAt;rw [List.drop_eq_getElem_cons hk,List.findIdx_cons,h];rfl
theorem Adf{l:List UInt8}{k:Nat}(hk:k<l.length)(h:l[k]≠0):zeroAt l (k+1)=zeroAt l k:=by
 unfold zeroAt;rw [List.drop_eq_getElem_cons hk,List.findIdx_cons];have:(l[k]==0)=false:=by simpa using h
 rw [this];simp only [cond_false];omega
theorem Aha(l:List UInt8):zeroAt l l.length=l.length:=by
 unfold zeroAt;simp
theorem Yo{l:List UInt8}{k:Nat}(hk:k≤l.length):k≤zeroAt l k∧zeroAt l k≤l.length:=by
 unfold zeroAt;have:=List.findIdx_le_length (xs:=l.drop k) (p:=(· ==0));rw [List.length_drop] at this;omega
theorem Sw(A:Option Addr)(n c a:Nat)(l:List UInt8)(w:World)(h:Cd w A n l)(ha:a≤n)(hn:n≤9223372036854775807):
  Calls Tryz.prog 393 #[.slice A n c,Aa Ab a] w fun e w'=>e= .returned (.tuple #[Aa Ab (zeroAt l a:Nat),.bool (decide (zeroAt l a<n))])∧w=w':=by
 have hlen:=h.1;subst hlen;have HI:=Hd h;clear h;go_enter Tryz.func393,Tryz.ntmps393;go_wp2;go_step3;go_wp2;go_step3;go_wp2;go_loop [6] (fun i=>∃k:Nat,k≤l.length∧i= Aa Ab k∧zeroAt l k=zeroAt l a) (fun i=>l.length-(intOf i).toNat)
 case atStart=>exact⟨a,ha,rfl,rfl⟩
 case round=>
  obtain⟨k,hk,rfl,hz⟩:=hrel;have HZ:=Hd hz;clear hz;by_cases hlt:k<l.length
  ·obtain⟨b,off,rfl,hkl,hc⟩:=K5 HI.o hlt;by_cases h0:l[k]=0
   ·have HE:=Hd (show zeroAt l a=k by rw [←HZ.o,Ahb hlt h0]);rw [h0] at hc;clear h0;go_wp2
    try rw [Exit.noGoto_ret]
    go_ret2;rw [HE.o];exact⟨by simp [hlt],rfl⟩
   ·have HE:=Hd ((Adf hlt h0).trans HZ.o);have hb:(l[k].toNat==0)=false:=by
     rw [beq_eq_false_iff_ne];intro e;exact h0 (UInt8.toNat_inj.1 e)
    clear h0;go_wp2;go_round
    case rel=>exact⟨k+1,by omega,by go_num,HE.o⟩
    case measure=>simp [intOf];omega
  ·obtain rfl:l.length=k:=by omega
   have HE:=Hd (show zeroAt l a=l.length by rw [←HZ.o,Aha]);go_wp2
   try rw [Exit.noGoto_ret]
   go_ret2;rw [HE.o];exact⟨by simp,rfl⟩
theorem R3(A B:Option Addr)(n n' c d:Nat)(l m:List UInt8)(w:World)(ha:Cd w A n l)(hb:Cd w B n' m):
  Calls Tryz.prog 394 #[.slice A n c,.slice B n' d] w fun e w'=>e= .returned (.bool (eqB l m))∧w=w':=by
 have h1:=Ji (c:=c) ha;have h2:=Ji (c:=d) hb;have H:=Hd (show(l==m)=eqB l m by unfold eqB;rw [Bool.eq_iff_iff];simp);clear ha hb;go_enter Tryz.func394,Tryz.ntmps394;go_wp2;go_ret;exact⟨Ct H.o,rfl⟩
theorem Aqe(l:List UInt8)(c:UInt8): -1≤Lib.indexByte l c:=by
 induction l with
 |nil=>simp [Lib.indexByte]
 |cons b l ih=>
  unfold Lib.indexByte;split
  ·omega
  ·split <;>omega
theorem Aof(l:List UInt8)(c:UInt8):decide (Lib.indexByte l c<0)=!(l.contains c):=by
 induction l with
 |nil=>simp [Lib.indexByte]
 |cons b l ih=>
  have hg:=Aqe l c;unfold Lib.indexByte;by_cases hb:b=c
  ·subst hb;simp
  ·have e1:(b==c)=false:=by simpa using hb
   have e2:(c==b)=false:=by simpa using fun e:c=b=>hb e.symm
   rw [e1,List.contains_cons,e2,Bool.false_or,←ih,if_neg (by simp)];split
   ·rename_i h;simp only [beq_iff_eq] at h;rw [h]
   ·rename_i h;simp only [beq_iff_eq] at h;rw [Bool.eq_iff_iff];simp only [decide_eq_true_eq];omega
theorem Ahn(A:Option Addr)(n c:Nat)(l:List UInt8)(x:UInt8)(v:Int)(w:World)(h:Cd w A n l)(hn:0<n)(hv:v=(x.toNat:Int)):
  Calls Tryz.prog 344 #[.slice A n c,.int .u8 v] w fun e w'=>e= .returned (Aa Ab (Lib.indexByte l x))∧w=w':=by
 subst hv;have hlen:=h.1;subst hlen;obtain⟨b,off,rfl,_⟩:=K5 h hn;have hc:∀i,i<l.length→w.cell? ⟨b,off+i,none⟩=some (.int .u8 ((l.map fun x:UInt8=>(x.toNat:Int)).getD i 0)):=by
  intro i hi;obtain⟨b',off',e,hk,hc⟩:=K5 h hi;injection e with e
  injection e with e1 e2
  subst e1 e2;rw [hc];simp [List.getD_eq_getElem?_getD,hk]
 have hr:=Lib.run_indexByteSlice (P:=Tryz.prog) w b off l.length c (l.map fun x:UInt8=>(x.toNat:Int)) (by simp) hc (x.toNat:Int);have e1:Lib.bytesOf (l.map fun x:UInt8=>(x.toNat:Int))=l:=by
  unfold Lib.bytesOf;rw [List.map_map]
  conv=>rhs;rw [←List.map_id l]
  exact List.map_congr_left (fun x _=>by simp)
 have e2:((x.toNat:Int)).toNat.toUInt8=x:=by simp
 rw [e1,e2] at hr;clear hc e1 e2 h;go_enter Tryz.func344,Tryz.ntmps344;go_wp2;rw [run_callFunc_extern Tryz.func392 (by kernel_rfl) (by kernel_rfl) (by kernel_rfl) (e:=Extern.BytealgIndexByte.indexByte) (by kernel_rfl),hr];simp only [Result.andThen];rw [Oper.upon_value];go_wp2;go_ret;exact⟨rfl,rfl⟩
def tc(x:Nat):List Value:=[Aa Ab (x:Int)]
theorem Ars{w:World}{A:Option Addr}{n k:Nat}{l:List Nat}(h:Is tc w A n l)(hk:k<n):∃b off,A=some ⟨b,off,none⟩∧∃hk:k<l.length,w.cell? ⟨b,off+k,none⟩=some (Aa Ab (l[k]:Nat)):=by
 obtain⟨b,off,e,hk',hc⟩:=h.at_ (fun _=>rfl) (sz:=1) (by omega) hk;have:=hc 0 (by omega);rw [Nat.mul_one,Nat.add_zero] at this;exact⟨b,off,e,hk',this⟩
theorem Ak0(A:Option Addr)(n c:Nat)(ts:List Nat)(w:World)(h:Is tc w A n ts)(hn:n≤100)(ht:∀t∈ts,t<256):
  Calls Tryz.prog 345 #[.slice A n c] w (V2 w (ts.map UInt8.ofNat)):=by
 have hlen:=h.1;subst hlen;have HI:=Hd h;have HT:=Hd ht;clear h ht;go_enter Tryz.func345,Tryz.ntmps345;go_wp2;go_loopw [2,4,7] (fun o _ i wr=>∃(k:Nat) (A0:Option Addr) (c0:Nat),k≤ts.length∧i= Aa Ab k∧o= .slice A0 k c0∧Kf wr w.heap.size A0 k c0 ((ts.take k).map UInt8.ofNat)∧Below w.heap.size w wr) (fun _ _ i _=>ts.length-(intOf i).toNat)
 case atStart=>exact⟨0,none,0,by omega,rfl,rfl,Own.nil _ _,Below.refl _ _⟩
 case round=>
  obtain⟨k,A0,c0,hk,rfl,rfl,hO,hB⟩:=hrel;have HO:=Hd hO;have HBr:=Hd hB;clear hO hB;by_cases hlt:k<ts.length
  ·obtain⟨b,off,rfl,hkl,hc⟩:=Ars (HI.o.pure HBr.o) hlt;have hx:=HT.o ts[k] (List.getElem_mem hkl);have htk:(ts.take (k+1)).map UInt8.ofNat=(ts.take k).map UInt8.ofNat++ [UInt8.ofNat ts[k]]:=by
    rw [List.take_succ_eq_append_getElem hkl,List.map_append];rfl
   have HTK:=Hd htk;clear htk;generalize ts[k]=t at hc hx HTK;have hw:IntKind.u8.wrap (t:Int)=((UInt8.ofNat t).toNat:Int):=by
    rw [IntKind.wrap_u8,UInt8.toNat_ofNat'];omega
   go_wp2_with (at_builtin;refine Dm _ rfl (.tmp 11) (.tmp 14) _ rfl 5 _ 1 1 Tryz.underlying28 Qi rfl (by omega) C6 T7 _ _ _ _ _ rfl (HO.o.pure ((Below.refl _ _).alloc (Asp _) _)) _ _ _ _ rfl (Aoj _ _ (UInt8.ofNat t) hw) (by omega) (by have:=HBr.o.size;simp;omega) ?_;intro A1 c1 w4 hown hfr hat;have HO1:=Hd hown;have HF1:=Hd hfr;clear hown hfr hat);exact⟨⟨k+1,A1,c1,by omega,by go_num,rfl,by rw [HTK.o];exact HO1.o,Bu (HBr.o.alloc HBr.o.size _) HF1.o (by rintro j ⟨ad,h,rfl⟩;exact(HO.o.addr ad h).2.1)⟩,by simp [intOf];omega⟩
  ·obtain rfl:k=ts.length:=by omega
   go_wp2;go_ret;rw [List.take_length] at HO;exact⟨A0,_,c0,rfl,HO.o,HBr.o⟩
def Jy(l:List UInt8)(a:Nat):Int:=if zeroAt l a<l.length then 0 else 213
def Ff(l:List UInt8)(a v k:Nat):Int:=
 if a % v≠0 then 212 else if a<v then 211 else if l.length<a+loadU l ((a:Int)-v) v+k then 211
 else if((l.drop (a+loadU l ((a:Int)-v) v)).take k)=Ast k 0 then 0 else 213
def cntL(l:List UInt8)(a v:Nat):List UInt8:=(l.drop a).take (loadU l ((a:Int)-v) v)
def Mh(l:List UInt8)(a:Nat):List UInt8:=(l.drop a).take (zeroAt l a-a)
def Pu(w:World)(A0:Option Addr)(n0:Nat)(l:List UInt8)(a:Int)(m:List UInt8)(er:Int)(e:Ending)(w':World):Prop:=
 ∃A n c,e= .returned (.tuple #[.agg #[Aa Ab a,.slice A n c],Aa Ab er])∧(∀w0,Cd w0 A0 n0 l→Cd w0 A n m)∧n≤c∧Below w.heap.size w w'
theorem Aom{l:List UInt8}{a:Nat}(h:¬zeroAt l a<l.length):Jy l a=213:=if_neg h
theorem Aan{l:List UInt8}{a:Nat}(h:zeroAt l a<l.length):Jy l a=0:=if_pos h
theorem Alw(A:Option Addr)(n c a:Nat)(l:List UInt8)(w:World)(h:Cd w A n l)(hc:n≤c)(ha:a≤n)(hn:n≤9223372036854775807):
  Calls Tryz.prog 346 #[.slice A n c,Aa Ab a] w (Pu w A n l (if Jy l a=0 then a else 0) (if Jy l a=0 then Mh l a else []) (Jy l a)):=by
 have hlen:=h.1;subst hlen;have HI:=Hd (h.alloc (.cells #[Aa Ab 0,.slice none 0 0] 320));have HI0:=Hd h;clear h;by_cases hz:zeroAt l a<l.length
 ·rw [Aan hz,if_pos rfl,if_pos rfl];have hzb:=Yo (l:=l) ha;have hz1:=hzb.1;have HZ:=Hd (show Mh l a=(l.drop a).take (zeroAt l a-a) from rfl);rw [HZ.o];obtain⟨z,hze⟩:∃z,zeroAt l a=z:=⟨_,rfl⟩;have HZE:=Hd hze;rw [hze] at hz hz1⊢;clear hzb hze;by_cases haz:z=a
  ·subst haz;go_enter Tryz.func346,Tryz.ntmps346;go_wp2_with fail;go_at_call 393;refine(Sw A _ c z l _ HI.o ha hn).mono ?_;rw [HZE.o];rintro e w1 ⟨rfl,rfl⟩;go_wp2;refine bodyPost_ret (v:= .tuple #[.agg #[Aa Ab z,.slice A 0 0],Aa Ab 0]) (by simp [results,Tryz.results346,go_sem]) rfl ⟨A,0,0,rfl,?_,Asp _,?_⟩
   ·rw [Nat.sub_self,List.take_zero];exact fun _ _=>Is.nil _ _
   ·exact(Below.refl _ _).alloc (Asp _) _
  ·have hlt:a<z:=by omega
   have hza:¬z=a:=haz;go_enter Tryz.func346,Tryz.ntmps346;go_wp2_with fail;go_at_call 393;refine(Sw A _ c a l _ HI.o ha hn).mono ?_;rw [HZE.o];rintro e w1 ⟨rfl,rfl⟩;go_wp2;refine bodyPost_ret (v:= .tuple #[.agg #[Aa Ab a,.slice (A.map fun p=>p.add a) (z-a) (z-a)],Aa Ab 0]) (by simp [results,Tryz.results346,go_sem]) rfl ⟨_,_,_,rfl,?_,Asp _,?_⟩
   ·exact fun _ h=>Oo h (by omega)
   ·exact(Below.refl _ _).alloc (Asp _) _
 ·rw [Aom hz,if_neg (by decide),if_neg (by decide)];go_enter Tryz.func346,Tryz.ntmps346;go_wp2_with fail;go_at_call 393;refine(Sw A _ c a l _ HI.o ha hn).mono ?_;rintro e w1 ⟨rfl,rfl⟩;go_wp2;refine bodyPost_ret (v:= .tuple #[.agg #[Aa Ab 0,.slice none 0 0],Aa Ab 213]) (by simp [results,Tryz.results346,go_sem]) rfl ⟨none,0,0,rfl,fun _ _=>Is.nil _ _,Asp _,?_⟩;exact(Below.refl _ _).alloc (Asp _) _
theorem Adq(A:Option Addr)(n c lo hi:Nat)(h1:lo≤hi)(h2:hi≤n)(hc:n≤c):∃X,(∀w,(Instr.sliceAt 28 (.slice A n c) (some (Aa Ab lo)) (some (Aa Ab hi)) none).run Tryz.prog w= .ok (.slice X (hi-lo) (c-lo)) w)∧
  ∀w l,Cd w A n l→Cd w X (hi-lo) ((l.drop lo).take (hi-lo)):=by
 refine⟨if c=lo then A else A.map (·.add lo),fun w=>?_,fun w l h=>?_⟩
 ·have ht:Tryz.prog.underlying 28=some (.slice (Tryz.prog.elem 28)):=by kernel_rfl
  have hz:(sizeOf (Tryz.prog.elem 28)).run Tryz.prog w= .ok 1 w:=by kernel_rfl
  rw [run_sliceAt_slice (h:=ht),run_slice_lh (ht:=ht) (h0:=by omega) (h1:=by omega) (h2:=by omega),hz];simp [Result.andThen,sliced]
 ·split
  ·have e:hi-lo=0:=by omega
   rw [e,List.take_zero];exact Is.nil _ _
  ·exact Oo h (by omega)
theorem Zz(A:Option Addr)(n c lo hi:Nat)(h1:lo≤hi)(h2:hi≤n)(hc:n≤c):∃X,(∀w,(Instr.sliceAt 28 (.slice A n c) (some (Aa Ab lo)) (some (Aa Ab hi)) (some (Aa Ab hi))).run Tryz.prog w= .ok (.slice X (hi-lo) (hi-lo)) w)∧
  ∀w l,Cd w A n l→Cd w X (hi-lo) ((l.drop lo).take (hi-lo)):=by
 refine⟨if hi=lo then A else A.map (·.add lo),fun w=>?_,fun w l h=>?_⟩
 ·have ht:Tryz.prog.underlying 28=some (.slice (Tryz.prog.elem 28)):=by kernel_rfl
  have hz:(sizeOf (Tryz.prog.elem 28)).run Tryz.prog w= .ok 1 w:=by kernel_rfl
  rw [run_sliceAt_slice (h:=ht),run_slice_lhm (ht:=ht) (h0:=by omega) (h1:=by omega) (h2:=by omega) (h3:=by omega),hz];simp [Result.andThen,sliced]
 ·split
  ·have e:hi-lo=0:=by omega
   rw [e,List.take_zero];exact Is.nil _ _
  ·exact Oo h (by omega)
theorem Adx{α:Type}{f:α→List Value}{w:World}{A:Option Addr}{n:Nat}{l:List α}(h:Is f w A n l):Is f w.drew A n l:=h
theorem Ah3(l:List UInt8)(a v k u:Nat)(hu:loadU l ((a:Int)-v) v=u):
  (a % v≠0∧Ff l a v k=212)∨(a % v=0∧a<v∧Ff l a v k=211)∨(a % v=0∧v≤a∧l.length<a+u+k∧Ff l a v k=211)∨
  (a % v=0∧v≤a∧a+u+k≤l.length∧(l.drop (a+u)).take k=Ast k 0∧Ff l a v k=0)∨(a % v=0∧v≤a∧a+u+k≤l.length∧¬(l.drop (a+u)).take k=Ast k 0∧Ff l a v k=213):=by
 unfold Ff;rw [hu];by_cases h1:a % v=0
 ·rw [if_neg (by simpa using h1)];by_cases h2:a<v
  ·rw [if_pos h2];exact .inr (.inl ⟨h1,h2,rfl⟩)
  ·rw [if_neg h2];by_cases h3:l.length<a+u+k
   ·rw [if_pos h3];exact .inr (.inr (.inl ⟨h1,by omega,h3,rfl⟩))
   ·rw [if_neg h3];by_cases h4:(l.drop (a+u)).take k=Ast k 0
    ·rw [if_pos h4];exact .inr (.inr (.inr (.inl ⟨h1,by omega,by omega,h4,rfl⟩)))
    ·rw [if_neg h4];exact .inr (.inr (.inr (.inr ⟨h1,by omega,by omega,h4,rfl⟩)))
 ·rw [if_pos h1];exact .inl ⟨h1,rfl⟩
theorem Zu(A:Option Addr)(n c a v k:Nat)(l:List UInt8)(w:World)(h:Cd w A n l)(hc:n≤c)(ha:a≤n)(hn:n≤1099511627776)(hv:Av (v:Int)=true)(hk:k≤1):
  Calls Tryz.prog 347 #[.slice A n c,Aa Ab a,Aa Ab v,Aa Ab k] w (Pu w A n l (if Ff l a v k=0 then a else 0) (if Ff l a v k=0 then cntL l a v else []) (Ff l a v k)):=by
 have hlen:=h.1;subst hlen;have HI:=Hd (h.alloc (.cells #[Aa Ab 0,.slice none 0 0] 320));have HB:=Hd ((Below.refl w.heap.size w).alloc (Asp _) (.cells #[Aa Ab 0,.slice none 0 0] 320));have HK:=Hd (Ag.new w 320 #[Aa Ab 0,.slice none 0 0]);clear h;obtain⟨u,hu⟩:∃u,loadU l ((a:Int)-v) v=u:=⟨_,rfl⟩;have HU:=Hd hu;have hv8:1≤v∧v≤8:=by have:=By.1 hv;omega
 have hv1:=hv8.1;have hv2:=hv8.2;have hcs:=Ah3 l a v k u hu;clear hu hv8;have hvz:(v==0)=false:=beq_eq_false_iff_ne.mpr (by omega);rcases hcs with⟨h1,he⟩|⟨h1,h2,he⟩|⟨h1,h2,h3,he⟩|⟨h1,h2,h3,h4,he⟩|⟨h1,h2,h3,h4,he⟩
 ·rw [he,if_neg (by decide),if_neg (by decide)];have hm:((a:Int) % (v:Int) != 0)=true:=by simp;omega
  clear he h1;go_enter Tryz.func347,Tryz.ntmps347;go_wp2;refine bodyPost_ret (v:= .tuple #[.agg #[Aa Ab 0,.slice none 0 0],Aa Ab 212]) (by simp [results,Tryz.results347,go_sem]) rfl ⟨none,0,0,rfl,fun _ _=>Is.nil _ _,Asp _,HB.o⟩
 ·rw [he,if_neg (by decide),if_neg (by decide)];have hm:((a:Int) % (v:Int) != 0)=false:=by simp;omega
  clear he h1;go_enter Tryz.func347,Tryz.ntmps347;go_wp2;refine bodyPost_ret (v:= .tuple #[.agg #[Aa Ab 0,.slice none 0 0],Aa Ab 211]) (by simp [results,Tryz.results347,go_sem]) rfl ⟨none,0,0,rfl,fun _ _=>Is.nil _ _,Asp _,HB.o⟩
 ·rw [he,if_neg (by decide),if_neg (by decide)];clear he;have hm:((a:Int) % (v:Int) != 0)=false:=by simp;omega
  have hx:decide ((a:Int)<(v:Int))=false:=by simp;omega
  clear h1;go_enter Tryz.func347,Tryz.ntmps347;go_wp2_with fail;go_at_call 167;refine(Hy A _ c ((a:Int)-v) v l _ HI.o hc (by omega)).mono ?_;rw [HU.o];obtain⟨er,her⟩:∃er,D6 l.length ((a:Int)-v) v=er:=⟨_,rfl⟩;rw [her];rintro e w1 ⟨rfl,hb⟩;have HB:=Hd (Ad HB.o hb);have HI:=Hd (HI.o.pure hb);have HK:=Hd (HK.o.pure hb);obtain ⟨c0,c1⟩:=HK.o.c2;have f0:=HK.o.frozen 0;have f1:=HK.o.frozen 1;have hn63:l.length≤9223372036854775807:=by omega
  have HWL:=Hd (B7 (l.length:Int) (by omega));clear hb her;by_cases hul:l.length<u
  ·have hwl:=HWL.o;have hd:decide ((l.length:Int)<(u:Int))=true:=by simpa using hul
   go_wp2;refine bodyPost_ret (v:= .tuple #[.agg #[Aa Ab 0,.slice none 0 0],Aa Ab 211]) (by simp [results,Tryz.results347,go_sem,c0,c1]) rfl ⟨none,0,0,rfl,fun _ _=>Is.nil _ _,Asp _,((HB.o.setCell (Asp _) _).setCell (Asp _) _)⟩
  ·have hd:decide ((l.length:Int)<(u:Int))=false:=by simpa using hul
   have W2:=Hd (Cj (u:Int) (by omega));have W3:=Hd (Cj ((u:Int)+k) (by omega));have HIN:=Hd (show Gf l.length a ((u:Int)+k)=false from decide_eq_false (by omega));have hw2:=W2.o;have hw3:=W3.o;have hwl:=HWL.o;go_wp2_with fail;go_at_call 206;refine(C2 A _ c a ((u:Int)+k) _ hn63).mono ?_;rw [HIN.o];rintro e w2 ⟨rfl,rfl⟩;go_wp2;refine bodyPost_ret (v:= .tuple #[.agg #[Aa Ab 0,.slice none 0 0],Aa Ab 211]) (by simp [results,Tryz.results347,go_sem,c0,c1]) rfl ⟨none,0,0,rfl,fun _ _=>Is.nil _ _,Asp _,((HB.o.setCell (Asp _) _).setCell (Asp _) _)⟩
 ·rw [he,if_pos rfl,if_pos rfl];clear he;have HE:=Hd (show eqB ((l.drop (a+u)).take k) (Ast k 0)=true from decide_eq_true h4);clear h4;have hm:((a:Int) % (v:Int) != 0)=false:=by simp;omega
  have hx:decide ((a:Int)<(v:Int))=false:=by simp;omega
  clear h1;go_enter Tryz.func347,Tryz.ntmps347;go_wp2_with fail;go_at_call 167;refine(Hy A _ c ((a:Int)-v) v l _ HI.o hc (by omega)).mono ?_;rw [HU.o];obtain⟨er,her⟩:∃er,D6 l.length ((a:Int)-v) v=er:=⟨_,rfl⟩;rw [her];rintro e w1 ⟨rfl,hb⟩;have HB:=Hd (Ad HB.o hb);have HI:=Hd (HI.o.pure hb);have HK:=Hd (HK.o.pure hb);obtain ⟨c0,c1⟩:=HK.o.c2;have f0:=HK.o.frozen 0;have f1:=HK.o.frozen 1;have hn63:l.length≤9223372036854775807:=by omega
  have HWL:=Hd (B7 (l.length:Int) (by omega));clear hb her;have hd:decide (l.length<u)=false:=decide_eq_false (by omega);have hd2:u≤l.length:=by omega
  obtain⟨T,hT⟩:∃T,T=a+u:=⟨_,rfl⟩;obtain⟨T2,hT2⟩:∃T2,T2=T+k:=⟨_,rfl⟩;obtain⟨Z,hZ1,hZ2,hmk⟩:=Aa4 k (by omega);obtain⟨X,hX1,hX2⟩:=Adq A l.length c T T2 (by omega) (by omega) hc;obtain⟨Y,hY1,hY2⟩:=Zz A l.length c a T (by omega) (by omega) hc;have HIN:=Hd (show Gf l.length a ((u:Int)+k)=true from De.2 ⟨by omega,by omega,by omega⟩);have W2:=Hd (Cj (u:Int) (by omega));have W3:=Hd (Cj ((u:Int)+k) (by omega));have W4:=Hd ((Cj ((a:Int)+u) (by omega)).trans (show(a:Int)+u=(T:Int) by omega));have W5:=Hd ((IntWalk.i64_in ((T:Int)+(k:Int)) (by omega)).trans (show(T:Int)+k=(T2:Int) by omega));have W6:=Hd ((Cj ((T:Int)+(k:Int)) (by omega)).trans (show(T:Int)+k=(T2:Int) by omega));have s0:(0:Int)≤T:=by omega
  have s1:(T:Int)≤T2:=by omega
  have s2:(T2:Int)≤c:=by omega
  have s3:(0:Int)≤k:=by omega
  rw [show T2-T=k by omega] at hX1 hX2;rw [show T-a=u by omega] at hY1 hY2;have HX2:=Hd hX2;have HY2:=Hd hY2;have HZ2:=Hd hZ2;have HAU:=Hd (show(a:Int)+u=(T:Int) by omega);have HT:=Hd hT;rw [←hT] at HE;have HT2:=Hd hT2;clear hX2 hY2 hZ1 hZ2 hT hT2 h3;have hw2:=W2.o;have hw3:=W3.o;have hwl:=HWL.o;go_wp2_with fail;go_at_call 206;refine(C2 A _ c a ((u:Int)+k) _ hn63).mono ?_;rw [HIN.o];rintro e w2 ⟨rfl,rfl⟩;clear hw3;have hw4:=W4.o;have hw5:=W5.o;have hw6:=W6.o;go_wp2_with fail;rw [←HAU.o] at hX1 hY1 hw5 hw6;have HID:=Hd (Adx HI.o);go_region_held3 (fun w'=>w'.cell? ⟨w.heap.size,0,none⟩=some (Aa Ab 0)∧w'.cell? ⟨w.heap.size,1,none⟩=some (.slice none 0 0)) (first|assumption|exact⟨c0,c1⟩|exact⟨Ae ((Below.refl _ _).alloc (Asp _) _).drew c0,Ae ((Below.refl _ _).alloc (Asp _) _).drew c1⟩|exact⟨Ae ((Below.refl _ _).alloc (Asp _) _) c0,Ae ((Below.refl _ _).alloc (Asp _) _) c1⟩)
   (first|(go_at_call 394;refine(R3 X _ k k _ _ ((l.drop T).take k) (Ast k 0) _ (HX2.o _ _ (HID.o.alloc _)) (Ady _ Z (Ast k 0) k (by simp) HZ2.o)).mono ?_;rw [HE.o];rintro e w5 ⟨rfl,rfl⟩))
  have hbz:=(Below.refl w1.heap.size w1).alloc (Asp _) (.cells Z 5);have d0:=Ae hbz (p:=⟨w.heap.size,0,none⟩) (u:= Aa Ab 0) c0;have d1:=Ae hbz (p:=⟨w.heap.size,1,none⟩) (u:= .slice none 0 0) c1;have HF:=Hd (HK.o.pure hbz);have g0:=HF.o.frozen 0;have g1:=HF.o.frozen 1;have HB:=Hd (Ad HB.o hbz.drew);have HIz:=Hd (HI.o.pure hbz.drew);clear hbz c0 c1 f0 f1;go_wp2;refine bodyPost_ret (v:= .tuple #[.agg #[Aa Ab a,.slice Y u u],Aa Ab 0]) (by simp [results,Tryz.results347,go_sem,d0,d1]) rfl ⟨Y,u,u,rfl,?_,Asp _,(HB.o.setCell (Asp _) _).setCell (Asp _) _⟩;unfold cntL;rw [HU.o];exact fun _ h=>HY2.o _ _ h
 ·rw [he,if_neg (by decide),if_neg (by decide)];clear he;have HE:=Hd (show eqB ((l.drop (a+u)).take k) (Ast k 0)=false from decide_eq_false h4);clear h4;have hm:((a:Int) % (v:Int) != 0)=false:=by simp;omega
  have hx:decide ((a:Int)<(v:Int))=false:=by simp;omega
  clear h1;go_enter Tryz.func347,Tryz.ntmps347;go_wp2_with fail;go_at_call 167;refine(Hy A _ c ((a:Int)-v) v l _ HI.o hc (by omega)).mono ?_;rw [HU.o];obtain⟨er,her⟩:∃er,D6 l.length ((a:Int)-v) v=er:=⟨_,rfl⟩;rw [her];rintro e w1 ⟨rfl,hb⟩;have HB:=Hd (Ad HB.o hb);have HI:=Hd (HI.o.pure hb);have HK:=Hd (HK.o.pure hb);obtain ⟨c0,c1⟩:=HK.o.c2;have f0:=HK.o.frozen 0;have f1:=HK.o.frozen 1;have hn63:l.length≤9223372036854775807:=by omega
  have HWL:=Hd (B7 (l.length:Int) (by omega));clear hb her;have hd:decide (l.length<u)=false:=decide_eq_false (by omega);have hd2:u≤l.length:=by omega
  obtain⟨T,hT⟩:∃T,T=a+u:=⟨_,rfl⟩;obtain⟨T2,hT2⟩:∃T2,T2=T+k:=⟨_,rfl⟩;obtain⟨Z,hZ1,hZ2,hmk⟩:=Aa4 k (by omega);obtain⟨X,hX1,hX2⟩:=Adq A l.length c T T2 (by omega) (by omega) hc;obtain⟨Y,hY1,hY2⟩:=Zz A l.length c a T (by omega) (by omega) hc;have HIN:=Hd (show Gf l.length a ((u:Int)+k)=true from De.2 ⟨by omega,by omega,by omega⟩);have W2:=Hd (Cj (u:Int) (by omega));have W3:=Hd (Cj ((u:Int)+k) (by omega));have W4:=Hd ((Cj ((a:Int)+u) (by omega)).trans (show(a:Int)+u=(T:Int) by omega));have W5:=Hd ((IntWalk.i64_in ((T:Int)+(k:Int)) (by omega)).trans (show(T:Int)+k=(T2:Int) by omega));have W6:=Hd ((Cj ((T:Int)+(k:Int)) (by omega)).trans (show(T:Int)+k=(T2:Int) by omega));have s0:(0:Int)≤T:=by omega
  have s1:(T:Int)≤T2:=by omega
  have s2:(T2:Int)≤c:=by omega
  have s3:(0:Int)≤k:=by omega
  rw [show T2-T=k by omega] at hX1 hX2;rw [show T-a=u by omega] at hY1 hY2;have HX2:=Hd hX2;have HY2:=Hd hY2;have HZ2:=Hd hZ2;have HAU:=Hd (show(a:Int)+u=(T:Int) by omega);have HT:=Hd hT;rw [←hT] at HE;have HT2:=Hd hT2;clear hX2 hY2 hZ1 hZ2 hT hT2 h3;have hw2:=W2.o;have hw3:=W3.o;have hwl:=HWL.o;go_wp2_with fail;go_at_call 206;refine(C2 A _ c a ((u:Int)+k) _ hn63).mono ?_;rw [HIN.o];rintro e w2 ⟨rfl,rfl⟩;clear hw3;have hw4:=W4.o;have hw5:=W5.o;have hw6:=W6.o;go_wp2_with fail;rw [←HAU.o] at hX1 hY1 hw5 hw6;have HID:=Hd (Adx HI.o);go_region_held3 (fun w'=>w'.cell? ⟨w.heap.size,0,none⟩=some (Aa Ab 0)∧w'.cell? ⟨w.heap.size,1,none⟩=some (.slice none 0 0)) (first|assumption|exact⟨c0,c1⟩|exact⟨Ae ((Below.refl _ _).alloc (Asp _) _).drew c0,Ae ((Below.refl _ _).alloc (Asp _) _).drew c1⟩|exact⟨Ae ((Below.refl _ _).alloc (Asp _) _) c0,Ae ((Below.refl _ _).alloc (Asp _) _) c1⟩)
   (first|(go_at_call 394;refine(R3 X _ k k _ _ ((l.drop T).take k) (Ast k 0) _ (HX2.o _ _ (HID.o.alloc _)) (Ady _ Z (Ast k 0) k (by simp) HZ2.o)).mono ?_;rw [HE.o];rintro e w5 ⟨rfl,rfl⟩))
  have hbz:=(Below.refl w1.heap.size w1).alloc (Asp _) (.cells Z 5);have d0:=Ae hbz (p:=⟨w.heap.size,0,none⟩) (u:= Aa Ab 0) c0;have d1:=Ae hbz (p:=⟨w.heap.size,1,none⟩) (u:= .slice none 0 0) c1;have HF:=Hd (HK.o.pure hbz);have g0:=HF.o.frozen 0;have g1:=HF.o.frozen 1;have HB:=Hd (Ad HB.o hbz.drew);have HIz:=Hd (HI.o.pure hbz.drew);clear hbz c0 c1 f0 f1;go_wp2;refine bodyPost_ret (v:= .tuple #[.agg #[Aa Ab 0,.slice none 0 0],Aa Ab 213]) (by simp [results,Tryz.results347,go_sem,d0,d1]) rfl ⟨none,0,0,rfl,fun _ _=>Is.nil _ _,Asp _,(HB.o.setCell (Asp _) _).setCell (Asp _) _⟩
end Go.Proofs.YtgbjodnegkbfoaaGreat
