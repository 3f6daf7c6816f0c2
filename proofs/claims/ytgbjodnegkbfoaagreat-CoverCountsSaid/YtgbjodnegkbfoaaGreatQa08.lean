/- Parts of the proof. -/
import Derived.Test.YtgbjodnegkbfoaaGreatQa07
set_option maxHeartbeats 4000000
set_option maxRecDepth 100000
open Go.Value renaming int→Aa
open Go.IntKind renaming i64→Ab,u64→Ac
open Nat renaming le_refl→Ath,zero_le→Atl
open List renaming getElem?_eq_getElem→Ati,length_append→Atj,take_of_length_le→Att,take_succ_eq_append_getElem→Atv
namespace Go.Proofs.YtgbjodnegkbfoaaGreat
open Go.RowKit Go.Acc
theorem Amh{M:Bp}{fl:Int}(x:Int){w:World}{o:Nat→Nat}{b:Bd}(h:BM M fl w o b):Calls Tryz.prog 157 #[.pointer (some ⟨M.β,0,none⟩),Aa Ab x] w fun e w'=>e= .returned (.tuple #[])∧To (fun i=>i=2) w o w' o:=by
 have HO:=Hd h.head.own;obtain⟨c0,c1,c2,c9,f2⟩:=h.head.cells;clear h;go_enter Tryz.func157,Tryz.ntmps157;go_wp2;go_end0;refine⟨rfl,To.of_fr0 (Fr.setCell (S:=fun k=>k=M.β) (Fr.refl _ w) (fun _=>rfl) _) ?_⟩;rintro k _ rfl;exact HO.o
structure Afm(l:List UInt8)(v:Bv)(y:Nat):Prop where
 legal:Be v.t=true
 own:Av (v.w:Int)=true
 ly:leastW (Cu v l.length 0)=y
 w:Av (y:Int)=true
 fit:D4 y (B9 y (Ah y l).length v)=true
 lt:((B9 y (Ah y l).length v:Nat):Int)<18446744073709551616
 le:inl v.t=false→v.n≤(Ah y l).length
 len:l.length+20≤1048576
def As0(w:World)(o:Nat→Nat)(m:List UInt8)(e:Ending)(w':World):Prop:=
 ∃A n c,e= .returned (.tuple #[.slice A n c,Aa Ab 0])∧J8 w' w.heap.size A n c m∧∃o',To B7 w o w' o'
theorem Arq(v:Bv)(a y:Nat)(w:World)(ha2:a≤1048576)(hy:leastW (Cu v a 0)=y):
  Calls Tryz.prog 158 #[.agg #[Aa Ab (v.t:Int),Aa Ab (v.w:Int),Aa Ac (v.n:Int)],Aa Ab (a:Int),Aa Ab 0] w fun e w'=>e= .returned (Aa Ab (y:Int))∧Below w.heap.size w w':=by
 subst hy;exact Am5 v a 0 w ha2 (by omega)
theorem Alf(W:World)(t:UInt8)(y:Nat)(hy:y≤8):Cw (W.alloc (.cells #[.int .u8 (t.toNat:Int),.int .u8 (y:Int)] 5)) (some ⟨W.heap.size,0,none⟩) 2 [t,UInt8.ofNat y]:=by
 refine⟨rfl,fun j u hu=>⟨_,_,rfl,?_⟩⟩;rw [Nat.zero_add,(Af.new W _ _).cell j];have e:((UInt8.ofNat y).toNat:Int)=y:=by rw [UInt8.toNat_ofNat'];omega
 have hu2: [Value.int .u8 (t.toNat:Int),.int .u8 ((UInt8.ofNat y).toNat:Int)][j]?=some u:=hu;rw [e] at hu2;simpa using hu2
theorem Oh(W:World)(s:List UInt8):Ey (W.alloc (.cells #[.string ⟨s.toArray⟩] 9)) (some ⟨W.heap.size,0,none⟩) 1 [s]:=by
 refine⟨rfl,fun j u hu=>⟨_,_,rfl,?_⟩⟩;rw [Nat.zero_add,(Af.new W _ _).cell j];simpa [Jc] using hu
structure Je(M:Bp)(fl:Int)(b:Bd)(v:Bv)(vb:Nat)(w:World)(o:Nat→Nat):Prop where
 m:BM M fl w o b
 x:Af w vb 210 #[Aa Ab (v.t:Int),Aa Ab (v.w:Int),Aa Ac (v.n:Int)]
 ox:o vb=0
theorem Je.pure{M:Bp}{fl:Int}{b:Bd}{v:Bv}{vb:Nat}{w w':World}{o:Nat→Nat}(h:Je M fl b v vb w o)(hb:Below w.heap.size w w'):Je M fl b v vb w' o:=⟨h.m.pure hb,h.x.pure hb,h.ox⟩
theorem Je.fresh{M:Bp}{fl:Int}{b:Bd}{v:Bv}{vb:Nat}{w w':World}{o:Nat→Nat}(h:Je M fl b v vb w o)(hb:Below w.heap.size w w'):Je M fl b v vb w' (Ak o w.heap.size 0):=⟨h.m.fresh hb 0,h.x.pure hb,by rw [Au h.x.lt];exact h.ox⟩
theorem Je.drew{M:Bp}{fl:Int}{b:Bd}{v:Bv}{vb:Nat}{w:World}{o:Nat→Nat}(h:Je M fl b v vb w o):Je M fl b v vb w.drew o:=h.pure (Below.refl _ _).drew
theorem Je.buf_{M:Bp}{fl:Int}{b:Bd}{v:Bv}{vb:Nat}{w w':World}{o o':Nat→Nat}{l:List UInt8}(h:Je M fl b v vb w o)(ht:To (fun i=>i=1) w o w' o')(hb:Co w' o' M.bb l):Je M fl { b with b:=l} v vb w' o':=
 ⟨h.m.buf_ ht hb,h.x.to_ ht (by rw [h.ox];omega),by rw [ht.ow _ h.x.lt];exact h.ox⟩
theorem Je.cells{M:Bp}{fl:Int}{b:Bd}{v:Bv}{vb:Nat}{w:World}{o:Nat→Nat}(h:Je M fl b v vb w o):
  w.cell? ⟨vb,0,none⟩=some (Aa Ab (v.t:Int))∧w.cell? ⟨vb,1,none⟩=some (Aa Ab (v.w:Int))∧w.cell? ⟨vb,2,none⟩=some (Aa Ac (v.n:Int))∧w.cell? ⟨M.β,0,none⟩=some (.pointer (some ⟨M.bb,0,none⟩)):=
 ⟨h.x.cell 0,h.x.cell 1,h.x.cell 2,h.m.head.cells.1⟩
theorem Adj(M:Bp)(fl:Int)(b:Bd)(v:Bv)(y:Nat)(w:World)(o:Nat→Nat)(h:BM M fl w o b)(hs:b.s=[v])(hf:Afm b.b v y):
  Calls Tryz.prog 84 #[.pointer (some ⟨M.β,0,none⟩)] w (As0 w o (Ah y b.b++Ai y (B9 y (Ah y b.b).length v)++ [C3 y v,UInt8.ofNat y])):=by
 have HM:=Hd h;have HF:=Hd hf;have HS:=Hd hs;obtain⟨b0,b1,b2,b9,f2⟩:=h.head.cells;have HK:=Hd (show(0:Nat)≤b.s.length from Atl _);obtain⟨a,ha⟩:∃a,b.b.length=a:=⟨_,rfl⟩;have HA:=Hd ha;have HA2:=Hd (show a≤1048576 by have:=hf.len;omega);have HLY:=Hd (show leastW (Cu v a 0)=y by rw [←ha];exact hf.ly);have HL7:=Hd (show b.b.length+7≤1048576 by have:=hf.len;omega);clear h hs hf f2 ha;go_enter Tryz.func84,Tryz.ntmps84;go_wp2_with (go_at_call 155;refine(O3 M.β _ (by assumption)).mono ?_;rintro e w' ⟨rfl,rfl⟩);refine(Ab5 M.sb 0 b.s _ o HM.o.stk HK.o).mono ?_;rw [List.drop_zero,HS.o];rintro e W1 ⟨A,n,c,rfl,hO,hB⟩;have hn:n=1:=by rw [←hO.1];rfl
 have HI1:=Hd (show D9 W1 A 1 [vv v] by have h:=hO.is;rw [hn] at h;exact h);have HM1:=Hd (HM.o.pure hB);obtain⟨d0,d1,d2,d9,f2⟩:=HM1.o.head.cells;have HB1:=Hd hB;subst hn;obtain⟨g,off,rfl,hk,h0,h1,h2⟩:=Ajn HI1.o (Nat.zero_lt_one);simp only [Nat.zero_mul,Nat.add_zero] at h0 h1 h2;have v0:W1.cell? ⟨g,off,none⟩=some (Aa Ab (v.t:Int)):=h0;have v1:W1.cell? ⟨g,off+1,none⟩=some (Aa Ab (v.w:Int)):=h1;have v2:W1.cell? ⟨g,off+2,none⟩=some (Aa Ac (v.n:Int)):=h2;clear hO hB b0 b1 b2 b9 f2 d9 h0 h1 h2 hk;have hB2:Below W1.heap.size W1 (W1.alloc (.cells #[Aa Ab (v.t:Int),Aa Ab (v.w:Int),Aa Ac (v.n:Int)] 210)):=(Below.refl _ _).alloc (Ath _) _;have HZ2:=Hd (show Je M fl b v W1.heap.size (W1.alloc (.cells #[Aa Ab (v.t:Int),Aa Ab (v.w:Int),Aa Ac (v.n:Int)] 210)) (Ak o W1.heap.size 0) from⟨HM1.o.fresh hB2 0,Af.new _ _ _,Am (Ath _)⟩);have HT2:=Hd (show To B7 w o (W1.alloc (.cells #[Aa Ab (v.t:Int),Aa Ab (v.w:Int),Aa Ac (v.n:Int)] 210)) (Ak o W1.heap.size 0) from To.from_pure HB1.o (To.fresh _ hB2 o 0));clear hB2;go_upto_region 9 with fail
 generalize W1.alloc (.cells #[Aa Ab (v.t:Int),Aa Ab (v.w:Int),Aa Ac (v.n:Int)] 210)=W2 at HZ2 HT2⊢;generalize Ak o W1.heap.size 0=o2 at HZ2 HT2;have HSZ:=Hd HB1.o.size;generalize W1.heap.size=vb at HZ2⊢;clear HI1 HM1 d0 d1 d2 v0 v1 v2;obtain⟨x0,x1,x2,x3⟩:=HZ2.o.cells;go_region_held3 (fun w'=>w'.cell? ⟨vb,0,none⟩=some (Aa Ab (v.t:Int))∧w'.cell? ⟨vb,1,none⟩=some (Aa Ab (v.w:Int))∧w'.cell? ⟨vb,2,none⟩=some (Aa Ac (v.n:Int))∧w'.cell? ⟨M.β,0,none⟩=some (.pointer (some ⟨M.bb,0,none⟩))) (first|with_reducible exact⟨x0,x1,x2,x3⟩|with_reducible exact⟨Ae x0,Ae x1,Ae x2,Ae x3⟩|with_reducible exact⟨Df _ x0,Df _ x1,Df _ x2,Df _ x3⟩|with_reducible exact⟨y0,y1,y2,y3⟩) (first|(go_at_call 159;(with_reducible refine(Dg a HZ2.o.drew.m.buf HA.o).mono ?_);rintro e w' ⟨rfl,rfl⟩)|(go_at_call 158;(with_reducible refine(Arq v a y _ HA2.o HLY.o).mono ?_);rintro e W3 ⟨rfl,hb⟩;have HZ3:=Hd (HZ2.o.drew.pure hb);obtain⟨y0,y1,y2,y3⟩:=HZ3.o.cells;have HT3:=Hd (HT2.o.trans (To.pure B7 hb o2).from_drew);clear hb));clear x0 x1 x2 x3 HZ2;go_wp2_with fail;go_at_call 160;refine(G0 M.bb y b.b _ o2 HZ3.o.m.buf HF.o.w HL7.o).mono ?_;rintro e W4 ⟨rfl,o4,hB4,hT4⟩;have HZ4:=Hd (HZ3.o.buf_ hT4 hB4);have HT4:=Hd (HT3.o.trans (hT4.mono fun _ h=>Ia h));obtain⟨x0,x1,x2,x3⟩:=HZ4.o.cells;clear hB4 hT4 y0 y1 y2 y3;go_wp2_with fail;go_at_call 90;refine(Ce (v.t:Int) _).mono ?_;obtain⟨iv,hiv⟩:∃x,An (v.t:Int)=x:=⟨_,rfl⟩;have HIV:=Hd hiv;rw [hiv];clear hiv;rintro e W5 ⟨rfl,hb⟩;have HZ5:=Hd (HZ4.o.pure hb);have HT5:=Hd (HT4.o.trans (To.pure B7 hb o4));clear hb x0 x1 x2 x3;obtain⟨x0,x1,x2,x3⟩:=HZ5.o.cells;obtain⟨m,hm⟩:∃m,(Ah y b.b).length=m:=⟨_,rfl⟩;have HMM:=Hd hm;obtain⟨q,hq⟩:∃q,B9 y m v=q:=⟨_,rfl⟩;have HQ:=Hd hq;have HFQ:=Hd (show D4 y q=true by rw [←hq,←hm];exact HF.o.fit);have HLQ:=Hd (show(q:Int)<18446744073709551616 by rw [←hq,←hm];exact HF.o.lt);clear hm hq;obtain⟨ow,how⟩:∃x,(if inl v.t=true then y else v.w)=x:=⟨_,rfl⟩;have HOW:=Hd how;clear how;go_upto_if 65 with fail
 go_cut [8,9] (fun u8 u9 wx=>∃wy,wy=wx∧u8= Aa Ab (ow:Int)∧u9= Aa Ac (q:Int)∧Below W5.heap.size W5 wx)
 case first=>
  cases iv with
  |true=>
   have hin:inl v.t=true:=HIV.o;have HQ2:=Hd (show v.n % 2^(8*y)=q by rw [←HQ.o];unfold B9;rw [if_pos hin]);have HO2:=Hd (show ow=y by rw [←HOW.o,if_pos hin]);clear hin;go_wp2_with (go_at_call 161;(refine(Aj3 v.n y q _ HF.o.w HQ2.o).mono ?_);rintro e w' ⟨rfl,rfl⟩);go_meet;exact⟨_,rfl,by rw [HO2.o],rfl,Below.refl _ _⟩
  |false=>
   have hin:inl v.t=false:=HIV.o;have hne:¬inl v.t=true:=by rw [hin];decide
   have hle:v.n≤m:=by rw [←HMM.o];exact HF.o.le hin
   have hmb:m≤1048576:=by
    have h1:=C5 b.b (show y≤8 by have h2:=C8 HF.o.w;omega);have h2:=HL7.o;have h3:=HMM.o;omega
   have hq2:m-v.n=q:=by rw [←HQ.o];unfold B9;rw [if_neg hne]
   have HO2:=Hd (show ow=v.w by rw [←HOW.o,if_neg hne]);have e1:IntKind.u64.wrap (m:Int)=m:=B8 _ (by omega);have e2:(m:Int)-(v.n:Int)=q:=by omega
   have e3:IntKind.u64.wrap (q:Int)=q:=B8 _ (by omega);clear hin hne hq2;go_wp2_with fail;go_region_held3 (fun w'=>w'.cell? ⟨vb,0,none⟩=some (Aa Ab (v.t:Int))∧w'.cell? ⟨vb,1,none⟩=some (Aa Ab (v.w:Int))∧w'.cell? ⟨vb,2,none⟩=some (Aa Ac (v.n:Int))∧w'.cell? ⟨M.β,0,none⟩=some (.pointer (some ⟨M.bb,0,none⟩))) (first|with_reducible exact⟨x0,x1,x2,x3⟩|with_reducible exact⟨Ae x0,Ae x1,Ae x2,Ae x3⟩|with_reducible exact⟨Df _ x0,Df _ x1,Df _ x2,Df _ x3⟩|with_reducible exact⟨y0,y1,y2,y3⟩) (first|(go_at_call 159;(with_reducible refine(Dg m HZ5.o.drew.m.buf HMM.o).mono ?_);rintro e w' ⟨rfl,rfl⟩));go_wp2_with fail;go_meet;exact⟨_,rfl,by rw [HO2.o],rfl,(Below.refl _ _).drew⟩
 case rest=>
 obtain⟨w6,rfl,rfl,rfl,hb⟩:=hcut;have HZ6:=Hd (HZ5.o.pure hb);have HT6:=Hd (HT5.o.trans (To.pure B7 hb o4));clear hb x0 x1 x2 x3;obtain⟨x0,x1,x2,x3⟩:=HZ6.o.cells;have HPW:=Hd (show Av (ow:Int)=true by rw [←HOW.o];split;exact HF.o.w;exact HF.o.own);obtain⟨tb,htb⟩:∃x,UInt8.ofNat (4*v.t+bCode ow)=x:=⟨_,rfl⟩;have HTB:=Hd htb;have hpk:=Rh v.t ow w6 HF.o.legal HPW.o;rw [htb] at hpk;have HPK:=Hd hpk;clear htb hpk;go_wp2_with fail;go_at_call 162;refine HPK.o.mono ?_;rintro e W7 ⟨rfl,hb⟩;have HZ7:=Hd (HZ6.o.pure hb);have HT7:=Hd (HT6.o.trans (To.pure B7 hb o4));clear hb x0 x1 x2 x3;obtain⟨x0,x1,x2,x3⟩:=HZ7.o.cells;have HLN:=Hd (show(Ah y b.b).length+y≤1048576 by
  have h2:=C8 HF.o.w;have h1:=C5 b.b (show y≤8 by omega);have h3:=HF.o.len;omega)
 go_wp2_with fail;go_at_call 163;refine(Ef M.bb y q (Ah y b.b) _ o4 HZ7.o.m.buf HF.o.w HFQ.o HLQ.o HLN.o).mono ?_;rintro e W8 ⟨rfl,o8,hB8,hT8⟩;have HZ8:=Hd (HZ7.o.buf_ hT8 hB8);have HT8:=Hd (HT7.o.trans (hT8.mono fun _ h=>Ia h));clear hB8 hT8 x0 x1 x2 x3;obtain⟨x0,x1,x2,x3⟩:=HZ8.o.cells;go_upto_region 17 with fail
 have hy8:y≤8:=by have h2:=C8 HF.o.w;omega
 have e8:IntKind.u8.wrap (y:Int)=y:=by show(y:Int) % 256=y;omega
 have hI2:=Alf W8 tb y hy8;have hcv1:=J3 (c:=2) hI2;have hcv2:=J3 (c:=2) (w:=(W8.alloc (.cells #[.int .u8 (tb.toNat:Int),.int .u8 (y:Int)] 5)).drew) hI2;have hB9:Below W8.heap.size W8 (((W8.alloc (.cells #[.int .u8 (tb.toNat:Int),.int .u8 (y:Int)] 5)).alloc (.cells #[.string ⟨[tb,UInt8.ofNat y].toArray⟩] 9))).drew:=(Ba _ _ _).drew;have HZ9:=Hd (HZ8.o.fresh hB9);have HT9:=Hd (HT8.o.trans (To.fresh B7 hB9 o8 0));have hS9:=Oh (W8.alloc (.cells #[.int .u8 (tb.toNat:Int),.int .u8 (y:Int)] 5)) [tb,UInt8.ofNat y];have eS:(W8.alloc (.cells #[.int .u8 (tb.toNat:Int),.int .u8 (y:Int)] 5)).heap.size=W8.heap.size+1:=by simp
 rw [eS] at hS9;have HS9:=Hd (show Ey (((W8.alloc (.cells #[.int .u8 (tb.toNat:Int),.int .u8 (y:Int)] 5)).alloc (.cells #[.string ⟨[tb,UInt8.ofNat y].toArray⟩] 9))).drew (some ⟨W8.heap.size+1,0,none⟩) 1 [[tb,UInt8.ofNat y]] from hS9);have HO9:=Hd (show ∀ad,(some ⟨W8.heap.size+1,0,none⟩:Option Addr)=some ad→Ak o8 W8.heap.size 0 ad.block≠1 from fun ad h=>by injection h with h;subst h;rw [Am (by show W8.heap.size≤W8.heap.size+1;omega)];omega);have HL9:=Hd (show(Ah y b.b++Ai y q).length+ [[tb,UInt8.ofNat y]].flatten.length≤1048576 by
  have h1:=C5 b.b hy8;have h3:=HF.o.len;rw [Atj,Aj];show _+2≤_;omega)
 have n0:=Nat.ne_of_lt (Ar x0);have n3:=Nat.ne_of_lt (Ar x3);simp only at n0 n3;clear hI2 hB9 hS9 eS;have z3:=Al (.cells #[.int .u8 (tb.toNat:Int),.int .u8 (y:Int)] 5) x3;have z4:=Al (.cells #[.string ⟨[tb,UInt8.ofNat y].toArray⟩] 9) z3;go_region_with (first|(go_at_call 164;(with_reducible refine(Gm M.bb 1 _ _ [[tb,UInt8.ofNat y]] (Ah y b.b++Ai y q) _ _ HZ9.o.m.buf HS9.o HO9.o HL9.o (by omega)).mono ?_);rintro e W10 ⟨rfl,o10,hB10,hT10⟩;have HZ10:=Hd (HZ9.o.buf_ hT10 hB10);have HT10:=Hd (HT9.o.trans (hT10.mono fun _ h=>Ia h));clear hB10 hT10))
 all_goals
  have HZ10:=HZ10;clear z3 z4 hcv1 hcv2 n0 n3;obtain⟨y0,y1,y2,y3⟩:=HZ10.o.cells;have HLB:=Hd (show(Ah y b.b++Ai y q++ [[tb,UInt8.ofNat y]].flatten).length≤1048576 by have:=HL9.o;rw [Atj];omega);go_wp2_with fail;go_at_call 165;refine(Acz M.bb _ _ o10 HZ10.o.m.buf HLB.o).mono ?_;rintro e W11 ⟨A11,n11,c11,rfl,hO11,hB11⟩;have HZ11:=Hd (HZ10.o.m.fresh hB11 0);have HT11:=Hd (HT10.o.trans (To.fresh B7 hB11 o10 0));have HO11:=Hd hO11;have HF11:=Hd (show Of (Ak o10 W10.heap.size 0) A11 0 from fun ad h=>Am (hO11.addr ad h).2.1);clear y0 y1 y2 y3 hO11 hB11;go_wp2_with fail;go_at_call 157;refine(Ha HZ11.o).mono ?_;rintro e W12 ⟨rfl,o12,hM12,hT12⟩;have HZ12:=Hd hM12;have HT12:=Hd (HT11.o.trans hT12);have HO12:=Hd (HO11.o.to_ HF11.o hT12 Bi);have HF12:=Hd (HF11.o.to_ HO11.o hT12);clear hM12 hT12;go_wp2_with fail;go_at_call 157;refine(Amh 140 HZ12.o).mono ?_;rintro e W13 ⟨rfl,hT13⟩;have HT13:=Hd (HT12.o.trans (hT13.mono fun _ h=>by subst h;exact⟨by omega,by omega⟩));have HO13:=Hd (HO12.o.to_ HF12.o hT13 (by omega));clear hT13;go_wp2_with fail;go_ret2;refine⟨A11,n11,c11,rfl,?_,o12,HT13.o⟩;have h:=HO13.o.rebase (B':=w.heap.size) HT10.o.size;have e:C3 y v=tb:=by unfold C3;rw [HOW.o,HTB.o]
  rw [HMM.o,HQ.o,e];exact h
theorem Rk(w:World):
  Calls Tryz.prog 133 #[] w fun e w'=>∃b,e= .returned (.pointer (some ⟨b,0,none⟩))∧Af w' b 265 #[.slice none 0 0,.slice none 0 0,.bool true]∧w.heap.size≤b∧Below w.heap.size w w':=by
 go_enter Tryz.func133,Tryz.ntmps133;go_wp2;go_ret;exact⟨_,rfl,Af.new w _ _,Ath _,(Below.refl _ _).alloc (Ath _) _⟩
theorem Aqk(w:World):
  Calls Tryz.prog 132 #[] w fun e w'=>∃b,e= .returned (.pointer (some ⟨b,0,none⟩))∧Af w' b 261 #[.slice none 0 0,.bool true]∧w.heap.size≤b∧Below w.heap.size w w':=by
 go_enter Tryz.func132,Tryz.ntmps132;go_wp2;go_ret;exact⟨_,rfl,Af.new w _ _,Ath _,(Below.refl _ _).alloc (Ath _) _⟩
def Ht(o:Nat→Nat)(N bb sb kb tb lb mb β:Nat):Nat→Nat:=fun k=>if k<N then o k else if k=bb then 1 else if k=sb then 3 else if k=kb then 4 else if k=tb then 5 else if k=lb then 6 else if k=mb then 7 else if k=β then 2 else 0
theorem Tp{w:World}{o:Nat→Nat}{i p:Nat}(h:Af w p 265 #[.slice none 0 0,.slice none 0 0,.bool true])(ho:o p=i):Gh w o i p []:=
 ⟨none,none,0,0,0,[],[],h,Own.nil _ _,Own.nil _ _,Of.none_ _,Of.none_ _,ho,List.Pairwise.nil,fun _=>rfl,Ath _,fun a h=>by cases h⟩
theorem Aim(fl:Int)(w:World)(o:Nat→Nat):
  Calls Tryz.prog 82 #[Aa Ab fl,Aa Ab 1048576] w fun e w'=>∃M o',e= .returned (.pointer (some ⟨M.β,0,none⟩))∧BM M fl w' o' Bd.new∧To (fun _=>False) w o w' o':=by
 have h0:=run_makeMap (P:=Tryz.prog) 184;go_enter Tryz.func82,Tryz.ntmps82;go_wp2_with fail;go_at_call 131;refine(Ah9 _).mono ?_;rintro e w1 ⟨bb,rfl,hb1,hl1,hB⟩;have HB:=Hd hB;have H1:=Hd hb1;have L1:=Hd (And.intro hl1 hb1.lt);clear hB hb1 hl1;go_wp2_with fail;go_at_call 132;refine(Aqk _).mono ?_;rintro e w2 ⟨sb,rfl,hb2,hl2,hB⟩;replace HB:=Hd (Ad HB.o hB);have H2:=Hd hb2;replace H1:=Hd (H1.o.pure hB);have L2:=Hd (And.intro hl2 hb2.lt);clear hB hb2 hl2;go_wp2_with fail;go_at_call 133;refine(Rk _).mono ?_;rintro e w3 ⟨kb,rfl,hb3,hl3,hB⟩;replace HB:=Hd (Ad HB.o hB);have H3:=Hd hb3;replace H1:=Hd (H1.o.pure hB);replace H2:=Hd (H2.o.pure hB);have L3:=Hd (And.intro hl3 hb3.lt);clear hB hb3 hl3;go_wp2_with fail;go_at_call 133;refine(Rk _).mono ?_;rintro e w4 ⟨tb,rfl,hb4,hl4,hB⟩;replace HB:=Hd (Ad HB.o hB);have H4:=Hd hb4;replace H1:=Hd (H1.o.pure hB);replace H2:=Hd (H2.o.pure hB);replace H3:=Hd (H3.o.pure hB);have L4:=Hd (And.intro hl4 hb4.lt);clear hB hb4 hl4;go_wp2_with fail;go_at_call 133;refine(Rk _).mono ?_;rintro e w5 ⟨lb,rfl,hb5,hl5,hB⟩;replace HB:=Hd (Ad HB.o hB);have H5:=Hd hb5;replace H1:=Hd (H1.o.pure hB);replace H2:=Hd (H2.o.pure hB);replace H3:=Hd (H3.o.pure hB);replace H4:=Hd (H4.o.pure hB);have L5:=Hd (And.intro hl5 hb5.lt);clear hB hb5 hl5;go_wp2_with fail;go_ret;have hB:=Ba w5 (.map #[] 0) (.cells #[.pointer (some ⟨bb,0,none⟩),.pointer (some ⟨sb,0,none⟩),.int .i64 0,.int .i64 fl,.pointer (some ⟨kb,0,none⟩),.pointer (some ⟨tb,0,none⟩),.pointer (some ⟨lb,0,none⟩),.map (some w5.heap.size),.slice none 0 0,.bool true] 189);have h6:=World.ownsMap_made (H:=Unit) w5 Tryz.prog 22 (plainElem Tryz.prog 9);have h7:=B5 w5 (.map #[] 0) 189 #[.pointer (some ⟨bb,0,none⟩),.pointer (some ⟨sb,0,none⟩),.int .i64 0,.int .i64 fl,.pointer (some ⟨kb,0,none⟩),.pointer (some ⟨tb,0,none⟩),.pointer (some ⟨lb,0,none⟩),.map (some w5.heap.size),.slice none 0 0,.bool true];have l1:=L1.o;have l2:=L2.o;have l3:=L3.o;have l4:=L4.o;have l5:=L5.o;obtain⟨N,hN⟩:∃N,w5.heap.size=N:=⟨_,rfl⟩;have e1:Ht o w.heap.size bb sb kb tb lb N (N+1) bb=1:=by unfold Ht;rw [if_neg (by omega),if_pos rfl]
 have e2:Ht o w.heap.size bb sb kb tb lb N (N+1) sb=3:=by unfold Ht;rw [if_neg (by omega),if_neg (by omega),if_pos rfl]
 have e3:Ht o w.heap.size bb sb kb tb lb N (N+1) kb=4:=by unfold Ht;rw [if_neg (by omega),if_neg (by omega),if_neg (by omega),if_pos rfl]
 have e4:Ht o w.heap.size bb sb kb tb lb N (N+1) tb=5:=by unfold Ht;rw [if_neg (by omega),if_neg (by omega),if_neg (by omega),if_neg (by omega),if_pos rfl]
 have e5:Ht o w.heap.size bb sb kb tb lb N (N+1) lb=6:=by unfold Ht;rw [if_neg (by omega),if_neg (by omega),if_neg (by omega),if_neg (by omega),if_neg (by omega),if_pos rfl]
 have e6:Ht o w.heap.size bb sb kb tb lb N (N+1) N=7:=by unfold Ht;rw [if_neg (by omega),if_neg (by omega),if_neg (by omega),if_neg (by omega),if_neg (by omega),if_neg (by omega),if_pos rfl]
 have e7:Ht o w.heap.size bb sb kb tb lb N (N+1) (N+1)=2:=by unfold Ht;rw [if_neg (by omega),if_neg (by omega),if_neg (by omega),if_neg (by omega),if_neg (by omega),if_neg (by omega),if_neg (by omega),if_pos rfl]
 rw [hN] at hB h6 h7⊢;refine⟨⟨N+1,bb,sb,kb,tb,lb,N⟩,Ht o w.heap.size bb sb kb tb lb N (N+1),rfl,⟨⟨none,0,0,h7,Own.nil _ _,Of.none_ _,e7⟩,⟨none,0,0,(H1.o.alloc _).alloc _,Own.nil _ _,Of.none_ _,e1⟩,⟨none,⟨none,0,0,(H2.o.alloc _).alloc _,Own.nil _ _,rfl,by omega,Atl _⟩,e2,fun k h=>by cases h⟩,
  Tp ((H3.o.alloc _).alloc _) e3,Tp ((H4.o.alloc _).alloc _) e4,Tp ((H5.o.alloc _).alloc _) e5,e6,0,.map [],h6.alloc _,Ath _,fun a s h=>by cases h⟩,⟨Fr.of_below (Ad HB.o (by rw [hN];exact hB)) _,fun k hk=>if_pos hk⟩⟩
theorem Acu(k n:Int)(u:Nat)(s:List UInt8)(A:Option Addr)(an ac:Nat)(B:Option Addr)(bn bc:Nat)(w:World):
  Calls Tryz.prog 142 #[.agg #[Aa Ab k,Aa Ab n,Aa Ac (u:Int),.string ⟨s.toArray⟩,.slice A an ac,.slice B bn bc]] w fun e w'=>e= .returned (.bool (decide (n=1)))∧Below w.heap.size w w':=by
 go_enter Tryz.func142,Tryz.ntmps142;go_wp2_with fail;go_ret;exact⟨rfl,(Below.refl _ _).alloc (Ath _) _⟩
theorem Agt(M:Bp)(fl:Int)(f:Nat)(b:Bd)(k n:Int)(u:Nat)(s:List UInt8)(A:Option Addr)(an ac:Nat)(B:Option Addr)(bn bc:Nat)(w:World)(o:Nat→Nat)(h:BM M fl w o b)(hs:b.s.length<65536)(hm:b.b.length+15≤1048576)
  (hn: -9223372036854775808≤n∧n≤9223372036854775807) (hu:u<18446744073709551616) (hk:k=1∨k=2∨k=3∨k=4∨k=8∨k=9):
  Calls Tryz.prog 154 #[.pointer (some ⟨M.β,0,none⟩),.agg #[Aa Ab k,Aa Ab n,Aa Ac (u:Int),.string ⟨s.toArray⟩,.slice A an ac,.slice B bn bc]] w (Cq M fl (b.leaf f k n u s) w o):=by
 have HB:=Hd (show Below w.heap.size w (w.alloc (.cells #[Aa Ab k,Aa Ab n,Aa Ac (u:Int),.string ⟨s.toArray⟩,.slice A an ac,.slice B bn bc] 26)) from(Below.refl _ _).alloc (Ath _) _);have HM:=Hd (h.pure HB.o);have HS:=Hd hs;have HL:=Hd hm;have HN:=Hd hn;have HU:=Hd hu;clear h hs hm hn hu;rcases hk with rfl|rfl|rfl|rfl|rfl|rfl
 ·go_enter Tryz.func154,Tryz.ntmps154;go_wp2_with fail;go_at_call 242;refine(Af9 M fl b _ o HM.o HS.o).mono ?_;rintro e w2 hR;obtain rfl:=hR.1;have HR:=Hd (hR.from_pure HB.o);clear hR;go_wp2_with fail;go_end0;have h:=HR.o;unfold Bd.leaf;simpa using h
 ·go_enter Tryz.func154,Tryz.ntmps154;go_wp2_with fail;go_at_call 142;refine(Acu 2 n u s A an ac B bn bc _).mono ?_;rintro e w1 ⟨rfl,hb⟩;have HM1:=Hd (HM.o.pure hb);have HB1:=Hd (Ad HB.o hb);clear hb;generalize htt:decide (n=1)=tt at*;have HT:=Hd htt;clear htt;go_wp2_with fail;go_at_call 243;refine(Af2 M fl b n tt _ o HM1.o HS.o HT.o).mono ?_;rintro e w2 hR;obtain rfl:=hR.1;have HR:=Hd (hR.from_pure HB1.o);clear hR;go_wp2_with fail;go_end0;have h:=HR.o;unfold Bd.leaf;simpa using h
 ·go_enter Tryz.func154,Tryz.ntmps154;go_wp2_with fail;go_at_call 244;refine(Aik M fl b n _ o HM.o HS.o HN.o).mono ?_;rintro e w2 hR;obtain rfl:=hR.1;have HR:=Hd (hR.from_pure HB.o);clear hR;go_wp2_with fail;go_end0;have h:=HR.o;unfold Bd.leaf;simpa using h
 ·go_enter Tryz.func154,Tryz.ntmps154;go_wp2_with fail;go_at_call 245;refine(Agf M fl b u _ o HM.o HS.o HU.o).mono ?_;rintro e w2 hR;obtain rfl:=hR.1;have HR:=Hd (hR.from_pure HB.o);clear hR;go_wp2_with fail;go_end0;have h:=HR.o;unfold Bd.leaf;simpa using h
 ·go_enter Tryz.func154,Tryz.ntmps154;go_wp2_with fail;go_at_call 246;refine(Af4 M fl b n _ o HM.o HS.o HL.o HN.o).mono ?_;rintro e w2 hR;obtain rfl:=hR.1;have HR:=Hd (hR.from_pure HB.o);clear hR;go_wp2_with fail;go_end0;have h:=HR.o;unfold Bd.leaf;simpa using h
 ·go_enter Tryz.func154,Tryz.ntmps154;go_wp2_with fail;go_at_call 247;refine(Ac3 M fl b u _ o HM.o HS.o HL.o HU.o).mono ?_;rintro e w2 hR;obtain rfl:=hR.1;have HR:=Hd (hR.from_pure HB.o);clear hR;go_wp2_with fail;go_end0;have h:=HR.o;unfold Bd.leaf;simpa using h
theorem V0(M:Bp)(fl:Int)(b':Bd)(k n:Int)(u:Nat)(s:List UInt8)(A:Option Addr)(an ac:Nat)(B:Option Addr)(bn bc:Nat)(w:World)(o:Nat→Nat)(hk:1≤k∧k≤9)
  (hL:∀W,Below w.heap.size w W→Calls Tryz.prog 154 #[.pointer (some ⟨M.β,0,none⟩),.agg #[Aa Ab k,Aa Ab n,Aa Ac (u:Int),.string ⟨s.toArray⟩,.slice A an ac,.slice B bn bc]] W (Cq M fl b' W o)):
  Calls Tryz.prog 83 #[.pointer (some ⟨M.β,0,none⟩),.agg #[Aa Ab k,Aa Ab n,Aa Ac (u:Int),.string ⟨s.toArray⟩,.slice A an ac,.slice B bn bc]] w (Cq M fl b' w o):=by
 have hB:=Ba w (.cells #[.pointer (some ⟨M.β,0,none⟩)] 120) (.cells #[Aa Ab k,Aa Ab n,Aa Ac (u:Int),.string ⟨s.toArray⟩,.slice A an ac,.slice B bn bc] 26);have HB:=Hd hB;have HL:=Hd (hL _ hB);have e10:(k==10)=false:=by simp;omega
 have e11:(k==11)=false:=by simp;omega
 have e12:(k==12)=false:=by simp;omega
 have e13:(k==13)=false:=by simp;omega
 have e14:(k==14)=false:=by simp;omega
 have e15:(k==15)=false:=by simp;omega
 have e16:(k==16)=false:=by simp;omega
 have e17:(k==17)=false:=by simp;omega
 clear hB hL hk;go_enter Tryz.func83,Tryz.ntmps83;go_wp2_with fail;go_at_call 154;refine HL.o.mono ?_;rintro e w2 hR;obtain rfl:=hR.1;have HR:=Hd (hR.from_pure HB.o);clear hR e10 e11 e12 e13 e14 e15 e16 e17;go_wp2_with fail;go_end0;exact HR.o
def nbc(x:Int):List Value:=[Aa Ab x]
def ubc(x:Nat):List Value:=[Aa Ac (x:Int)]
def bbc(x:Bool):List Value:=[.bool x]
theorem Pq{u:Value}(h:u.oneCell'=true):∀v∈ [u],v.oneCell'=true:=by
 intro v hv;simp at hv;subst hv;exact h
theorem Q5{α:Type}{f:α→List Value}(W:World)(t:TypeId)(x:α)(u:Value)(h:f x=[u]):Is f (W.alloc (.cells #[u] t)) (some ⟨W.heap.size,0,none⟩) 1 [x]:=by
 refine⟨rfl,fun j y hy=>⟨_,_,rfl,?_⟩⟩;rw [Nat.zero_add,(Af.new W t _).cell j];have e: [x].flatMap f=[u]:=by simp [h]
 rw [e] at hy;simpa using hy
theorem Ari:(Tryz.prog.info? 2).map (fun i=>(i.zero,i.size,i.bytes))=some (some (Aa Ab 0),1,8):=by kernel_rfl
theorem Ark:(Tryz.prog.info? 22).map (fun i=>(i.zero,i.size,i.bytes))=some (some (Aa Ac 0),1,8):=by kernel_rfl
theorem Aph:(Tryz.prog.info? 4).map (fun i=>(i.zero,i.size,i.bytes))=some (some (.bool false),1,1):=by kernel_rfl
theorem R3:(Tryz.prog.info? 9).map (fun i=>(i.zero,i.size,i.bytes))=some (some (.string ⟨#[]⟩),1,16):=by kernel_rfl
theorem Aiz(x:Nv)(w:World):Calls Tryz.prog 136 #[.agg #[Aa Ab x.k,Aa Ab x.n,Aa Ac (x.u:Int),.string ⟨x.s.toArray⟩,.slice x.A x.an x.ac,.slice x.B x.bn x.bc]] w fun e w'=>e= .returned (Aa Ab x.n)∧Below w.heap.size w w':=by
 go_enter Tryz.func136,Tryz.ntmps136;go_wp2_with fail;go_ret;exact⟨rfl,(Below.refl _ _).alloc (Ath _) _⟩
theorem Ai1(x:Nv)(w:World):Calls Tryz.prog 139 #[.agg #[Aa Ab x.k,Aa Ab x.n,Aa Ac (x.u:Int),.string ⟨x.s.toArray⟩,.slice x.A x.an x.ac,.slice x.B x.bn x.bc]] w fun e w'=>e= .returned (Aa Ac (x.u:Int))∧Below w.heap.size w w':=by
 go_enter Tryz.func139,Tryz.ntmps139;go_wp2_with fail;go_ret;exact⟨rfl,(Below.refl _ _).alloc (Ath _) _⟩
theorem Agj(x:Nv)(w:World):Calls Tryz.prog 145 #[.agg #[Aa Ab x.k,Aa Ab x.n,Aa Ac (x.u:Int),.string ⟨x.s.toArray⟩,.slice x.A x.an x.ac,.slice x.B x.bn x.bc]] w fun e w'=>e= .returned (.string ⟨x.s.toArray⟩)∧Below w.heap.size w w':=by
 go_enter Tryz.func145,Tryz.ntmps145;go_wp2_with fail;go_ret;exact⟨rfl,(Below.refl _ _).alloc (Ath _) _⟩
theorem Ai2(x:Nv)(w:World):Calls Tryz.prog 142 #[.agg #[Aa Ab x.k,Aa Ab x.n,Aa Ac (x.u:Int),.string ⟨x.s.toArray⟩,.slice x.A x.an x.ac,.slice x.B x.bn x.bc]] w fun e w'=>e= .returned (.bool (decide (x.n=1)))∧Below w.heap.size w w':=Acu x.k x.n x.u x.s x.A x.an x.ac x.B x.bn x.bc w
def Za{α:Type}(f:α→List Value)(t:TypeId)(w:World)(n:Nat)(l:List α)(e:Ending)(w':World):Prop:=
 ∃A c,e= .returned (.slice A n c)∧Go.Acc.Own f 1 t w' w.heap.size A n c l∧Below w.heap.size w w'
theorem Vn(x:Nv)(vs:List Nv)(w:World)(hI:Fh w x.B x.bn vs)(hn:x.bn≤1000000):Calls Tryz.prog 135 #[.agg #[Aa Ab x.k,Aa Ab x.n,Aa Ac (x.u:Int),.string ⟨x.s.toArray⟩,.slice x.A x.an x.ac,.slice x.B x.bn x.bc],.func (.func 136) #[] #[]] w (Za nbc 2 w x.bn (vs.map Nv.n)):=by
 have HI:=Hd hI;have HB0:=Hd (show Below w.heap.size w (w.alloc (.cells #[Aa Ab x.k,Aa Ab x.n,Aa Ac (x.u:Int),.string ⟨x.s.toArray⟩,.slice x.A x.an x.ac,.slice x.B x.bn x.bc] 26)) from(Below.refl _ _).alloc (Ath _) _);have HL:=Hd hI.1;clear hI;go_enter Tryz.func135,Tryz.ntmps135;go_wp2_with fail;go_loopw [4,10] (fun s u wr=>∃k:Nat,k≤x.bn∧u= Aa Ab k∧∃A c,s= .slice A k c∧Go.Acc.Own nbc 1 2 wr w.heap.size A k c ((vs.take k).map Nv.n)∧Below w.heap.size w wr) (fun _ u _=>x.bn-(intOf u).toNat)
 case atStart=>exact⟨0,Atl _,rfl,none,0,rfl,Own.nil _ _,HB0.o⟩
 case round=>
  obtain⟨k,hk,rfl,A,c,rfl,ho,hbr⟩:=hrel;have HO:=Hd ho;have HBR:=Hd hbr;have hIr:=HI.o.pure hbr;clear ho hbr HB0;by_cases hlt:k<x.bn
  ·obtain⟨v,hv⟩:∃v,vs[k]?=some v:=⟨_,Ati (by have:=HL.o;omega)⟩;obtain⟨g,off,e,v0,v1,v2,v3,v4,v5⟩:=Gc hIr hv;have HT:=Hd (show(vs.take (k+1)).map Nv.n=(vs.take k).map Nv.n++ [v.n] by
    obtain⟨q1,q2⟩:=List.getElem?_eq_some_iff.1 hv;rw [Atv q1,q2,List.map_append];rfl)
   have hk0:(0:Int)≤(k:Int):=by omega
   have hkn:(k:Int)<(x.bn:Int):=by omega
   have HBA:=Hd (HBR.o.alloc HBR.o.size (.cells #[Aa Ab v.k,Aa Ab v.n,Aa Ac (v.u:Int),.string ⟨v.s.toArray⟩,.slice v.A v.an v.ac,.slice v.B v.bn v.bc] 26));have HOA:=Hd (HO.o.pure ((Below.refl wr.heap.size wr).alloc (Ath _) (.cells #[Aa Ab v.k,Aa Ab v.n,Aa Ac (v.u:Int),.string ⟨v.s.toArray⟩,.slice v.A v.an v.ac,.slice v.B v.bn v.bc] 26)));rw [e];clear hIr hv e;go_wp2_with fail;go_at_call 136;refine(Aiz v _).mono ?_;rintro e w2 ⟨rfl,hb⟩;have HB2:=Hd (Ad HBA.o hb);have HO2:=Hd (HOA.o.pure hb);clear hb v0 v1 v2 v3 v4 v5;have HB3:=Hd (HB2.o.alloc HB2.o.size (.cells #[Aa Ab v.n] 2));have HO3:=Hd (HO2.o.pure ((Below.refl w2.heap.size w2).alloc (Ath _) (.cells #[Aa Ab v.n] 2)));have HI3:=Hd (Q5 (f:=nbc) w2 2 (v.n) (Aa Ab v.n) rfl);go_wp2_with (at_builtin;refine Dt _ rfl (.tmp 14) (.tmp 18) _ rfl 2 _ 1 _ Tryz.underlying191 Ari rfl (by omega) (fun _=>rfl) (fun _=>Pq rfl) _ _ _ _ _ rfl HO3.o _ _ _ _ rfl HI3.o (by omega) HB3.o.size ?_;intro A1 c1 w1 hown1 hfr1 hat1);have HO4:=Hd hown1;have HB4:=Hd (Bs HB3.o hfr1 (by rintro j ⟨ad,e,rfl⟩;exact(HO3.o.addr ad e).2.1));clear hown1 hfr1 hat1;go_wp2_with fail;go_roundw
   case rel=>exact⟨k+1,by omega,by go_num,A1,c1,rfl,by rw [HT.o];exact HO4.o,HB4.o⟩
   case measure=>simp [intOf];omega
  ·obtain rfl:k=x.bn:=by omega
   have HE:=Hd (show vs.take x.bn=vs from Att (by have:=HL.o;omega));rw [HE.o] at HO;clear hIr;go_wp2_with fail;go_ret;exact⟨A,c,rfl,HO.o,HBR.o⟩
theorem Vo(x:Nv)(vs:List Nv)(w:World)(hI:Fh w x.B x.bn vs)(hn:x.bn≤1000000):Calls Tryz.prog 138 #[.agg #[Aa Ab x.k,Aa Ab x.n,Aa Ac (x.u:Int),.string ⟨x.s.toArray⟩,.slice x.A x.an x.ac,.slice x.B x.bn x.bc],.func (.func 139) #[] #[]] w (Za ubc 22 w x.bn (vs.map Nv.u)):=by
 have HI:=Hd hI;have HB0:=Hd (show Below w.heap.size w (w.alloc (.cells #[Aa Ab x.k,Aa Ab x.n,Aa Ac (x.u:Int),.string ⟨x.s.toArray⟩,.slice x.A x.an x.ac,.slice x.B x.bn x.bc] 26)) from(Below.refl _ _).alloc (Ath _) _);have HL:=Hd hI.1;clear hI;go_enter Tryz.func138,Tryz.ntmps138;go_wp2_with fail;go_loopw [4,10] (fun s u wr=>∃k:Nat,k≤x.bn∧u= Aa Ab k∧∃A c,s= .slice A k c∧Go.Acc.Own ubc 1 22 wr w.heap.size A k c ((vs.take k).map Nv.u)∧Below w.heap.size w wr) (fun _ u _=>x.bn-(intOf u).toNat)
 case atStart=>exact⟨0,Atl _,rfl,none,0,rfl,Own.nil _ _,HB0.o⟩
 case round=>
  obtain⟨k,hk,rfl,A,c,rfl,ho,hbr⟩:=hrel;have HO:=Hd ho;have HBR:=Hd hbr;have hIr:=HI.o.pure hbr;clear ho hbr HB0;by_cases hlt:k<x.bn
  ·obtain⟨v,hv⟩:∃v,vs[k]?=some v:=⟨_,Ati (by have:=HL.o;omega)⟩;obtain⟨g,off,e,v0,v1,v2,v3,v4,v5⟩:=Gc hIr hv;have HT:=Hd (show(vs.take (k+1)).map Nv.u=(vs.take k).map Nv.u++ [v.u] by
    obtain⟨q1,q2⟩:=List.getElem?_eq_some_iff.1 hv;rw [Atv q1,q2,List.map_append];rfl)
   have hk0:(0:Int)≤(k:Int):=by omega
   have hkn:(k:Int)<(x.bn:Int):=by omega
   have HBA:=Hd (HBR.o.alloc HBR.o.size (.cells #[Aa Ab v.k,Aa Ab v.n,Aa Ac (v.u:Int),.string ⟨v.s.toArray⟩,.slice v.A v.an v.ac,.slice v.B v.bn v.bc] 26));have HOA:=Hd (HO.o.pure ((Below.refl wr.heap.size wr).alloc (Ath _) (.cells #[Aa Ab v.k,Aa Ab v.n,Aa Ac (v.u:Int),.string ⟨v.s.toArray⟩,.slice v.A v.an v.ac,.slice v.B v.bn v.bc] 26)));rw [e];clear hIr hv e;go_wp2_with fail;go_at_call 139;refine(Ai1 v _).mono ?_;rintro e w2 ⟨rfl,hb⟩;have HB2:=Hd (Ad HBA.o hb);have HO2:=Hd (HOA.o.pure hb);clear hb v0 v1 v2 v3 v4 v5;have HB3:=Hd (HB2.o.alloc HB2.o.size (.cells #[Aa Ac (v.u:Int)] 22));have HO3:=Hd (HO2.o.pure ((Below.refl w2.heap.size w2).alloc (Ath _) (.cells #[Aa Ac (v.u:Int)] 22)));have HI3:=Hd (Q5 (f:=ubc) w2 22 (v.u) (Aa Ac (v.u:Int)) rfl);go_wp2_with (at_builtin;refine Dt _ rfl (.tmp 14) (.tmp 18) _ rfl 22 _ 1 _ Tryz.underlying38 Ark rfl (by omega) (fun _=>rfl) (fun _=>Pq rfl) _ _ _ _ _ rfl HO3.o _ _ _ _ rfl HI3.o (by omega) HB3.o.size ?_;intro A1 c1 w1 hown1 hfr1 hat1);have HO4:=Hd hown1;have HB4:=Hd (Bs HB3.o hfr1 (by rintro j ⟨ad,e,rfl⟩;exact(HO3.o.addr ad e).2.1));clear hown1 hfr1 hat1;go_wp2_with fail;go_roundw
   case rel=>exact⟨k+1,by omega,by go_num,A1,c1,rfl,by rw [HT.o];exact HO4.o,HB4.o⟩
   case measure=>simp [intOf];omega
  ·obtain rfl:k=x.bn:=by omega
   have HE:=Hd (show vs.take x.bn=vs from Att (by have:=HL.o;omega));rw [HE.o] at HO;clear hIr;go_wp2_with fail;go_ret;exact⟨A,c,rfl,HO.o,HBR.o⟩
theorem Ahk(x:Nv)(vs:List Nv)(w:World)(hI:Fh w x.B x.bn vs)(hn:x.bn≤1000000):Calls Tryz.prog 141 #[.agg #[Aa Ab x.k,Aa Ab x.n,Aa Ac (x.u:Int),.string ⟨x.s.toArray⟩,.slice x.A x.an x.ac,.slice x.B x.bn x.bc],.func (.func 142) #[] #[]] w (Za bbc 4 w x.bn (vs.map fun v:Nv=>decide (v.n=1))):=by
 have HI:=Hd hI;have HB0:=Hd (show Below w.heap.size w (w.alloc (.cells #[Aa Ab x.k,Aa Ab x.n,Aa Ac (x.u:Int),.string ⟨x.s.toArray⟩,.slice x.A x.an x.ac,.slice x.B x.bn x.bc] 26)) from(Below.refl _ _).alloc (Ath _) _);have HL:=Hd hI.1;clear hI;go_enter Tryz.func141,Tryz.ntmps141;go_wp2_with fail;go_loopw [4,10] (fun s u wr=>∃k:Nat,k≤x.bn∧u= Aa Ab k∧∃A c,s= .slice A k c∧Go.Acc.Own bbc 1 4 wr w.heap.size A k c ((vs.take k).map (fun v:Nv=>decide (v.n=1)))∧Below w.heap.size w wr) (fun _ u _=>x.bn-(intOf u).toNat)
 case atStart=>exact⟨0,Atl _,rfl,none,0,rfl,Own.nil _ _,HB0.o⟩
 case round=>
  obtain⟨k,hk,rfl,A,c,rfl,ho,hbr⟩:=hrel;have HO:=Hd ho;have HBR:=Hd hbr;have hIr:=HI.o.pure hbr;clear ho hbr HB0;by_cases hlt:k<x.bn
  ·obtain⟨v,hv⟩:∃v,vs[k]?=some v:=⟨_,Ati (by have:=HL.o;omega)⟩;obtain⟨g,off,e,v0,v1,v2,v3,v4,v5⟩:=Gc hIr hv;have HT:=Hd (show(vs.take (k+1)).map (fun v:Nv=>decide (v.n=1))=(vs.take k).map (fun v:Nv=>decide (v.n=1))++ [decide (v.n=1)] by
    obtain⟨q1,q2⟩:=List.getElem?_eq_some_iff.1 hv;rw [Atv q1,q2,List.map_append];rfl)
   have hk0:(0:Int)≤(k:Int):=by omega
   have hkn:(k:Int)<(x.bn:Int):=by omega
   have HBA:=Hd (HBR.o.alloc HBR.o.size (.cells #[Aa Ab v.k,Aa Ab v.n,Aa Ac (v.u:Int),.string ⟨v.s.toArray⟩,.slice v.A v.an v.ac,.slice v.B v.bn v.bc] 26));have HOA:=Hd (HO.o.pure ((Below.refl wr.heap.size wr).alloc (Ath _) (.cells #[Aa Ab v.k,Aa Ab v.n,Aa Ac (v.u:Int),.string ⟨v.s.toArray⟩,.slice v.A v.an v.ac,.slice v.B v.bn v.bc] 26)));rw [e];clear hIr hv e;go_wp2_with fail;go_at_call 142;refine(Ai2 v _).mono ?_;rintro e w2 ⟨rfl,hb⟩;have HB2:=Hd (Ad HBA.o hb);have HO2:=Hd (HOA.o.pure hb);clear hb v0 v1 v2 v3 v4 v5;have HB3:=Hd (HB2.o.alloc HB2.o.size (.cells #[.bool (decide (v.n=1))] 4));have HO3:=Hd (HO2.o.pure ((Below.refl w2.heap.size w2).alloc (Ath _) (.cells #[.bool (decide (v.n=1))] 4)));have HI3:=Hd (Q5 (f:=bbc) w2 4 (decide (v.n=1)) (.bool (decide (v.n=1))) rfl);go_wp2_with (at_builtin;refine Dt _ rfl (.tmp 14) (.tmp 18) _ rfl 4 _ 1 _ Tryz.underlying198 Aph rfl (by omega) (fun _=>rfl) (fun _=>Pq rfl) _ _ _ _ _ rfl HO3.o _ _ _ _ rfl HI3.o (by omega) HB3.o.size ?_;intro A1 c1 w1 hown1 hfr1 hat1);have HO4:=Hd hown1;have HB4:=Hd (Bs HB3.o hfr1 (by rintro j ⟨ad,e,rfl⟩;exact(HO3.o.addr ad e).2.1));clear hown1 hfr1 hat1;go_wp2_with fail;go_roundw
   case rel=>exact⟨k+1,by omega,by go_num,A1,c1,rfl,by rw [HT.o];exact HO4.o,HB4.o⟩
   case measure=>simp [intOf];omega
  ·obtain rfl:k=x.bn:=by omega
   have HE:=Hd (show vs.take x.bn=vs from Att (by have:=HL.o;omega));rw [HE.o] at HO;clear hIr;go_wp2_with fail;go_ret;exact⟨A,c,rfl,HO.o,HBR.o⟩
theorem Ahl(x:Nv)(vs:List Nv)(w:World)(hI:Fh w x.B x.bn vs)(hn:x.bn≤1000000):Calls Tryz.prog 144 #[.agg #[Aa Ab x.k,Aa Ab x.n,Aa Ac (x.u:Int),.string ⟨x.s.toArray⟩,.slice x.A x.an x.ac,.slice x.B x.bn x.bc],.func (.func 145) #[] #[]] w (Za Jc 9 w x.bn (vs.map Nv.s)):=by
 have HI:=Hd hI;have HB0:=Hd (show Below w.heap.size w (w.alloc (.cells #[Aa Ab x.k,Aa Ab x.n,Aa Ac (x.u:Int),.string ⟨x.s.toArray⟩,.slice x.A x.an x.ac,.slice x.B x.bn x.bc] 26)) from(Below.refl _ _).alloc (Ath _) _);have HL:=Hd hI.1;clear hI;go_enter Tryz.func144,Tryz.ntmps144;go_wp2_with fail;go_loopw [4,10] (fun s u wr=>∃k:Nat,k≤x.bn∧u= Aa Ab k∧∃A c,s= .slice A k c∧Go.Acc.Own Jc 1 9 wr w.heap.size A k c ((vs.take k).map Nv.s)∧Below w.heap.size w wr) (fun _ u _=>x.bn-(intOf u).toNat)
 case atStart=>exact⟨0,Atl _,rfl,none,0,rfl,Own.nil _ _,HB0.o⟩
 case round=>
  obtain⟨k,hk,rfl,A,c,rfl,ho,hbr⟩:=hrel;have HO:=Hd ho;have HBR:=Hd hbr;have hIr:=HI.o.pure hbr;clear ho hbr HB0;by_cases hlt:k<x.bn
  ·obtain⟨v,hv⟩:∃v,vs[k]?=some v:=⟨_,Ati (by have:=HL.o;omega)⟩;obtain⟨g,off,e,v0,v1,v2,v3,v4,v5⟩:=Gc hIr hv;have HT:=Hd (show(vs.take (k+1)).map Nv.s=(vs.take k).map Nv.s++ [v.s] by
    obtain⟨q1,q2⟩:=List.getElem?_eq_some_iff.1 hv;rw [Atv q1,q2,List.map_append];rfl)
   have hk0:(0:Int)≤(k:Int):=by omega
   have hkn:(k:Int)<(x.bn:Int):=by omega
   have HBA:=Hd (HBR.o.alloc HBR.o.size (.cells #[Aa Ab v.k,Aa Ab v.n,Aa Ac (v.u:Int),.string ⟨v.s.toArray⟩,.slice v.A v.an v.ac,.slice v.B v.bn v.bc] 26));have HOA:=Hd (HO.o.pure ((Below.refl wr.heap.size wr).alloc (Ath _) (.cells #[Aa Ab v.k,Aa Ab v.n,Aa Ac (v.u:Int),.string ⟨v.s.toArray⟩,.slice v.A v.an v.ac,.slice v.B v.bn v.bc] 26)));rw [e];clear hIr hv e;go_wp2_with fail;go_at_call 145;refine(Agj v _).mono ?_;rintro e w2 ⟨rfl,hb⟩;have HB2:=Hd (Ad HBA.o hb);have HO2:=Hd (HOA.o.pure hb);clear hb v0 v1 v2 v3 v4 v5;have HB3:=Hd (HB2.o.alloc HB2.o.size (.cells #[.string ⟨v.s.toArray⟩] 9));have HO3:=Hd (HO2.o.pure ((Below.refl w2.heap.size w2).alloc (Ath _) (.cells #[.string ⟨v.s.toArray⟩] 9)));have HI3:=Hd (Q5 (f:=Jc) w2 9 (v.s) (.string ⟨v.s.toArray⟩) rfl);go_wp2_with (at_builtin;refine Dt _ rfl (.tmp 14) (.tmp 18) _ rfl 9 _ 1 _ Tryz.underlying23 R3 rfl (by omega) (fun _=>rfl) (fun _=>Pq rfl) _ _ _ _ _ rfl HO3.o _ _ _ _ rfl HI3.o (by omega) HB3.o.size ?_;intro A1 c1 w1 hown1 hfr1 hat1);have HO4:=Hd hown1;have HB4:=Hd (Bs HB3.o hfr1 (by rintro j ⟨ad,e,rfl⟩;exact(HO3.o.addr ad e).2.1));clear hown1 hfr1 hat1;go_wp2_with fail;go_roundw
   case rel=>exact⟨k+1,by omega,by go_num,A1,c1,rfl,by rw [HT.o];exact HO4.o,HB4.o⟩
   case measure=>simp [intOf];omega
  ·obtain rfl:k=x.bn:=by omega
   have HE:=Hd (show vs.take x.bn=vs from Att (by have:=HL.o;omega));rw [HE.o] at HO;clear hIr;go_wp2_with fail;go_ret;exact⟨A,c,rfl,HO.o,HBR.o⟩
end Go.Proofs.YtgbjodnegkbfoaaGreat
