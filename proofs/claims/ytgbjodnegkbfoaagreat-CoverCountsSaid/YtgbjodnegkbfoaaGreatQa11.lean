/- Parts of the proof. -/
import Derived.Test.YtgbjodnegkbfoaaGreatQa10
import Derived.Lib.BytesEntry
set_option maxHeartbeats 4000000
set_option maxRecDepth 100000
open Go.Value renaming int→Aa
open Go.IntKind renaming i64→Ab,u64→Ac
open Nat renaming le_refl→Ath
open List renaming getElem?_eq_getElem→Ati,length_append→Atj,length_cons→Atp,take_of_length_le→Att
namespace Go.Proofs.YtgbjodnegkbfoaaGreat
open Go.RowKit Go.Acc
structure Qg(b g1 g2:Nat)(y:Int)(v:Bv)(l:List UInt8)(w:World)(o:Nat→Nat):Prop where
 m:Co w o b l
 x:Af w g1 403 #[.pointer (some ⟨b,0,none⟩),Aa Ab y]
 v:Af w g2 210 #[Aa Ab (v.t:Int),Aa Ab (v.w:Int),Aa Ac (v.n:Int)]
section
variable {b g1 g2:Nat} {y:Int} {v:Bv} {l:List UInt8} {w w':World} {o:Nat→Nat}
theorem Qg.pure(h:Qg b g1 g2 y v l w o)(hb:Below w.heap.size w w'):Qg b g1 g2 y v l w' o:=⟨h.m.pure hb,h.x.pure hb,h.v.pure hb⟩
theorem Qg.cells(h:Qg b g1 g2 y v l w o):w.cell? ⟨g1,0,none⟩=some (.pointer (some ⟨b,0,none⟩))∧w.cell? ⟨g1,1,none⟩=some (Aa Ab y)∧w.cell? ⟨g2,0,none⟩=some (Aa Ab (v.t:Int))∧w.cell? ⟨g2,1,none⟩=some (Aa Ab (v.w:Int))∧w.cell? ⟨g2,2,none⟩=some (Aa Ac (v.n:Int)):=
 ⟨h.x.cell 0,h.x.cell 1,h.v.cell 0,h.v.cell 1,h.v.cell 2⟩
end
theorem Aj2(n:Nat):IntKind.u64.wrap (n:Int)=((n % 2^(8*8):Nat):Int):=by
 have h:=Gk n 64 (by omega);simpa using h
theorem Adc(b y:Nat)(v:Bv)(l:List UInt8)(w:World)(o:Nat→Nat)(h:Co w o b l)(hy:Av (y:Int)=true)(hi:inl v.t=true)(hl:l.length+y≤1048576):
  Calls Tryz.prog 386 #[.agg #[.pointer (some ⟨b,0,none⟩),Aa Ab (y:Int)],.agg #[Aa Ab (v.t:Int),Aa Ab (v.w:Int),Aa Ac (v.n:Int)]] w (Di w o b (l++Ai y (v.n % 2^(8*y)))):=by
 rcases C8 hy with rfl|rfl|rfl|rfl
 ·clear hy;have HL:=Hd (show IntKind.u64.wrap ((v.n:Int)*72057594037927936)/72057594037927936=((v.n % 2^(8*1):Nat):Int) from Gk v.n 8 (by omega));have HY:=Hd (show Av ((1:Nat):Int)=true by decide);have HMM:=Hd (rfl:l.length=l.length);obtain⟨m,hm⟩:∃m,l.length=m:=⟨_,rfl⟩;replace HMM:=Hd hm;have HLL:=Hd (show l.length+1≤1048576 by omega);have HFQ:=Hd (Ji v.n 1);have HLQ:=Hd (M3 v.n (y:=1) (by decide));have HIV:=Hd (show An (v.t:Int)=true from hi);clear hi hm hl;have hB0:=Ba w (.cells #[.pointer (some ⟨b,0,none⟩),Aa Ab 1] 403) (.cells #[Aa Ab (v.t:Int),Aa Ab (v.w:Int),Aa Ac (v.n:Int)] 210);have HB0:=Hd hB0;have HS0:=Hd (show Qg b w.heap.size (w.heap.size+1) 1 v l ((w.alloc (.cells #[.pointer (some ⟨b,0,none⟩),Aa Ab 1] 403)).alloc (.cells #[Aa Ab (v.t:Int),Aa Ab (v.w:Int),Aa Ac (v.n:Int)] 210)) o from⟨h.pure hB0,(Af.new w 403 #[.pointer (some ⟨b,0,none⟩),Aa Ab 1]).alloc _,B5 w _ _ _⟩);clear hB0 h;go_enter Tryz.func386,Tryz.ntmps386;go_wp2_with fail;generalize (w.alloc (.cells #[.pointer (some ⟨b,0,none⟩),Aa Ab 1] 403)).alloc (.cells #[Aa Ab (v.t:Int),Aa Ab (v.w:Int),Aa Ac (v.n:Int)] 210)=w1 at HB0 HS0⊢;generalize w.heap.size+1=g2 at HS0⊢;generalize hg1:w.heap.size=g1 at HS0⊢;clear hg1;obtain⟨x0,x1,x2,x3,x4⟩:=HS0.o.cells;go_region_held3 (fun w'=>w'.cell? ⟨g1,0,none⟩=some (.pointer (some ⟨b,0,none⟩))∧w'.cell? ⟨g2,2,none⟩=some (Aa Ac (v.n:Int))) (first|with_reducible exact⟨x0,x4⟩|with_reducible exact⟨Ae x0,Ae x4⟩) (first|(go_at_call 159;(with_reducible refine(Dg m (HS0.o.pure (Below.refl _ _).drew).m HMM.o).mono ?_);rintro e w' ⟨rfl,rfl⟩));have HS1:=Hd (HS0.o.pure (Below.refl _ _).drew);have HB1:=Hd HB0.o.drew;generalize w1.drew=w2 at HS1 HB1⊢;clear x0 x1 x2 x3 x4 HS0 HB0;obtain⟨x0,x1,x2,x3,x4⟩:=HS1.o.cells;go_wp2_with fail;go_at_call 90;refine(Ce (v.t:Int) _).mono ?_;rw [HIV.o];rintro e w3 ⟨rfl,hb⟩;have HB2:=Hd (Ad HB1.o hb);have HS2:=Hd (HS1.o.pure hb);clear hb x0 x1 x2 x3 x4;obtain⟨x0,x1,x2,x3,x4⟩:=HS2.o.cells;go_wp2_with fail;rw [HL.o];go_at_call 163;refine(Ef b 1 (v.n % 2^(8*1)) l _ o HS2.o.m HY.o HFQ.o HLQ.o HLL.o).mono ?_;rintro e w4 hR;have HR:=Hd (Di.from_pure HB2.o hR);obtain rfl:=hR.1;clear hR x0 x1 x2 x3 x4;go_wp2_with fail;go_end0;exact HR.o
 ·clear hy;have HL:=Hd (show IntKind.u64.wrap ((v.n:Int)*281474976710656)/281474976710656=((v.n % 2^(8*2):Nat):Int) from Gk v.n 16 (by omega));have HY:=Hd (show Av ((2:Nat):Int)=true by decide);have HMM:=Hd (rfl:l.length=l.length);obtain⟨m,hm⟩:∃m,l.length=m:=⟨_,rfl⟩;replace HMM:=Hd hm;have HLL:=Hd (show l.length+2≤1048576 by omega);have HFQ:=Hd (Ji v.n 2);have HLQ:=Hd (M3 v.n (y:=2) (by decide));have HIV:=Hd (show An (v.t:Int)=true from hi);clear hi hm hl;have hB0:=Ba w (.cells #[.pointer (some ⟨b,0,none⟩),Aa Ab 2] 403) (.cells #[Aa Ab (v.t:Int),Aa Ab (v.w:Int),Aa Ac (v.n:Int)] 210);have HB0:=Hd hB0;have HS0:=Hd (show Qg b w.heap.size (w.heap.size+1) 2 v l ((w.alloc (.cells #[.pointer (some ⟨b,0,none⟩),Aa Ab 2] 403)).alloc (.cells #[Aa Ab (v.t:Int),Aa Ab (v.w:Int),Aa Ac (v.n:Int)] 210)) o from⟨h.pure hB0,(Af.new w 403 #[.pointer (some ⟨b,0,none⟩),Aa Ab 2]).alloc _,B5 w _ _ _⟩);clear hB0 h;go_enter Tryz.func386,Tryz.ntmps386;go_wp2_with fail;generalize (w.alloc (.cells #[.pointer (some ⟨b,0,none⟩),Aa Ab 2] 403)).alloc (.cells #[Aa Ab (v.t:Int),Aa Ab (v.w:Int),Aa Ac (v.n:Int)] 210)=w1 at HB0 HS0⊢;generalize w.heap.size+1=g2 at HS0⊢;generalize hg1:w.heap.size=g1 at HS0⊢;clear hg1;obtain⟨x0,x1,x2,x3,x4⟩:=HS0.o.cells;go_region_held3 (fun w'=>w'.cell? ⟨g1,0,none⟩=some (.pointer (some ⟨b,0,none⟩))∧w'.cell? ⟨g2,2,none⟩=some (Aa Ac (v.n:Int))) (first|with_reducible exact⟨x0,x4⟩|with_reducible exact⟨Ae x0,Ae x4⟩) (first|(go_at_call 159;(with_reducible refine(Dg m (HS0.o.pure (Below.refl _ _).drew).m HMM.o).mono ?_);rintro e w' ⟨rfl,rfl⟩));have HS1:=Hd (HS0.o.pure (Below.refl _ _).drew);have HB1:=Hd HB0.o.drew;generalize w1.drew=w2 at HS1 HB1⊢;clear x0 x1 x2 x3 x4 HS0 HB0;obtain⟨x0,x1,x2,x3,x4⟩:=HS1.o.cells;go_wp2_with fail;go_at_call 90;refine(Ce (v.t:Int) _).mono ?_;rw [HIV.o];rintro e w3 ⟨rfl,hb⟩;have HB2:=Hd (Ad HB1.o hb);have HS2:=Hd (HS1.o.pure hb);clear hb x0 x1 x2 x3 x4;obtain⟨x0,x1,x2,x3,x4⟩:=HS2.o.cells;go_wp2_with fail;rw [HL.o];go_at_call 163;refine(Ef b 2 (v.n % 2^(8*2)) l _ o HS2.o.m HY.o HFQ.o HLQ.o HLL.o).mono ?_;rintro e w4 hR;have HR:=Hd (Di.from_pure HB2.o hR);obtain rfl:=hR.1;clear hR x0 x1 x2 x3 x4;go_wp2_with fail;go_end0;exact HR.o
 ·clear hy;have HL:=Hd (show IntKind.u64.wrap ((v.n:Int)*4294967296)/4294967296=((v.n % 2^(8*4):Nat):Int) from Gk v.n 32 (by omega));have HY:=Hd (show Av ((4:Nat):Int)=true by decide);have HMM:=Hd (rfl:l.length=l.length);obtain⟨m,hm⟩:∃m,l.length=m:=⟨_,rfl⟩;replace HMM:=Hd hm;have HLL:=Hd (show l.length+4≤1048576 by omega);have HFQ:=Hd (Ji v.n 4);have HLQ:=Hd (M3 v.n (y:=4) (by decide));have HIV:=Hd (show An (v.t:Int)=true from hi);clear hi hm hl;have hB0:=Ba w (.cells #[.pointer (some ⟨b,0,none⟩),Aa Ab 4] 403) (.cells #[Aa Ab (v.t:Int),Aa Ab (v.w:Int),Aa Ac (v.n:Int)] 210);have HB0:=Hd hB0;have HS0:=Hd (show Qg b w.heap.size (w.heap.size+1) 4 v l ((w.alloc (.cells #[.pointer (some ⟨b,0,none⟩),Aa Ab 4] 403)).alloc (.cells #[Aa Ab (v.t:Int),Aa Ab (v.w:Int),Aa Ac (v.n:Int)] 210)) o from⟨h.pure hB0,(Af.new w 403 #[.pointer (some ⟨b,0,none⟩),Aa Ab 4]).alloc _,B5 w _ _ _⟩);clear hB0 h;go_enter Tryz.func386,Tryz.ntmps386;go_wp2_with fail;generalize (w.alloc (.cells #[.pointer (some ⟨b,0,none⟩),Aa Ab 4] 403)).alloc (.cells #[Aa Ab (v.t:Int),Aa Ab (v.w:Int),Aa Ac (v.n:Int)] 210)=w1 at HB0 HS0⊢;generalize w.heap.size+1=g2 at HS0⊢;generalize hg1:w.heap.size=g1 at HS0⊢;clear hg1;obtain⟨x0,x1,x2,x3,x4⟩:=HS0.o.cells;go_region_held3 (fun w'=>w'.cell? ⟨g1,0,none⟩=some (.pointer (some ⟨b,0,none⟩))∧w'.cell? ⟨g2,2,none⟩=some (Aa Ac (v.n:Int))) (first|with_reducible exact⟨x0,x4⟩|with_reducible exact⟨Ae x0,Ae x4⟩) (first|(go_at_call 159;(with_reducible refine(Dg m (HS0.o.pure (Below.refl _ _).drew).m HMM.o).mono ?_);rintro e w' ⟨rfl,rfl⟩));have HS1:=Hd (HS0.o.pure (Below.refl _ _).drew);have HB1:=Hd HB0.o.drew;generalize w1.drew=w2 at HS1 HB1⊢;clear x0 x1 x2 x3 x4 HS0 HB0;obtain⟨x0,x1,x2,x3,x4⟩:=HS1.o.cells;go_wp2_with fail;go_at_call 90;refine(Ce (v.t:Int) _).mono ?_;rw [HIV.o];rintro e w3 ⟨rfl,hb⟩;have HB2:=Hd (Ad HB1.o hb);have HS2:=Hd (HS1.o.pure hb);clear hb x0 x1 x2 x3 x4;obtain⟨x0,x1,x2,x3,x4⟩:=HS2.o.cells;go_wp2_with fail;rw [HL.o];go_at_call 163;refine(Ef b 4 (v.n % 2^(8*4)) l _ o HS2.o.m HY.o HFQ.o HLQ.o HLL.o).mono ?_;rintro e w4 hR;have HR:=Hd (Di.from_pure HB2.o hR);obtain rfl:=hR.1;clear hR x0 x1 x2 x3 x4;go_wp2_with fail;go_end0;exact HR.o
 ·clear hy;have HL:=Hd (Aj2 v.n);have HY:=Hd (show Av ((8:Nat):Int)=true by decide);have HMM:=Hd (rfl:l.length=l.length);obtain⟨m,hm⟩:∃m,l.length=m:=⟨_,rfl⟩;replace HMM:=Hd hm;have HLL:=Hd (show l.length+8≤1048576 by omega);have HFQ:=Hd (Ji v.n 8);have HLQ:=Hd (M3 v.n (y:=8) (by decide));have HIV:=Hd (show An (v.t:Int)=true from hi);clear hi hm hl;have hB0:=Ba w (.cells #[.pointer (some ⟨b,0,none⟩),Aa Ab 8] 403) (.cells #[Aa Ab (v.t:Int),Aa Ab (v.w:Int),Aa Ac (v.n:Int)] 210);have HB0:=Hd hB0;have HS0:=Hd (show Qg b w.heap.size (w.heap.size+1) 8 v l ((w.alloc (.cells #[.pointer (some ⟨b,0,none⟩),Aa Ab 8] 403)).alloc (.cells #[Aa Ab (v.t:Int),Aa Ab (v.w:Int),Aa Ac (v.n:Int)] 210)) o from⟨h.pure hB0,(Af.new w 403 #[.pointer (some ⟨b,0,none⟩),Aa Ab 8]).alloc _,B5 w _ _ _⟩);clear hB0 h;go_enter Tryz.func386,Tryz.ntmps386;go_wp2_with fail;generalize (w.alloc (.cells #[.pointer (some ⟨b,0,none⟩),Aa Ab 8] 403)).alloc (.cells #[Aa Ab (v.t:Int),Aa Ab (v.w:Int),Aa Ac (v.n:Int)] 210)=w1 at HB0 HS0⊢;generalize w.heap.size+1=g2 at HS0⊢;generalize hg1:w.heap.size=g1 at HS0⊢;clear hg1;obtain⟨x0,x1,x2,x3,x4⟩:=HS0.o.cells;go_region_held3 (fun w'=>w'.cell? ⟨g1,0,none⟩=some (.pointer (some ⟨b,0,none⟩))∧w'.cell? ⟨g2,2,none⟩=some (Aa Ac (v.n:Int))) (first|with_reducible exact⟨x0,x4⟩|with_reducible exact⟨Ae x0,Ae x4⟩) (first|(go_at_call 159;(with_reducible refine(Dg m (HS0.o.pure (Below.refl _ _).drew).m HMM.o).mono ?_);rintro e w' ⟨rfl,rfl⟩));have HS1:=Hd (HS0.o.pure (Below.refl _ _).drew);have HB1:=Hd HB0.o.drew;generalize w1.drew=w2 at HS1 HB1⊢;clear x0 x1 x2 x3 x4 HS0 HB0;obtain⟨x0,x1,x2,x3,x4⟩:=HS1.o.cells;go_wp2_with fail;go_at_call 90;refine(Ce (v.t:Int) _).mono ?_;rw [HIV.o];rintro e w3 ⟨rfl,hb⟩;have HB2:=Hd (Ad HB1.o hb);have HS2:=Hd (HS1.o.pure hb);clear hb x0 x1 x2 x3 x4;obtain⟨x0,x1,x2,x3,x4⟩:=HS2.o.cells;go_wp2_with fail;rw [HL.o];go_at_call 163;refine(Ef b 8 (v.n % 2^(8*8)) l _ o HS2.o.m HY.o HFQ.o HLQ.o HLL.o).mono ?_;rintro e w4 hR;have HR:=Hd (Di.from_pure HB2.o hR);obtain rfl:=hR.1;clear hR x0 x1 x2 x3 x4;go_wp2_with fail;go_end0;exact HR.o
theorem Ade(b y q m:Nat)(v:Bv)(l:List UInt8)(w:World)(o:Nat→Nat)(h:Co w o b l)(hy:Av (y:Int)=true)(hi:inl v.t=false)(hm:l.length=m)(hle:v.n≤m)(hq:m-v.n=q)(hfit:q<2^(8*y))(hl:m+y≤1048576):
  Calls Tryz.prog 386 #[.agg #[.pointer (some ⟨b,0,none⟩),Aa Ab (y:Int)],.agg #[Aa Ab (v.t:Int),Aa Ab (v.w:Int),Aa Ac (v.n:Int)]] w (Di w o b (l++Ai y q)):=by
 have HY:=Hd hy;have HMM:=Hd hm;have HLL:=Hd (show l.length+y≤1048576 by omega);have HFQ:=Hd (show D4 y q=true from decide_eq_true (.inr hfit));have HLQ:=Hd (show(q:Int)<18446744073709551616 by omega);have HIV:=Hd (show An (v.t:Int)=false from hi);have e1:IntKind.u64.wrap (m:Int)=m:=B8 _ (by omega);have e2:(m:Int)-(v.n:Int)=q:=by omega
 have e3:IntKind.u64.wrap (q:Int)=q:=B8 _ (by omega);clear hy hm hfit hi hq hle hl;have hB0:=Ba w (.cells #[.pointer (some ⟨b,0,none⟩),Aa Ab (y:Int)] 403) (.cells #[Aa Ab (v.t:Int),Aa Ab (v.w:Int),Aa Ac (v.n:Int)] 210);have HB0:=Hd hB0;have HS0:=Hd (show Qg b w.heap.size (w.heap.size+1) (y:Int) v l ((w.alloc (.cells #[.pointer (some ⟨b,0,none⟩),Aa Ab (y:Int)] 403)).alloc (.cells #[Aa Ab (v.t:Int),Aa Ab (v.w:Int),Aa Ac (v.n:Int)] 210)) o from⟨h.pure hB0,(Af.new w 403 #[.pointer (some ⟨b,0,none⟩),Aa Ab (y:Int)]).alloc _,B5 w _ _ _⟩);clear hB0 h;go_enter Tryz.func386,Tryz.ntmps386;go_wp2_with fail;generalize (w.alloc (.cells #[.pointer (some ⟨b,0,none⟩),Aa Ab (y:Int)] 403)).alloc (.cells #[Aa Ab (v.t:Int),Aa Ab (v.w:Int),Aa Ac (v.n:Int)] 210)=w1 at HB0 HS0⊢;generalize w.heap.size+1=g2 at HS0⊢;generalize hg1:w.heap.size=g1 at HS0⊢;clear hg1;obtain⟨x0,x1,x2,x3,x4⟩:=HS0.o.cells;go_region_held3 (fun w'=>w'.cell? ⟨g1,0,none⟩=some (.pointer (some ⟨b,0,none⟩))∧w'.cell? ⟨g2,2,none⟩=some (Aa Ac (v.n:Int))) (first|with_reducible exact⟨x0,x4⟩|with_reducible exact⟨Ae x0,Ae x4⟩) (first|(go_at_call 159;(with_reducible refine(Dg m (HS0.o.pure (Below.refl _ _).drew).m HMM.o).mono ?_);rintro e w' ⟨rfl,rfl⟩));have HS1:=Hd (HS0.o.pure (Below.refl _ _).drew);have HB1:=Hd HB0.o.drew;generalize w1.drew=w2 at HS1 HB1⊢;clear x0 x1 x2 x3 x4 e1 e2 e3 HS0 HB0;obtain⟨x0,x1,x2,x3,x4⟩:=HS1.o.cells;go_wp2_with fail;go_at_call 90;refine(Ce (v.t:Int) _).mono ?_;rw [HIV.o];rintro e w3 ⟨rfl,hb⟩;have HB2:=Hd (Ad HB1.o hb);have HS2:=Hd (HS1.o.pure hb);clear hb x0 x1 x2 x3 x4;obtain⟨x0,x1,x2,x3,x4⟩:=HS2.o.cells;go_wp2_with fail;go_at_call 163;refine(Ef b y q l _ o HS2.o.m HY.o HFQ.o HLQ.o HLL.o).mono ?_;rintro e w4 hR;have HR:=Hd (Di.from_pure HB2.o hR);obtain rfl:=hR.1;clear hR x0 x1 x2 x3 x4;go_wp2_with fail;go_end0;exact HR.o
theorem Qv(b y:Nat)(v:Bv)(l:List UInt8)(w:World)(o:Nat→Nat)(h:Co w o b l)(hy:Av (y:Int)=true)(hf:inl v.t=false→v.n≤l.length∧l.length-v.n<2^(8*y))(hl:l.length+y≤1048576):
  Calls Tryz.prog 386 #[.agg #[.pointer (some ⟨b,0,none⟩),Aa Ab (y:Int)],.agg #[Aa Ab (v.t:Int),Aa Ab (v.w:Int),Aa Ac (v.n:Int)]] w (Di w o b (l++Ai y (B9 y l.length v))):=by
 cases hi:inl v.t with
 |true=>
  have e:B9 y l.length v=v.n % 2^(8*y):=by unfold B9;rw [if_pos hi]
  rw [e];exact Adc b y v l w o h hy hi hl
 |false=>
  have e:B9 y l.length v=l.length-v.n:=by unfold B9;rw [if_neg (by rw [hi];decide)]
  rw [e];obtain⟨h1,h2⟩:=hf hi;exact Ade b y _ l.length v l w o h hy hi rfl h1 rfl h2 hl
theorem Akd(b y:Nat)(v:Bv)(l:List UInt8)(w:World)(o:Nat→Nat)(h:Co w o b l)(hy:Av (y:Int)=true)(hlg:Be (v.t:Int)=true)(hww:Av (v.w:Int)=true)(hl:l.length+1≤1048576):
  Calls Tryz.prog 387 #[.agg #[.pointer (some ⟨b,0,none⟩),Aa Ab (y:Int)],.agg #[Aa Ab (v.t:Int),Aa Ab (v.w:Int),Aa Ac (v.n:Int)]] w (Di w o b (l++ [C3 y v])):=by
 obtain⟨ow,how⟩:∃x,(if inl v.t=true then y else v.w)=x:=⟨_,rfl⟩;have HPW:=Hd (show Av (ow:Int)=true by rw [←how];split;exact hy;exact hww);have HOW:=Hd how;obtain⟨tb,htb⟩:∃x,UInt8.ofNat (4*v.t+bCode ow)=x:=⟨_,rfl⟩;have HTB:=Hd (show C3 y v=tb by unfold C3;rw [how];exact htb);have HPK:=Hd (fun W=>by have h:=Rh v.t ow W hlg HPW.o;rw [htb] at h;exact h);have HLL:=Hd hl;obtain⟨iv,hiv⟩:∃x,An (v.t:Int)=x:=⟨_,rfl⟩;have HIV:=Hd hiv;rw [HTB.o];clear hy hlg hww hl how htb hiv;have hB0:=Ba w (.cells #[.pointer (some ⟨b,0,none⟩),Aa Ab (y:Int)] 403) (.cells #[Aa Ab (v.t:Int),Aa Ab (v.w:Int),Aa Ac (v.n:Int)] 210);have HB0:=Hd hB0;have HS0:=Hd (show Qg b w.heap.size (w.heap.size+1) (y:Int) v l ((w.alloc (.cells #[.pointer (some ⟨b,0,none⟩),Aa Ab (y:Int)] 403)).alloc (.cells #[Aa Ab (v.t:Int),Aa Ab (v.w:Int),Aa Ac (v.n:Int)] 210)) o from⟨h.pure hB0,(Af.new w 403 #[.pointer (some ⟨b,0,none⟩),Aa Ab (y:Int)]).alloc _,B5 w _ _ _⟩);clear hB0 h;go_enter Tryz.func387,Tryz.ntmps387;go_wp2_with fail;generalize (w.alloc (.cells #[.pointer (some ⟨b,0,none⟩),Aa Ab (y:Int)] 403)).alloc (.cells #[Aa Ab (v.t:Int),Aa Ab (v.w:Int),Aa Ac (v.n:Int)] 210)=w1 at HB0 HS0⊢;generalize w.heap.size+1=g2 at HS0⊢;generalize hg1:w.heap.size=g1 at HS0⊢;clear hg1;obtain⟨x0,x1,x2,x3,x4⟩:=HS0.o.cells;go_at_call 90;refine(Ce (v.t:Int) _).mono ?_;rw [HIV.o];rintro e w2 ⟨rfl,hb⟩;have HB1:=Hd (Ad HB0.o hb);have HS1:=Hd (HS0.o.pure hb);clear hb x0 x1 x2 x3 x4 HS0 HB0;obtain⟨x0,x1,x2,x3,x4⟩:=HS1.o.cells;cases iv with
 |true=>
  obtain rfl:y=ow:=by rw [←HOW.o];exact(if_pos HIV.o).symm
  go_wp2_with fail;go_at_call 162;refine(HPK.o _).mono ?_;rintro e w3 ⟨rfl,hb⟩;have HB2:=Hd (Ad HB1.o hb);have HS2:=Hd (HS1.o.pure hb);clear hb x0 x1 x2 x3 x4;obtain⟨x0,x1,x2,x3,x4⟩:=HS2.o.cells;have hcv:=J3 (c:=1) (Pp w3 tb);have hB9:Below w3.heap.size w3 ((w3.alloc (.cells #[.int .u8 (tb.toNat:Int)] 5)).alloc (.cells #[.string ⟨[tb].toArray⟩] 9)):=Ba _ _ _;have HB9:=Hd (HS2.o.m.fresh hB9 0);have HBB:=Hd hB9;have hS9:=Oh (w3.alloc (.cells #[.int .u8 (tb.toNat:Int)] 5)) [tb];have eS:(w3.alloc (.cells #[.int .u8 (tb.toNat:Int)] 5)).heap.size=w3.heap.size+1:=by simp
  rw [eS] at hS9;have HS9:=Hd hS9;have HO9:=Hd (show ∀ad,(some ⟨w3.heap.size+1,0,none⟩:Option Addr)=some ad→Ak o w3.heap.size 0 ad.block≠1 from fun ad h=>by injection h with h;subst h;rw [Am (by show w3.heap.size≤w3.heap.size+1;omega)];omega);clear hB9 hS9 eS;go_wp2_with fail;go_at_call 164;refine(Gm b 1 _ _ [[tb]] l _ _ HB9.o HS9.o HO9.o HLL.o (by omega)).mono ?_;rintro e w4 hR;have HR:=Hd (Di.from_pure HB2.o (Di.from_fresh HBB.o hR));obtain rfl:=hR.1;clear hR hcv x0 x1 x2 x3 x4;go_wp2_with fail;go_end0;exact HR.o
 |false=>
  obtain rfl:ow=v.w:=by rw [←HOW.o];exact if_neg (by rw [show inl v.t=false from HIV.o];decide)
  go_wp2_with fail;go_at_call 162;refine(HPK.o _).mono ?_;rintro e w3 ⟨rfl,hb⟩;have HB2:=Hd (Ad HB1.o hb);have HS2:=Hd (HS1.o.pure hb);clear hb x0 x1 x2 x3 x4;obtain⟨x0,x1,x2,x3,x4⟩:=HS2.o.cells;have hcv:=J3 (c:=1) (Pp w3 tb);have hB9:Below w3.heap.size w3 ((w3.alloc (.cells #[.int .u8 (tb.toNat:Int)] 5)).alloc (.cells #[.string ⟨[tb].toArray⟩] 9)):=Ba _ _ _;have HB9:=Hd (HS2.o.m.fresh hB9 0);have HBB:=Hd hB9;have hS9:=Oh (w3.alloc (.cells #[.int .u8 (tb.toNat:Int)] 5)) [tb];have eS:(w3.alloc (.cells #[.int .u8 (tb.toNat:Int)] 5)).heap.size=w3.heap.size+1:=by simp
  rw [eS] at hS9;have HS9:=Hd hS9;have HO9:=Hd (show ∀ad,(some ⟨w3.heap.size+1,0,none⟩:Option Addr)=some ad→Ak o w3.heap.size 0 ad.block≠1 from fun ad h=>by injection h with h;subst h;rw [Am (by show w3.heap.size≤w3.heap.size+1;omega)];omega);clear hB9 hS9 eS;go_wp2_with fail;go_at_call 164;refine(Gm b 1 _ _ [[tb]] l _ _ HB9.o HS9.o HO9.o HLL.o (by omega)).mono ?_;rintro e w4 hR;have HR:=Hd (Di.from_pure HB2.o (Di.from_fresh HBB.o hR));obtain rfl:=hR.1;clear hR hcv x0 x1 x2 x3 x4;go_wp2_with fail;go_end0;exact HR.o
theorem Abs(W:World)(v:Bv):Fg (W.alloc (.cells #[Aa Ab (v.t:Int),Aa Ab (v.w:Int),Aa Ac (v.n:Int)] 210)) W.heap.size (some ⟨W.heap.size,0,none⟩) 1 1 [vv v]:=by
 refine⟨rfl,?_⟩;have:=World.ownsRow_lit (base:=W.heap.size) (e:=210) (size:=3) W #[Aa Ab (v.t:Int),Aa Ab (v.w:Int),Aa Ac (v.n:Int)] 1 (Ath _) (by simp only [maxLen];omega) rfl;exact this
theorem Adr(kv:Bv)(n c:Nat)(A:Option Addr)(vs:List Bv)(w:World)(hv:D9 w A n (vs.map vv))(hn:n≤1000000)(hk:kv.t=14)(hkw:Av (kv.w:Int)=true)
  (hE:∀v∈vs,Be (v.t:Int)=true∧Av (v.w:Int)=true):
  Calls Tryz.prog 385 #[.agg #[Aa Ab (kv.t:Int),Aa Ab (kv.w:Int),Aa Ac (kv.n:Int)],.slice A n c] w fun e w'=>e= .returned (Aa Ab 0)∧Below w.heap.size w w':=by
 have hB:=Ba w (.cells #[Aa Ab (kv.t:Int),Aa Ab (kv.w:Int),Aa Ac (kv.n:Int)] 210) (.cells #[Aa Ab (kv.t:Int),Aa Ab (kv.w:Int),Aa Ac (kv.n:Int)] 210);have HB:=Hd hB;have HV:=Hd (hv.pure hB);have hown:=Abs (w.alloc (.cells #[Aa Ab (kv.t:Int),Aa Ab (kv.w:Int),Aa Ac (kv.n:Int)] 210)) kv;have eS:(w.alloc (.cells #[Aa Ab (kv.t:Int),Aa Ab (kv.w:Int),Aa Ac (kv.n:Int)] 210)).heap.size=w.heap.size+1:=by simp
 rw [eS] at hown;have HOW:=Hd hown;have HE:=Hd (show ∀v∈kv::vs,Be (v.t:Int)=true∧Av (v.w:Int)=true from fun v h=>by
  rcases List.mem_cons.1 h with rfl|h
  ·exact⟨by rw [hk];decide,hkw⟩
  ·exact hE v h)
 have hk14:(kv.t:Int)=14:=by omega
 have h14:((kv.t:Int) != 14)=false:=by rw [hk14];rfl
 clear hB hv hown eS hk hkw hE hk14;go_enter Tryz.func385,Tryz.ntmps385;go_wp2_with (at_builtin;refine Dt _ rfl (.tmp 13) (.tmp 14) _ rfl 210 _ 3 24 Tryz.underlying185 Kj rfl (by omega) Gz Ku _ _ _ _ _ rfl HOW.o _ _ _ _ rfl HV.o (by omega) (by simp) ?_;intro A1 c1 w1 hown1 hfr1 hat1);have HI:=Hd (show D9 w1 A1 (1+n) ((kv::vs).map vv) from hown1.is);have HB1:=Hd (HB.o.trans (hfr1.belowB (fun k hk ⟨ad,h,h'⟩=>by injection h with h;subst h;have h2:k=w.heap.size+1:=h';omega) (by have:=HB.o.size;omega)));clear hown1 hfr1 hat1;go_loopw [17] (fun u wr=>∃k:Nat,k≤1+n∧u= Aa Ab k∧Below w1.heap.size w1 wr) (fun u _=>1+n-(intOf u).toNat)
 case atStart=>exact⟨0,Nat.zero_le _,rfl,Below.refl _ _⟩
 case round=>
  obtain⟨k,hk,rfl,hbr⟩:=hrel;have HBR:=Hd hbr;have HIR:=Hd (HI.o.pure hbr);clear hbr;by_cases hlt:k<1+n
  ·obtain⟨g,off,v,rfl,hvk,h0,h1,h2⟩:=Gt HIR.o hlt;have HVE:=Hd (HE.o v (List.mem_of_getElem? hvk));have hk0:(0:Int)≤(k:Int):=by omega
   have hkn:(k:Int)<1+(n:Int):=by omega
   have hkn2:(k:Int)<((1+n:Nat):Int):=by omega
   have HBA:=Hd (HBR.o.alloc HBR.o.size (.cells #[Aa Ab (v.t:Int),Aa Ab (v.w:Int),Aa Ac (v.n:Int)] 210));have HXA:=Hd (Af.new wr 210 #[Aa Ab (v.t:Int),Aa Ab (v.w:Int),Aa Ac (v.n:Int)]);obtain⟨z,hz⟩:∃z,decide ((0:Int)<(k:Int))=z:=⟨_,rfl⟩;have hz':decide (0<k)=z:=by rw [←hz];exact decide_eq_decide.2 (by omega)
   obtain⟨iv,hiv⟩:∃x,An (v.t:Int)=x:=⟨_,rfl⟩;have HIV:=Hd hiv;clear hvk hiv;cases z with
   |true=>
    go_wp2_with fail;go_at_call 53;refine(Md (v.w:Int) _ HVE.o.2).mono ?_;rintro e w' ⟨⟨cc,rfl⟩,rfl⟩;go_wp2_with fail;go_at_call 111;refine(Gw (v.t:Int) _).mono ?_;rw [HVE.o.1];rintro e w3 ⟨rfl,hb⟩;have HB3:=Hd (Ad HBA.o hb);have HX3:=Hd (HXA.o.pure hb);have x0:w3.cell? ⟨wr.heap.size,0,none⟩=some (Aa Ab (v.t:Int)):=HX3.o.cell 0;clear hb;go_wp2_with fail;go_at_call 90;refine(Ce (v.t:Int) _).mono ?_;rw [HIV.o];rintro e w4 ⟨rfl,hb⟩;have HB4:=Hd (Ad HB3.o hb);clear hb x0;cases iv with
    |true=>
     go_wp2_with fail;go_roundw
     case rel=>exact⟨k+1,by omega,by go_num,HB4.o⟩
     case measure=>simp [intOf];omega
    |false=>
     go_wp2_with fail;go_roundw
     case rel=>exact⟨k+1,by omega,by go_num,HB4.o⟩
     case measure=>simp [intOf];omega
   |false=>
    go_wp2_with fail;go_at_call 53;refine(Md (v.w:Int) _ HVE.o.2).mono ?_;rintro e w' ⟨⟨cc,rfl⟩,rfl⟩;have HB3:=HBA;have HX3:=HXA;have x0:_=some (Aa Ab (v.t:Int)):=HX3.o.cell 0;go_wp2_with fail;go_at_call 90;refine(Ce (v.t:Int) _).mono ?_;rw [HIV.o];rintro e w4 ⟨rfl,hb⟩;have HB4:=Hd (Ad HB3.o hb);clear hb x0;cases iv with
    |true=>
     go_wp2_with fail;go_roundw
     case rel=>exact⟨k+1,by omega,by go_num,HB4.o⟩
     case measure=>simp [intOf];omega
    |false=>
     go_wp2_with fail;go_roundw
     case rel=>exact⟨k+1,by omega,by go_num,HB4.o⟩
     case measure=>simp [intOf];omega
  ·have hd1:decide ((k:Int)<((1+n:Nat):Int))=false:=decide_eq_false (by omega);have hd3:decide ((k:Int)<1+(n:Int))=false:=decide_eq_false (by omega);have hd2:decide (k<1+n)=false:=decide_eq_false (by omega);go_wp2_with fail;go_ret;exact⟨rfl,Ad HB1.o HBR.o⟩
attribute [local go_sem] Oper.semAt_some
def Ga(V:Nat→Prop)(W W':World):Prop:=∀a u,W.cell? a=some u→¬V a.block→W'.cell? a=some u
theorem Ga.refl(V:Nat→Prop)(W:World):Ga V W W:=fun _ _ h _=>h
theorem Ga.trans{V:Nat→Prop}{A B C:World}(h:Ga V A B)(k:Ga V B C):Ga V A C:=fun a u hc hv=>k a u (h a u hc hv) hv
theorem Ga.pure{V:Nat→Prop}{W W':World}(h:Below W.heap.size W W'):Ga V W W':=fun _ _ hc _=>Ag h hc
theorem Asl{V:Nat→Prop}(W:World)(l:Nat)(o o':Obj)(h:W.heap[l]?=some o)(hc:o.isCells=false):Ga V W (W.putObj l o'):=by
 intro a u ha _;have hg:=grownBy_putObj' W l o';exact cell_kept ha hg (fun r e=>by cases e;exact⟨o,h,hc⟩)
def Agh(y:Nat×Nv):Array Value:=#[Aa Ab (y.1:Int),.agg #[Aa Ab y.2.k,Aa Ab y.2.n,Aa Ac (y.2.u:Int),.string ⟨y.2.s.toArray⟩,.slice y.2.A y.2.an y.2.ac,.slice y.2.B y.2.bn y.2.bc]]
def As3(n l:Nat)(V:Nat→Prop)(Y:List (Nat×Nv))(J Jx:Nat→World→Prop):Prop:=
 ∀i y W1,Y[i]?=some y→J i W1→YieldAt Fence.wide (n-1) Tryz.prog l (Agh y) W1 fun e W'=>
  (e= .returned (.bool true)∧J (i+1) W'∧Ga V W1 W'∧W1.heap.size≤W'.heap.size)∨(e= .returned (.bool false)∧Jx (i+1) W')
def Asf(W:World)(V:Nat→Prop)(J Jx:Nat→World→Prop)(i m:Nat)(e:Ending)(W':World):Prop:=
 (e= .returned (.bool true)∧J (i+m) W'∧Ga V W W'∧W.heap.size≤W'.heap.size)∨(e= .returned (.bool false)∧∃j,j≤i+m∧Jx j W')
def As2(Y:List (Nat×Nv))(i:Nat)(ys:List (Nat×Nv)):Prop:=∃a b,Y=a++ys++b∧a.length=i
theorem Alh(n l:Nat)(hn:1≤n)(V:Nat→Prop)(Y:List (Nat×Nv))(J Jx:Nat→World→Prop)(w0:World)(p:Nat→Prop)(hp:∀k,p k→¬V k)(hV:∀k,V k→k<w0.heap.size)(hY:As3 n l V Y J Jx)
  (hJ:∀s W W',J s W→Below W.heap.size W W'→J s W') {d:Nat} {x:Nv} {t:Tr} {ys:List (Nat×Nv)} (h:Gg w0 p d x t ys):
  ∀(i:Nat) (W:World),Ga V w0 W→w0.heap.size≤W.heap.size→J i W→As2 Y i ys→d+ys.length≤1099511627776→
   Calls Tryz.prog 116 #[.agg #[Aa Ab x.k,Aa Ab x.n,Aa Ac (x.u:Int),.string ⟨x.s.toArray⟩,.slice x.A x.an x.ac,.slice x.B x.bn x.bc],Aa Ab (d:Int),.func (.yield l) #[] #[]] W (Asf W V J Jx i ys.length):=by
 have HY:=Hd hY;have HJ0:=Hd hJ;clear hY hJ
 induction h with
 | @mk d x ks l' vs yss h1 ha hac hx h2 hb hbc hy hl hyl hc ih=>
  intro i W hK hs hJp hN hd;have HIH:=Hd ih;have HI2:=Hd (show Fh W x.B x.bn vs from⟨h2.1,Ns h2.2 hb fun a u hc hpa=>hK a u hc (hp _ hpa)⟩);have HPB:=Hd hb;have hbn:x.bn≤1099511627776:=by omega
  have hvn:vs.length=x.bn:=h2.1;have hB:=(Below.refl W.heap.size W).alloc (Ath _) (.cells #[Aa Ab x.k,Aa Ab x.n,Aa Ac (x.u:Int),.string ⟨x.s.toArray⟩,.slice x.A x.an x.ac,.slice x.B x.bn x.bc] 26);have HB:=Hd hB;have HX:=Hd (Af.new W 26 #[Aa Ab x.k,Aa Ab x.n,Aa Ac (x.u:Int),.string ⟨x.s.toArray⟩,.slice x.A x.an x.ac,.slice x.B x.bn x.bc]);have HJ:=Hd (HJ0.o _ _ _ hJp hB);have HNV:=Hd (show ¬V W.heap.size from fun hv=>by have:=hV _ hv;omega);obtain⟨fn,tmps,assign,body,hy',hR⟩:=HY.o i (d,x) _ (by obtain⟨a,b,e1,e2⟩:=hN;rw [e1,←e2];simp) HJ.o;have HKK:=Hd hK;have HLL:=Hd (show i+1≤i+((d,x)::yss.flatten).length by simp only [Atp];omega);have HN:=Hd hN;have HD:=Hd hd;have hd0:(d:Int)≤1099511627776:=by omega
  rw [show Agh (d,x)=#[Aa Ab (d:Int),.agg #[Aa Ab x.k,Aa Ab x.n,Aa Ac (x.u:Int),.string ⟨x.s.toArray⟩,.slice x.A x.an x.ac,.slice x.B x.bn x.bc]] from rfl] at hy';clear ih h1 ha hac hx h2 hb hbc hy hc hK hJp hN hB;go_enter Tryz.func116,Tryz.ntmps116;go_upto_region 1 with fail
  refine(wpIn_wide (n:=n)).1 ?_
  gi_wp2
  refine hR.mono ?_;rintro e W9 (⟨rfl,hJ9,hk9,hs9⟩|⟨rfl,hJ9⟩)
  ·have HK9:=Hd (show Ga V w0 W9 from(HKK.o.trans (Ga.pure HB.o)).trans hk9);have HKW:=Hd (show Ga V W W9 from(Ga.pure HB.o).trans hk9);have HS9:=Hd (show W.heap.size≤W9.heap.size from Nat.le_trans HB.o.size hs9);have HJ9:=Hd (show J (i+1+(yss.take 0).flatten.length) W9 from hJ9);have HC5:=Hd (show Ga V (W.alloc (.cells #[Aa Ab x.k,Aa Ab x.n,Aa Ac (x.u:Int),.string ⟨x.s.toArray⟩,.slice x.A x.an x.ac,.slice x.B x.bn x.bc] 26)) W9 from hk9);have c5:W9.cell? ⟨W.heap.size,5,none⟩=some (.slice x.B x.bn x.bc):=hk9 _ _ (HX.o.cell 5) HNV.o;clear hJ9 hk9 hs9 hR hy' HJ
   gi_wp2
   go_wp2_with fail;go_loopw [17] (fun u wr=>∃k:Nat,k≤x.bn∧u= Aa Ab k∧J (i+1+(yss.take k).flatten.length) wr∧Ga V w0 wr∧Ga V W wr∧W.heap.size≤wr.heap.size) (fun u _=>x.bn-(intOf u).toNat)
   case atStart=>exact⟨0,Nat.zero_le _,rfl,HJ9.o,HK9.o,HKW.o,HS9.o⟩
   case round=>
    obtain⟨k,hk,rfl,hj,hk0,hkw,hsz⟩:=hrel;have HJR:=Hd hj;have HK0:=Hd hk0;have HKR:=Hd hkw;have HSR:=Hd hsz;clear hj hk0 hkw hsz HJ9 HK9 HKW HS9 c5;by_cases hlt:k<x.bn
    ·obtain⟨v,hv⟩:∃v,vs[k]?=some v:=⟨_,Ati (by omega)⟩;obtain⟨t',ht'⟩:∃t',l'[k]?=some t':=⟨_,Ati (by omega)⟩;obtain⟨ys',hys⟩:∃ys',yss[k]?=some ys':=⟨_,Ati (by omega)⟩;have hIr:Fh wr x.B x.bn vs:=⟨HI2.o.1,Ns HI2.o.2 HPB.o fun a u hc hpa=>HKR.o a u hc (hp _ hpa)⟩;obtain⟨g,off,e,v0,v1,v2,v3,v4,v5⟩:=Gc hIr hv;have ht:(yss.take (k+1)).flatten=(yss.take k).flatten++ys':=by
      obtain⟨h1,h2⟩:=List.getElem?_eq_some_iff.1 hys;rw [List.take_succ_eq_append_getElem h1,List.flatten_append,h2];simp
     have hle:(yss.take k).flatten.length+ys'.length≤yss.flatten.length:=by
      rw [←Atj,←ht]
      conv=>rhs;rw [←List.take_append_drop (k+1) yss]
      rw [List.flatten_append,Atj];omega
     have HT:=Hd ht;have HLE:=Hd hle;have hB2:=(Below.refl wr.heap.size wr).alloc (Ath _) (.cells #[Aa Ab v.k,Aa Ab v.n,Aa Ac (v.u:Int),.string ⟨v.s.toArray⟩,.slice v.A v.an v.ac,.slice v.B v.bn v.bc] 26);have HB2:=Hd hB2;have HCAL:=Hd (HIH.o k v t' ys' hv ht' hys (i+1+(yss.take k).flatten.length) _ (HK0.o.trans (Ga.pure hB2)) (Nat.le_trans hs (Nat.le_trans HSR.o hB2.size)) (HJ0.o _ _ _ HJR.o hB2)
      (by
       obtain⟨a,b,e1,e2⟩:=HN.o;refine⟨a++(d,x)::(yss.take k).flatten,(yss.drop (k+1)).flatten++b,?_,by simp only [Atj,Atp];omega⟩;rw [e1]
       conv=>lhs;rw [←List.take_append_drop (k+1) yss,List.flatten_append,ht]
       simp) (by have h1:=HD.o;simp only [Atp] at h1;omega))
     have e1:((d+1:Nat):Int)=(d:Int)+1:=by omega
     rw [e1] at HCAL;have hk0':(0:Int)≤(k:Int):=by omega
     have hkl:(k:Int)<(x.bn:Int):=by omega
     rw [e];clear ht hle hB2 hIr hv ht' hys e1;go_wp2_with fail;go_at_call 116;refine HCAL.o.mono ?_;rintro e W3 (⟨rfl,hj3,hk3,hs3⟩|⟨rfl,q,hq,hjx⟩)
     ·have HJ3:=Hd (show J (i+1+(yss.take (k+1)).flatten.length) W3 by rw [HT.o,Atj,←Nat.add_assoc];exact hj3);have HK3:=Hd (show Ga V wr W3 from(Ga.pure HB2.o).trans hk3);have HS3:=Hd (Nat.le_trans HB2.o.size hs3);clear hj3 hk3 hs3 v0 v1 v2 v3 v4 v5 e;go_wp2_with fail;go_roundw
      case rel=>exact⟨k+1,by omega,by go_num,HJ3.o,HK0.o.trans HK3.o,HKR.o.trans HK3.o,Nat.le_trans HSR.o HS3.o⟩
      case measure=>simp [intOf];omega
     ·have HQ:=Hd (show ∃j,j≤i+((d,x)::yss.flatten).length∧Jx j W3 from⟨q,by
       have h1:(yss.take k).flatten.length+ys'.length≤yss.flatten.length:=HLE.o;simp only [Atp];omega,hjx⟩)
      clear hq hjx v0 v1 v2 v3 v4 v5 e;go_wp2_with fail;go_ret;exact .inr ⟨rfl,HQ.o⟩
    ·have hkk:k=x.bn:=by omega
     have HE:=Hd (show(yss.take k).flatten=yss.flatten by rw [Att (by omega)]);have hd1:decide ((k:Int)<(x.bn:Int))=false:=decide_eq_false (by omega);have hd2:decide (k<x.bn)=false:=decide_eq_false (by omega);clear hkk;go_wp2_with fail;go_ret;exact .inl ⟨rfl,by have h:=HJR.o;rw [HE.o,Nat.add_assoc,Nat.add_comm 1] at h;exact h,HKR.o,HSR.o⟩
  ·have HJ9:=Hd hJ9;clear hJ9 hR hy' HJ
   gi_wp2
   go_wp2_with fail;go_ret;exact .inr ⟨rfl,i+1,HLL.o,HJ9.o⟩
theorem Adw(x:Nv)(w:World):Calls Tryz.prog 73 #[.agg #[Aa Ab x.k,Aa Ab x.n,Aa Ac (x.u:Int),.string ⟨x.s.toArray⟩,.slice x.A x.an x.ac,.slice x.B x.bn x.bc]] w fun e w'=>e= .returned (.func (.func 115) #[] #[.pointer (some ⟨w.heap.size,0,none⟩)])∧w'=w.alloc (.cells #[Aa Ab x.k,Aa Ab x.n,Aa Ac (x.u:Int),.string ⟨x.s.toArray⟩,.slice x.A x.an x.ac,.slice x.B x.bn x.bc] 26):=by
 go_enter Tryz.func73,Tryz.ntmps73;go_wp2;go_ret;exact⟨rfl,rfl⟩
def KpW(V:Nat→Prop)(W W':World):Prop:=Ga V W W'∧W.heap.size≤W'.heap.size
theorem Y5(x:Nv)(t:Tr)(Y:List (Nat×Nv))(V p:Nat→Prop)(b:Nat)(w:World)(n:Nat)(hn:1≤n)(h:Gg w p 0 x t Y)(hb:Af w b 26 #[Aa Ab x.k,Aa Ab x.n,Aa Ac (x.u:Int),.string ⟨x.s.toArray⟩,.slice x.A x.an x.ac,.slice x.B x.bn x.bc])(hp:∀k,p k→¬V k)(hV:∀k,V k→k<w.heap.size)(hm:Y.length≤1099511627776):
  SeqStopsK Fence.wide n Tryz.prog 115 #[.pointer (some ⟨b,0,none⟩)] (fun i:Fin Y.length=>Agh Y[i]) (KpW V) (fun xs=>xs=List.finRange Y.length) (fun pre=>pre<+:List.finRange Y.length) Y.length w:=by
 intro l J Jx W hW hJ hJx hY h0;have hbW:=hb.pure hW;obtain ⟨c0,c1,c2,c3,c4,c5⟩:=hbW.c6;have htk:∀i (hi:i<Y.length),(List.finRange Y.length).take (i+1)=(List.finRange Y.length).take i++ [⟨i,hi⟩]:=by
  intro i hi;rw [←List.take_append_getElem (by rw [List.length_finRange];exact hi)];simp
 have HWK:=Hd (Alh n l hn V Y (fun i W=>J ((List.finRange Y.length).take i) W) (fun i W=>Jx ((List.finRange Y.length).take i) W) w p hp hV
  (fun i y W1 hy hj=>by
   obtain⟨hi,rfl⟩:=List.getElem?_eq_some_iff.1 hy;have h1:=hY ((List.finRange Y.length).take i) ⟨i,hi⟩ W1 hj (by rw [List.length_take,List.length_finRange];omega);simp only [htk i hi];exact h1)
  (fun s W W' h hb=>hJ _ W W' none h ⟨hb.os,hb.tape,hb.output,hb.size,fun k hk _=>hb.block k hk⟩ (fun r e=>by cases e)) h 0 W (Ga.pure hW) hW.size (by rw [List.take_zero];exact h0) ⟨[],[],by simp,rfl⟩ (by omega))
 clear hb hbW h hW hJ hJx hY h0;refine callsIn_wide.2 ?_;go_enter Tryz.func115,Tryz.ntmps115;go_wp2_with fail;go_at_call 116;refine HWK.o.mono ?_;rintro e W3 (⟨rfl,hj3,hk3,hs3⟩|⟨rfl,q,hq,hjx⟩)
 ·have HJ3:=Hd (show J (List.finRange Y.length) W3 by
   have h:J ((List.finRange Y.length).take (0+Y.length)) W3:=hj3;rw [Att (by rw [List.length_finRange];omega)] at h;exact h)
  clear hj3 hk3 hs3 HWK c0 c1 c2 c3 c4 c5;go_wp2_with fail;go_end0;exact⟨⟨_,rfl⟩,.inl ⟨_,rfl,HJ3.o⟩⟩
 ·have HJX:=Hd (show Jx ((List.finRange Y.length).take q) W3 from hjx);clear hq hjx HWK c0 c1 c2 c3 c4 c5;go_wp2_with fail;go_end0;exact⟨⟨_,rfl⟩,.inr ⟨_,List.take_prefix _ _,HJX.o⟩⟩
def Kt(k:Int):Int:=if k=2∨k=3∨k=8 then 1 else if k=4∨k=9 then 2 else if k=5∨k=6∨k=7 then 4 else if k=17 then 8 else 0
theorem Aoc{k:Int}(h1:1≤k)(h2:k≤17):∀w,(Instr.index 239 (.agg #[Aa Ab 0,Aa Ab 0,Aa Ab 1,Aa Ab 1,Aa Ab 2,Aa Ab 4,Aa Ab 4,Aa Ab 4,Aa Ab 1,Aa Ab 2,Aa Ab 0,Aa Ab 0,Aa Ab 0,Aa Ab 0,Aa Ab 0,Aa Ab 0,Aa Ab 0,Aa Ab 8]) (Aa Ab k)).run Tryz.prog w= .ok (Aa Ab (Kt k)) w:=by
 obtain rfl|rfl|rfl|rfl|rfl|rfl|rfl|rfl|rfl|rfl|rfl|rfl|rfl|rfl|rfl|rfl|rfl:k=1∨k=2∨k=3∨k=4∨k=5∨k=6∨k=7∨k=8∨k=9∨k=10∨k=11∨k=12∨k=13∨k=14∨k=15∨k=16∨k=17:=by omega
 all_goals
  intro w
  kernel_rfl
theorem Hm(k r:Int)(w:World)(h1:1≤k)(h2:k≤17)(hr:Kt k=r):Calls Tryz.prog 117 #[Aa Ab k] w fun e w'=>e= .returned (Aa Ab r)∧w=w':=by
 have hidx:=Aoc h1 h2;rw [hr] at hidx;clear hr h1 h2;go_enter Tryz.func117,Tryz.ntmps117;go_wp2;go_ret;exact⟨rfl,rfl⟩
theorem Anf{k:Int}(h1:1≤k)(h2:k≤17):∀w,(Instr.index 239 (.agg #[Aa Ab 0,Aa Ab (-1),Aa Ab (-1),Aa Ab (-1),Aa Ab (-1),Aa Ab (-1),Aa Ab (-1),Aa Ab (-1),Aa Ab (-1),Aa Ab (-1),Aa Ab 0,Aa Ab 3,Aa Ab 4,Aa Ab 5,Aa Ab 2,Aa Ab 3,Aa Ab 4,Aa Ab 0]) (Aa Ab k)).run Tryz.prog w= .ok (Aa Ab (As k)) w:=by
 obtain rfl|rfl|rfl|rfl|rfl|rfl|rfl|rfl|rfl|rfl|rfl|rfl|rfl|rfl|rfl|rfl|rfl:k=1∨k=2∨k=3∨k=4∨k=5∨k=6∨k=7∨k=8∨k=9∨k=10∨k=11∨k=12∨k=13∨k=14∨k=15∨k=16∨k=17:=by omega
 all_goals
  intro w
  kernel_rfl
theorem J1(k r:Int)(w:World)(h1:1≤k)(h2:k≤17)(hr:As k=r):Calls Tryz.prog 118 #[Aa Ab k] w fun e w'=>e= .returned (Aa Ab r)∧w=w':=by
 have hidx:=Anf h1 h2;rw [hr] at hidx;clear hr h1 h2;go_enter Tryz.func118,Tryz.ntmps118;go_wp2;go_ret;exact⟨rfl,rfl⟩
theorem Uw(s:List UInt8):decide ((0:Int)≤Lib.indexByte s 0)=Br s:=by
 induction s with
 |nil=>rfl
 |cons b l ih=>
  unfold Lib.indexByte Br;simp only [List.any_cons];by_cases hb:(b==0)=true
  ·rw [if_pos hb,hb];rfl
  ·have hb':(b==0)=false:=by simpa using hb
   rw [if_neg hb,hb',Bool.false_or];have hge: -1≤Lib.indexByte l 0:=by
    clear ih
    induction l with
    |nil=>decide
    |cons a l ih2=>unfold Lib.indexByte;(repeat' split) <;>omega
   have ih':decide ((0:Int)≤Lib.indexByte l 0)=l.any fun c=>c==0:=ih
   rw [←ih'];by_cases hm:(Lib.indexByte l 0== -1)=true
   ·rw [if_pos hm];have:Lib.indexByte l 0= -1:=by simpa using hm
    rw [this]
   ·rw [if_neg hm];have:Lib.indexByte l 0≠ -1:=by simpa using hm
    exact decide_eq_decide.2 (by omega)
theorem Ajh(s:List UInt8)(r:Int)(w:World)(hr:Lib.indexByte s 0=r):Calls Tryz.prog 203 #[.string ⟨s.toArray⟩,.int .u8 0] w fun e w'=>e= .returned (Aa Ab r)∧w=w':=by
 have h:=Lib.run_indexByteString (P:=Tryz.prog) ⟨s.toArray⟩ 0 w;have e:(0:Int).toNat.toUInt8=0:=rfl;rw [e,show(⟨s.toArray⟩:ByteArray).data.toList=s from rfl,hr] at h;clear e hr;go_enter Tryz.func203,Tryz.ntmps203;go_wp2;rw [run_callFunc_extern Tryz.func305 (by kernel_rfl) (by kernel_rfl) (by kernel_rfl) (e:=Extern.BytealgIndexByte.indexByte) (by kernel_rfl),h];simp only [Result.andThen];rw [Oper.upon_value];go_wp2;go_ret;exact⟨rfl,rfl⟩
theorem Aaw(s:List UInt8)(r:Int)(w:World)(hr:Lib.indexByte s 0=r):Calls Tryz.prog 122 #[.string ⟨s.toArray⟩,.int .u8 0] w fun e w'=>e= .returned (Aa Ab r)∧w=w':=by
 go_enter Tryz.func122,Tryz.ntmps122;go_wp2_with (go_at_call 203;refine(Ajh s r _ hr).mono ?_;rintro e w' ⟨rfl,rfl⟩);go_ret;exact⟨rfl,rfl⟩
theorem Hn(s:List UInt8)(z:Bool)(w:World)(hz:Br s=z):Calls Tryz.prog 121 #[.string ⟨s.toArray⟩] w fun e w'=>e= .returned (.bool z)∧w=w':=by
 obtain⟨r,hr⟩:∃r,Lib.indexByte s 0=r:=⟨_,rfl⟩;have HR:=Hd hr;have hd:decide ((0:Int)≤r)=z:=by rw [←hr,Uw];exact hz
 clear hr hz;go_enter Tryz.func121,Tryz.ntmps121;go_wp2_with (go_at_call 122;refine(Aaw s r _ HR.o).mono ?_;rintro e w' ⟨rfl,rfl⟩);go_ret;exact⟨rfl,rfl⟩
theorem Adl(s:List UInt8)(w:World)(hz:Br s=false):Calls Tryz.prog 321 #[.string ⟨s.toArray⟩] w fun e w'=>e= .returned (Aa Ab 0)∧w=w':=by
 obtain⟨r,hr⟩:∃r,Lib.indexByte s 0=r:=⟨_,rfl⟩;have HR:=Hd hr;have hd:decide ((0:Int)≤r)=false:=by rw [←hr,Uw];exact hz
 clear hr hz;go_enter Tryz.func321,Tryz.ntmps321;go_wp2_with (go_at_call 122;refine(Aaw s r _ HR.o).mono ?_;rintro e w' ⟨rfl,rfl⟩);go_ret;exact⟨rfl,rfl⟩
end Go.Proofs.YtgbjodnegkbfoaaGreat
