/- Parts of the proof. -/
import Derived.Test.YtgbjodnegkbfoaaGreatQm12
import Derived.Test.YtgbjodnegkbfoaaGreatQm22
import Derived.Maps.Views
import Derived.Maps.Ext
import Derived.Maps.OwnSet
import Derived.DeepKeys4
set_option maxHeartbeats 4000000
set_option maxRecDepth 100000
open Go.Value renaming int→Aa
open Go.IntKind renaming i64→Ab,u64→Ac
open Nat renaming le_refl→Asp
open List renaming take_succ_eq_append_getElem→Asz
namespace Go.Proofs.YtgbjodnegkbfoaaGreat
open Go.RowKit Go.Acc
structure Pw(b g1 g2:Nat)(y:Int)(v:Bv)(l:List UInt8)(w:World)(o:Nat→Nat):Prop where
 m:Cg w o b l
 x:Ag w g1 403 #[.pointer (some ⟨b,0,none⟩),Aa Ab y]
 v:Ag w g2 210 #[Aa Ab (v.t:Int),Aa Ab (v.w:Int),Aa Ac (v.n:Int)]
section
variable {b g1 g2:Nat} {y:Int} {v:Bv} {l:List UInt8} {w w':World} {o:Nat→Nat}
theorem Pw.pure(h:Pw b g1 g2 y v l w o)(hb:Below w.heap.size w w'):Pw b g1 g2 y v l w' o:=⟨h.m.pure hb,h.x.pure hb,h.v.pure hb⟩
theorem Pw.cells(h:Pw b g1 g2 y v l w o):w.cell? ⟨g1,0,none⟩=some (.pointer (some ⟨b,0,none⟩))∧w.cell? ⟨g1,1,none⟩=some (Aa Ab y)∧w.cell? ⟨g2,0,none⟩=some (Aa Ab (v.t:Int))∧w.cell? ⟨g2,1,none⟩=some (Aa Ab (v.w:Int))∧w.cell? ⟨g2,2,none⟩=some (Aa Ac (v.n:Int)):=
 ⟨h.x.cell 0,h.x.cell 1,h.v.cell 0,h.v.cell 1,h.v.cell 2⟩
end
theorem Ai9(n:Nat):IntKind.u64.wrap (n:Int)=((n % 2^(8*8):Nat):Int):=by
 have h:=Ga n 64 (by omega);simpa using h
theorem Acu(b y:Nat)(v:Bv)(l:List UInt8)(w:World)(o:Nat→Nat)(h:Cg w o b l)(hy:Av (y:Int)=true)(hi:inl v.t=true)(hl:l.length+y≤1048576):
  Calls Tryz.prog 386 #[.agg #[.pointer (some ⟨b,0,none⟩),Aa Ab (y:Int)],.agg #[Aa Ab (v.t:Int),Aa Ab (v.w:Int),Aa Ac (v.n:Int)]] w (Db w o b (l++Ai y (v.n % 2^(8*y)))):=by
 rcases C1 hy with rfl|rfl|rfl|rfl
 ·clear hy;have HL:=Hd (show IntKind.u64.wrap ((v.n:Int)*72057594037927936)/72057594037927936=((v.n % 2^(8*1):Nat):Int) from Ga v.n 8 (by omega));have HY:=Hd (show Av ((1:Nat):Int)=true by decide);have HMM:=Hd (rfl:l.length=l.length);obtain⟨m,hm⟩:∃m,l.length=m:=⟨_,rfl⟩;replace HMM:=Hd hm;have HLL:=Hd (show l.length+1≤1048576 by omega);have HFQ:=Hd (I3 v.n 1);have HLQ:=Hd (Mj v.n (y:=1) (by decide));have HIV:=Hd (show Aw (v.t:Int)=true from hi);clear hi hm hl;have hB0:=Ba w (.cells #[.pointer (some ⟨b,0,none⟩),Aa Ab 1] 403) (.cells #[Aa Ab (v.t:Int),Aa Ab (v.w:Int),Aa Ac (v.n:Int)] 210);have HB0:=Hd hB0;have HS0:=Hd (show Pw b w.heap.size (w.heap.size+1) 1 v l ((w.alloc (.cells #[.pointer (some ⟨b,0,none⟩),Aa Ab 1] 403)).alloc (.cells #[Aa Ab (v.t:Int),Aa Ab (v.w:Int),Aa Ac (v.n:Int)] 210)) o from⟨h.pure hB0,(Ag.new w 403 #[.pointer (some ⟨b,0,none⟩),Aa Ab 1]).alloc _,B3 w _ _ _⟩);clear hB0 h;go_enter Tryz.func386,Tryz.ntmps386;go_wp2_with fail;generalize (w.alloc (.cells #[.pointer (some ⟨b,0,none⟩),Aa Ab 1] 403)).alloc (.cells #[Aa Ab (v.t:Int),Aa Ab (v.w:Int),Aa Ac (v.n:Int)] 210)=w1 at HB0 HS0⊢;generalize w.heap.size+1=g2 at HS0⊢;generalize hg1:w.heap.size=g1 at HS0⊢;clear hg1;obtain⟨x0,x1,x2,x3,x4⟩:=HS0.o.cells;go_region_held3 (fun w'=>w'.cell? ⟨g1,0,none⟩=some (.pointer (some ⟨b,0,none⟩))∧w'.cell? ⟨g2,2,none⟩=some (Aa Ac (v.n:Int))) (first|with_reducible exact⟨x0,x4⟩|with_reducible exact⟨Af x0,Af x4⟩) (first|(go_at_call 159;(with_reducible refine(C9 m (HS0.o.pure (Below.refl _ _).drew).m HMM.o).mono ?_);rintro e w' ⟨rfl,rfl⟩));have HS1:=Hd (HS0.o.pure (Below.refl _ _).drew);have HB1:=Hd HB0.o.drew;generalize w1.drew=w2 at HS1 HB1⊢;clear x0 x1 x2 x3 x4 HS0 HB0;obtain⟨x0,x1,x2,x3,x4⟩:=HS1.o.cells;go_wp2_with fail;go_at_call 90;refine(B8 (v.t:Int) _).mono ?_;rw [HIV.o];rintro e w3 ⟨rfl,hb⟩;have HB2:=Hd (Ad HB1.o hb);have HS2:=Hd (HS1.o.pure hb);clear hb x0 x1 x2 x3 x4;obtain⟨x0,x1,x2,x3,x4⟩:=HS2.o.cells;go_wp2_with fail;rw [HL.o];go_at_call 163;refine(D2 b 1 (v.n % 2^(8*1)) l _ o HS2.o.m HY.o HFQ.o HLQ.o HLL.o).mono ?_;rintro e w4 hR;have HR:=Hd (Db.from_pure HB2.o hR);obtain rfl:=hR.1;clear hR x0 x1 x2 x3 x4;go_wp2_with fail;go_end0;exact HR.o
 ·clear hy;have HL:=Hd (show IntKind.u64.wrap ((v.n:Int)*281474976710656)/281474976710656=((v.n % 2^(8*2):Nat):Int) from Ga v.n 16 (by omega));have HY:=Hd (show Av ((2:Nat):Int)=true by decide);have HMM:=Hd (rfl:l.length=l.length);obtain⟨m,hm⟩:∃m,l.length=m:=⟨_,rfl⟩;replace HMM:=Hd hm;have HLL:=Hd (show l.length+2≤1048576 by omega);have HFQ:=Hd (I3 v.n 2);have HLQ:=Hd (Mj v.n (y:=2) (by decide));have HIV:=Hd (show Aw (v.t:Int)=true from hi);clear hi hm hl;have hB0:=Ba w (.cells #[.pointer (some ⟨b,0,none⟩),Aa Ab 2] 403) (.cells #[Aa Ab (v.t:Int),Aa Ab (v.w:Int),Aa Ac (v.n:Int)] 210);have HB0:=Hd hB0;have HS0:=Hd (show Pw b w.heap.size (w.heap.size+1) 2 v l ((w.alloc (.cells #[.pointer (some ⟨b,0,none⟩),Aa Ab 2] 403)).alloc (.cells #[Aa Ab (v.t:Int),Aa Ab (v.w:Int),Aa Ac (v.n:Int)] 210)) o from⟨h.pure hB0,(Ag.new w 403 #[.pointer (some ⟨b,0,none⟩),Aa Ab 2]).alloc _,B3 w _ _ _⟩);clear hB0 h;go_enter Tryz.func386,Tryz.ntmps386;go_wp2_with fail;generalize (w.alloc (.cells #[.pointer (some ⟨b,0,none⟩),Aa Ab 2] 403)).alloc (.cells #[Aa Ab (v.t:Int),Aa Ab (v.w:Int),Aa Ac (v.n:Int)] 210)=w1 at HB0 HS0⊢;generalize w.heap.size+1=g2 at HS0⊢;generalize hg1:w.heap.size=g1 at HS0⊢;clear hg1;obtain⟨x0,x1,x2,x3,x4⟩:=HS0.o.cells;go_region_held3 (fun w'=>w'.cell? ⟨g1,0,none⟩=some (.pointer (some ⟨b,0,none⟩))∧w'.cell? ⟨g2,2,none⟩=some (Aa Ac (v.n:Int))) (first|with_reducible exact⟨x0,x4⟩|with_reducible exact⟨Af x0,Af x4⟩) (first|(go_at_call 159;(with_reducible refine(C9 m (HS0.o.pure (Below.refl _ _).drew).m HMM.o).mono ?_);rintro e w' ⟨rfl,rfl⟩));have HS1:=Hd (HS0.o.pure (Below.refl _ _).drew);have HB1:=Hd HB0.o.drew;generalize w1.drew=w2 at HS1 HB1⊢;clear x0 x1 x2 x3 x4 HS0 HB0;obtain⟨x0,x1,x2,x3,x4⟩:=HS1.o.cells;go_wp2_with fail;go_at_call 90;refine(B8 (v.t:Int) _).mono ?_;rw [HIV.o];rintro e w3 ⟨rfl,hb⟩;have HB2:=Hd (Ad HB1.o hb);have HS2:=Hd (HS1.o.pure hb);clear hb x0 x1 x2 x3 x4;obtain⟨x0,x1,x2,x3,x4⟩:=HS2.o.cells;go_wp2_with fail;rw [HL.o];go_at_call 163;refine(D2 b 2 (v.n % 2^(8*2)) l _ o HS2.o.m HY.o HFQ.o HLQ.o HLL.o).mono ?_;rintro e w4 hR;have HR:=Hd (Db.from_pure HB2.o hR);obtain rfl:=hR.1;clear hR x0 x1 x2 x3 x4;go_wp2_with fail;go_end0;exact HR.o
 ·clear hy;have HL:=Hd (show IntKind.u64.wrap ((v.n:Int)*4294967296)/4294967296=((v.n % 2^(8*4):Nat):Int) from Ga v.n 32 (by omega));have HY:=Hd (show Av ((4:Nat):Int)=true by decide);have HMM:=Hd (rfl:l.length=l.length);obtain⟨m,hm⟩:∃m,l.length=m:=⟨_,rfl⟩;replace HMM:=Hd hm;have HLL:=Hd (show l.length+4≤1048576 by omega);have HFQ:=Hd (I3 v.n 4);have HLQ:=Hd (Mj v.n (y:=4) (by decide));have HIV:=Hd (show Aw (v.t:Int)=true from hi);clear hi hm hl;have hB0:=Ba w (.cells #[.pointer (some ⟨b,0,none⟩),Aa Ab 4] 403) (.cells #[Aa Ab (v.t:Int),Aa Ab (v.w:Int),Aa Ac (v.n:Int)] 210);have HB0:=Hd hB0;have HS0:=Hd (show Pw b w.heap.size (w.heap.size+1) 4 v l ((w.alloc (.cells #[.pointer (some ⟨b,0,none⟩),Aa Ab 4] 403)).alloc (.cells #[Aa Ab (v.t:Int),Aa Ab (v.w:Int),Aa Ac (v.n:Int)] 210)) o from⟨h.pure hB0,(Ag.new w 403 #[.pointer (some ⟨b,0,none⟩),Aa Ab 4]).alloc _,B3 w _ _ _⟩);clear hB0 h;go_enter Tryz.func386,Tryz.ntmps386;go_wp2_with fail;generalize (w.alloc (.cells #[.pointer (some ⟨b,0,none⟩),Aa Ab 4] 403)).alloc (.cells #[Aa Ab (v.t:Int),Aa Ab (v.w:Int),Aa Ac (v.n:Int)] 210)=w1 at HB0 HS0⊢;generalize w.heap.size+1=g2 at HS0⊢;generalize hg1:w.heap.size=g1 at HS0⊢;clear hg1;obtain⟨x0,x1,x2,x3,x4⟩:=HS0.o.cells;go_region_held3 (fun w'=>w'.cell? ⟨g1,0,none⟩=some (.pointer (some ⟨b,0,none⟩))∧w'.cell? ⟨g2,2,none⟩=some (Aa Ac (v.n:Int))) (first|with_reducible exact⟨x0,x4⟩|with_reducible exact⟨Af x0,Af x4⟩) (first|(go_at_call 159;(with_reducible refine(C9 m (HS0.o.pure (Below.refl _ _).drew).m HMM.o).mono ?_);rintro e w' ⟨rfl,rfl⟩));have HS1:=Hd (HS0.o.pure (Below.refl _ _).drew);have HB1:=Hd HB0.o.drew;generalize w1.drew=w2 at HS1 HB1⊢;clear x0 x1 x2 x3 x4 HS0 HB0;obtain⟨x0,x1,x2,x3,x4⟩:=HS1.o.cells;go_wp2_with fail;go_at_call 90;refine(B8 (v.t:Int) _).mono ?_;rw [HIV.o];rintro e w3 ⟨rfl,hb⟩;have HB2:=Hd (Ad HB1.o hb);have HS2:=Hd (HS1.o.pure hb);clear hb x0 x1 x2 x3 x4;obtain⟨x0,x1,x2,x3,x4⟩:=HS2.o.cells;go_wp2_with fail;rw [HL.o];go_at_call 163;refine(D2 b 4 (v.n % 2^(8*4)) l _ o HS2.o.m HY.o HFQ.o HLQ.o HLL.o).mono ?_;rintro e w4 hR;have HR:=Hd (Db.from_pure HB2.o hR);obtain rfl:=hR.1;clear hR x0 x1 x2 x3 x4;go_wp2_with fail;go_end0;exact HR.o
 ·clear hy;have HL:=Hd (Ai9 v.n);have HY:=Hd (show Av ((8:Nat):Int)=true by decide);have HMM:=Hd (rfl:l.length=l.length);obtain⟨m,hm⟩:∃m,l.length=m:=⟨_,rfl⟩;replace HMM:=Hd hm;have HLL:=Hd (show l.length+8≤1048576 by omega);have HFQ:=Hd (I3 v.n 8);have HLQ:=Hd (Mj v.n (y:=8) (by decide));have HIV:=Hd (show Aw (v.t:Int)=true from hi);clear hi hm hl;have hB0:=Ba w (.cells #[.pointer (some ⟨b,0,none⟩),Aa Ab 8] 403) (.cells #[Aa Ab (v.t:Int),Aa Ab (v.w:Int),Aa Ac (v.n:Int)] 210);have HB0:=Hd hB0;have HS0:=Hd (show Pw b w.heap.size (w.heap.size+1) 8 v l ((w.alloc (.cells #[.pointer (some ⟨b,0,none⟩),Aa Ab 8] 403)).alloc (.cells #[Aa Ab (v.t:Int),Aa Ab (v.w:Int),Aa Ac (v.n:Int)] 210)) o from⟨h.pure hB0,(Ag.new w 403 #[.pointer (some ⟨b,0,none⟩),Aa Ab 8]).alloc _,B3 w _ _ _⟩);clear hB0 h;go_enter Tryz.func386,Tryz.ntmps386;go_wp2_with fail;generalize (w.alloc (.cells #[.pointer (some ⟨b,0,none⟩),Aa Ab 8] 403)).alloc (.cells #[Aa Ab (v.t:Int),Aa Ab (v.w:Int),Aa Ac (v.n:Int)] 210)=w1 at HB0 HS0⊢;generalize w.heap.size+1=g2 at HS0⊢;generalize hg1:w.heap.size=g1 at HS0⊢;clear hg1;obtain⟨x0,x1,x2,x3,x4⟩:=HS0.o.cells;go_region_held3 (fun w'=>w'.cell? ⟨g1,0,none⟩=some (.pointer (some ⟨b,0,none⟩))∧w'.cell? ⟨g2,2,none⟩=some (Aa Ac (v.n:Int))) (first|with_reducible exact⟨x0,x4⟩|with_reducible exact⟨Af x0,Af x4⟩) (first|(go_at_call 159;(with_reducible refine(C9 m (HS0.o.pure (Below.refl _ _).drew).m HMM.o).mono ?_);rintro e w' ⟨rfl,rfl⟩));have HS1:=Hd (HS0.o.pure (Below.refl _ _).drew);have HB1:=Hd HB0.o.drew;generalize w1.drew=w2 at HS1 HB1⊢;clear x0 x1 x2 x3 x4 HS0 HB0;obtain⟨x0,x1,x2,x3,x4⟩:=HS1.o.cells;go_wp2_with fail;go_at_call 90;refine(B8 (v.t:Int) _).mono ?_;rw [HIV.o];rintro e w3 ⟨rfl,hb⟩;have HB2:=Hd (Ad HB1.o hb);have HS2:=Hd (HS1.o.pure hb);clear hb x0 x1 x2 x3 x4;obtain⟨x0,x1,x2,x3,x4⟩:=HS2.o.cells;go_wp2_with fail;rw [HL.o];go_at_call 163;refine(D2 b 8 (v.n % 2^(8*8)) l _ o HS2.o.m HY.o HFQ.o HLQ.o HLL.o).mono ?_;rintro e w4 hR;have HR:=Hd (Db.from_pure HB2.o hR);obtain rfl:=hR.1;clear hR x0 x1 x2 x3 x4;go_wp2_with fail;go_end0;exact HR.o
theorem Acv(b y q m:Nat)(v:Bv)(l:List UInt8)(w:World)(o:Nat→Nat)(h:Cg w o b l)(hy:Av (y:Int)=true)(hi:inl v.t=false)(hm:l.length=m)(hle:v.n≤m)(hq:m-v.n=q)(hfit:q<2^(8*y))(hl:m+y≤1048576):
  Calls Tryz.prog 386 #[.agg #[.pointer (some ⟨b,0,none⟩),Aa Ab (y:Int)],.agg #[Aa Ab (v.t:Int),Aa Ab (v.w:Int),Aa Ac (v.n:Int)]] w (Db w o b (l++Ai y q)):=by
 have HY:=Hd hy;have HMM:=Hd hm;have HLL:=Hd (show l.length+y≤1048576 by omega);have HFQ:=Hd (show Dv y q=true from decide_eq_true (.inr hfit));have HLQ:=Hd (show(q:Int)<18446744073709551616 by omega);have HIV:=Hd (show Aw (v.t:Int)=false from hi);have e1:IntKind.u64.wrap (m:Int)=m:=B7 _ (by omega);have e2:(m:Int)-(v.n:Int)=q:=by omega
 have e3:IntKind.u64.wrap (q:Int)=q:=B7 _ (by omega);clear hy hm hfit hi hq hle hl;have hB0:=Ba w (.cells #[.pointer (some ⟨b,0,none⟩),Aa Ab (y:Int)] 403) (.cells #[Aa Ab (v.t:Int),Aa Ab (v.w:Int),Aa Ac (v.n:Int)] 210);have HB0:=Hd hB0;have HS0:=Hd (show Pw b w.heap.size (w.heap.size+1) (y:Int) v l ((w.alloc (.cells #[.pointer (some ⟨b,0,none⟩),Aa Ab (y:Int)] 403)).alloc (.cells #[Aa Ab (v.t:Int),Aa Ab (v.w:Int),Aa Ac (v.n:Int)] 210)) o from⟨h.pure hB0,(Ag.new w 403 #[.pointer (some ⟨b,0,none⟩),Aa Ab (y:Int)]).alloc _,B3 w _ _ _⟩);clear hB0 h;go_enter Tryz.func386,Tryz.ntmps386;go_wp2_with fail;generalize (w.alloc (.cells #[.pointer (some ⟨b,0,none⟩),Aa Ab (y:Int)] 403)).alloc (.cells #[Aa Ab (v.t:Int),Aa Ab (v.w:Int),Aa Ac (v.n:Int)] 210)=w1 at HB0 HS0⊢;generalize w.heap.size+1=g2 at HS0⊢;generalize hg1:w.heap.size=g1 at HS0⊢;clear hg1;obtain⟨x0,x1,x2,x3,x4⟩:=HS0.o.cells;go_region_held3 (fun w'=>w'.cell? ⟨g1,0,none⟩=some (.pointer (some ⟨b,0,none⟩))∧w'.cell? ⟨g2,2,none⟩=some (Aa Ac (v.n:Int))) (first|with_reducible exact⟨x0,x4⟩|with_reducible exact⟨Af x0,Af x4⟩) (first|(go_at_call 159;(with_reducible refine(C9 m (HS0.o.pure (Below.refl _ _).drew).m HMM.o).mono ?_);rintro e w' ⟨rfl,rfl⟩));have HS1:=Hd (HS0.o.pure (Below.refl _ _).drew);have HB1:=Hd HB0.o.drew;generalize w1.drew=w2 at HS1 HB1⊢;clear x0 x1 x2 x3 x4 e1 e2 e3 HS0 HB0;obtain⟨x0,x1,x2,x3,x4⟩:=HS1.o.cells;go_wp2_with fail;go_at_call 90;refine(B8 (v.t:Int) _).mono ?_;rw [HIV.o];rintro e w3 ⟨rfl,hb⟩;have HB2:=Hd (Ad HB1.o hb);have HS2:=Hd (HS1.o.pure hb);clear hb x0 x1 x2 x3 x4;obtain⟨x0,x1,x2,x3,x4⟩:=HS2.o.cells;go_wp2_with fail;go_at_call 163;refine(D2 b y q l _ o HS2.o.m HY.o HFQ.o HLQ.o HLL.o).mono ?_;rintro e w4 hR;have HR:=Hd (Db.from_pure HB2.o hR);obtain rfl:=hR.1;clear hR x0 x1 x2 x3 x4;go_wp2_with fail;go_end0;exact HR.o
theorem P8(b y:Nat)(v:Bv)(l:List UInt8)(w:World)(o:Nat→Nat)(h:Cg w o b l)(hy:Av (y:Int)=true)(hf:inl v.t=false→v.n≤l.length∧l.length-v.n<2^(8*y))(hl:l.length+y≤1048576):
  Calls Tryz.prog 386 #[.agg #[.pointer (some ⟨b,0,none⟩),Aa Ab (y:Int)],.agg #[Aa Ab (v.t:Int),Aa Ab (v.w:Int),Aa Ac (v.n:Int)]] w (Db w o b (l++Ai y (Ca y l.length v))):=by
 cases hi:inl v.t with
 |true=>
  have e:Ca y l.length v=v.n % 2^(8*y):=by unfold Ca;rw [if_pos hi]
  rw [e];exact Acu b y v l w o h hy hi hl
 |false=>
  have e:Ca y l.length v=l.length-v.n:=by unfold Ca;rw [if_neg (by rw [hi];decide)]
  rw [e];obtain⟨h1,h2⟩:=hf hi;exact Acv b y _ l.length v l w o h hy hi rfl h1 rfl h2 hl
theorem Ajm(b y:Nat)(v:Bv)(l:List UInt8)(w:World)(o:Nat→Nat)(h:Cg w o b l)(hy:Av (y:Int)=true)(hlg:Bc (v.t:Int)=true)(hww:Av (v.w:Int)=true)(hl:l.length+1≤1048576):
  Calls Tryz.prog 387 #[.agg #[.pointer (some ⟨b,0,none⟩),Aa Ab (y:Int)],.agg #[Aa Ab (v.t:Int),Aa Ab (v.w:Int),Aa Ac (v.n:Int)]] w (Db w o b (l++ [C5 y v])):=by
 obtain⟨ow,how⟩:∃x,(if inl v.t=true then y else v.w)=x:=⟨_,rfl⟩;have HPW:=Hd (show Av (ow:Int)=true by rw [←how];split;exact hy;exact hww);have HOW:=Hd how;obtain⟨tb,htb⟩:∃x,UInt8.ofNat (4*v.t+bCode ow)=x:=⟨_,rfl⟩;have HTB:=Hd (show C5 y v=tb by unfold C5;rw [how];exact htb);have HPK:=Hd (fun W=>by have h:=Qx v.t ow W hlg HPW.o;rw [htb] at h;exact h);have HLL:=Hd hl;obtain⟨iv,hiv⟩:∃x,Aw (v.t:Int)=x:=⟨_,rfl⟩;have HIV:=Hd hiv;rw [HTB.o];clear hy hlg hww hl how htb hiv;have hB0:=Ba w (.cells #[.pointer (some ⟨b,0,none⟩),Aa Ab (y:Int)] 403) (.cells #[Aa Ab (v.t:Int),Aa Ab (v.w:Int),Aa Ac (v.n:Int)] 210);have HB0:=Hd hB0;have HS0:=Hd (show Pw b w.heap.size (w.heap.size+1) (y:Int) v l ((w.alloc (.cells #[.pointer (some ⟨b,0,none⟩),Aa Ab (y:Int)] 403)).alloc (.cells #[Aa Ab (v.t:Int),Aa Ab (v.w:Int),Aa Ac (v.n:Int)] 210)) o from⟨h.pure hB0,(Ag.new w 403 #[.pointer (some ⟨b,0,none⟩),Aa Ab (y:Int)]).alloc _,B3 w _ _ _⟩);clear hB0 h;go_enter Tryz.func387,Tryz.ntmps387;go_wp2_with fail;generalize (w.alloc (.cells #[.pointer (some ⟨b,0,none⟩),Aa Ab (y:Int)] 403)).alloc (.cells #[Aa Ab (v.t:Int),Aa Ab (v.w:Int),Aa Ac (v.n:Int)] 210)=w1 at HB0 HS0⊢;generalize w.heap.size+1=g2 at HS0⊢;generalize hg1:w.heap.size=g1 at HS0⊢;clear hg1;obtain⟨x0,x1,x2,x3,x4⟩:=HS0.o.cells;go_at_call 90;refine(B8 (v.t:Int) _).mono ?_;rw [HIV.o];rintro e w2 ⟨rfl,hb⟩;have HB1:=Hd (Ad HB0.o hb);have HS1:=Hd (HS0.o.pure hb);clear hb x0 x1 x2 x3 x4 HS0 HB0;obtain⟨x0,x1,x2,x3,x4⟩:=HS1.o.cells;cases iv with
 |true=>
  obtain rfl:y=ow:=by rw [←HOW.o];exact(if_pos HIV.o).symm
  go_wp2_with fail;go_at_call 162;refine(HPK.o _).mono ?_;rintro e w3 ⟨rfl,hb⟩;have HB2:=Hd (Ad HB1.o hb);have HS2:=Hd (HS1.o.pure hb);clear hb x0 x1 x2 x3 x4;obtain⟨x0,x1,x2,x3,x4⟩:=HS2.o.cells;have hcv:=Ji (c:=1) (O8 w3 tb);have hB9:Below w3.heap.size w3 ((w3.alloc (.cells #[.int .u8 (tb.toNat:Int)] 5)).alloc (.cells #[.string ⟨[tb].toArray⟩] 9)):=Ba _ _ _;have HB9:=Hd (HS2.o.m.fresh hB9 0);have HBB:=Hd hB9;have hS9:=N0 (w3.alloc (.cells #[.int .u8 (tb.toNat:Int)] 5)) [tb];have eS:(w3.alloc (.cells #[.int .u8 (tb.toNat:Int)] 5)).heap.size=w3.heap.size+1:=by simp
  rw [eS] at hS9;have HS9:=Hd hS9;have HO9:=Hd (show ∀ad,(some ⟨w3.heap.size+1,0,none⟩:Option Addr)=some ad→Aq o w3.heap.size 0 ad.block≠1 from fun ad h=>by injection h with h;subst h;rw [As (by show w3.heap.size≤w3.heap.size+1;omega)];omega);clear hB9 hS9 eS;go_wp2_with fail;go_at_call 164;refine(Gc b 1 _ _ [[tb]] l _ _ HB9.o HS9.o HO9.o HLL.o (by omega)).mono ?_;rintro e w4 hR;have HR:=Hd (Db.from_pure HB2.o (Db.from_fresh HBB.o hR));obtain rfl:=hR.1;clear hR hcv x0 x1 x2 x3 x4;go_wp2_with fail;go_end0;exact HR.o
 |false=>
  obtain rfl:ow=v.w:=by rw [←HOW.o];exact if_neg (by rw [show inl v.t=false from HIV.o];decide)
  go_wp2_with fail;go_at_call 162;refine(HPK.o _).mono ?_;rintro e w3 ⟨rfl,hb⟩;have HB2:=Hd (Ad HB1.o hb);have HS2:=Hd (HS1.o.pure hb);clear hb x0 x1 x2 x3 x4;obtain⟨x0,x1,x2,x3,x4⟩:=HS2.o.cells;have hcv:=Ji (c:=1) (O8 w3 tb);have hB9:Below w3.heap.size w3 ((w3.alloc (.cells #[.int .u8 (tb.toNat:Int)] 5)).alloc (.cells #[.string ⟨[tb].toArray⟩] 9)):=Ba _ _ _;have HB9:=Hd (HS2.o.m.fresh hB9 0);have HBB:=Hd hB9;have hS9:=N0 (w3.alloc (.cells #[.int .u8 (tb.toNat:Int)] 5)) [tb];have eS:(w3.alloc (.cells #[.int .u8 (tb.toNat:Int)] 5)).heap.size=w3.heap.size+1:=by simp
  rw [eS] at hS9;have HS9:=Hd hS9;have HO9:=Hd (show ∀ad,(some ⟨w3.heap.size+1,0,none⟩:Option Addr)=some ad→Aq o w3.heap.size 0 ad.block≠1 from fun ad h=>by injection h with h;subst h;rw [As (by show w3.heap.size≤w3.heap.size+1;omega)];omega);clear hB9 hS9 eS;go_wp2_with fail;go_at_call 164;refine(Gc b 1 _ _ [[tb]] l _ _ HB9.o HS9.o HO9.o HLL.o (by omega)).mono ?_;rintro e w4 hR;have HR:=Hd (Db.from_pure HB2.o (Db.from_fresh HBB.o hR));obtain rfl:=hR.1;clear hR hcv x0 x1 x2 x3 x4;go_wp2_with fail;go_end0;exact HR.o
theorem Abd(W:World)(v:Bv):E3 (W.alloc (.cells #[Aa Ab (v.t:Int),Aa Ab (v.w:Int),Aa Ac (v.n:Int)] 210)) W.heap.size (some ⟨W.heap.size,0,none⟩) 1 1 [vv v]:=by
 refine⟨rfl,?_⟩;have:=World.ownsRow_lit (base:=W.heap.size) (e:=210) (size:=3) W #[Aa Ab (v.t:Int),Aa Ab (v.w:Int),Aa Ac (v.n:Int)] 1 (Asp _) (by simp only [maxLen];omega) rfl;exact this
theorem Ac9(kv:Bv)(n c:Nat)(A:Option Addr)(vs:List Bv)(w:World)(hv:Dx w A n (vs.map vv))(hn:n≤1000000)(hk:kv.t=14)(hkw:Av (kv.w:Int)=true)
  (hE:∀v∈vs,Bc (v.t:Int)=true∧Av (v.w:Int)=true):
  Calls Tryz.prog 385 #[.agg #[Aa Ab (kv.t:Int),Aa Ab (kv.w:Int),Aa Ac (kv.n:Int)],.slice A n c] w fun e w'=>e= .returned (Aa Ab 0)∧Below w.heap.size w w':=by
 have hB:=Ba w (.cells #[Aa Ab (kv.t:Int),Aa Ab (kv.w:Int),Aa Ac (kv.n:Int)] 210) (.cells #[Aa Ab (kv.t:Int),Aa Ab (kv.w:Int),Aa Ac (kv.n:Int)] 210);have HB:=Hd hB;have HV:=Hd (hv.pure hB);have hown:=Abd (w.alloc (.cells #[Aa Ab (kv.t:Int),Aa Ab (kv.w:Int),Aa Ac (kv.n:Int)] 210)) kv;have eS:(w.alloc (.cells #[Aa Ab (kv.t:Int),Aa Ab (kv.w:Int),Aa Ac (kv.n:Int)] 210)).heap.size=w.heap.size+1:=by simp
 rw [eS] at hown;have HOW:=Hd hown;have HE:=Hd (show ∀v∈kv::vs,Bc (v.t:Int)=true∧Av (v.w:Int)=true from fun v h=>by
  rcases List.mem_cons.1 h with rfl|h
  ·exact⟨by rw [hk];decide,hkw⟩
  ·exact hE v h)
 have hk14:(kv.t:Int)=14:=by omega
 have h14:((kv.t:Int) != 14)=false:=by rw [hk14];rfl
 clear hB hv hown eS hk hkw hE hk14;go_enter Tryz.func385,Tryz.ntmps385;go_wp2_with (at_builtin;refine Dm _ rfl (.tmp 13) (.tmp 14) _ rfl 210 _ 3 24 Tryz.underlying185 Jv rfl (by omega) Gl J9 _ _ _ _ _ rfl HOW.o _ _ _ _ rfl HV.o (by omega) (by simp) ?_;intro A1 c1 w1 hown1 hfr1 hat1);have HI:=Hd (show Dx w1 A1 (1+n) ((kv::vs).map vv) from hown1.is);have HB1:=Hd (HB.o.trans (hfr1.belowB (fun k hk ⟨ad,h,h'⟩=>by injection h with h;subst h;have h2:k=w.heap.size+1:=h';omega) (by have:=HB.o.size;omega)));clear hown1 hfr1 hat1;go_loopw [17] (fun u wr=>∃k:Nat,k≤1+n∧u= Aa Ab k∧Below w1.heap.size w1 wr) (fun u _=>1+n-(intOf u).toNat)
 case atStart=>exact⟨0,Nat.zero_le _,rfl,Below.refl _ _⟩
 case round=>
  obtain⟨k,hk,rfl,hbr⟩:=hrel;have HBR:=Hd hbr;have HIR:=Hd (HI.o.pure hbr);clear hbr;by_cases hlt:k<1+n
  ·obtain⟨g,off,v,rfl,hvk,h0,h1,h2⟩:=Gg HIR.o hlt;have HVE:=Hd (HE.o v (List.mem_of_getElem? hvk));have hk0:(0:Int)≤(k:Int):=by omega
   have hkn:(k:Int)<1+(n:Int):=by omega
   have hkn2:(k:Int)<((1+n:Nat):Int):=by omega
   have HBA:=Hd (HBR.o.alloc HBR.o.size (.cells #[Aa Ab (v.t:Int),Aa Ab (v.w:Int),Aa Ac (v.n:Int)] 210));have HXA:=Hd (Ag.new wr 210 #[Aa Ab (v.t:Int),Aa Ab (v.w:Int),Aa Ac (v.n:Int)]);obtain⟨z,hz⟩:∃z,decide ((0:Int)<(k:Int))=z:=⟨_,rfl⟩;have hz':decide (0<k)=z:=by rw [←hz];exact decide_eq_decide.2 (by omega)
   obtain⟨iv,hiv⟩:∃x,Aw (v.t:Int)=x:=⟨_,rfl⟩;have HIV:=Hd hiv;clear hvk hiv;cases z with
   |true=>
    go_wp2_with fail;go_at_call 53;refine(Lm (v.w:Int) _ HVE.o.2).mono ?_;rintro e w' ⟨⟨cc,rfl⟩,rfl⟩;go_wp2_with fail;go_at_call 111;refine(Gi (v.t:Int) _).mono ?_;rw [HVE.o.1];rintro e w3 ⟨rfl,hb⟩;have HB3:=Hd (Ad HBA.o hb);have HX3:=Hd (HXA.o.pure hb);have x0:w3.cell? ⟨wr.heap.size,0,none⟩=some (Aa Ab (v.t:Int)):=HX3.o.cell 0;clear hb;go_wp2_with fail;go_at_call 90;refine(B8 (v.t:Int) _).mono ?_;rw [HIV.o];rintro e w4 ⟨rfl,hb⟩;have HB4:=Hd (Ad HB3.o hb);clear hb x0;cases iv with
    |true=>
     go_wp2_with fail;go_roundw
     case rel=>exact⟨k+1,by omega,by go_num,HB4.o⟩
     case measure=>simp [intOf];omega
    |false=>
     go_wp2_with fail;go_roundw
     case rel=>exact⟨k+1,by omega,by go_num,HB4.o⟩
     case measure=>simp [intOf];omega
   |false=>
    go_wp2_with fail;go_at_call 53;refine(Lm (v.w:Int) _ HVE.o.2).mono ?_;rintro e w' ⟨⟨cc,rfl⟩,rfl⟩;have HB3:=HBA;have HX3:=HXA;have x0:_=some (Aa Ab (v.t:Int)):=HX3.o.cell 0;go_wp2_with fail;go_at_call 90;refine(B8 (v.t:Int) _).mono ?_;rw [HIV.o];rintro e w4 ⟨rfl,hb⟩;have HB4:=Hd (Ad HB3.o hb);clear hb x0;cases iv with
    |true=>
     go_wp2_with fail;go_roundw
     case rel=>exact⟨k+1,by omega,by go_num,HB4.o⟩
     case measure=>simp [intOf];omega
    |false=>
     go_wp2_with fail;go_roundw
     case rel=>exact⟨k+1,by omega,by go_num,HB4.o⟩
     case measure=>simp [intOf];omega
  ·have hd1:decide ((k:Int)<((1+n:Nat):Int))=false:=decide_eq_false (by omega);have hd3:decide ((k:Int)<1+(n:Int))=false:=decide_eq_false (by omega);have hd2:decide (k<1+n)=false:=decide_eq_false (by omega);go_wp2_with fail;go_ret;exact⟨rfl,Ad HB1.o HBR.o⟩
theorem Ro:Maps.Keyed Tryz.prog 9:=Maps.string_keyed Tryz.underlying9
def Nc(w:World)(m n:Nat)(had:List (List UInt8)):Prop:=
 ∃D,w.ownsMap (H:=Unit) Tryz.prog 9 (plainElem Tryz.prog 4) m n D∧∀s,D.atKey (.string s) (.lit (.bool false))= .lit (.bool (had.contains s))
theorem Ak3{v:Value}{z:DataW Unit×List MemPlace}(h:plainElem Tryz.prog 4 v=some z):∃b,v= .bool b∧z=(.lit (.bool b),[]):=by
 unfold plainElem at h;rw [Tryz.underlying4] at h;cases v <;>simp at h
 exact⟨_,rfl,h.symm⟩
theorem Wr{s:List UInt8}(hs:s.length≤1048576):keyOf Tryz.prog 9 (.string ⟨s.toArray⟩)=some (.string s):=
 WideMaps.keyOf_string_mk Tryz.underlying9 (by show s.length≤maxLen;simp only [maxLen];omega)
theorem Nc.look{w:World}{m n:Nat}{had:List (List UInt8)}(h:Nc w m n had){s:List UInt8}(hs:s.length≤1048576){b:Bool}(hb:had.contains s=b):(Instr.lookup 162 (.map (some m)) (.string ⟨s.toArray⟩) false).run Tryz.prog w= .ok (.bool b) w:=by
 obtain⟨D,hm,hat⟩:=h;have hz:(zeroValue 4).run Tryz.prog w= .ok (.bool false) w:=by kernel_rfl
 obtain⟨v,ps,hrun,hv⟩:=hm.lookup Ro Tryz.underlying162 hz (plainElem_bool Tryz.underlying4 false) (Wr hs);obtain⟨c,rfl,hc⟩:=Ak3 hv;rw [hat s,hb] at hc;simp at hc;rw [←hc.1] at hrun;exact hrun
theorem Nc.put{w w':World}{m n:Nat}{had:List (List UInt8)}{D:DataW Unit}(hm:w.ownsMap (H:=Unit) Tryz.prog 9 (plainElem Tryz.prog 4) m n D)(hat:∀s,D.atKey (.string s) (.lit (.bool false))= .lit (.bool (had.contains s)))
  {s:List UInt8} (hm':w'.ownsMap (H:=Unit) Tryz.prog 9 (plainElem Tryz.prog 4) m (n+1) (D.put (.string s) (.lit (.bool true)))):Nc w' m (n+1) (s::had):=by
 refine⟨_,hm',fun s'=>?_⟩;obtain⟨es,hD,_⟩:=hm.canon Ro;by_cases e:s'=s
 ·subst e;rw [Maps.atKey_put_same ⟨es,hD⟩ (show WideAt.IsKeyLit (.string s') from trivial)];simp
 ·rw [Maps.atKey_put_other (by intro h;injection h with h;exact e h),hat s'];have:(s'==s)=false:=beq_eq_false_iff_ne.mpr e;rw [List.contains_cons,this,Bool.false_or]
theorem Af8(x:Nv)(ks:List (List UInt8))(r:Int)(w:World)(hI:Ek w x.A x.an ks)(hn:x.an≤1099511627776)(hsz:∀s∈ks,s.length≤1048576)(hr:(if x.k=5∧Br x.s=true then 70 else Jz 70 71 [] ks)=r):
  Calls Tryz.prog 75 #[.agg #[Aa Ab x.k,Aa Ab x.n,Aa Ac (x.u:Int),.string ⟨x.s.toArray⟩,.slice x.A x.an x.ac,.slice x.B x.bn x.bc]] w fun e w'=>e= .returned (Aa Ab r)∧Below w.heap.size w w':=by
 have HI:=Hd hI;have HSZ:=Hd hsz;have h0:=run_makeMap (P:=Tryz.prog) 162;have HB0:=Hd (show Below w.heap.size w (w.alloc (.cells #[.int .i64 x.k,.int .i64 x.n,.int .u64 (x.u:Int),.string ⟨x.s.toArray⟩,.slice x.A x.an x.ac,.slice x.B x.bn x.bc] 26)) from((Below.refl _ _).alloc (Asp _) _));have HB:=Hd (show Below w.heap.size w ((w.alloc (.cells #[.int .i64 x.k,.int .i64 x.n,.int .u64 (x.u:Int),.string ⟨x.s.toArray⟩,.slice x.A x.an x.ac,.slice x.B x.bn x.bc] 26)).alloc (.map #[] 0)) from((Below.refl _ _).alloc (Asp _) _).alloc (by simp) _);have hX:=(Ag.new w 26 #[.int .i64 x.k,.int .i64 x.n,.int .u64 (x.u:Int),.string ⟨x.s.toArray⟩,.slice x.A x.an x.ac,.slice x.B x.bn x.bc]).alloc (.map #[] 0);have c4:((w.alloc (.cells #[.int .i64 x.k,.int .i64 x.n,.int .u64 (x.u:Int),.string ⟨x.s.toArray⟩,.slice x.A x.an x.ac,.slice x.B x.bn x.bc] 26)).alloc (.map #[] 0)).cell? ⟨w.heap.size,4,none⟩=some (.slice x.A x.an x.ac):=hX.cell 4;have hM:=World.ownsMap_made (H:=Unit) (w.alloc (.cells #[.int .i64 x.k,.int .i64 x.n,.int .u64 (x.u:Int),.string ⟨x.s.toArray⟩,.slice x.A x.an x.ac,.slice x.B x.bn x.bc] 26)) Tryz.prog 9 (plainElem Tryz.prog 4);have eS:(w.alloc (.cells #[.int .i64 x.k,.int .i64 x.n,.int .u64 (x.u:Int),.string ⟨x.s.toArray⟩,.slice x.A x.an x.ac,.slice x.B x.bn x.bc] 26)).heap.size=w.heap.size+1:=by simp
 rw [eS] at hM;have HM:=Hd hM;obtain⟨z,hz⟩:∃z,Br x.s=z:=⟨_,rfl⟩;obtain⟨q,hq⟩:∃q,(x.k==5)=q:=⟨_,rfl⟩;have HZ:=Hd hz;have hr2:(if(q&&z)=true then 70 else Jz 70 71 [] ks)=r:=by
  rw [←hr,←hz,←hq];simp
 have HR:=Hd hr2;have HQ:=Hd hq;clear hI hsz hX hM eS hz hr hr2;cases q with
 |true=>
  cases z with
  |true=>
   go_enter Tryz.func75,Tryz.ntmps75;go_wp2_with (go_at_call 121;refine(G1 x.s true _ HZ.o).mono ?_;rintro e w' ⟨rfl,rfl⟩);go_ret;exact⟨by rw [←HR.o];rfl,HB0.o⟩
  |false=>
   go_enter Tryz.func75,Tryz.ntmps75;go_wp2_with (go_at_call 121;refine(G1 x.s false _ HZ.o).mono ?_;rintro e w' ⟨rfl,rfl⟩);go_wp2_with fail;have HS0:=Hd (show Nc ((w.alloc (.cells #[Aa Ab x.k,Aa Ab x.n,Aa Ac (x.u:Int),.string ⟨x.s.toArray⟩,.slice x.A x.an x.ac,.slice x.B x.bn x.bc] 26)).alloc (.map #[] 0)) (w.heap.size+1) 0 [] from⟨_,HM.o,fun s=>rfl⟩);have HI1:=Hd (HI.o.pure HB.o);generalize (w.alloc (.cells #[Aa Ab x.k,Aa Ab x.n,Aa Ac (x.u:Int),.string ⟨x.s.toArray⟩,.slice x.A x.an x.ac,.slice x.B x.bn x.bc] 26)).alloc (.map #[] 0)=w1 at HB HS0 HI1⊢;have HGE:=Hd (show w.heap.size≤w.heap.size+1 by omega);generalize w.heap.size+1=m at HS0 HGE⊢;have hlen:ks.length=x.an:=HI1.o.1;go_loopw [20] (fun u wr=>∃i:Nat,i≤x.an∧u= Aa Ab i∧Nc wr m i (ks.take i).reverse∧Below w.heap.size w wr∧Jz 70 71 (ks.take i).reverse (ks.drop i)=r) (fun u _=>x.an-(intOf u).toNat)
   case atStart=>exact⟨0,Nat.zero_le _,rfl,HS0.o,HB.o,by have h:=HR.o;simpa using h⟩
   case round=>
    obtain⟨i,hi,rfl,hso,hbr,hke⟩:=hrel;have HSO:=Hd hso;have HBR:=Hd hbr;have HKE:=Hd hke;clear hso hbr hke HS0;by_cases hlt:i<x.an
    ·obtain⟨g,off,e,hk',hc⟩:=Fy (HI.o.pure HBR.o) hlt;obtain⟨s,hs⟩:∃s,ks[i]=s:=⟨_,rfl⟩;rw [hs] at hc;have HSL:=Hd (HSZ.o s (by rw [←hs];exact List.getElem_mem _));have hd:ks.drop i=s::ks.drop (i+1):=by rw [←hs];exact List.drop_eq_getElem_cons hk'
     have HT:=Hd (show(ks.take (i+1)).reverse=s::(ks.take i).reverse by rw [Asz hk',hs,List.reverse_append];rfl);have hke2:=HKE.o;rw [hd] at hke2;unfold Jz at hke2;obtain⟨zs,hzs⟩:∃b,Br s=b:=⟨_,rfl⟩;obtain⟨ds,hds⟩:∃b,(ks.take i).reverse.contains s=b:=⟨_,rfl⟩;rw [hzs,hds] at hke2;have HZS:=Hd hzs;have HDS:=Hd hds;have HKE2:=Hd hke2;have hi0:(0:Int)≤(i:Int):=by omega
     have hin:(i:Int)<(x.an:Int):=by omega
     rw [e];clear hs hd hzs hds hke2 hk' e HKE;cases zs with
     |true=>
      go_wp2_with (go_at_call 121;refine(G1 s true _ HZS.o).mono ?_;rintro e w' ⟨rfl,rfl⟩);go_ret;exact⟨by have h:=HKE2.o;simp at h;rw [←h];rfl,HBR.o⟩
     |false=>
      have hlk:=HSO.o.look HSL.o HDS.o;cases ds with
      |true=>
       go_wp2_with (go_at_call 121;refine(G1 s false _ HZS.o).mono ?_;rintro e w' ⟨rfl,rfl⟩);go_ret;exact⟨by have h:=HKE2.o;simp at h;rw [←h];rfl,HBR.o⟩
      |false=>
       obtain⟨D,hown,hat⟩:=HSO.o;have HAT:=Hd hat;have HOWN:=Hd hown;have him:i<maxLen:=by simp only [maxLen];omega
       clear hat;go_wp2_with (first|(go_at_call 121;refine(G1 s false _ HZS.o).mono ?_;rintro e w' ⟨rfl,rfl⟩)|(at_mapUpdate;refine wpList_mapUpdate_own (H:=Unit) _ rfl _ _ _ 162 rfl 9 4 Ro Tryz.underlying162 _ m i D rfl hown him _ _ (.string s) rfl rfl (Wr HSL.o) (.lit (.bool true)) [] (plainElem_bool Tryz.underlying4 true) ?_;intro w6 hown6 hgrow6;have HS6:=Hd (Nc.put HOWN.o HAT.o hown6);have HG6:=Hd hgrow6;clear hown6 hgrow6));go_roundw
       case rel=>
        refine⟨i+1,by omega,by go_num,by rw [HT.o];exact HS6.o,?_,?_⟩
        ·exact Bu HBR.o (Fr.of_grown HG6.o) (by rintro k hk;injection hk with hk;rw [hk];exact HGE.o)
        ·rw [HT.o];have h:=HKE2.o;simpa using h
       case measure=>simp [intOf];omega
    ·have hd1:decide ((i:Int)<(x.an:Int))=false:=decide_eq_false (by omega);have hd2:decide (i<x.an)=false:=decide_eq_false (by omega);have HE:=Hd (show r=0 by
      have h:=HKE.o;rw [List.drop_of_length_le (by omega)] at h;exact h.symm)
     go_wp2_with fail;go_ret;exact⟨by rw [HE.o];rfl,HBR.o⟩
 |false=>
  go_enter Tryz.func75,Tryz.ntmps75;go_wp2_with fail;have HS0:=Hd (show Nc ((w.alloc (.cells #[Aa Ab x.k,Aa Ab x.n,Aa Ac (x.u:Int),.string ⟨x.s.toArray⟩,.slice x.A x.an x.ac,.slice x.B x.bn x.bc] 26)).alloc (.map #[] 0)) (w.heap.size+1) 0 [] from⟨_,HM.o,fun s=>rfl⟩);have HI1:=Hd (HI.o.pure HB.o);generalize (w.alloc (.cells #[Aa Ab x.k,Aa Ab x.n,Aa Ac (x.u:Int),.string ⟨x.s.toArray⟩,.slice x.A x.an x.ac,.slice x.B x.bn x.bc] 26)).alloc (.map #[] 0)=w1 at HB HS0 HI1⊢;have HGE:=Hd (show w.heap.size≤w.heap.size+1 by omega);generalize w.heap.size+1=m at HS0 HGE⊢;have hlen:ks.length=x.an:=HI1.o.1;go_loopw [20] (fun u wr=>∃i:Nat,i≤x.an∧u= Aa Ab i∧Nc wr m i (ks.take i).reverse∧Below w.heap.size w wr∧Jz 70 71 (ks.take i).reverse (ks.drop i)=r) (fun u _=>x.an-(intOf u).toNat)
  case atStart=>exact⟨0,Nat.zero_le _,rfl,HS0.o,HB.o,by have h:=HR.o;simpa using h⟩
  case round=>
   obtain⟨i,hi,rfl,hso,hbr,hke⟩:=hrel;have HSO:=Hd hso;have HBR:=Hd hbr;have HKE:=Hd hke;clear hso hbr hke HS0;by_cases hlt:i<x.an
   ·obtain⟨g,off,e,hk',hc⟩:=Fy (HI.o.pure HBR.o) hlt;obtain⟨s,hs⟩:∃s,ks[i]=s:=⟨_,rfl⟩;rw [hs] at hc;have HSL:=Hd (HSZ.o s (by rw [←hs];exact List.getElem_mem _));have hd:ks.drop i=s::ks.drop (i+1):=by rw [←hs];exact List.drop_eq_getElem_cons hk'
    have HT:=Hd (show(ks.take (i+1)).reverse=s::(ks.take i).reverse by rw [Asz hk',hs,List.reverse_append];rfl);have hke2:=HKE.o;rw [hd] at hke2;unfold Jz at hke2;obtain⟨zs,hzs⟩:∃b,Br s=b:=⟨_,rfl⟩;obtain⟨ds,hds⟩:∃b,(ks.take i).reverse.contains s=b:=⟨_,rfl⟩;rw [hzs,hds] at hke2;have HZS:=Hd hzs;have HDS:=Hd hds;have HKE2:=Hd hke2;have hi0:(0:Int)≤(i:Int):=by omega
    have hin:(i:Int)<(x.an:Int):=by omega
    rw [e];clear hs hd hzs hds hke2 hk' e HKE;cases zs with
    |true=>
     go_wp2_with (go_at_call 121;refine(G1 s true _ HZS.o).mono ?_;rintro e w' ⟨rfl,rfl⟩);go_ret;exact⟨by have h:=HKE2.o;simp at h;rw [←h];rfl,HBR.o⟩
    |false=>
     have hlk:=HSO.o.look HSL.o HDS.o;cases ds with
     |true=>
      go_wp2_with (go_at_call 121;refine(G1 s false _ HZS.o).mono ?_;rintro e w' ⟨rfl,rfl⟩);go_ret;exact⟨by have h:=HKE2.o;simp at h;rw [←h];rfl,HBR.o⟩
     |false=>
      obtain⟨D,hown,hat⟩:=HSO.o;have HAT:=Hd hat;have HOWN:=Hd hown;have him:i<maxLen:=by simp only [maxLen];omega
      clear hat;go_wp2_with (first|(go_at_call 121;refine(G1 s false _ HZS.o).mono ?_;rintro e w' ⟨rfl,rfl⟩)|(at_mapUpdate;refine wpList_mapUpdate_own (H:=Unit) _ rfl _ _ _ 162 rfl 9 4 Ro Tryz.underlying162 _ m i D rfl hown him _ _ (.string s) rfl rfl (Wr HSL.o) (.lit (.bool true)) [] (plainElem_bool Tryz.underlying4 true) ?_;intro w6 hown6 hgrow6;have HS6:=Hd (Nc.put HOWN.o HAT.o hown6);have HG6:=Hd hgrow6;clear hown6 hgrow6));go_roundw
      case rel=>
       refine⟨i+1,by omega,by go_num,by rw [HT.o];exact HS6.o,?_,?_⟩
       ·exact Bu HBR.o (Fr.of_grown HG6.o) (by rintro k hk;injection hk with hk;rw [hk];exact HGE.o)
       ·rw [HT.o];have h:=HKE2.o;simpa using h
      case measure=>simp [intOf];omega
   ·have hd1:decide ((i:Int)<(x.an:Int))=false:=decide_eq_false (by omega);have hd2:decide (i<x.an)=false:=decide_eq_false (by omega);have HE:=Hd (show r=0 by
     have h:=HKE.o;rw [List.drop_of_length_le (by omega)] at h;exact h.symm)
    go_wp2_with fail;go_ret;exact⟨by rw [HE.o];rfl,HBR.o⟩
theorem Mi:Maps.Keyed Tryz.prog 221:=Maps.Keyed.of_law (deep_law_laid Nd (m:=2) (by omega) (of_decide_eq_true (by kernel_rfl)) (by kernel_rfl) (by rw [Tryz.underlying221]))
theorem Aar{t:Int}(ht:Jw t=true):∃l,keyOf Tryz.prog 221 (J4 (Fj t))=some l:=by
 have h:∀n:Fin 37,(keyOf Tryz.prog 221 (J4 (Fj ((n.val:Nat):Int)))).isSome=true:=by
  intro n;rcases n with⟨n,hn⟩
  have:n=0∨n=1∨n=2∨n=3∨n=4∨n=5∨n=6∨n=7∨n=8∨n=9∨n=10∨n=11∨n=12∨n=13∨n=14∨n=15∨n=16∨n=17∨n=18∨n=19∨n=20∨n=21∨n=22∨n=23∨n=24∨n=25∨n=26∨n=27∨n=28∨n=29∨n=30∨n=31∨n=32∨n=33∨n=34∨n=35∨n=36:=by omega
  rcases this with rfl|rfl|rfl|rfl|rfl|rfl|rfl|rfl|rfl|rfl|rfl|rfl|rfl|rfl|rfl|rfl|rfl|rfl|rfl|rfl|rfl|rfl|rfl|rfl|rfl|rfl|rfl|rfl|rfl|rfl|rfl|rfl|rfl|rfl|rfl|rfl|rfl
  all_goals exact(show(_:Bool)=true by kernel_rfl)
 have h2:=Kq (p:=fun t=>(keyOf Tryz.prog 221 (J4 (Fj t))).isSome=true) h ht;exact Option.isSome_iff_exists.1 h2
theorem Ag2(e0 m0:Int)(t0:Nat)(w:World)(ht:Jw (t0:Int)=true)(hr:Fj (t0:Int)=(3,e0,m0))(hu:∀t:Nat,Jw (t:Int)=true→Fj (t:Int)=(3,e0,m0)→t=t0):
  Calls Tryz.prog 402 #[Aa Ab e0,Aa Ab m0] w fun e w'=>e= .returned (.tuple #[Aa Ab (t0:Int),.bool true])∧Below w.heap.size w w':=by
 obtain⟨l0,hl0⟩:=Aar ht;rw [hr] at hl0;unfold J4 at hl0;simp only at hl0;have HL0:=Hd hl0;have HT0:=Hd hr;have HU:=Hd hu;have ht37:t0<37:=by have:=Fs.1 ht;omega
 have h0:=run_makeMap (P:=Tryz.prog) 414;have hM:=World.ownsMap_made (H:=Unit) w Tryz.prog 221 (plainElem Tryz.prog 3);have HM:=Hd hM;have HB:=Hd (show Below w.heap.size w (w.alloc (.map #[] 0)) from(Below.refl _ _).alloc (Asp _) _);clear hl0 hu ht hr hM;go_enter Tryz.func402,Tryz.ntmps402;go_wp2_with fail;go_at_call 266;refine(Sl _).mono ?_;rintro e w1 ⟨rfl,hb⟩;have hM1:=HM.o.kept (row:=none) ⟨hb.os,hb.tape,hb.output,hb.size,fun k hk _=>hb.block k hk⟩ (by simp);have HM1:=Hd (show ∃D,w1.ownsMap (H:=Unit) Tryz.prog 221 (plainElem Tryz.prog 3) w.heap.size 0 D∧D.atKey l0 (.lit (.int .i64 0))=(if t0<0 then .lit (.int .i64 t0) else .lit (.int .i64 0))∧Maps.has D l0=decide (t0<0) from⟨_,hM1,rfl,rfl⟩);have HB1:=Hd (Ad HB.o hb);clear hb hM1 HB HM;go_wp2_with fail;go_loopw [11] (fun u wr=>∃k:Nat,k≤37∧u= .int .i64 k∧(∃D,wr.ownsMap (H:=Unit) Tryz.prog 221 (plainElem Tryz.prog 3) w.heap.size k D∧D.atKey l0 (.lit (.int .i64 0))=(if t0<k then .lit (.int .i64 t0) else .lit (.int .i64 0))∧Maps.has D l0=decide (t0<k))∧Below w.heap.size w wr) (fun u _=>37-(intOf u).toNat)
 case atStart=>exact⟨0,Nat.zero_le _,rfl,HM1.o,HB1.o⟩
 case round=>
  obtain⟨k,hk,rfl,⟨D,hown,hat,hhas⟩,hbr⟩:=hrel;have HBR:=Hd hbr;have HAT:=Hd hat;have HHAS:=Hd hhas;clear hat hhas hbr HM1 HB1;by_cases hlt:k<37
  ·have hkT:Jw (k:Int)=true:=Fs.2 (by omega);obtain⟨l,hl⟩:=Aar hkT;have hidx:=Akk hkT;obtain⟨r,hr⟩:∃r,Fj (k:Int)=r:=⟨_,rfl⟩;obtain⟨r0,r1,r2⟩:=r;rw [hr] at hidx hl;unfold J4 at hidx hl;simp only at hidx hl;have HR:=Hd hr;have HKL:=Hd hl;have HKT:=Hd hkT;obtain⟨q,hq⟩:∃q,(r0==3)=q:=⟨_,rfl⟩;have hk0:(0:Int)≤(k:Int):=by omega
   have hk37:(k:Int)<37:=by omega
   have HBA:=Hd (HBR.o.alloc HBR.o.size (.cells #[Aa Ab r0,Aa Ab r1,Aa Ab r2] 221));have hown2:=hown.alloc (.cells #[Aa Ab r0,Aa Ab r1,Aa Ab r2] 221);have HOW:=Hd hown2;clear hr hl hkT hown;cases q with
   |false=>
    have HN3:=Hd (show r0≠3 by simpa using hq);clear hown2;go_wp2_with fail;go_roundw
    case rel=>
     have hne:k≠t0:=by
      rintro rfl;have h1:=HR.o.symm.trans HT0.o;injection h1 with h1
      exact HN3.o h1
     refine⟨k+1,by omega,by go_num,⟨D,HOW.o.mono (by omega),?_,?_⟩,HBA.o⟩
     ·rw [HAT.o];by_cases h:t0<k
      ·rw [if_pos h,if_pos (by omega)]
      ·rw [if_neg h,if_neg (by omega)]
     ·rw [HHAS.o];exact decide_eq_decide.2 (by omega)
    case measure=>simp [intOf];omega
   |true=>
    obtain rfl:r0=3:=by simpa using hq
    have hkm:k<maxLen:=by simp only [maxLen];omega
    have HWF:=Hd (show(Lit.int .i64 (k:Int)).wf=true by
     have h1:IntKind.i64.min= -9223372036854775808:=rfl;have h2:IntKind.i64.max=9223372036854775807:=rfl;simp [Lit.wf,h1,h2];omega)
    go_wp2_with (at_mapUpdate;refine wpList_mapUpdate_own (H:=Unit) _ rfl _ _ _ 414 rfl 221 3 Mi Tryz.underlying414 _ w.heap.size k D rfl hown2 hkm _ _ l rfl rfl HKL.o (.lit (.int .i64 (k:Int))) [] (plainElem_int Tryz.underlying3 HWF.o) ?_;intro w6 hown6 hgrow6;have HO6:=Hd hown6;have HG6:=Hd hgrow6;clear hown6 hgrow6);go_roundw
    case rel=>
     obtain⟨es,hD,_⟩:=HOW.o.canon Mi;have hP:(D.put l (.lit (.int .i64 (k:Int)))).atKey l0 (.lit (.int .i64 0))=(if t0<k+1 then .lit (.int .i64 t0) else .lit (.int .i64 0))∧Maps.has (D.put l (.lit (.int .i64 (k:Int)))) l0=decide (t0<k+1):=by
      by_cases h:k=t0
      ·have h0':Fj (k:Int)=(3,e0,m0):=by rw [h];exact HT0.o
       have h1':=HR.o.symm.trans h0';simp only [Prod.mk.injEq,true_and] at h1';obtain⟨h1,h2⟩:=h1';have hll:l=l0:=by
        have a1:=HKL.o;rw [h1,h2,HL0.o] at a1;injection a1 with a1
        exact a1.symm
       rw [hll];have hk0:=Mi.key HL0.o;refine⟨?_,?_⟩
       ·rw [Maps.atKey_put_same ⟨es,hD⟩ hk0,if_pos (by omega),h]
       ·rw [Maps.has_put_same ⟨es,hD⟩ hk0];exact(decide_eq_true (by omega)).symm
      ·have hne:l0≠l:=by
        intro e;have a1:=HKL.o;rw [←e] at a1;have a2:=Mi.inj a1 HL0.o;simp at a2;refine h (HU.o k HKT.o ?_);rw [HR.o,a2.1,a2.2]
       refine⟨?_,?_⟩
       ·rw [Maps.atKey_put_other hne,HAT.o];by_cases h2:t0<k
        ·rw [if_pos h2,if_pos (by omega)]
        ·rw [if_neg h2,if_neg (by omega)]
       ·rw [Maps.has_put_other hne,HHAS.o];exact decide_eq_decide.2 (by omega)
     refine⟨k+1,by omega,by go_num,⟨_,HO6.o,hP.1,hP.2⟩,Bu HBA.o (Fr.of_grown HG6.o) (by rintro j hj;injection hj with hj;rw [hj];exact Asp _)⟩
    case measure=>simp [intOf];omega
  ·have hd1:decide ((k:Int)<37)=false:=decide_eq_false (by omega);have hd2:decide (k<37)=false:=decide_eq_false (by omega);have HA:=Hd (show D.atKey l0 (.lit (.int .i64 0))= .lit (.int .i64 (t0:Int)) by rw [HAT.o,if_pos (by omega)]);have HH:=Hd (show Maps.has D l0=true by rw [HHAS.o];exact decide_eq_true (by omega));have HOW:=Hd hown;go_wp2_with (at_lookup;refine wpList_lookup_own_ok_int _ rfl _ _ 414 rfl 221 3 .i64 Mi Tryz.underlying414 Tryz.underlying3 (Tryz.zeroValue3 _) w.heap.size k D rfl hown _ l0 rfl HL0.o ?_;intro c hc _;obtain rfl:c=(t0:Int):=(by rw [HA.o] at hc;simpa using hc.symm);rw [HH.o];clear hc);go_ret2;exact⟨rfl,HBR.o⟩
def vecTy(e m:Nat):Nat:=if m=0 then(if e=1 then 11 else if e=2 then 12 else if e=4 then 14 else 36) else if e=1 then 10+3*m else 11+3*m
def Kh(e m:Nat):Prop:=(m=0∧(e=1∨e=2∨e=4∨e=26))∨((m=2∨m=3∨m=4)∧(e=1∨e=2))
theorem Ane(e m:Nat)(w:World)(h:Kh e m):Calls Tryz.prog 402 #[Aa Ab (e:Int),Aa Ab (m:Int)] w fun x w'=>x= .returned (.tuple #[Aa Ab (vecTy e m:Nat),.bool true])∧Below w.heap.size w w':=by
 have hall:∀e0 m0:Int,∀t0:Fin 37,Fj ((t0.val:Nat):Int)=(3,e0,m0)→(∀n:Fin 37,Fj ((n.val:Nat):Int)=(3,e0,m0)→n=t0)→Calls Tryz.prog 402 #[Aa Ab e0,Aa Ab m0] w fun x w'=>x= .returned (.tuple #[Aa Ab (t0.val:Int),.bool true])∧Below w.heap.size w w':=by
  intro e0 m0 t0 h1 h2;refine Ag2 e0 m0 t0.val w (Fs.2 (by omega)) h1 fun t ht hr=>?_
  have ht2:=Fs.1 ht;have:=h2 ⟨t,by omega⟩ hr;rw [←this]
 rcases h with⟨rfl,rfl|rfl|rfl|rfl⟩|⟨rfl|rfl|rfl,rfl|rfl⟩
 ·exact hall 1 0 11 (by decide) (by decide)
 ·exact hall 2 0 12 (by decide) (by decide)
 ·exact hall 4 0 14 (by decide) (by decide)
 ·exact hall 26 0 36 (by decide) (by decide)
 ·exact hall 1 2 16 (by decide) (by decide)
 ·exact hall 2 2 17 (by decide) (by decide)
 ·exact hall 1 3 19 (by decide) (by decide)
 ·exact hall 2 3 20 (by decide) (by decide)
 ·exact hall 1 4 22 (by decide) (by decide)
 ·exact hall 2 4 23 (by decide) (by decide)
theorem Aj8(w:World):Calls Tryz.prog 378 #[Aa Ab (-1),Aa Ab 0] w fun e w'=>e= .returned (.tuple #[.agg #[Aa Ab 10,.bool true,.func (.func 400) #[] #[],.func (.func 401) #[] #[]],Aa Ab 0])∧Below w.heap.size w w':=by
 go_enter Tryz.func378,Tryz.ntmps378;go_wp2_with fail;refine bodyPost_ret (v:= .tuple #[.agg #[Aa Ab 10,.bool true,.func (.func 400) #[] #[],.func (.func 401) #[] #[]],Aa Ab 0]) (by simp [results,Tryz.results378,go_sem]) rfl ⟨rfl,?_⟩;exact Ba _ _ _
def ShW(w:World)(e m:Nat)(x:Ending)(w':World):Prop:=
 ∃g,x= .returned (.tuple #[.agg #[Aa Ab (vecTy e m:Nat),.bool (decide (m=0)),.func (.func 403) #[] #[.pointer (some ⟨g,0,none⟩)],.func (.func 404) #[] #[]],Aa Ab 0])∧Ag w' g 3 #[Aa Ab (e:Int)]∧w.heap.size≤g∧Below w.heap.size w w'
theorem Yh(e m:Nat)(w:World)(h:Kh e m):Calls Tryz.prog 378 #[Aa Ab (e:Int),Aa Ab (m:Int)] w (ShW w e m):=by
 have he:((e:Int)== -1)=false:=by rw [beq_eq_false_iff_ne];omega
 obtain⟨z,hz⟩:∃z,decide (m=0)=z:=⟨_,rfl⟩;have hz2:((m:Int)==0)=z:=by
  rw [←hz,Bool.eq_iff_iff];simp only [beq_iff_eq,decide_eq_true_eq];omega
 obtain⟨t,ht⟩:∃t,vecTy e m=t:=⟨_,rfl⟩;have hty:=fun W=>Ane e m W h
 rw [ht] at hty;have HTY:=Hd hty;have HT:=Hd (And.intro ht hz);have HB:=Hd (Ba w (.cells #[Aa Ab (e:Int)] 3) (.cells #[Aa Ab 0,.bool false,.nilFunc,.nilFunc] 393));clear h hty ht hz;go_enter Tryz.func378,Tryz.ntmps378;go_wp2_with fail;go_at_call 402;have HX:=Hd ((Ag.new w 3 #[Aa Ab (e:Int)]).alloc (.cells #[Aa Ab 0,.bool false,.nilFunc,.nilFunc] 393));have HR:=Hd (B3 w (.cells #[Aa Ab (e:Int)] 3) 393 #[Aa Ab 0,.bool false,.nilFunc,.nilFunc]);have HGE:=Hd (show w.heap.size≤w.heap.size+1 by omega);have HNE:=Hd (show w.heap.size≠w.heap.size+1 by omega);generalize (w.alloc (.cells #[Aa Ab (e:Int)] 3)).alloc (.cells #[Aa Ab 0,.bool false,.nilFunc,.nilFunc] 393)=w1 at HB HX HR⊢;generalize w.heap.size+1=bR at HR HGE HNE⊢;refine(HTY.o _).mono ?_;rintro x w2 ⟨rfl,hb⟩;have HB2:=Hd (Ad HB.o hb);have HX2:=Hd (HX.o.pure hb);have HR2:=Hd (HR.o.pure hb);obtain ⟨r0,r1,r2,r3⟩:=HR2.o.c4;have f0:=HR2.o.frozen 0;have f1:=HR2.o.frozen 1;have f2:=HR2.o.frozen 2;have f3:=HR2.o.frozen 3;clear hb;go_wp2_with fail;have hF:=(((HR2.o.set_ 0 (Aa Ab (t:Int))).set_ 1 (.bool z)).set_ 2 (.func (.func 403) #[] #[.pointer (some ⟨w.heap.size,0,none⟩)])).set_ 3 (.func (.func 404) #[] #[]);have hXF:=(((HX2.o.far (p:=⟨bR,0,none⟩) HNE.o (Aa Ab (t:Int))).far (p:=⟨bR,1,none⟩) HNE.o (.bool z)).far (p:=⟨bR,2,none⟩) HNE.o (.func (.func 403) #[] #[.pointer (some ⟨w.heap.size,0,none⟩)])).far (p:=⟨bR,3,none⟩) HNE.o (.func (.func 404) #[] #[]);have hBF:=(((HB2.o.setCell (p:=⟨bR,0,none⟩) HGE.o (Aa Ab (t:Int))).setCell (p:=⟨bR,1,none⟩) HGE.o (.bool z)).setCell (p:=⟨bR,2,none⟩) HGE.o (.func (.func 403) #[] #[.pointer (some ⟨w.heap.size,0,none⟩)])).setCell (p:=⟨bR,3,none⟩) HGE.o (.func (.func 404) #[] #[]);clear r0 r1 r2 r3 f0 f1 f2 f3;generalize (((w2.setCell ⟨bR,0,none⟩ (Aa Ab (t:Int))).setCell ⟨bR,1,none⟩ (.bool z)).setCell ⟨bR,2,none⟩ (.func (.func 403) #[] #[.pointer (some ⟨w.heap.size,0,none⟩)])).setCell ⟨bR,3,none⟩ (.func (.func 404) #[] #[])=wF at hF hXF hBF⊢;obtain ⟨r0,r1,r2,r3⟩:=hF.c4;refine bodyPost_ret (v:= .tuple #[.agg #[Aa Ab (t:Int),.bool z,.func (.func 403) #[] #[.pointer (some ⟨w.heap.size,0,none⟩)],.func (.func 404) #[] #[]],Aa Ab 0]) (by simp [results,Tryz.results378,go_sem,r0,r1,r2,r3]) rfl ?_;exact⟨w.heap.size,by rw [HT.o.1,HT.o.2],hXF,Asp _,hBF⟩
theorem Q2(g e:Nat)(v:Bv)(w:World)(hg:Ag w g 3 #[Aa Ab (e:Int)])(he:v.t=e)(hl:Bc (v.t:Int)=true)(hw:Av (v.w:Int)=true):
  Calls Tryz.prog 403 #[.agg #[Aa Ab (v.t:Int),Aa Ab (v.w:Int),Aa Ac (v.n:Int)],.pointer (some ⟨g,0,none⟩)] w fun x w'=>x= .returned (Aa Ab 0)∧Below w.heap.size w w':=by
 have HB:=Hd (show Below w.heap.size w (w.alloc (.cells #[Aa Ab (v.t:Int),Aa Ab (v.w:Int),Aa Ac (v.n:Int)] 210)) from(Below.refl _ _).alloc (Asp _) _);have HX:=Hd (Ag.new w 210 #[Aa Ab (v.t:Int),Aa Ab (v.w:Int),Aa Ac (v.n:Int)]);rw [←he] at hg;have HG:=Hd (hg.alloc (.cells #[Aa Ab (v.t:Int),Aa Ab (v.w:Int),Aa Ac (v.n:Int)] 210));have HL:=Hd hl;have HW:=Hd hw;clear hg hl hw he;go_enter Tryz.func403,Tryz.ntmps403;go_wp2_with fail;go_at_call 111;refine(Gi (v.t:Int) _).mono ?_;rw [HL.o];rintro x w1 ⟨rfl,hb⟩;have HB1:=Hd (Ad HB.o hb);have HX1:=Hd (HX.o.pure hb);obtain ⟨x0,x1,x2⟩:=HX1.o.c3;have g0:w1.cell? ⟨g,0,none⟩=some (Aa Ab (v.t:Int)):=HG.o.pure hb |>.cell 0
 clear hb;go_wp2_with fail;go_at_call 400;refine(Sn v _ HL.o HW.o).mono ?_;rintro x w2 ⟨rfl,hb⟩;have HB2:=Hd (Ad HB1.o hb);clear hb x0 x1 x2 g0;go_wp2_with fail;go_ret;exact⟨rfl,HB2.o⟩
theorem Q3(b y:Value)(A:Option Addr)(n c:Nat)(w:World):Calls Tryz.prog 404 #[b,y,.slice A n c] w fun x w'=>x= .returned (.tuple #[])∧w=w':=by
 go_enter Tryz.func404,Tryz.ntmps404;go_wp2_with fail;go_end0;exact⟨rfl,rfl⟩
end Go.Proofs.YtgbjodnegkbfoaaGreat
