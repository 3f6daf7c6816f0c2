/- Parts of the proof. -/
import Derived.Test.YtgbjodnegkbfoaaGreatQa21
import Derived.Shelf.Strings.BuilderK
import Derived.Ground.NamesProg
set_option maxHeartbeats 4000000
set_option maxRecDepth 100000
open Go.Value renaming int→Aa
open Go.IntKind renaming i64→Ab,u64→Ac
open Nat renaming le_refl→Ath,lt_of_lt_of_le→Atr
open List renaming getElem?_eq_getElem→Ati,length_append→Atj,getD_eq_getElem?_getD→Atw
namespace Go.Proofs.YtgbjodnegkbfoaaGreat
open Go.RowKit Go.Acc
theorem Aol{i:Nat}(h:i=6):B7 i:=by subst h;exact⟨by omega,by omega⟩
theorem Ah6{i:Nat}(h:i=2∨i=8):B7 i:=by rcases h with rfl|rfl <;>exact⟨by omega,by omega⟩
structure Qi(M:Bp)(A:Option Addr)(n c:Nat)(vs:List Bv)(bx bv bi i:Nat)(w:World)(o:Nat→Nat):Prop where
 x:Af w bx 120 #[.pointer (some ⟨M.β,0,none⟩)]
 v:Af w bv 185 #[.slice A n c]
 i:Af w bi 3 #[Aa Ab (i:Int)]
 ox:o bx=0
 ov:o bv=0
 oi:o bi=9
 iv:D9 w A n (vs.map vv)
 oa:∀ad,A=some ad→ad.block<w.heap.size∧o ad.block=0
section
variable {M:Bp} {A:Option Addr} {n c:Nat} {vs:List Bv} {bx bv bi i:Nat} {w w':World} {o o':Nat→Nat}
theorem Qi.to_{I:Nat→Prop}(h:Qi M A n c vs bx bv bi i w o)(ht:To I w o w' o')(h0:¬I 0)(h9:¬I 9):Qi M A n c vs bx bv bi i w' o':=
 ⟨h.x.to_ ht (by rw [h.ox];exact h0),h.v.to_ ht (by rw [h.ov];exact h0),h.i.to_ ht (by rw [h.oi];exact h9),(ht.ow _ h.x.lt).trans h.ox,(ht.ow _ h.v.lt).trans h.ov,(ht.ow _ h.i.lt).trans h.oi,
  h.iv.fr ht.fr (fun ad e=>by rw [(h.oa ad e).2];exact h0),fun ad e=>⟨Atr (h.oa ad e).1 ht.size,(ht.ow _ (h.oa ad e).1).trans (h.oa ad e).2⟩⟩
theorem Qi.set(h:Qi M A n c vs bx bv bi i w o)(j:Nat):Qi M A n c vs bx bv bi j (w.setCell ⟨bi,0,none⟩ (Aa Ab (j:Int))) o:=by
 have ht:=J4 (w:=w) (p:=⟨bi,0,none⟩) h.oi (Aa Ab (j:Int));exact⟨h.x.to_ ht (by rw [h.ox];decide),h.v.to_ ht (by rw [h.ov];decide),h.i.set_ 0 _,h.ox,h.ov,h.oi,h.iv.fr ht.fr (fun ad e=>by rw [(h.oa ad e).2];decide),fun ad e=>⟨Atr (h.oa ad e).1 ht.size,(h.oa ad e).2⟩⟩
theorem Qi.cells(h:Qi M A n c vs bx bv bi i w o):w.cell? ⟨bx,0,none⟩=some (.pointer (some ⟨M.β,0,none⟩))∧w.cell? ⟨bv,0,none⟩=some (.slice A n c)∧w.cell? ⟨bi,0,none⟩=some (Aa Ab (i:Int)):=⟨h.x.cell 0,h.v.cell 0,h.i.cell 0⟩
end
theorem nb9:¬B7 9:=by rintro⟨h1,h2⟩;omega
theorem Ahi(M:Bp)(fl:Int)(b:Bd)(list:List UInt8)(AK:Option Addr)(nk ck:Nat)(ks:List Bv)(A:Option Addr)(n c:Nat)(vs:List Bv)(w:World)(o:Nat→Nat)(h:BM M fl w o b)
  (hK:D9 w AK nk (ks.map vv)) (hKo:∀ad,AK=some ad→ad.block<w.heap.size∧o ad.block=0) (hv:D9 w A n (vs.map vv)) (ho:∀ad,A=some ad→ad.block<w.heap.size∧o ad.block=0) (hT:Afo list ks vs b):
  Calls Tryz.prog 240 #[.pointer (some ⟨M.β,0,none⟩),.string ⟨list.toArray⟩,.slice AK nk ck,.slice A n c] w (Cq M fl (Bd.table (bits fl) list ks vs b) w o):=by
 obtain⟨g,hg⟩:∃g,Bf b.lists list=g:=⟨_,rfl⟩;obtain⟨q,hq⟩:∃q,Ek (bits fl) 4=q:=⟨_,rfl⟩;have HE:=Hd (An3 (bits fl) list ks vs b g q hg hq);have HQ:=Hd hq;obtain⟨gv,hgv⟩:∃v,g.getD 0=v:=⟨_,rfl⟩;obtain⟨had,hhad⟩:∃v,g.isSome=v:=⟨_,rfl⟩;have HG:=Hd (show Tj (Bf b.lists list)= .tuple #[Aa Ab (gv:Int),.bool had] by rw [hg];unfold Tj;rw [hgv,hhad]);have HGV:=Hd (And.intro hgv hhad);have HO:=Hd hT;have HAD:=Hd (fun i=>(hg▸hT.had i:g=some i→_));have HLL:=Hd (show b.lists.length≤1048576 by have:=hT.ll;omega);obtain⟨y,hy⟩:∃y,Bc 14 true false ks b.b=y:=⟨_,rfl⟩;have HY:=Hd hy;obtain⟨yb,kv⟩:=y;have hB:Below w.heap.size w ((w.alloc (.cells #[.pointer (some ⟨M.β,0,none⟩)] 120)).alloc (.cells #[.slice A n c] 185)):=Ba w _ _;have HM1:=Hd (h.fresh hB 0);have HT1:=Hd (To.fresh B7 hB o 0);have HK1:=Hd (And.intro (hK.pure hB) (fun ad e=>⟨Atr (hKo ad e).1 hB.size,(Au (hKo ad e).1).trans (hKo ad e).2⟩:∀ad,AK=some ad→ad.block<_∧Ak o w.heap.size 0 ad.block=0));have HC1:=Hd (show Af ((w.alloc (.cells #[.pointer (some ⟨M.β,0,none⟩)] 120)).alloc (.cells #[.slice A n c] 185)) w.heap.size 120 #[.pointer (some ⟨M.β,0,none⟩)]∧Af ((w.alloc (.cells #[.pointer (some ⟨M.β,0,none⟩)] 120)).alloc (.cells #[.slice A n c] 185)) (w.heap.size+1) 185 #[.slice A n c]∧Ak o w.heap.size 0 w.heap.size=0∧Ak o w.heap.size 0 (w.heap.size+1)=0∧D9 ((w.alloc (.cells #[.pointer (some ⟨M.β,0,none⟩)] 120)).alloc (.cells #[.slice A n c] 185)) A n (vs.map vv)∧(∀ad,A=some ad→ad.block<((w.alloc (.cells #[.pointer (some ⟨M.β,0,none⟩)] 120)).alloc (.cells #[.slice A n c] 185)).heap.size∧Ak o w.heap.size 0 ad.block=0) from
  ⟨(Af.new w 120 #[.pointer (some ⟨M.β,0,none⟩)]).alloc _,B5 w _ 185 #[.slice A n c],Am (Ath _),Am (by omega),hv.pure hB,fun ad e=>⟨Atr (ho ad e).1 hB.size,(Au (ho ad e).1).trans (ho ad e).2⟩⟩)
 clear h hK hKo hv ho hT hg hq hgv hhad hy hB;go_enter Tryz.func240,Tryz.ntmps240;go_upto_region 1 with fail
 generalize (w.alloc (.cells #[.pointer (some ⟨M.β,0,none⟩)] 120)).alloc (.cells #[.slice A n c] 185)=w1 at HM1 HT1 HK1 HC1⊢;generalize Ak o w.heap.size 0=o1 at HM1 HT1 HK1 HC1;generalize w.heap.size+1=bv at HC1⊢;generalize w.heap.size=bx at HC1⊢;have x0:w1.cell? ⟨bx,0,none⟩=some (.pointer (some ⟨M.β,0,none⟩)):=HC1.o.1.cell 0;obtain⟨_,_,_,_,b6,_⟩:=C1 HM1.o.head;go_wp2_with fail;go_at_call 322;refine(Ri 6 M.lb b.lists list _ o1 HM1.o.lists HLL.o).mono ?_;rintro e w2 ⟨rfl,hB⟩;rw [HG.o];have HBI:=Hd (Nat.le_trans HT1.o.size hB.size);have hal:=(Below.refl w2.heap.size w2).alloc (Ath _) (.cells #[Aa Ab (gv:Int)] 3);have hB3:=Ad hB hal;have HM3:=Hd (HM1.o.fresh hB3 9);have HT3:=Hd (HT1.o.trans (To.fresh B7 hB3 o1 9));have HK3:=Hd (And.intro (HK1.o.1.pure hB3) (fun ad e=>⟨Atr (HK1.o.2 ad e).1 hB3.size,(Au (HK1.o.2 ad e).1).trans (HK1.o.2 ad e).2⟩:∀ad,AK=some ad→ad.block<_∧Ak o1 w1.heap.size 9 ad.block=0));have HC3:=Hd (show Qi M A n c vs bx bv w2.heap.size gv (w2.alloc (.cells #[Aa Ab (gv:Int)] 3)) (Ak o1 w1.heap.size 9) from
  ⟨HC1.o.1.pure hB3,HC1.o.2.1.pure hB3,Af.new _ _ _,(Au HC1.o.1.lt).trans HC1.o.2.2.1,(Au HC1.o.2.1.lt).trans HC1.o.2.2.2.1,Am hB.size,HC1.o.2.2.2.2.1.pure hB3,fun ad e=>⟨Atr (HC1.o.2.2.2.2.2 ad e).1 hB3.size,(Au (HC1.o.2.2.2.2.2 ad e).1).trans (HC1.o.2.2.2.2.2 ad e).2⟩⟩)
 clear hB hal hB3 x0 b6;go_upto_region 2 with fail
 generalize w2.alloc (.cells #[Aa Ab (gv:Int)] 3)=w3 at HM3 HT3 HK3 HC3⊢;generalize Ak o1 w1.heap.size 9=o3 at HM3 HT3 HK3 HC3;generalize w2.heap.size=bi at HC3 HBI⊢;obtain⟨b0,b3,_⟩:=C1 HM3.o.head;obtain⟨x0,x1,x2⟩:=HC3.o.cells;obtain⟨hg,hgh⟩:=HGV.o;cases g with
 |none=>
  obtain rfl:had=false:=by rw [←hgh];rfl
  have HP:=Hd (show(if q=true then(none:Option Nat) else none)=none by split <;>rfl);clear hg hgh;have HCI:=Hd HC3.o;obtain⟨b0,_,_,_,b6,_⟩:=C1 HM3.o.head;obtain⟨x0,x1,x2⟩:=HC3.o.cells;go_wp2_with fail;go_at_call 329;refine(Va M.bb nk ck AK ks b.b _ o3 HM3.o.buf HK3.o.1 (fun ad e=>⟨(HK3.o.2 ad e).1,by rw [(HK3.o.2 ad e).2];omega⟩) HO.o.kok HO.o.kel).mono ?_;rintro e w4 ⟨rfl,o4,hB4,hT4⟩;have HM4:=Hd (HM3.o.buf_ hT4 hB4);have HC4:=Hd (HC3.o.to_ hT4 (by omega) (by omega));have HT4:=Hd (HT3.o.trans (hT4.mono fun _ h=>Ia h));clear hB4 hT4 b0 b6 x0 x1 x2;rw [HY.o] at HM4⊢;obtain⟨x0,x1,x2⟩:=HC4.o.cells;have hal:=(Below.refl w4.heap.size w4).alloc (Ath _) (.cells #[Aa Ab (kv.t:Int),Aa Ab (kv.w:Int),Aa Ac (kv.n:Int)] 210);have HM5:=Hd (HM4.o.fresh hal 0);have HC5:=Hd (HC4.o.to_ (To.fresh B7 hal o4 0) Bi nb9);have HT5:=Hd (HT4.o.trans (To.fresh B7 hal o4 0));have HX5:=Hd (Af.new w4 210 #[Aa Ab (kv.t:Int),Aa Ab (kv.w:Int),Aa Ac (kv.n:Int)]);have HO5:=Hd (show Ak o4 w4.heap.size 0 w4.heap.size=0 from Am (Ath _));have HLT:=Hd hal;clear hal;go_upto_region 4 with fail
  generalize w4.alloc (.cells #[Aa Ab (kv.t:Int),Aa Ab (kv.w:Int),Aa Ac (kv.n:Int)] 210)=w5 at HM5 HC5 HT5 HX5⊢;generalize Ak o4 w4.heap.size 0=o5 at HM5 HC5 HT5 HO5;generalize w4.heap.size=bk at HX5 HO5⊢;clear x0 x1 x2;obtain⟨x0,x1,x2⟩:=HC5.o.cells;go_wp2_with fail;go_at_call 157;refine(Ha HM5.o).mono ?_;rintro e w6 ⟨rfl,o6,hM6,hT6⟩;have HM6:=Hd hM6;have HC6:=Hd (HC5.o.to_ hT6 Bi nb9);have HX6:=Hd (HX5.o.to_ hT6 (by rw [HO5.o];exact Bi));have HO6:=Hd (show o6 bk=0 from(hT6.ow _ HX5.o.lt).trans HO5.o);have HT6:=Hd (HT5.o.trans hT6);clear hM6 hT6 x0 x1 x2;obtain⟨x0,x1,x2⟩:=HC6.o.cells;obtain⟨A8,m8,c8,hb8,ho8,hof8,hoβ⟩:=HM6.o.head;have hm8:b.vals.length=m8:=by have:=ho8.is.1;simpa using this
  have hm8l:m8≤1048576:=by have:=HO.o.vl;omega
  have y8:w6.cell? ⟨M.β,8,none⟩=some (.slice A8 m8 c8):=hb8.cell 8;have fi:w6.frozen? ⟨bi,0,none⟩=false:=HC6.o.i.frozen 0;have HT8:=Hd (HT6.o.set_new (p:=⟨bi,0,none⟩) HBI.o (Aa Ab (m8:Int)));have HC7:=Hd (HC6.o.set m8);have HM7:=Hd (HM6.o.to_ (J4 (p:=⟨bi,0,none⟩) HC6.o.oi (Aa Ab (m8:Int))) Nh);have HX7:=Hd (HX6.o.to_ (J4 (p:=⟨bi,0,none⟩) HC6.o.oi (Aa Ab (m8:Int))) (by rw [HO6.o];decide));go_upto_region 6 with fail
  generalize w6.setCell ⟨bi,0,none⟩ (Aa Ab (m8:Int))=w7 at HC7 HM7 HX7 HT8⊢;clear hb8 ho8 hof8 hoβ x0 x1 x2 y8 fi;obtain⟨x0,x1,x2⟩:=HC7.o.cells;obtain⟨_,_,_,_,b6,_⟩:=C1 HM7.o.head;go_region_held3 (fun w'=>w'.cell? ⟨bx,0,none⟩=some (.pointer (some ⟨M.β,0,none⟩))∧w'.cell? ⟨M.β,6,none⟩=some (.pointer (some ⟨M.lb,0,none⟩))∧w'.cell? ⟨bi,0,none⟩=some (Aa Ab (m8:Int))) (first|with_reducible exact⟨x0,b6,x2⟩|with_reducible exact⟨Ae x0,Ae b6,Ae x2⟩|with_reducible exact⟨y0,y6,y2⟩) (first|(go_at_call 324;(with_reducible refine(Lp 6 M.lb b.lists list m8 _ o6 HM7.o.drew.lists HO.o.ll hm8l).mono ?_);rintro e w8 ⟨⟨x,rfl⟩,o8,hB8,hT8⟩;have hT8':=hT8.from_drew;have hC8:=HC7.o.to_ hT8' (by omega) (by omega);obtain⟨y0,_,y2⟩:=hC8.cells;have hM8:=HM7.o.lists_ hT8' hB8;obtain⟨_,_,_,_,y6,_⟩:=C1 hM8.head;have HM8:=Hd hM8;have HC8:=Hd hC8;have HX8:=Hd (HX7.o.to_ hT8' (by rw [HO6.o];omega));have HO8:=Hd (show o8 bk=0 from(hT8'.ow _ HX7.o.lt).trans HO6.o);have HT9:=Hd (HT8.o.trans (hT8'.mono fun _ h=>Aol h));clear hB8 hT8 hT8' hC8 hM8));clear x0 x1 x2 b6;obtain⟨A9,m9,c9,hb9,ho9,hof9,hoβ9⟩:=HM8.o.head;obtain rfl:m9=m8:=by have:=ho9.is.1;rw [←hm8];simpa using this.symm
  obtain ⟨k0,k1,k2⟩:=HX8.o.c3;have y8:w8.cell? ⟨M.β,8,none⟩=some (.slice A9 m9 c9):=hb9.cell 8;have hW0:Below w8.heap.size w8 (w8.alloc (.cells #[Aa Ab (kv.t:Int),Aa Ab (kv.w:Int),Aa Ac (kv.n:Int)] 210)).drew:=((Below.refl _ _).alloc (Ath _) _).drew;have HW0:=Hd hW0;have HLI:=Hd (show D9 (w8.alloc (.cells #[Aa Ab (kv.t:Int),Aa Ab (kv.w:Int),Aa Ac (kv.n:Int)] 210)).drew (some ⟨w8.heap.size,0,none⟩) 1 [vv kv] from(K3 w8 kv).pure (Below.refl _ _).drew);have HOW:=Hd (ho9.pure hW0);have HB9:=Hd hb9;have HO9:=Hd ho9;have HOF9:=Hd hof9;have HOB9:=Hd hoβ9;have j0:(w8.alloc (.cells #[Aa Ab (kv.t:Int),Aa Ab (kv.w:Int),Aa Ac (kv.n:Int)] 210)).cell? ⟨bx,0,none⟩=some (.pointer (some ⟨M.β,0,none⟩)):=Cn _ y0;have j8:(w8.alloc (.cells #[Aa Ab (kv.t:Int),Aa Ab (kv.w:Int),Aa Ac (kv.n:Int)] 210)).cell? ⟨M.β,8,none⟩=some (.slice A9 m9 c9):=Cn _ y8;have jk0:(w8.alloc (.cells #[Aa Ab (kv.t:Int),Aa Ab (kv.w:Int),Aa Ac (kv.n:Int)] 210)).cell? ⟨bk,0,none⟩=some (Aa Ab (kv.t:Int)):=Cn _ k0;have jk1:(w8.alloc (.cells #[Aa Ab (kv.t:Int),Aa Ab (kv.w:Int),Aa Ac (kv.n:Int)] 210)).cell? ⟨bk,1,none⟩=some (Aa Ab (kv.w:Int)):=Cn _ k1;have jk2:(w8.alloc (.cells #[Aa Ab (kv.t:Int),Aa Ab (kv.w:Int),Aa Ac (kv.n:Int)] 210)).cell? ⟨bk,2,none⟩=some (Aa Ac (kv.n:Int)):=Cn _ k2;clear hb9 ho9 hof9 hoβ9 hW0;go_wp2_with fail;go_cut [] (fun wx=>∃wy,wy=wx∧∃oA,BM M fl wx oA { b with b:=yb,vals:=b.vals++ [kv],lists:=En b.lists list m9}∧Qi M A n c vs bx bv bi m9 wx oA∧To B7 w o wx oA)
  case first=>
   go_region_law (refine Yo rfl (.tmp 65) (.tmp 67) rfl 0 A9 m9 c9 (b.vals.map vv) rfl HOW.o _ 1 1 [vv kv] rfl HLI.o (by omega) (Nat.zero_le _) ?_;intro AA ca W1 hown hfr hat;have hh:=Aav HB9.o HO9.o HOF9.o HOB9.o HW0.o hown hfr hat;have hbx:=(HC8.o.x.pure HW0.o).fr hfr (by rintro⟨ad,e,h⟩;have h1:=HOF9.o ad e;rw [←h,HC8.o.ox] at h1;omega);have hbb:=(HB9.o.pure HW0.o).fr hfr (by rintro⟨ad,e,h⟩;have h1:=HOF9.o ad e;rw [←h,HOB9.o] at h1;omega);have z0:W1.cell? ⟨bx,0,none⟩=some (.pointer (some ⟨M.β,0,none⟩)):=hbx.cell 0;have z8:W1.cell? ⟨M.β,8,none⟩=some (.slice A9 m9 c9):=hbb.cell 8;have f8:W1.frozen? ⟨M.β,8,none⟩=false:=hbb.frozen 8;have hk:=(HX8.o.pure HW0.o).fr hfr (by rintro⟨ad,e,h⟩;have h1:=HOF9.o ad e;rw [←h,HO8.o] at h1;omega);obtain ⟨z1,z2,z3⟩:=hk.c3;have HH:=Hd hh;clear hown hfr hat hh hbx hbb hk)
   all_goals
    go_wp2_with fail;go_meet;exact⟨_,rfl,_,HM8.o.head_ HH.o.2 HH.o.1,HC8.o.to_ HH.o.2 (by omega) (by omega),HT9.o.trans (HH.o.2.mono fun _ h=>Ah6 h)⟩
  case rest=>
   obtain⟨wA,rfl,oA,hMA,hCA,hTA⟩:=hcut;have HMA:=Hd hMA;have HCA:=Hd hCA;have HTA:=Hd hTA;have HF:=Hd (show(b.vals++ [kv])[m9]?=some kv∧b.s.length<65536∧D1 vs yb∧kv.t=14∧Av (kv.w:Int)=true∧Dx yb.length kv from
    ⟨by rw [List.getElem?_append_right (by omega),hm8,Nat.sub_self];rfl,HO.o.st,by have h:=HO.o.vok2;rw [HY.o] at h;exact h,by have h:=HY.o;unfold Bc at h;injection h with _ h;rw [←h],by have h:=HO.o.kw;rw [HY.o] at h;exact h,by have h:=HO.o.kfit;rw [HY.o] at h;exact h⟩)
   clear hMA hCA hTA y0 y2 y6 y8 k0 k1 k2 j0 j8 jk0 jk1 jk2;obtain⟨x0,_,_⟩:=HCA.o.cells;go_wp2_with fail;go_at_call 225;refine(Dq M fl 330 _ _ _ ({ b with b:=yb,vals:=b.vals++ [kv],lists:=En b.lists list m9}).vals _ HMA.o.head Tryz.call330 ((N7 M fl ({ b with b:=yb,vals:=b.vals++ [kv],lists:=En b.lists list m9}) kv m9 bx bi bv A n c vs wA _ HMA.o HCA.o.x HCA.o.i HCA.o.v HCA.o.ox (by rw [HCA.o.oi];decide) HCA.o.ov HCA.o.iv HCA.o.oa HF.o.1 HF.o.2.1 HF.o.2.2.1 HF.o.2.2.2.1 HF.o.2.2.2.2.1 HF.o.2.2.2.2.2).mono fun e w' h=>⟨h.1,h⟩)).mono ?_;rintro e w' ⟨rfl,oz,hMz,hTz⟩;have HMZ:=Hd hMz;have HTZ:=Hd (HTA.o.trans hTz);clear hMz hTz;go_wp2_with fail;go_end0;refine⟨rfl,oz,?_,HTZ.o⟩;rw [HE.o];simp only [HP.o,HY.o,hm8];exact HMZ.o
 |some a=>
  obtain rfl:had=true:=by rw [←hgh];rfl
  obtain rfl:gv=a:=by rw [←hg];rfl
  clear hg hgh;go_wp2_with fail;go_at_call 323;refine(Wj M.β 4 2 fl q w3 b3 (by omega) rfl HQ.o).mono ?_;rintro e w' ⟨rfl,rfl⟩;cases q with
  |false=>
   have HP:=Hd (show(if false=true then some gv else none)=none from rfl);clear b0 b3 x0 x1 x2;have HCI:=Hd HC3.o;obtain⟨b0,_,_,_,b6,_⟩:=C1 HM3.o.head;obtain⟨x0,x1,x2⟩:=HC3.o.cells;go_wp2_with fail;go_at_call 329;refine(Va M.bb nk ck AK ks b.b _ o3 HM3.o.buf HK3.o.1 (fun ad e=>⟨(HK3.o.2 ad e).1,by rw [(HK3.o.2 ad e).2];omega⟩) HO.o.kok HO.o.kel).mono ?_;rintro e w4 ⟨rfl,o4,hB4,hT4⟩;have HM4:=Hd (HM3.o.buf_ hT4 hB4);have HC4:=Hd (HC3.o.to_ hT4 (by omega) (by omega));have HT4:=Hd (HT3.o.trans (hT4.mono fun _ h=>Ia h));clear hB4 hT4 b0 b6 x0 x1 x2;rw [HY.o] at HM4⊢;obtain⟨x0,x1,x2⟩:=HC4.o.cells;have hal:=(Below.refl w4.heap.size w4).alloc (Ath _) (.cells #[Aa Ab (kv.t:Int),Aa Ab (kv.w:Int),Aa Ac (kv.n:Int)] 210);have HM5:=Hd (HM4.o.fresh hal 0);have HC5:=Hd (HC4.o.to_ (To.fresh B7 hal o4 0) Bi nb9);have HT5:=Hd (HT4.o.trans (To.fresh B7 hal o4 0));have HX5:=Hd (Af.new w4 210 #[Aa Ab (kv.t:Int),Aa Ab (kv.w:Int),Aa Ac (kv.n:Int)]);have HO5:=Hd (show Ak o4 w4.heap.size 0 w4.heap.size=0 from Am (Ath _));have HLT:=Hd hal;clear hal;go_upto_region 4 with fail
   generalize w4.alloc (.cells #[Aa Ab (kv.t:Int),Aa Ab (kv.w:Int),Aa Ac (kv.n:Int)] 210)=w5 at HM5 HC5 HT5 HX5⊢;generalize Ak o4 w4.heap.size 0=o5 at HM5 HC5 HT5 HO5;generalize w4.heap.size=bk at HX5 HO5⊢;clear x0 x1 x2;obtain⟨x0,x1,x2⟩:=HC5.o.cells;go_wp2_with fail;go_at_call 157;refine(Ha HM5.o).mono ?_;rintro e w6 ⟨rfl,o6,hM6,hT6⟩;have HM6:=Hd hM6;have HC6:=Hd (HC5.o.to_ hT6 Bi nb9);have HX6:=Hd (HX5.o.to_ hT6 (by rw [HO5.o];exact Bi));have HO6:=Hd (show o6 bk=0 from(hT6.ow _ HX5.o.lt).trans HO5.o);have HT6:=Hd (HT5.o.trans hT6);clear hM6 hT6 x0 x1 x2;obtain⟨x0,x1,x2⟩:=HC6.o.cells;obtain⟨A8,m8,c8,hb8,ho8,hof8,hoβ⟩:=HM6.o.head;have hm8:b.vals.length=m8:=by have:=ho8.is.1;simpa using this
   have hm8l:m8≤1048576:=by have:=HO.o.vl;omega
   have y8:w6.cell? ⟨M.β,8,none⟩=some (.slice A8 m8 c8):=hb8.cell 8;have fi:w6.frozen? ⟨bi,0,none⟩=false:=HC6.o.i.frozen 0;have HT8:=Hd (HT6.o.set_new (p:=⟨bi,0,none⟩) HBI.o (Aa Ab (m8:Int)));have HC7:=Hd (HC6.o.set m8);have HM7:=Hd (HM6.o.to_ (J4 (p:=⟨bi,0,none⟩) HC6.o.oi (Aa Ab (m8:Int))) Nh);have HX7:=Hd (HX6.o.to_ (J4 (p:=⟨bi,0,none⟩) HC6.o.oi (Aa Ab (m8:Int))) (by rw [HO6.o];decide));go_upto_region 6 with fail
   generalize w6.setCell ⟨bi,0,none⟩ (Aa Ab (m8:Int))=w7 at HC7 HM7 HX7 HT8⊢;clear hb8 ho8 hof8 hoβ x0 x1 x2 y8 fi;obtain⟨x0,x1,x2⟩:=HC7.o.cells;obtain⟨_,_,_,_,b6,_⟩:=C1 HM7.o.head;go_region_held3 (fun w'=>w'.cell? ⟨bx,0,none⟩=some (.pointer (some ⟨M.β,0,none⟩))∧w'.cell? ⟨M.β,6,none⟩=some (.pointer (some ⟨M.lb,0,none⟩))∧w'.cell? ⟨bi,0,none⟩=some (Aa Ab (m8:Int))) (first|with_reducible exact⟨x0,b6,x2⟩|with_reducible exact⟨Ae x0,Ae b6,Ae x2⟩|with_reducible exact⟨y0,y6,y2⟩) (first|(go_at_call 324;(with_reducible refine(Lp 6 M.lb b.lists list m8 _ o6 HM7.o.drew.lists HO.o.ll hm8l).mono ?_);rintro e w8 ⟨⟨x,rfl⟩,o8,hB8,hT8⟩;have hT8':=hT8.from_drew;have hC8:=HC7.o.to_ hT8' (by omega) (by omega);obtain⟨y0,_,y2⟩:=hC8.cells;have hM8:=HM7.o.lists_ hT8' hB8;obtain⟨_,_,_,_,y6,_⟩:=C1 hM8.head;have HM8:=Hd hM8;have HC8:=Hd hC8;have HX8:=Hd (HX7.o.to_ hT8' (by rw [HO6.o];omega));have HO8:=Hd (show o8 bk=0 from(hT8'.ow _ HX7.o.lt).trans HO6.o);have HT9:=Hd (HT8.o.trans (hT8'.mono fun _ h=>Aol h));clear hB8 hT8 hT8' hC8 hM8));clear x0 x1 x2 b6;obtain⟨A9,m9,c9,hb9,ho9,hof9,hoβ9⟩:=HM8.o.head;obtain rfl:m9=m8:=by have:=ho9.is.1;rw [←hm8];simpa using this.symm
   obtain ⟨k0,k1,k2⟩:=HX8.o.c3;have y8:w8.cell? ⟨M.β,8,none⟩=some (.slice A9 m9 c9):=hb9.cell 8;have hW0:Below w8.heap.size w8 (w8.alloc (.cells #[Aa Ab (kv.t:Int),Aa Ab (kv.w:Int),Aa Ac (kv.n:Int)] 210)).drew:=((Below.refl _ _).alloc (Ath _) _).drew;have HW0:=Hd hW0;have HLI:=Hd (show D9 (w8.alloc (.cells #[Aa Ab (kv.t:Int),Aa Ab (kv.w:Int),Aa Ac (kv.n:Int)] 210)).drew (some ⟨w8.heap.size,0,none⟩) 1 [vv kv] from(K3 w8 kv).pure (Below.refl _ _).drew);have HOW:=Hd (ho9.pure hW0);have HB9:=Hd hb9;have HO9:=Hd ho9;have HOF9:=Hd hof9;have HOB9:=Hd hoβ9;have j0:(w8.alloc (.cells #[Aa Ab (kv.t:Int),Aa Ab (kv.w:Int),Aa Ac (kv.n:Int)] 210)).cell? ⟨bx,0,none⟩=some (.pointer (some ⟨M.β,0,none⟩)):=Cn _ y0;have j8:(w8.alloc (.cells #[Aa Ab (kv.t:Int),Aa Ab (kv.w:Int),Aa Ac (kv.n:Int)] 210)).cell? ⟨M.β,8,none⟩=some (.slice A9 m9 c9):=Cn _ y8;have jk0:(w8.alloc (.cells #[Aa Ab (kv.t:Int),Aa Ab (kv.w:Int),Aa Ac (kv.n:Int)] 210)).cell? ⟨bk,0,none⟩=some (Aa Ab (kv.t:Int)):=Cn _ k0;have jk1:(w8.alloc (.cells #[Aa Ab (kv.t:Int),Aa Ab (kv.w:Int),Aa Ac (kv.n:Int)] 210)).cell? ⟨bk,1,none⟩=some (Aa Ab (kv.w:Int)):=Cn _ k1;have jk2:(w8.alloc (.cells #[Aa Ab (kv.t:Int),Aa Ab (kv.w:Int),Aa Ac (kv.n:Int)] 210)).cell? ⟨bk,2,none⟩=some (Aa Ac (kv.n:Int)):=Cn _ k2;clear hb9 ho9 hof9 hoβ9 hW0;go_wp2_with fail;go_cut [] (fun wx=>∃wy,wy=wx∧∃oA,BM M fl wx oA { b with b:=yb,vals:=b.vals++ [kv],lists:=En b.lists list m9}∧Qi M A n c vs bx bv bi m9 wx oA∧To B7 w o wx oA)
   case first=>
    go_region_law (refine Yo rfl (.tmp 65) (.tmp 67) rfl 0 A9 m9 c9 (b.vals.map vv) rfl HOW.o _ 1 1 [vv kv] rfl HLI.o (by omega) (Nat.zero_le _) ?_;intro AA ca W1 hown hfr hat;have hh:=Aav HB9.o HO9.o HOF9.o HOB9.o HW0.o hown hfr hat;have hbx:=(HC8.o.x.pure HW0.o).fr hfr (by rintro⟨ad,e,h⟩;have h1:=HOF9.o ad e;rw [←h,HC8.o.ox] at h1;omega);have hbb:=(HB9.o.pure HW0.o).fr hfr (by rintro⟨ad,e,h⟩;have h1:=HOF9.o ad e;rw [←h,HOB9.o] at h1;omega);have z0:W1.cell? ⟨bx,0,none⟩=some (.pointer (some ⟨M.β,0,none⟩)):=hbx.cell 0;have z8:W1.cell? ⟨M.β,8,none⟩=some (.slice A9 m9 c9):=hbb.cell 8;have f8:W1.frozen? ⟨M.β,8,none⟩=false:=hbb.frozen 8;have hk:=(HX8.o.pure HW0.o).fr hfr (by rintro⟨ad,e,h⟩;have h1:=HOF9.o ad e;rw [←h,HO8.o] at h1;omega);obtain ⟨z1,z2,z3⟩:=hk.c3;have HH:=Hd hh;clear hown hfr hat hh hbx hbb hk)
    all_goals
     go_wp2_with fail;go_meet;exact⟨_,rfl,_,HM8.o.head_ HH.o.2 HH.o.1,HC8.o.to_ HH.o.2 (by omega) (by omega),HT9.o.trans (HH.o.2.mono fun _ h=>Ah6 h)⟩
   case rest=>
    obtain⟨wA,rfl,oA,hMA,hCA,hTA⟩:=hcut;have HMA:=Hd hMA;have HCA:=Hd hCA;have HTA:=Hd hTA;have HF:=Hd (show(b.vals++ [kv])[m9]?=some kv∧b.s.length<65536∧D1 vs yb∧kv.t=14∧Av (kv.w:Int)=true∧Dx yb.length kv from
     ⟨by rw [List.getElem?_append_right (by omega),hm8,Nat.sub_self];rfl,HO.o.st,by have h:=HO.o.vok2;rw [HY.o] at h;exact h,by have h:=HY.o;unfold Bc at h;injection h with _ h;rw [←h],by have h:=HO.o.kw;rw [HY.o] at h;exact h,by have h:=HO.o.kfit;rw [HY.o] at h;exact h⟩)
    clear hMA hCA hTA y0 y2 y6 y8 k0 k1 k2 j0 j8 jk0 jk1 jk2;obtain⟨x0,_,_⟩:=HCA.o.cells;go_wp2_with fail;go_at_call 225;refine(Dq M fl 330 _ _ _ ({ b with b:=yb,vals:=b.vals++ [kv],lists:=En b.lists list m9}).vals _ HMA.o.head Tryz.call330 ((N7 M fl ({ b with b:=yb,vals:=b.vals++ [kv],lists:=En b.lists list m9}) kv m9 bx bi bv A n c vs wA _ HMA.o HCA.o.x HCA.o.i HCA.o.v HCA.o.ox (by rw [HCA.o.oi];decide) HCA.o.ov HCA.o.iv HCA.o.oa HF.o.1 HF.o.2.1 HF.o.2.2.1 HF.o.2.2.2.1 HF.o.2.2.2.2.1 HF.o.2.2.2.2.2).mono fun e w' h=>⟨h.1,h⟩)).mono ?_;rintro e w' ⟨rfl,oz,hMz,hTz⟩;have HMZ:=Hd hMz;have HTZ:=Hd (HTA.o.trans hTz);clear hMz hTz;go_wp2_with fail;go_end0;refine⟨rfl,oz,?_,HTZ.o⟩;rw [HE.o];simp only [HP.o,HY.o,hm8];exact HMZ.o
  |true=>
   obtain⟨kv0,hk0⟩:=HAD.o gv rfl;have HF:=Hd (show b.vals[gv]?=some kv0∧b.s.length<65536∧D1 vs b.b∧kv0.t=14∧Av (kv0.w:Int)=true∧Dx b.b.length kv0 from⟨hk0.1,HO.o.st,HO.o.vok,hk0.2.1,hk0.2.2.1,hk0.2.2.2⟩);have HV:=Hd (show b.vals.getD gv ⟨0,0,0⟩=kv0 by rw [Atw,hk0.1];rfl);clear hk0 b0 b3 x0 x1 x2;obtain⟨x0,_,_⟩:=HC3.o.cells;go_wp2_with fail;go_at_call 225;refine(Dq M fl 330 _ _ _ (b).vals _ HM3.o.head Tryz.call330 ((N7 M fl (b) kv0 gv bx bi bv A n c vs w3 _ HM3.o HC3.o.x HC3.o.i HC3.o.v HC3.o.ox (by rw [HC3.o.oi];decide) HC3.o.ov HC3.o.iv HC3.o.oa HF.o.1 HF.o.2.1 HF.o.2.2.1 HF.o.2.2.2.1 HF.o.2.2.2.2.1 HF.o.2.2.2.2.2).mono fun e w' h=>⟨h.1,h⟩)).mono ?_;rintro e w' ⟨rfl,oz,hMz,hTz⟩;have HMZ:=Hd hMz;have HTZ:=Hd (HT3.o.trans hTz);clear hMz hTz;go_wp2_with fail;go_end0;refine⟨rfl,oz,?_,HTZ.o⟩;rw [HE.o];simp only [↓reduceIte,HV.o];exact HMZ.o
end Go.Proofs.YtgbjodnegkbfoaaGreat
namespace Go.Proofs.YtgbjodnegkbfoaaGreat
open Go.Shelf Go.RowKit Go.Acc
def Ae2:Go.Shelf.Ren:=⟨fun|166=>239|240=>328|276=>384|n=>n,fun|0=>0|3=>3|4=>4|9=>9|20=>20|5=>5|37=>28|70=>280|72=>282|75=>284|80=>288|164=>399|n=>n,fun|n=>n⟩
theorem sbw:Go.Proofs.Lays.n166 Tryz.prog Ae2:={
 mixed:=by kernel_rfl
 f166:=Tryz.func239.trans (congrArg some (by kernel_rfl))
 f240:=Tryz.func328.trans (congrArg some (by kernel_rfl))
 f276:=Tryz.func384.trans (congrArg some (by kernel_rfl))
 t0:=Tryz.underlying0
 a0:=Tryz.isAgg0
 z0:=Tryz.sizeOf0
 v0:=Tryz.zeroValue0
 t3:=Tryz.underlying3
 a3:=Tryz.isAgg3
 z3:=Tryz.sizeOf3
 v3:=Tryz.zeroValue3
 t4:=Tryz.underlying4
 a4:=Tryz.isAgg4
 z4:=Tryz.sizeOf4
 v4:=Tryz.zeroValue4
 t9:=Tryz.underlying9
 a9:=Tryz.isAgg9
 z9:=Tryz.sizeOf9
 v9:=Tryz.zeroValue9
 t20:=Tryz.underlying20
 a20:=Tryz.isAgg20
 z20:=Tryz.sizeOf20
 v20:=Tryz.zeroValue20
 t37:=Tryz.underlying28
 a37:=Tryz.isAgg28
 z37:=Tryz.sizeOf28
 v37:=Tryz.zeroValue28
 t70:=Tryz.underlying280
 a70:=Tryz.isAgg280
 z70:=Tryz.sizeOf280
 v70:=Tryz.zeroValue280
 t72:=Tryz.underlying282
 a72:=Tryz.isAgg282
 z72:=Tryz.sizeOf282
 v72:=Tryz.zeroValue282
 t75:=Tryz.underlying284
 a75:=Tryz.isAgg284
 z75:=Tryz.sizeOf284
 v75:=Tryz.zeroValue284
 t164:=Tryz.underlying399
 a164:=Tryz.isAgg399
 z164:=Tryz.sizeOf399
 v164:=Tryz.zeroValue399}
def Ae1:Go.Shelf.Ren:=⟨fun|169=>241|n=>n,fun|0=>0|3=>3|9=>9|5=>5|37=>28|70=>280|72=>282|127=>353|n=>n,fun|n=>n⟩
theorem sbs:Go.Proofs.Lays.n169 Tryz.prog Ae1:={
 mixed:=by kernel_rfl
 f169:=Tryz.func241.trans (congrArg some (by kernel_rfl))
 t0:=Tryz.underlying0
 a0:=Tryz.isAgg0
 z0:=Tryz.sizeOf0
 v0:=Tryz.zeroValue0
 t3:=Tryz.underlying3
 a3:=Tryz.isAgg3
 z3:=Tryz.sizeOf3
 v3:=Tryz.zeroValue3
 t9:=Tryz.underlying9
 a9:=Tryz.isAgg9
 z9:=Tryz.sizeOf9
 v9:=Tryz.zeroValue9
 t37:=Tryz.underlying28
 a37:=Tryz.isAgg28
 z37:=Tryz.sizeOf28
 v37:=Tryz.zeroValue28
 t70:=Tryz.underlying280
 a70:=Tryz.isAgg280
 z70:=Tryz.sizeOf280
 v70:=Tryz.zeroValue280
 t72:=Tryz.underlying282
 a72:=Tryz.isAgg282
 z72:=Tryz.sizeOf282
 v72:=Tryz.zeroValue282
 t127:=Tryz.underlying353
 a127:=Tryz.isAgg353
 z127:=Tryz.sizeOf353
 v127:=Tryz.zeroValue353}
theorem Akw:Builder.Extra Tryz.prog Ae2 where
 sizeBuilder:=by kernel_rfl
 liesBuilder:=by kernel_rfl
 t5:=Tryz.underlying5
 a5:=Tryz.isAgg5
 z5:=Tryz.sizeOf5
 v5:=Tryz.zeroValue5
 infoByte:=by kernel_rfl
 cellsByte:=by kernel_rfl
 sizeByte:=by kernel_rfl
 neB5:=by decide
theorem Akv:Builder.Extra Tryz.prog Ae1 where
 sizeBuilder:=by kernel_rfl
 liesBuilder:=by kernel_rfl
 t5:=Tryz.underlying5
 a5:=Tryz.isAgg5
 z5:=Tryz.sizeOf5
 v5:=Tryz.zeroValue5
 infoByte:=by kernel_rfl
 cellsByte:=by kernel_rfl
 sizeByte:=by kernel_rfl
 neB5:=by decide
def SbO(w:World)(B b:Nat)(l:List UInt8):Prop:=Go.Lib.IsBuilderF 282 5 B b (Go.Lib.byteCells l) w
theorem Aln(B b:Nat)(l s:List UInt8)(w:World)(h:SbO w B b l)(hl:l.length+s.length≤1048576)(hB:B≤w.heap.size):
  Calls Tryz.prog 239 #[.pointer (some ⟨b,0,none⟩),.string ⟨s.toArray⟩] w fun e w'=>(∃x,e= .returned x)∧SbO w' B b (l++s)∧Below B w w':=by
 refine(Any.Builder_WriteString_k sbw Akw B b (Go.Lib.byteCells l) ⟨s.toArray⟩ w h ?_ hB).mono ?_
 ·show _+s.toArray.size≤_;rw [Go.Lib.byteCells_length,List.size_toArray];omega
 ·rintro e w' ⟨rfl,h1,h2,_⟩;refine⟨⟨_,rfl⟩,.inr ?_,h2⟩;have e1:Go.Lib.byteCells l++Go.Lib.strCells ⟨s.toArray⟩=Go.Lib.byteCells (l++s):=by
   simp [Go.Lib.byteCells,Go.Lib.strCells]
  rw [←e1];exact h1
theorem Zq(B b:Nat)(l:List UInt8)(w:World)(h:SbO w B b l)(hB:B≤w.heap.size):
  Calls Tryz.prog 241 #[.pointer (some ⟨b,0,none⟩)] w fun e w'=>e= .returned (.string ⟨l.toArray⟩)∧Below B w w':=by
 refine(Any.Builder_String_any_k sbs Akv B b l w h hB).mono ?_;rintro e w' ⟨rfl,_,h2,_⟩;exact⟨rfl,h2⟩
theorem Ary(w:World):SbO (w.alloc (.cells #[.pointer none,.slice none 0 0] 282)) w.heap.size w.heap.size []:=Go.Lib.IsBuilderF.of (Go.Lib.fresh_isBuilder 282 5 w)
end Go.Proofs.YtgbjodnegkbfoaaGreat
namespace Go.Proofs.YtgbjodnegkbfoaaGreat
open Go.Acc
structure Hw(b:Bd):Prop where
 keys:∀s a,Bf b.keys s=some a→b.names.find? (fun x=>x.1==a)=some (a,s)
 lt:∀x∈b.names,x.1<b.b.length
structure Eo(b b':Bd):Prop where
 keep:∀a s,b.names.find? (fun x=>x.1==a)=some (a,s)→b'.names.find? (fun x=>x.1==a)=some (a,s)
 ok:Hw b'
theorem Eo.trans{a b c:Bd}(h:Eo a b)(h':Eo b c):Eo a c:=⟨fun x s e=>h'.keep x s (h.keep x s e),h'.ok⟩
theorem Eo.same{b b':Bd}(h:Hw b)(hk:b'.keys=b.keys)(hn:b'.names=b.names)(hl:b.b.length≤b'.b.length):Eo b b':=
 ⟨fun a s e=>by rw [hn];exact e,⟨fun s a e=>by rw [hk] at e;rw [hn];exact h.keys s a e,fun x hx=>by rw [hn] at hx;exact Atr (h.lt x hx) hl⟩⟩
theorem Ap1:Hw Bd.new:=⟨fun s a e=>by simp [Bd.new,Bf] at e,fun x hx=>by simp [Bd.new] at hx⟩
theorem Gb.len{b b':Bd}(h:Gb b b'):b.b.length≤b'.b.length:=by
 obtain⟨⟨m,e⟩,_⟩:=h;rw [e,Atj];omega
theorem Hw.find_lt{b:Bd}(h:Hw b){a:Nat}{s:List UInt8}(e:b.names.find? (fun x=>x.1==a)=some (a,s)):a<b.b.length:=h.lt _ (List.mem_of_find?_eq_some e)
def Alq(names:List (Nat×List UInt8))(s:List UInt8)(v:Bv):Prop:=v.t=4∧names.find? (fun x=>x.1==v.n)=some (v.n,s)
theorem J2(f:Nat)(s:List UInt8)(b:Bd)(h:Hw b):Eo b (b.put f s).1∧Alq (b.put f s).1.names s (b.put f s).2:=by
 unfold Bd.put;split
 ·next a ha=>
  split at ha
  ·exact⟨Eo.same h rfl rfl (Ath _),rfl,h.keys s a ha⟩
  ·cases ha
 ·have hkeep:∀a s',b.names.find? (fun x=>x.1==a)=some (a,s')→((b.b.length,s)::b.names).find? (fun x=>x.1==a)=some (a,s'):=by
   intro a s' e;have hl:=h.find_lt e;rw [List.find?_cons];have e2:(b.b.length==a)=false:=beq_eq_false_iff_ne.mpr (by omega);simp only [e2];exact e
  have hnew:((b.b.length,s)::b.names).find? (fun x=>x.1==b.b.length)=some (b.b.length,s):=by simp
  refine⟨⟨hkeep,⟨fun k a e=>?_,fun x hx=>?_⟩⟩,rfl,hnew⟩
  ·rcases Ir e with e|⟨rfl,rfl⟩
   ·exact hkeep a k (h.keys k a e)
   ·exact hnew
  ·simp only [List.mem_cons] at hx;simp only [Atj,List.length_singleton];rcases hx with rfl|hx
   ·show b.b.length<b.b.length+s.length+1;omega
   ·have:=h.lt x hx;omega
theorem Pv(f:Nat):∀(l:List (List UInt8)) (b:Bd),Hw b→Eo b (b.puts f l).1
 | [],_,h=>Eo.same h rfl rfl (Ath _)
 |s::r,b,h=>(J2 f s b h).1.trans (Pv f r _ (J2 f s b h).1.ok)
theorem Rv(t:Nat)(len tags:Bool)(l:List Bv)(b:Bd)(h:Hw b):Eo b (b.vec t len tags l):=by
 obtain⟨m,e⟩:=Lb t len tags l b.b;exact Eo.same h rfl rfl (by show b.b.length≤(Bc t len tags l b.b).1.length;rw [e,Atj];omega)
theorem Ags(f:Nat){k:Int}(n:Int)(u:Nat)(s:List UInt8)(h1:1≤k)(h2:k≤9)(b:Bd)(hg:Cr b)(h:Hw b):Eo b (b.leaf f k n u s):=by
 obtain⟨_,_,s1,_⟩:=Abb f n u s [] [] h1 h2 b hg;have hl:=s1.len;by_cases h5:k=5
 ·subst h5;have e:b.leaf f 5 n u s=b.key f s:=by simp [Bd.leaf]
  rw [e];have h3:=(J2 f s b h).1;exact⟨h3.keep,h3.ok.1,h3.ok.2⟩
 ·refine Eo.same h ?_ ?_ hl
  ·unfold Bd.leaf;simp only [if_neg h5]
   repeat' (split;try rfl)
   all_goals first|rfl|(unfold Bd.str;simp only [];split <;>rfl)
  ·unfold Bd.leaf;simp only [if_neg h5]
   repeat' (split;try rfl)
   all_goals first|rfl|(unfold Bd.str;simp only [];split <;>rfl)
theorem Agl(f:Nat)(k:Int)(c:List Tr)(b:Bd)(h:Hw b):Eo b (b.flat f k c):=by
 unfold Bd.flat
 repeat' split
 all_goals first
  |exact Rv _ _ _ _ _ h
  |exact(Pv f _ b h).trans (Rv _ _ _ _ _ (Pv f _ b h).ok)
theorem Mn(f:Nat):∀(c:List Tr),(∀t∈c,Nu f t)→(∀t∈c,∀b,Cr b→Hw b→Eo b (Bd.calls f t b))→∀b,Cr b→Hw b→Eo b (Bd.callsL f c b)
 | [],_,_,b,_,h=>by rw [Bd.callsL];exact Eo.same h rfl rfl (Ath _)
 |t::r,hd,hc,b,hg,h=>by
  obtain⟨v,e1,s1,r1⟩:=hd t (by simp) b hg;have h1:=hc t (by simp) b hg h;rw [Bd.callsL];exact h1.trans (Mn f r (fun t ht=>hd t (by simp [ht])) (fun t ht=>hc t (by simp [ht])) _ s1.2 h1.ok)
theorem Kb(f:Nat):∀(c:List Tr) (ks:List (List UInt8)),ks.length=c.length→(∀t∈c,Nu f t)→(∀t∈c,∀b,Cr b→Hw b→Eo b (Bd.calls f t b))→∀b,Cr b→Hw b→
  Eo b (Bd.callsM f ks c b)∧∃kvs vs,(Bd.callsM f ks c b).s=b.s++D2 kvs vs∧kvs.length=ks.length∧vs.length=c.length∧∀(i:Nat) s v,ks[i]?=some s→kvs[i]?=some v→Alq (Bd.callsM f ks c b).names s v
 | [],ks,hk,_,_,b,_,h=>by
  obtain rfl:ks=[]:=List.eq_nil_of_length_eq_zero hk;rw [Bd.callsM];exact⟨Eo.same h rfl rfl (Ath _),[],[],by simp [D2],rfl,rfl,fun i s v h=>by simp at h⟩
 |t::r,[],hk,_,_,_,_,_=>by simp at hk
 |t::r,s::ks,hk,hd,hc,b,hg,h=>by
  obtain⟨⟨hp1,hp2⟩,hp3,hp4⟩:=R9 f s b hg;have e0:(b.key f s).s=b.s++ [(b.put f s).2]:=by simp [Bd.key,Bd.push,hp4]
  have g0:Cr (b.key f s):=(Od f s b hg).elim fun _ h=>h.2.1.2
  obtain⟨n0,k0⟩:=J2 f s b h;have n0':Eo b (b.key f s):=⟨n0.keep,n0.ok.1,n0.ok.2⟩;obtain⟨v,e1,s1,r1⟩:=hd t (by simp) (b.key f s) g0;have n1:=hc t (by simp) (b.key f s) g0 n0'.ok;obtain⟨n2,kvs,vs,e2,l2,l3,k2⟩:=Kb f r ks (by simpa using hk) (fun t ht=>hd t (by simp [ht])) (fun t ht=>hc t (by simp [ht])) (Bd.calls f t (b.key f s)) s1.2 n1.ok;have ee:Bd.callsM f (s::ks) (t::r) b=Bd.callsM f ks r (Bd.calls f t (b.key f s)):=by rw [Bd.callsM];rfl
  rw [ee];refine⟨(n0'.trans n1).trans n2,(b.put f s).2::kvs,v::vs,by rw [e2,e1,e0];simp [D2],by simp [l2],by simp [l3],fun i x v' hx hv=>?_⟩;cases i with
  |zero=>
   simp only [List.getElem?_cons_zero,Option.some.injEq] at hx hv;subst hx hv;exact⟨k0.1,(n1.trans n2).keep _ _ k0.2⟩
  |succ i=>
   simp only [List.getElem?_cons_succ] at hx hv;exact k2 i x v' hx hv
theorem Aaj(f:Nat)(ks:List (List UInt8))(start:Nat)(b:Bd)(h:Hw b)(hl:b.b.length≤(b.endMap f ks start).b.length):Eo b (b.endMap f ks start):=by
 refine Eo.same h ?_ ?_ hl
 ·unfold Bd.endMap;simp only [];split <;>rfl
 ·unfold Bd.endMap;simp only [];split <;>rfl
theorem Nz(f:Nat)(t:Tr)(h:Ok t):∀b,Cr b→Hw b→Eo b (Bd.calls f t b):=by
 induction h with
 |leaf n u s ks c h1 h2=>
  intro b hg hn;rename_i k;have e:Bd.calls f (.mk k n u s ks c) b=b.leaf f k n u s:=by
   rw [Bd.calls,if_neg (by omega),if_neg (by omega),if_pos h2]
  rw [e];exact Ags f n u s h1 h2 b hg hn
 |flat n u s ks c h1 h2=>
  intro b hg hn;rename_i k;have e:Bd.calls f (.mk k n u s ks c) b=b.flat f k c:=by
   rw [Bd.calls,if_neg (by omega),if_neg (by omega),if_neg (by omega)]
  rw [e];exact Agl f k c b hn
 |vec n u s ks hd ih=>
  intro b hg hn;rename_i c;have e:Bd.calls f (.mk 10 n u s ks c) b=(Bd.callsL f c b).endVec b.s.length:=by rw [Bd.calls,if_pos rfl]
  rw [e];have h1:=Mn f c (fun t ht=>E5 f t (hd t ht)) ih b hg hn;have h2:Hw { Bd.callsL f c b with s:=(Bd.callsL f c b).s.take b.s.length}:=⟨h1.ok.1,h1.ok.2⟩;have h3:=Rv 10 true true ((Bd.callsL f c b).s.drop b.s.length) _ h2;exact h1.trans ⟨h3.keep,h3.ok⟩
 |map n u s hl h0 hd ih=>
  intro b hg hn;rename_i c ks;have e:Bd.calls f (.mk 17 n u s ks c) b=(Bd.callsM f ks c b).endMap f ks b.s.length:=by
   rw [Bd.calls,if_neg (by omega),if_pos rfl]
  obtain⟨kvs,vs,e1,l1,s1,k1,r1⟩:=Iz f c ks hl (fun t ht=>E5 f t (hd t ht)) b hg;obtain⟨_,_,_,_,s2,_⟩:=O6 f ks b.s (Bd.callsM f ks c b) kvs vs s1.2 e1 (by rw [k1.1,l1,hl]) h0 k1 (M7 l1 r1);have h1:=(Kb f c ks hl (fun t ht=>E5 f t (hd t ht)) ih b hg hn).1;rw [e];exact h1.trans (Aaj f ks b.s.length _ h1.ok s2.len)
theorem Ank{n:Nat}{ps:List Nat}(l:List (List UInt8))(hl:l.length=n)(hp:ps.Perm (List.range n))(ha:∀(i j:Nat) (hi:i<ps.length) (hj:j<ps.length),i<j→l.getD ps[i] []<l.getD ps[j] [])(hs:l.Pairwise (· < ·)):ps=List.range n:=by
 have hm:∀p∈ps,p<n:=fun p h=>List.mem_range.1 (hp.mem_iff.1 h)
 have hg:∀p (h:p<n),l.getD p []=l[p]:=fun p h=>by rw [Atw,Ati];rfl
 have h1:ps.Pairwise (· < ·):=by
  rw [List.pairwise_iff_getElem];intro i j hi hj hij;have h2:=ha i j hi hj hij;have hpi:=hm ps[i] (List.getElem_mem _);have hpj:=hm ps[j] (List.getElem_mem _);rw [hg _ hpi,hg _ hpj] at h2;rcases Nat.lt_trichotomy ps[i] ps[j] with h3|h3|h3
  ·exact h3
  ·rw [getElem_congr_idx (c:=l) h3] at h2;exact absurd h2 (List.lt_irrefl _)
  ·rw [List.pairwise_iff_getElem] at hs;exact absurd h2 (List.lt_asymm (hs _ _ (by omega) (by omega) h3))
 exact hp.eq_of_pairwise (fun a b _ _ h h'=>absurd h (Nat.lt_asymm h')) h1 List.pairwise_lt_range
theorem O1:∀(ks vs:List Bv) (i:Nat),ks.length=vs.length→(D2 ks vs)[2*i]?=ks[i]?∧(D2 ks vs)[2*i+1]?=vs[i]?
 | [],[],i,_=>⟨by simp [D2],by simp [D2]⟩
 | [],_::_,_,h=>by simp at h
 |_::_,[],_,h=>by simp at h
 |k::r,v::q,0,_=>⟨rfl,rfl⟩
 |k::r,v::q,i+1,h=>by
  obtain⟨h1,h2⟩:=O1 r q i (by simpa using h);have e1:2*(i+1)=2*i+1+1:=by omega
  have e2:2*(i+1)+1=2*i+1+1+1:=by omega
  rw [e2,e1];simp only [D2,List.getElem?_cons_succ];exact⟨h1,h2⟩
theorem O2:∀(ks vs:List Bv),ks.length=vs.length→(D2 ks vs).length=2*ks.length
 | [],[],_=>rfl
 | [],_::_,h=>by simp at h
 |_::_,[],h=>by simp at h
 |k::r,v::q,h=>by
  have:=O2 r q (by simpa using h);simp only [D2,List.length_cons,this];omega
theorem Akl(ks vs:List Bv)(h:ks.length=vs.length):(List.range ks.length).map (fun p=>(D2 ks vs).getD (2*p+0) ⟨0,0,0⟩)=ks∧(List.range ks.length).map (fun p=>(D2 ks vs).getD (2*p+1) ⟨0,0,0⟩)=vs:=by
 refine⟨?_,?_⟩
 ·apply List.ext_getElem (by simp);intro i h1 h2;rw [List.getElem_map,List.getElem_range,Atw,Nat.add_zero,(O1 ks vs i h).1,Ati h2];rfl
 ·apply List.ext_getElem (by simp [h]);intro i h1 h2;rw [List.getElem_map,List.getElem_range,Atw,(O1 ks vs i h).2,Ati h2];rfl
theorem U3(a b:List (List UInt8)):Cl (a++b)=Cl a++Cl b:=by simp [Cl]
theorem Agw(s:List UInt8):Cl [s]=s++ [0]:=by simp [Cl]
theorem U4:∀(l:List (List UInt8)),(Cl l).length≤Bb l
 | []=>by simp [Cl]
 |s::r=>by
  have:=U4 r;simp only [Cl,List.flatMap_cons,Atj,List.length_singleton,Bb] at this⊢;omega
end Go.Proofs.YtgbjodnegkbfoaaGreat
