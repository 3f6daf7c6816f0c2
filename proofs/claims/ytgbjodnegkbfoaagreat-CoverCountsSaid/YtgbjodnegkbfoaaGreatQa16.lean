/- Parts of the proof. -/
import Derived.Test.YtgbjodnegkbfoaaGreatQa15
import Derived.Maps.Views
import Derived.Maps.Ext
set_option maxHeartbeats 2000000
set_option maxRecDepth 100000
open Go.Value renaming int→Aa
open Go.IntKind renaming i64→Ab,u64→Ac
open Nat renaming le_refl→Ath,zero_le→Atl
open List renaming length_map→Atq,take_of_length_le→Att,mem_of_getElem?→Atu,take_succ_eq_append_getElem→Atv
namespace Go.Proofs.YtgbjodnegkbfoaaGreat
open Go.RowKit Go.Acc
theorem Oe:Maps.Keyed Tryz.prog 22:=Maps.int_keyed Tryz.underlying22
theorem Vt(a:Nat)(ha:a<18446744073709551616):(Lit.int .u64 (a:Int)).wf=true:=by
 have h1:IntKind.u64.min=0:=rfl;have h2:IntKind.u64.max=18446744073709551615:=rfl;simp [Lit.wf,h1,h2];omega
theorem X6{w w':World}{o:Nat→Nat}{p n a:Nat}{s:List UInt8}{m:List (Nat×List UInt8)}{D:DataW Unit}(op:o p=7)(hm:w.ownsMap (H:=Unit) Tryz.prog 22 (plainElem Tryz.prog 9) p n D)(hn:n≤m.length)
  (hat:∀a s,m.find? (fun x=>x.1==a)=some (a,s)→D.atKey (.int .u64 a) (.lit (.string []))= .lit (.string s))
  (hm':w'.ownsMap (H:=Unit) Tryz.prog 22 (plainElem Tryz.prog 9) p (n+1) (D.put (.int .u64 (a:Int)) (.lit (.string s)))) (hg:w.grownBy w' (some p)) (ha:a<18446744073709551616):
  Lj w' (Ak o w.heap.size 7) p ((a,s)::m)∧To (fun i=>i=7) w o w' (Ak o w.heap.size 7):=by
 have hk:WideAt.IsKeyLit (.int .u64 (a:Int)):=Oe.key (Maps.keyOf_int_mk Tryz.underlying22 (Vt a ha));obtain⟨es,hD,_⟩:=hm.canon Oe;refine⟨⟨by rw [Au hm.lt];exact op,n+1,_,hm',by simp;omega,?_⟩,To.of_fr (Fr.of_grown hg) ?_ 7⟩
 ·intro a' s' hf;rw [List.find?_cons] at hf;by_cases e:a=a'
  ·subst e;simp at hf;subst hf;exact Maps.atKey_put_same ⟨es,hD⟩ hk _ _
  ·have e2:(a==a')=false:=beq_eq_false_iff_ne.mpr e;simp only [e2] at hf;rw [Maps.atKey_put_other (by intro h;injection h with _ h;omega)];exact hat a' s' hf
 ·intro k _ hk;injection hk with hk
  rw [hk];exact op
structure Ow(b:Bd)(s:List UInt8):Prop where
 st:b.s.length<65536
 len:b.b.length+s.length+1≤1048576
 ky:b.keys.length≤1048575
 nm:b.names.length≤1048575
theorem Arw(f:Nat)(s:List UInt8)(b:Bd)(g:Option Nat)(q:Bool)(hg:Bf b.keys s=g)(hq:Ek f 1=q):b.put f s=match(if q=true then g else none) with
 |some a=>(b,⟨4,1,a⟩)
 |none=>({ b with b:=b.b++s++ [0],keys:=En b.keys s b.b.length,names:=(b.b.length,s)::b.names},⟨4,1,b.b.length⟩):=by
 unfold Bd.put;rw [hg,hq];cases(if q=true then g else none) <;>rfl
theorem _root_.Go.Acc.To.set_new{I:Nat→Prop}{w w':World}{o o':Nat→Nat}(h:To I w o w' o'){p:Addr}(hp:w.heap.size≤p.block)(v:Value):To I w o (w'.setCell p v) o':=
 ⟨h.fr.setCell (fun hlt=>absurd hlt (by omega)) v,h.ow⟩
theorem BM.set_lone{M:Bp}{fl:Int}{w:World}{o:Nat→Nat}{b:Bd}(h:BM M fl w o b){p:Addr}(hp:o p.block=0)(v:Value):BM M fl (w.setCell p v) o b:=
 h.to_ (To.of_fr0 (I:=fun i=>i=0) (Fr.setCell (S:=fun k=>k=p.block) (Fr.refl _ w) (fun _=>rfl) v) (by rintro k _ rfl;exact hp)) (fun i hi e=>by subst e;exact Bi hi)
theorem Aok{i:Nat}(h:i=4):B7 i:=by subst h;exact⟨by omega,by omega⟩
theorem Aom{i:Nat}(h:i=7):B7 i:=by subst h;exact⟨by omega,by omega⟩
theorem O0{w:World}{r:Nat}{t:TypeId}{x y z:Value}(h:Af w r t #[x,y,z]):(w.cell? ⟨r,0,none⟩=some x∧w.cell? ⟨r,1,none⟩=some y∧w.cell? ⟨r,2,none⟩=some z)∧w.frozen? ⟨r,0,none⟩=false∧w.frozen? ⟨r,1,none⟩=false∧w.frozen? ⟨r,2,none⟩=false:=
 ⟨⟨h.cell 0,h.cell 1,h.cell 2⟩,h.frozen 0,h.frozen 1,h.frozen 2⟩
theorem Xo(M:Bp)(fl:Int)(b:Bd)(s:List UInt8)(w:World)(o:Nat→Nat)(h:BM M fl w o b)(hr:Ow b s)(hz:Br s=false):
  Calls Tryz.prog 228 #[.pointer (some ⟨M.β,0,none⟩),.string ⟨s.toArray⟩] w fun e w'=>∃a:Nat,(b.put (bits fl) s).2=⟨4,1,a⟩∧e= .returned (.agg #[Aa Ab 4,Aa Ab 1,Aa Ac (a:Int)])∧∃o',BM M fl w' o' (b.put (bits fl) s).1∧To B7 w o w' o':=by
 have HR:=Hd hr;obtain⟨g,hg⟩:∃g,Bf b.keys s=g:=⟨_,rfl⟩;obtain⟨q,hq⟩:∃q,Ek (bits fl) 1=q:=⟨_,rfl⟩;have HE:=Hd (Arw (bits fl) s b g q hg hq);have HQ:=Hd hq;obtain⟨gv,hgv⟩:∃v,g.getD 0=v:=⟨_,rfl⟩;obtain⟨had,hhad⟩:∃v,g.isSome=v:=⟨_,rfl⟩;have HG:=Hd (show Tj (Bf b.keys s)= .tuple #[Aa Ab (gv:Int),.bool had] by rw [hg];unfold Tj;rw [hgv,hhad]);have HGV:=Hd (And.intro hgv hhad);have HAT:=Hd (show ∀a,g=some a→a≤1048576 by
  intro a ha;obtain⟨A1,A2,n',c1,c2,ks,ns,hL,o1,o2,op,hP⟩:=h.keys.open_;rw [ha,hP.get] at hg;unfold Bf at hg;rw [Option.map_eq_some_iff] at hg;obtain⟨x,hx,rfl⟩:=hg;exact hP.at_ _ (List.of_mem_zip (List.mem_of_find?_eq_some hx)).2)
 have HKY:=Hd (show b.keys.length≤1048576 by have:=hr.ky;omega);have HZ:=Hd hz;have HKC:=Hd (fun W=>Adl s W hz);have hB:Below w.heap.size w (w.alloc (.cells #[.int .i64 0,.int .i64 0,.int .u64 0] 210)):=(Below.refl _ _).alloc (Ath _) _;have HM1:=Hd (h.fresh hB 0);have HT1:=Hd (To.fresh B7 hB o 0);have HX1:=Hd (Af.new w 210 #[.int .i64 0,.int .i64 0,.int .u64 0]);have HO1:=Hd (show Ak o w.heap.size 0 w.heap.size=0 from Am (Ath _));obtain⟨n,hn⟩:∃n,b.b.length=n:=⟨_,rfl⟩;have HN:=Hd hn;have HLT:=Hd (show b.b.length+ [s,[0]].flatten.length≤1048576 by have:=hr.len;simp;omega);have HPE:=Hd (show plainElem (H:=Unit) Tryz.prog 9 (.string ⟨s.toArray⟩)=some (.lit (.string s),[]) by
  have hle:(⟨s.toArray⟩:ByteArray).size≤maxLen:=by
   have:=hr.len;have e:(⟨s.toArray⟩:ByteArray).size=s.length:=rfl;rw [e];simp only [maxLen];omega
  have hu:Tryz.prog.underlying 9=some .string:=Tryz.underlying9;unfold plainElem;rw [hu];simp [hle])
 have hnm:n≤1048576:=by have:=hr.len;omega
 clear h hr hz hg hq hgv hhad hB hn;go_enter Tryz.func228,Tryz.ntmps228;go_upto_region 1 with fail
 generalize w.alloc (.cells #[Aa Ab 0,Aa Ab 0,Aa Ac 0] 210)=w1 at HM1 HT1 HX1⊢;generalize Ak o w.heap.size 0=o1 at HM1 HT1 HO1;generalize hrr:w.heap.size=r at HX1 HO1⊢;have HRR:=Hd (show w.heap.size≤r by rw [hrr];exact Ath _);clear hrr;go_wp2_with fail;go_region_held3 (fun _=>True) (exact trivial) (first|(go_at_call 321;(with_reducible refine(HKC.o _).mono ?_);rintro e w' ⟨rfl,rfl⟩)|(go_at_call 157;(with_reducible refine(Ha HM1.o.drew).mono ?_);rintro e w2 ⟨rfl,o2,hM2,hT2⟩;have HM2:=Hd hM2;have HX2:=Hd (HX1.o.to_ hT2.from_drew (by rw [HO1.o];exact Bi));have HO2:=Hd (show o2 r=0 by rw [hT2.from_drew.ow _ HX1.o.lt];exact HO1.o);have HT2:=Hd (HT1.o.trans hT2.from_drew);clear hM2 hT2));obtain⟨b0,_,b2,_,_⟩:=HM2.o.head.cells;obtain⟨_,b3,b4,_⟩:=C1 HM2.o.head;go_wp2_with fail;go_at_call 322;refine(Ri 4 M.kb b.keys s _ o2 HM2.o.keys HKY.o).mono ?_;rintro e w3 ⟨rfl,hB⟩;rw [HG.o];have HM3:=Hd (HM2.o.pure hB);have HX3:=Hd (HX2.o.pure hB);have HT3:=Hd (HT2.o.trans (To.pure B7 hB o2));clear hB b0 b2 b3 b4;obtain⟨b0,b3,b4,_⟩:=C1 HM3.o.head;obtain⟨hg,hgh⟩:=HGV.o;cases g with
 |none=>
  obtain rfl:had=false:=by rw [←hgh];rfl
  have HP:=Hd (show(if q=true then(none:Option Nat) else none)=none by split <;>rfl);clear hg hgh;have hwn:IntKind.u64.wrap (n:Int)=(n:Int):=B8 _ (by omega);go_wp2_with fail;go_at_call 159;refine(Dg n HM3.o.buf HN.o).mono ?_;rintro e w' ⟨rfl,rfl⟩;go_wp2_with fail;go_at_call 164;refine(Gm M.bb 2 2 _ [s,[0]] b.b _ (Ak o2 w3.heap.size 0) (HM3.o.fresh ((Below.refl _ _).alloc (Ath _) _) 0).buf (Tz w3 s [0]) ?_ HLT.o (by omega)).mono ?_
  ·rintro ad e;injection e with e
   subst e;show Ak o2 w3.heap.size 0 w3.heap.size≠1;rw [Am (Ath _)];omega
  rintro e w4 ⟨rfl,o4,hB4,hT4⟩;have HM4:=Hd ((HM3.o.fresh ((Below.refl _ _).alloc (Ath _) (.cells #[.string ⟨s.toArray⟩,.string ⟨([0]:List UInt8).toArray⟩] 9)) 0).buf_ hT4 hB4);have HTN:=Hd ((To.fresh (fun i=>i=1) ((Below.refl w3.heap.size w3).alloc (Ath _) (.cells #[.string ⟨s.toArray⟩,.string ⟨([0]:List UInt8).toArray⟩] 9)) o2 0).trans hT4);have HX4:=Hd (HX3.o.to_ HTN.o (by rw [HO2.o];omega));have HO4:=Hd (show o4 r=0 by rw [HTN.o.ow _ HX3.o.lt];exact HO2.o);have HT4:=Hd (HT3.o.trans (HTN.o.mono fun _ h=>Ia h));clear hB4 hT4 b0 b3 b4;obtain⟨_,_,b4,_⟩:=C1 HM4.o.head;go_wp2_with fail;go_at_call 324;refine(Lp 4 M.kb b.keys s n w4 o4 HM4.o.keys HR.o.ky hnm).mono ?_;rintro e w5 ⟨⟨x,rfl⟩,o5,hB5,hT5⟩;have HM5:=Hd (HM4.o.keys_ hT5 hB5);have HX5:=Hd (HX4.o.to_ hT5 (by rw [HO4.o];omega));have HO5:=Hd (show o5 r=0 by rw [hT5.ow _ HX4.o.lt];exact HO4.o);have HT5:=Hd (HT4.o.trans (hT5.mono fun _ h=>Aok h));clear hB5 hT5 b4;obtain⟨_,_,_,_,_,b7⟩:=C1 HM5.o.head;obtain⟨op,nn,D,hmap,hnn,hat⟩:=HM5.o.names;have hnl:nn<maxLen:=by have:=HR.o.nm;have h2:nn≤b.names.length:=hnn;simp only [maxLen];omega
  go_wp2_with (at_mapUpdate;refine wpList_mapUpdate_own (H:=Unit) _ rfl _ _ _ 184 rfl 22 9 Oe Tryz.underlying184 _ M.mb nn D rfl hmap hnl _ _ (.int .u64 (n:Int)) rfl rfl (Maps.keyOf_int_mk Tryz.underlying22 (Vt n (by omega))) (.lit (.string s)) [] HPE.o ?_;intro w6 hown hgrow);obtain⟨hN6,hT6⟩:=X6 op hmap hnn hat hown hgrow (by omega);have HM6:=Hd (show BM M fl w6 (Ak o5 w5.heap.size 7) { b with b:=b.b++s++ [0],keys:=En b.keys s b.b.length,names:=(b.b.length,s)::b.names} by
   have h6:=HM5.o.names_ hT6 hN6;have e2:b.b++s++ [0]=b.b++ [s,[0]].flatten:=by simp
   rw [e2,HN.o];exact h6)
  have HX6:=Hd (HX5.o.to_ hT6 (by rw [HO5.o];omega));have HO6:=Hd (show Ak o5 w5.heap.size 7 r=0 by rw [hT6.ow _ HX5.o.lt];exact HO5.o);have HT6:=Hd (HT5.o.trans (hT6.mono fun _ h=>Aom h));clear op hmap hnn hat hown hgrow hN6 hT6 hnl b7;generalize Ak o5 w5.heap.size 7=o6 at HM6 HO6 HT6;have d0:=(C1 HM6.o.head).1;go_wp2_with fail;go_region_held3 (fun w'=>w'.cell? ⟨M.β,0,none⟩=some (.pointer (some ⟨M.bb,0,none⟩))) (first|with_reducible exact d0|with_reducible exact Ae d0|with_reducible exact e0) (first|(go_at_call 262;(with_reducible refine(F8 HM6.o.drew.buf).mono ?_);rintro e w' ⟨rfl,rfl⟩)|(go_at_call 157;(with_reducible refine(Ha HM6.o.drew).mono ?_);rintro e w7 ⟨rfl,o7,hM7,hT7⟩;have e0:=(C1 hM7.head).1;have HM7:=Hd hM7;have HX7:=Hd (HX6.o.to_ hT7.from_drew (by rw [HO6.o];exact Bi));have HO7:=Hd (show o7 r=0 by rw [hT7.from_drew.ow _ HX6.o.lt];exact HO6.o);have HT7:=Hd (HT6.o.trans hT7.from_drew);clear hM7 hT7));clear hwn;have hwa:IntKind.u64.wrap (n:Int)=(n:Int):=B8 _ (by omega);obtain⟨⟨r0,r1,r2⟩,f0,f1,f2⟩:=O0 HX7.o;go_wp2_with fail;have hF:=((HX7.o.set_ 0 (Aa Ab 4)).set_ 1 (Aa Ab 1)).set_ 2 (Aa Ac (n:Int));have hMF:=((HM7.o.set_lone (p:=⟨r,0,none⟩) HO7.o (Aa Ab 4)).set_lone (p:=⟨r,1,none⟩) HO7.o (Aa Ab 1)).set_lone (p:=⟨r,2,none⟩) HO7.o (Aa Ac (n:Int));have hTF:=((HT7.o.set_new (p:=⟨r,0,none⟩) HRR.o (Aa Ab 4)).set_new (p:=⟨r,1,none⟩) HRR.o (Aa Ab 1)).set_new (p:=⟨r,2,none⟩) HRR.o (Aa Ac (n:Int));clear r0 r1 r2 f0 f1 f2;generalize ((w7.setCell ⟨r,0,none⟩ (Aa Ab 4)).setCell ⟨r,1,none⟩ (Aa Ab 1)).setCell ⟨r,2,none⟩ (Aa Ac (n:Int))=wF at hF hMF hTF⊢;obtain ⟨r0,r1,r2⟩:=hF.c3;refine bodyPost_ret (v:= .agg #[Aa Ab 4,Aa Ab 1,Aa Ac (n:Int)]) (by simp [results,Tryz.results228,go_sem,r0,r1,r2]) rfl ?_;rw [HE.o,HP.o];exact⟨_,by first|rfl|(rw [HN.o]),rfl,_,hMF,hTF⟩
 |some a=>
  obtain rfl:had=true:=by rw [←hgh];rfl
  obtain rfl:gv=a:=by rw [←hg];rfl
  have hgb:=HAT.o gv rfl;clear hg hgh;go_wp2_with fail;go_at_call 323;refine(Wj M.β 1 0 fl q w3 b3 (by omega) rfl HQ.o).mono ?_;rintro e w' ⟨rfl,rfl⟩;cases q with
  |false=>
   have HP:=Hd (show(if false=true then some gv else none)=none from rfl);have hwn:IntKind.u64.wrap (n:Int)=(n:Int):=B8 _ (by omega);go_wp2_with fail;go_at_call 159;refine(Dg n HM3.o.buf HN.o).mono ?_;rintro e w' ⟨rfl,rfl⟩;go_wp2_with fail;go_at_call 164;refine(Gm M.bb 2 2 _ [s,[0]] b.b _ (Ak o2 w3.heap.size 0) (HM3.o.fresh ((Below.refl _ _).alloc (Ath _) _) 0).buf (Tz w3 s [0]) ?_ HLT.o (by omega)).mono ?_
   ·rintro ad e;injection e with e
    subst e;show Ak o2 w3.heap.size 0 w3.heap.size≠1;rw [Am (Ath _)];omega
   rintro e w4 ⟨rfl,o4,hB4,hT4⟩;have HM4:=Hd ((HM3.o.fresh ((Below.refl _ _).alloc (Ath _) (.cells #[.string ⟨s.toArray⟩,.string ⟨([0]:List UInt8).toArray⟩] 9)) 0).buf_ hT4 hB4);have HTN:=Hd ((To.fresh (fun i=>i=1) ((Below.refl w3.heap.size w3).alloc (Ath _) (.cells #[.string ⟨s.toArray⟩,.string ⟨([0]:List UInt8).toArray⟩] 9)) o2 0).trans hT4);have HX4:=Hd (HX3.o.to_ HTN.o (by rw [HO2.o];omega));have HO4:=Hd (show o4 r=0 by rw [HTN.o.ow _ HX3.o.lt];exact HO2.o);have HT4:=Hd (HT3.o.trans (HTN.o.mono fun _ h=>Ia h));clear hB4 hT4 b0 b3 b4;obtain⟨_,_,b4,_⟩:=C1 HM4.o.head;go_wp2_with fail;go_at_call 324;refine(Lp 4 M.kb b.keys s n w4 o4 HM4.o.keys HR.o.ky hnm).mono ?_;rintro e w5 ⟨⟨x,rfl⟩,o5,hB5,hT5⟩;have HM5:=Hd (HM4.o.keys_ hT5 hB5);have HX5:=Hd (HX4.o.to_ hT5 (by rw [HO4.o];omega));have HO5:=Hd (show o5 r=0 by rw [hT5.ow _ HX4.o.lt];exact HO4.o);have HT5:=Hd (HT4.o.trans (hT5.mono fun _ h=>Aok h));clear hB5 hT5 b4;obtain⟨_,_,_,_,_,b7⟩:=C1 HM5.o.head;obtain⟨op,nn,D,hmap,hnn,hat⟩:=HM5.o.names;have hnl:nn<maxLen:=by have:=HR.o.nm;have h2:nn≤b.names.length:=hnn;simp only [maxLen];omega
   go_wp2_with (at_mapUpdate;refine wpList_mapUpdate_own (H:=Unit) _ rfl _ _ _ 184 rfl 22 9 Oe Tryz.underlying184 _ M.mb nn D rfl hmap hnl _ _ (.int .u64 (n:Int)) rfl rfl (Maps.keyOf_int_mk Tryz.underlying22 (Vt n (by omega))) (.lit (.string s)) [] HPE.o ?_;intro w6 hown hgrow);obtain⟨hN6,hT6⟩:=X6 op hmap hnn hat hown hgrow (by omega);have HM6:=Hd (show BM M fl w6 (Ak o5 w5.heap.size 7) { b with b:=b.b++s++ [0],keys:=En b.keys s b.b.length,names:=(b.b.length,s)::b.names} by
    have h6:=HM5.o.names_ hT6 hN6;have e2:b.b++s++ [0]=b.b++ [s,[0]].flatten:=by simp
    rw [e2,HN.o];exact h6)
   have HX6:=Hd (HX5.o.to_ hT6 (by rw [HO5.o];omega));have HO6:=Hd (show Ak o5 w5.heap.size 7 r=0 by rw [hT6.ow _ HX5.o.lt];exact HO5.o);have HT6:=Hd (HT5.o.trans (hT6.mono fun _ h=>Aom h));clear op hmap hnn hat hown hgrow hN6 hT6 hnl b7;generalize Ak o5 w5.heap.size 7=o6 at HM6 HO6 HT6;have d0:=(C1 HM6.o.head).1;go_wp2_with fail;go_region_held3 (fun w'=>w'.cell? ⟨M.β,0,none⟩=some (.pointer (some ⟨M.bb,0,none⟩))) (first|with_reducible exact d0|with_reducible exact Ae d0|with_reducible exact e0) (first|(go_at_call 262;(with_reducible refine(F8 HM6.o.drew.buf).mono ?_);rintro e w' ⟨rfl,rfl⟩)|(go_at_call 157;(with_reducible refine(Ha HM6.o.drew).mono ?_);rintro e w7 ⟨rfl,o7,hM7,hT7⟩;have e0:=(C1 hM7.head).1;have HM7:=Hd hM7;have HX7:=Hd (HX6.o.to_ hT7.from_drew (by rw [HO6.o];exact Bi));have HO7:=Hd (show o7 r=0 by rw [hT7.from_drew.ow _ HX6.o.lt];exact HO6.o);have HT7:=Hd (HT6.o.trans hT7.from_drew);clear hM7 hT7));clear hwn;have hwa:IntKind.u64.wrap (n:Int)=(n:Int):=B8 _ (by omega);obtain⟨⟨r0,r1,r2⟩,f0,f1,f2⟩:=O0 HX7.o;go_wp2_with fail;have hF:=((HX7.o.set_ 0 (Aa Ab 4)).set_ 1 (Aa Ab 1)).set_ 2 (Aa Ac (n:Int));have hMF:=((HM7.o.set_lone (p:=⟨r,0,none⟩) HO7.o (Aa Ab 4)).set_lone (p:=⟨r,1,none⟩) HO7.o (Aa Ab 1)).set_lone (p:=⟨r,2,none⟩) HO7.o (Aa Ac (n:Int));have hTF:=((HT7.o.set_new (p:=⟨r,0,none⟩) HRR.o (Aa Ab 4)).set_new (p:=⟨r,1,none⟩) HRR.o (Aa Ab 1)).set_new (p:=⟨r,2,none⟩) HRR.o (Aa Ac (n:Int));clear r0 r1 r2 f0 f1 f2;generalize ((w7.setCell ⟨r,0,none⟩ (Aa Ab 4)).setCell ⟨r,1,none⟩ (Aa Ab 1)).setCell ⟨r,2,none⟩ (Aa Ac (n:Int))=wF at hF hMF hTF⊢;obtain ⟨r0,r1,r2⟩:=hF.c3;refine bodyPost_ret (v:= .agg #[Aa Ab 4,Aa Ab 1,Aa Ac (n:Int)]) (by simp [results,Tryz.results228,go_sem,r0,r1,r2]) rfl ?_;rw [HE.o,HP.o];exact⟨_,by first|rfl|(rw [HN.o]),rfl,_,hMF,hTF⟩
  |true=>
   have HP:=Hd (show(if true=true then some gv else none)=some gv from rfl);have hwa:IntKind.u64.wrap (gv:Int)=(gv:Int):=B8 _ (by omega);obtain⟨⟨r0,r1,r2⟩,f0,f1,f2⟩:=O0 HX3.o;go_wp2_with fail;have hF:=((HX3.o.set_ 0 (Aa Ab 4)).set_ 1 (Aa Ab 1)).set_ 2 (Aa Ac (gv:Int));have hMF:=((HM3.o.set_lone (p:=⟨r,0,none⟩) HO2.o (Aa Ab 4)).set_lone (p:=⟨r,1,none⟩) HO2.o (Aa Ab 1)).set_lone (p:=⟨r,2,none⟩) HO2.o (Aa Ac (gv:Int));have hTF:=((HT3.o.set_new (p:=⟨r,0,none⟩) HRR.o (Aa Ab 4)).set_new (p:=⟨r,1,none⟩) HRR.o (Aa Ab 1)).set_new (p:=⟨r,2,none⟩) HRR.o (Aa Ac (gv:Int));clear r0 r1 r2 f0 f1 f2;generalize ((w3.setCell ⟨r,0,none⟩ (Aa Ab 4)).setCell ⟨r,1,none⟩ (Aa Ab 1)).setCell ⟨r,2,none⟩ (Aa Ac (gv:Int))=wF at hF hMF hTF⊢;obtain ⟨r0,r1,r2⟩:=hF.c3;refine bodyPost_ret (v:= .agg #[Aa Ab 4,Aa Ab 1,Aa Ac (gv:Int)]) (by simp [results,Tryz.results228,go_sem,r0,r1,r2]) rfl ?_;rw [HE.o,HP.o];exact⟨_,by first|rfl|(rw [HN.o]),rfl,_,hMF,hTF⟩
structure Qj(M:Bp)(em mn:Int)(A:Option Addr)(n c:Nat)(vs:List Bv)(bx be bm bl:Nat)(w:World)(o:Nat→Nat):Prop where
 x:Af w bx 120 #[.pointer (some ⟨M.β,0,none⟩)]
 e:Af w be 3 #[Aa Ab em]
 m:Af w bm 3 #[Aa Ab mn]
 l:Af w bl 185 #[.slice A n c]
 ox:o bx=0
 oe:o be=0
 om:o bm=0
 ol:o bl=0
 v:D9 w A n (vs.map vv)
 ov:∀ad,A=some ad→ad.block<w.heap.size∧o ad.block=0
section
variable {M:Bp} {em mn:Int} {A:Option Addr} {n c:Nat} {vs:List Bv} {bx be bm bl:Nat} {w w':World} {o o':Nat→Nat}
theorem Qj.to_{I:Nat→Prop}(h:Qj M em mn A n c vs bx be bm bl w o)(ht:To I w o w' o')(hI:¬I 0):Qj M em mn A n c vs bx be bm bl w' o':=
 ⟨h.x.to_ ht (by rw [h.ox];exact hI),h.e.to_ ht (by rw [h.oe];exact hI),h.m.to_ ht (by rw [h.om];exact hI),h.l.to_ ht (by rw [h.ol];exact hI),
  by rw [ht.ow _ h.x.lt];exact h.ox,by rw [ht.ow _ h.e.lt];exact h.oe,by rw [ht.ow _ h.m.lt];exact h.om,by rw [ht.ow _ h.l.lt];exact h.ol,
  h.v.fr ht.fr (fun ad e=>by rw [(h.ov ad e).2];exact hI),fun ad e=>⟨Nat.lt_of_lt_of_le (h.ov ad e).1 ht.size,by rw [ht.ow _ (h.ov ad e).1];exact(h.ov ad e).2⟩⟩
theorem Qj.cells(h:Qj M em mn A n c vs bx be bm bl w o):w.cell? ⟨bx,0,none⟩=some (.pointer (some ⟨M.β,0,none⟩))∧w.cell? ⟨be,0,none⟩=some (Aa Ab em)∧w.cell? ⟨bm,0,none⟩=some (Aa Ab mn)∧w.cell? ⟨bl,0,none⟩=some (.slice A n c):=
 ⟨h.x.cell 0,h.e.cell 0,h.m.cell 0,h.l.cell 0⟩
theorem Qj.drew(h:Qj M em mn A n c vs bx be bm bl w o):Qj M em mn A n c vs bx be bm bl w.drew o:=h.to_ (To.pure (fun _=>False) (Below.refl _ _).drew o) id
end
theorem Agr{w:World}{p q:Addr}{u v:Value}(h:w.cell? q=some v)(hne:q.block≠p.block):(w.setCell p u).cell? q=some v:=
 (World.cell?_of_block (w:=w) (Below.heap_setCell w p u q.block hne)).trans h
theorem Eh{w:World}{q:Addr}{g:Nat}{u0 u1 u2 v:Value}(h:w.cell? q=some v)(hne:q.block≠g):(((w.setCell ⟨g,0,none⟩ u0).setCell ⟨g,1,none⟩ u1).setCell ⟨g,2,none⟩ u2).cell? q=some v:=Agr (Agr (Agr h hne) hne) hne
theorem Afw(w:World)(x y z u:Obj):Below w.heap.size w ((((w.alloc x).alloc y).alloc z).alloc u):=(Ny w x y z).alloc (by simp;omega) _
theorem J4{w:World}{o:Nat→Nat}{p:Addr}(h:o p.block=9)(v:Value):To (fun i=>i=9) w o (w.setCell p v) o:=
 To.of_fr0 (Fr.setCell (S:=fun k=>k=p.block) (Fr.refl _ w) (fun _=>rfl) v) (by rintro k _ rfl;exact h)
theorem Nh:∀i,B7 i→¬i=9:=by rintro i ⟨h1,h2⟩ rfl;omega
theorem to9{w:World}{o:Nat→Nat}{g:Nat}(h:o g=9)(u0 u1 u2:Value):To (fun i=>i=9) w o (((w.setCell ⟨g,0,none⟩ u0).setCell ⟨g,1,none⟩ u1).setCell ⟨g,2,none⟩ u2) o:=
 ((J4 (p:=⟨g,0,none⟩) h u0).trans (J4 (p:=⟨g,1,none⟩) h u1)).trans (J4 (p:=⟨g,2,none⟩) h u2)
def L6(M:Bp)(l:List UInt8)(em mn:Int)(A:Option Addr)(n c:Nat)(vs:List Bv)(x:List UInt8×Bv):Prop:=
 ∀W O,Co W O M.bb l→D9 W A n (vs.map vv)→(∀ad,A=some ad→ad.block<W.heap.size∧O ad.block≠1)→Calls Tryz.prog 319 #[.pointer (some ⟨M.bb,0,none⟩),Aa Ab em,Aa Ab mn,.slice A n c] W (Rz W O M.bb x)
theorem Acs(M:Bp)(fl:Int)(b:Bd)(em mn:Int)(A:Option Addr)(n c:Nat)(vs:List Bv)(l':List UInt8)(v':Bv)(bx be bm bl:Nat)(w:World)(o:Nat→Nat)(h:BM M fl w o b)(hc:Qj M em mn A n c vs bx be bm bl w o)(hs:b.s.length<65536)
  (hP:L6 M b.b em mn A n c vs (l',v')):
  Calls Tryz.prog 318 #[.pointer (some ⟨bx,0,none⟩),.pointer (some ⟨be,0,none⟩),.pointer (some ⟨bm,0,none⟩),.pointer (some ⟨bl,0,none⟩)] w (Cq M fl { b with b:=l',s:=b.s++ [v']} w o):=by
 have hA:=(Below.refl w.heap.size w).alloc (Ath _) (.cells #[Aa Ab 0,Aa Ab 0,Aa Ac 0] 210);have hAD:=hA.drew;have hM0:=h.fresh hAD 9;have hC0:=hc.to_ (To.fresh (fun _=>False) hAD o 9) id;have HX0:=Hd (show Af (w.alloc (.cells #[Aa Ab 0,Aa Ab 0,Aa Ac 0] 210)).drew w.heap.size 210 #[Aa Ab 0,Aa Ab 0,Aa Ac 0] from Af.new _ _ _);have HO0:=Hd (show Ak o w.heap.size 9 w.heap.size=9 from Am (Ath _));have HT0:=Hd (To.fresh B7 hAD o 9);have HM:=Hd hM0;have HC:=Hd hC0;have HS:=Hd hs;have HPB:=Hd (hP _ _ h.drew.buf hc.drew.v (fun ad e=>⟨(hc.drew.ov ad e).1,by rw [(hc.drew.ov ad e).2];omega⟩));have HMB:=Hd h.drew;have HCB:=Hd hc.drew;have HP:=Hd (hP _ _ hM0.buf hC0.v (fun ad e=>⟨(hC0.ov ad e).1,by rw [(hC0.ov ad e).2];omega⟩));obtain⟨x0,x1,x2,x3⟩:=hc.cells;have x4:=h.head.cells.1;have nx:bx≠w.heap.size:=Nat.ne_of_lt hc.x.lt;have ne:be≠w.heap.size:=Nat.ne_of_lt hc.e.lt;have nm:bm≠w.heap.size:=Nat.ne_of_lt hc.m.lt;have nl:bl≠w.heap.size:=Nat.ne_of_lt hc.l.lt;have nb:M.β≠w.heap.size:=Nat.ne_of_lt (Ar x4);clear h hc hs hP hA hAD hM0 hC0;go_enter Tryz.func318,Tryz.ntmps318;go_wp2_with fail;go_cut [4,5] (fun u4 u5 wx=>∃wy,wy=wx∧u5= Aa Ab 0∧∃b4 o4,u4= .pointer (some ⟨b4,0,none⟩)∧BM M fl wx o4 { b with b:=l'}∧Qj M em mn A n c vs bx be bm bl wx o4∧Af wx b4 210 #[Aa Ab (v'.t:Int),Aa Ab (v'.w:Int),Aa Ac (v'.n:Int)]∧o4 b4=9∧To B7 w o wx o4)
 case first=>
  go_region_held3 (fun w'=>w'.cell? ⟨bx,0,none⟩=some (.pointer (some ⟨M.β,0,none⟩))∧w'.cell? ⟨be,0,none⟩=some (Aa Ab em)∧w'.cell? ⟨bm,0,none⟩=some (Aa Ab mn)∧w'.cell? ⟨bl,0,none⟩=some (.slice A n c)∧w'.cell? ⟨M.β,0,none⟩=some (.pointer (some ⟨M.bb,0,none⟩))) (first|with_reducible exact⟨x0,x1,x2,x3,x4⟩|with_reducible exact⟨Ae x0,Ae x1,Ae x2,Ae x3,Ae x4⟩|with_reducible exact⟨Al _ x0,Al _ x1,Al _ x2,Al _ x3,Al _ x4⟩|with_reducible exact⟨Ae (Al _ x0),Ae (Al _ x1),Ae (Al _ x2),Ae (Al _ x3),Ae (Al _ x4)⟩|with_reducible exact⟨y0,y1,y2,y3,y4⟩|with_reducible exact⟨Al _ y0,Al _ y1,Al _ y2,Al _ y3,Al _ y4⟩|with_reducible exact⟨Eh (Al _ y0) px,Eh (Al _ y1) pe,Eh (Al _ y2) pm,Eh (Al _ y3) pl,Eh (Al _ y4) pb⟩|with_reducible exact⟨Eh y0 nx,Eh y1 ne,Eh y2 nm,Eh y3 nl,Eh y4 nb⟩) (first|(go_at_call 319;(with_reducible refine HP.o.mono ?_);rintro e W1 ⟨rfl,o1,hB1,hT1⟩;have hM1:=HM.o.buf_ hT1 hB1;have hC1:=HC.o.to_ hT1 (by omega);obtain⟨y0,y1,y2,y3⟩:=hC1.cells;have y4:=hM1.head.cells.1;have hX1:=HX0.o.to_ hT1 (by rw [HO0.o];omega);have f0:=hX1.frozen 0;have f1:=hX1.frozen 1;have f2:=hX1.frozen 2;obtain ⟨z0,z1,z2⟩:=hX1.c3;have HO1:=Hd (show o1 w.heap.size=9 from(hT1.ow _ HX0.o.lt).trans HO0.o);have HX1:=Hd hX1;have HM1:=Hd hM1;have HC1:=Hd hC1;have HT1:=Hd (HT0.o.trans (hT1.mono fun _ h=>Ia h));clear hB1 hT1 hM1 hC1 hX1)|(go_at_call 319;(with_reducible refine HPB.o.mono ?_);rintro e W1 ⟨rfl,o1,hB1,hT1⟩;have hM1:=HMB.o.buf_ hT1 hB1;have hC1:=HCB.o.to_ hT1 (by omega);obtain⟨y0,y1,y2,y3⟩:=hC1.cells;have y4:=hM1.head.cells.1;have px:bx≠W1.heap.size:=Nat.ne_of_lt (Ar y0);have pe:be≠W1.heap.size:=Nat.ne_of_lt (Ar y1);have pm:bm≠W1.heap.size:=Nat.ne_of_lt (Ar y2);have pl:bl≠W1.heap.size:=Nat.ne_of_lt (Ar y3);have pb:M.β≠W1.heap.size:=Nat.ne_of_lt (Ar y4);have HM1:=Hd hM1;have HC1:=Hd hC1;have HT1:=Hd (hT1.from_drew.mono fun _ h=>Ia h);clear hB1 hT1 hM1 hC1))
  all_goals
   go_wp2_with fail;go_meet
  all_goals
   first
   |exact⟨_,rfl,rfl,w.heap.size,o1,rfl,HM1.o.to_ (to9 HO1.o _ _ _) Nh,HC1.o.to_ (to9 HO1.o _ _ _) (by decide),((HX1.o.set_ 0 (Aa Ab (v'.t:Int))).set_ 1 (Aa Ab (v'.w:Int))).set_ 2 (Aa Ac (v'.n:Int)),HO1.o,((HT1.o.set_new (p:=⟨w.heap.size,0,none⟩) (Ath _) _).set_new (p:=⟨w.heap.size,1,none⟩) (Ath _) _).set_new (p:=⟨w.heap.size,2,none⟩) (Ath _) _⟩
   |exact⟨_,rfl,rfl,W1.heap.size,Ak o1 W1.heap.size 9,rfl,HM1.o.fresh ((Below.refl W1.heap.size W1).alloc (Ath _) _) 9,HC1.o.to_ (To.fresh (fun _=>False) ((Below.refl W1.heap.size W1).alloc (Ath _) _) o1 9) id,Af.new _ _ _,Am (Ath _),HT1.o.trans (To.fresh B7 ((Below.refl W1.heap.size W1).alloc (Ath _) _) o1 9)⟩
 case rest=>
  obtain⟨w4,rfl,rfl,b4,o4,rfl,hM4,hC4,hX4,hO4,hT4⟩:=hcut;have HM4:=Hd hM4;have HC4:=Hd hC4;have HX4:=Hd hX4;have HO4:=Hd hO4;have HT4:=Hd hT4;clear hM4 hC4 hX4 hO4 hT4 x0 x1 x2 x3 x4 nx ne nm nl nb HM HC HP HPB HMB HCB HX0 HO0 HT0;obtain⟨x0,x1,x2,x3⟩:=HC4.o.cells;go_wp2_with fail;go_at_call 157;refine(Ha HM4.o).mono ?_;rintro e w5 ⟨rfl,o5,hM5,hT5⟩;have HM5:=Hd hM5;have HC5:=Hd (HC4.o.to_ hT5 Bi);have HX5:=Hd (HX4.o.to_ hT5 (by rw [HO4.o];exact fun h=>Nh 9 h rfl));have HO5:=Hd (show o5 b4=9 from(hT5.ow _ HX4.o.lt).trans HO4.o);have HT5:=Hd (HT4.o.trans hT5);clear hM5 hT5 x0 x1 x2 x3;obtain⟨x0,x1,x2,x3⟩:=HC5.o.cells;obtain ⟨v0,v1,v2⟩:=HX5.o.c3;go_wp2_with fail;go_region_held3 (fun w'=>w'.cell? ⟨bx,0,none⟩=some (.pointer (some ⟨M.β,0,none⟩))∧w'.cell? ⟨b4,0,none⟩=some (Aa Ab (v'.t:Int))∧w'.cell? ⟨b4,1,none⟩=some (Aa Ab (v'.w:Int))∧w'.cell? ⟨b4,2,none⟩=some (Aa Ac (v'.n:Int))) (first|with_reducible exact⟨x0,v0,v1,v2⟩|with_reducible exact⟨Ae x0,Ae v0,Ae v1,Ae v2⟩|with_reducible exact⟨y0,y1,y2,y3⟩) (first|(go_at_call 235;(with_reducible refine(Mb M fl { b with b:=l'} v' _ o5 HM5.o.drew HS.o).mono ?_);rintro e w6 ⟨rfl,o6,hM6,hT6⟩;have y0:w6.cell? ⟨bx,0,none⟩=some (.pointer (some ⟨M.β,0,none⟩)):=((HC5.o.to_ hT6.from_drew Bi).x).cell 0;have hX6:=HX5.o.to_ hT6.from_drew (by rw [HO5.o];exact fun h=>Nh 9 h rfl);obtain ⟨y1,y2,y3⟩:=hX6.c3;have HM6:=Hd hM6;have HT6:=Hd (HT5.o.trans hT6.from_drew);clear hM6 hT6 hX6));go_wp2_with fail;go_end0;exact⟨rfl,o6,HM6.o,HT6.o⟩
theorem H8(M:Bp)(fl:Int)(b:Bd)(em mn:Int)(A:Option Addr)(n c:Nat)(vs:List Bv)(l':List UInt8)(v':Bv)(w:World)(o:Nat→Nat)(h:BM M fl w o b)(hv:D9 w A n (vs.map vv))(ho:∀ad,A=some ad→ad.block<w.heap.size∧o ad.block=0)(hs:b.s.length<65536)
  (hP:L6 M b.b em mn A n c vs (l',v')):
  Calls Tryz.prog 218 #[.pointer (some ⟨M.β,0,none⟩),Aa Ab em,Aa Ab mn,.slice A n c] w (Cq M fl { b with b:=l',s:=b.s++ [v']} w o):=by
 have HS:=Hd hs;have HP:=Hd hP;have hB:=Afw w (.cells #[.pointer (some ⟨M.β,0,none⟩)] 120) (.cells #[Aa Ab em] 3) (.cells #[Aa Ab mn] 3) (.cells #[.slice A n c] 185);have HB:=Hd hB;have HM:=Hd (h.fresh hB 0);have HC:=Hd (show Qj M em mn A n c vs w.heap.size (w.heap.size+1) (w.heap.size+1+1) (w.heap.size+1+1+1) ((((w.alloc (.cells #[.pointer (some ⟨M.β,0,none⟩)] 120)).alloc (.cells #[Aa Ab em] 3)).alloc (.cells #[Aa Ab mn] 3)).alloc (.cells #[.slice A n c] 185)) (Ak o w.heap.size 0) from
  ⟨(((Af.new w 120 #[.pointer (some ⟨M.β,0,none⟩)]).alloc _).alloc _).alloc _,((B5 w _ 3 #[Aa Ab em]).alloc _).alloc _,(K1 w _ _ 3 #[Aa Ab mn]).alloc _,Af.new_ (by simp) _ _,Am (by omega),Am (by omega),Am (by omega),Am (by omega),hv.pure hB,fun ad e=>⟨by have h1:=(ho ad e).1;have h2:=hB.size;omega,by rw [Au (ho ad e).1];exact(ho ad e).2⟩⟩)
 clear h hs hB hP hv ho;go_enter Tryz.func218,Tryz.ntmps218;go_wp2_with fail;go_at_call 225;refine(Dq M fl 318 _ _ (Ak o w.heap.size 0) b.vals _ HM.o.head Tryz.call318 ((Acs M fl b em mn A n c vs l' v' w.heap.size (w.heap.size+1) (w.heap.size+1+1) (w.heap.size+1+1+1) _ (Ak o w.heap.size 0) HM.o HC.o HS.o HP.o).mono fun e w' h=>⟨h.1,h⟩)).mono ?_;rintro e w' hR;obtain rfl:=hR.1;have HR:=Hd (hR.from_fresh HB.o);clear hR;go_wp2;go_end0;exact HR.o
def Vy(w:World)(n:Nat)(vs:List Bv)(e:Ending)(w':World):Prop:=
 ∃A c,e= .returned (.slice A n c)∧Fg w' w.heap.size A n c (vs.map vv)∧Below w.heap.size w w'
theorem K3(W:World)(v:Bv):D9 (W.alloc (.cells #[Aa Ab (v.t:Int),Aa Ab (v.w:Int),Aa Ac (v.n:Int)] 210)) (some ⟨W.heap.size,0,none⟩) 1 [vv v]:=(Abs W v).is
theorem Aay{α:Type}{f:α→List Value}{w:World}{A:Option Addr}{n:Nat}{l:List α}{g:α→Value}(hf:∀x,f x=[g x])(h:Is f w A n l){k:Nat}(hk:k<n):
  ∃b off x,A=some ⟨b,off,none⟩∧l[k]?=some x∧w.cell? ⟨b,off+k,none⟩=some (g x):=by
 obtain⟨b,off,e,hk',hc⟩:=h.at_ (sz:=1) (fun x=>by rw [hf];rfl) (by omega) hk;refine⟨b,off,l[k],e,List.getElem?_eq_getElem hk',?_⟩;have h0:=hc 0 (by omega);simp only [hf,Nat.mul_one,Nat.add_zero] at h0;exact h0
theorem X0(A:Option Addr)(n c:Nat)(l:List Int)(w:World)(hI:Is nbc w A n l)(hn:n≤1000000)(hbd:∀x∈l, -9223372036854775808≤x∧x≤9223372036854775807):Calls Tryz.prog 219 #[.func (.func 220) #[] #[],.slice A n c] w (Vy w n (l.map Cf)):=by
 have HI:=Hd hI;have HL:=Hd hI.1;have HBD:=Hd hbd;clear hI hbd;go_enter Tryz.func219,Tryz.ntmps219;go_wp2_with fail;go_loopw [4,9] (fun s u wr=>∃k:Nat,k≤n∧u= Aa Ab k∧∃A c,s= .slice A k c∧Fg wr w.heap.size A k c (((l.take k).map Cf).map vv)∧Below w.heap.size w wr) (fun _ u _=>n-(intOf u).toNat)
 case atStart=>exact⟨0,Atl _,rfl,none,0,rfl,Own.nil _ _,Below.refl _ _⟩
 case round=>
  obtain⟨k,hk,rfl,A,c,rfl,ho,hbr⟩:=hrel;have HO:=Hd ho;have HBR:=Hd hbr;have hIr:=HI.o.pure hbr;clear ho hbr;by_cases hlt:k<n
  ·obtain⟨g,off,x,e,hx,v0⟩:=Aay (fun _=>rfl) hIr hlt;have HT:=Hd (show((l.take (k+1)).map Cf).map vv=((l.take k).map Cf).map vv++ [vv (Cf x)] by
    obtain⟨q1,q2⟩:=List.getElem?_eq_some_iff.1 hx;rw [Atv q1,q2,List.map_append,List.map_append];rfl)
   have HX:=Hd (HBD.o x (Atu hx));have hk0:(0:Int)≤(k:Int):=by omega
   have hkn:(k:Int)<(n:Int):=by omega
   rw [e];clear hIr hx e;go_wp2_with fail;go_at_call 220;refine(Ti x _ HX.o).mono ?_;rintro e w2 ⟨rfl,hb⟩;have HB2:=Hd (Ad HBR.o hb);have HO2:=Hd (HO.o.pure hb);clear hb v0;obtain⟨y,hy⟩:∃y,Cf x=y:=⟨_,rfl⟩;rw [hy] at HT⊢;clear hy;have HB3:=Hd (HB2.o.alloc HB2.o.size (.cells #[Aa Ab (y.t:Int),Aa Ab (y.w:Int),Aa Ac (y.n:Int)] 210));have HO3:=Hd (HO2.o.pure ((Below.refl w2.heap.size w2).alloc (Ath _) (.cells #[Aa Ab (y.t:Int),Aa Ab (y.w:Int),Aa Ac (y.n:Int)] 210)));have HI3:=Hd (K3 w2 y);go_wp2_with (at_builtin;refine Dt _ rfl (.tmp 13) (.tmp 17) _ rfl 210 _ 3 24 Tryz.underlying185 Kj rfl (by omega) Gz Ku _ _ _ _ _ rfl HO3.o _ _ _ _ rfl HI3.o (by omega) HB3.o.size ?_;intro A1 c1 w1 hown1 hfr1 hat1);have HO4:=Hd hown1;have HB4:=Hd (Bs HB3.o hfr1 (by rintro j ⟨ad,e,rfl⟩;exact(HO3.o.addr ad e).2.1));clear hown1 hfr1 hat1;go_wp2_with fail;go_roundw
   case rel=>exact⟨k+1,by omega,by go_num,A1,c1,rfl,by rw [HT.o];exact HO4.o,HB4.o⟩
   case measure=>simp [intOf];omega
  ·obtain rfl:k=n:=by omega
   have HE:=Hd (show l.take k=l from Att (by have:=HL.o;omega));rw [HE.o] at HO;clear hIr;go_wp2_with fail;go_ret;exact⟨A,c,rfl,HO.o,HBR.o⟩
theorem X1(A:Option Addr)(n c:Nat)(l:List Nat)(w:World)(hI:Is ubc w A n l)(hn:n≤1000000)(hbd:∀x∈l,x<18446744073709551616):Calls Tryz.prog 221 #[.func (.func 222) #[] #[],.slice A n c] w (Vy w n (l.map Ch)):=by
 have HI:=Hd hI;have HL:=Hd hI.1;have HBD:=Hd hbd;clear hI hbd;go_enter Tryz.func221,Tryz.ntmps221;go_wp2_with fail;go_loopw [4,9] (fun s u wr=>∃k:Nat,k≤n∧u= Aa Ab k∧∃A c,s= .slice A k c∧Fg wr w.heap.size A k c (((l.take k).map Ch).map vv)∧Below w.heap.size w wr) (fun _ u _=>n-(intOf u).toNat)
 case atStart=>exact⟨0,Atl _,rfl,none,0,rfl,Own.nil _ _,Below.refl _ _⟩
 case round=>
  obtain⟨k,hk,rfl,A,c,rfl,ho,hbr⟩:=hrel;have HO:=Hd ho;have HBR:=Hd hbr;have hIr:=HI.o.pure hbr;clear ho hbr;by_cases hlt:k<n
  ·obtain⟨g,off,x,e,hx,v0⟩:=Aay (fun _=>rfl) hIr hlt;have HT:=Hd (show((l.take (k+1)).map Ch).map vv=((l.take k).map Ch).map vv++ [vv (Ch x)] by
    obtain⟨q1,q2⟩:=List.getElem?_eq_some_iff.1 hx;rw [Atv q1,q2,List.map_append,List.map_append];rfl)
   have HX:=Hd (HBD.o x (Atu hx));have hk0:(0:Int)≤(k:Int):=by omega
   have hkn:(k:Int)<(n:Int):=by omega
   rw [e];clear hIr hx e;go_wp2_with fail;go_at_call 222;refine(T0 x _ HX.o).mono ?_;rintro e w2 ⟨rfl,hb⟩;have HB2:=Hd (Ad HBR.o hb);have HO2:=Hd (HO.o.pure hb);clear hb v0;obtain⟨y,hy⟩:∃y,Ch x=y:=⟨_,rfl⟩;rw [hy] at HT⊢;clear hy;have HB3:=Hd (HB2.o.alloc HB2.o.size (.cells #[Aa Ab (y.t:Int),Aa Ab (y.w:Int),Aa Ac (y.n:Int)] 210));have HO3:=Hd (HO2.o.pure ((Below.refl w2.heap.size w2).alloc (Ath _) (.cells #[Aa Ab (y.t:Int),Aa Ab (y.w:Int),Aa Ac (y.n:Int)] 210)));have HI3:=Hd (K3 w2 y);go_wp2_with (at_builtin;refine Dt _ rfl (.tmp 13) (.tmp 17) _ rfl 210 _ 3 24 Tryz.underlying185 Kj rfl (by omega) Gz Ku _ _ _ _ _ rfl HO3.o _ _ _ _ rfl HI3.o (by omega) HB3.o.size ?_;intro A1 c1 w1 hown1 hfr1 hat1);have HO4:=Hd hown1;have HB4:=Hd (Bs HB3.o hfr1 (by rintro j ⟨ad,e,rfl⟩;exact(HO3.o.addr ad e).2.1));clear hown1 hfr1 hat1;go_wp2_with fail;go_roundw
   case rel=>exact⟨k+1,by omega,by go_num,A1,c1,rfl,by rw [HT.o];exact HO4.o,HB4.o⟩
   case measure=>simp [intOf];omega
  ·obtain rfl:k=n:=by omega
   have HE:=Hd (show l.take k=l from Att (by have:=HL.o;omega));rw [HE.o] at HO;clear hIr;go_wp2_with fail;go_ret;exact⟨A,c,rfl,HO.o,HBR.o⟩
def Gi(b:Bool):Bv:=⟨26,1,if b=true then 1 else 0⟩
theorem Aqt(b:Bool)(w:World):Calls Tryz.prog 224 #[.bool b] w fun e w'=>e= .returned (.agg #[Aa Ab ((Gi b).t:Int),Aa Ab ((Gi b).w:Int),Aa Ac ((Gi b).n:Int)])∧Below w.heap.size w w':=by
 cases b with
 |true=>exact P0 1 true w rfl
 |false=>exact P0 0 false w rfl
theorem Aj9(A:Option Addr)(n c:Nat)(l:List Bool)(w:World)(hI:Is bbc w A n l)(hn:n≤1000000)(hbd:∀x∈l,x=true∨x=false):Calls Tryz.prog 223 #[.func (.func 224) #[] #[],.slice A n c] w (Vy w n (l.map Gi)):=by
 have HI:=Hd hI;have HL:=Hd hI.1;have HBD:=Hd hbd;clear hI hbd;go_enter Tryz.func223,Tryz.ntmps223;go_wp2_with fail;go_loopw [4,9] (fun s u wr=>∃k:Nat,k≤n∧u= Aa Ab k∧∃A c,s= .slice A k c∧Fg wr w.heap.size A k c (((l.take k).map Gi).map vv)∧Below w.heap.size w wr) (fun _ u _=>n-(intOf u).toNat)
 case atStart=>exact⟨0,Atl _,rfl,none,0,rfl,Own.nil _ _,Below.refl _ _⟩
 case round=>
  obtain⟨k,hk,rfl,A,c,rfl,ho,hbr⟩:=hrel;have HO:=Hd ho;have HBR:=Hd hbr;have hIr:=HI.o.pure hbr;clear ho hbr;by_cases hlt:k<n
  ·obtain⟨g,off,x,e,hx,v0⟩:=Aay (fun _=>rfl) hIr hlt;have HT:=Hd (show((l.take (k+1)).map Gi).map vv=((l.take k).map Gi).map vv++ [vv (Gi x)] by
    obtain⟨q1,q2⟩:=List.getElem?_eq_some_iff.1 hx;rw [Atv q1,q2,List.map_append,List.map_append];rfl)
   have HX:=Hd (HBD.o x (Atu hx));have hk0:(0:Int)≤(k:Int):=by omega
   have hkn:(k:Int)<(n:Int):=by omega
   rw [e];clear hIr hx e;go_wp2_with fail;go_at_call 224;refine(Aqt x _).mono ?_;rintro e w2 ⟨rfl,hb⟩;have HB2:=Hd (Ad HBR.o hb);have HO2:=Hd (HO.o.pure hb);clear hb v0;obtain⟨y,hy⟩:∃y,Gi x=y:=⟨_,rfl⟩;rw [hy] at HT⊢;clear hy;have HB3:=Hd (HB2.o.alloc HB2.o.size (.cells #[Aa Ab (y.t:Int),Aa Ab (y.w:Int),Aa Ac (y.n:Int)] 210));have HO3:=Hd (HO2.o.pure ((Below.refl w2.heap.size w2).alloc (Ath _) (.cells #[Aa Ab (y.t:Int),Aa Ab (y.w:Int),Aa Ac (y.n:Int)] 210)));have HI3:=Hd (K3 w2 y);go_wp2_with (at_builtin;refine Dt _ rfl (.tmp 13) (.tmp 17) _ rfl 210 _ 3 24 Tryz.underlying185 Kj rfl (by omega) Gz Ku _ _ _ _ _ rfl HO3.o _ _ _ _ rfl HI3.o (by omega) HB3.o.size ?_;intro A1 c1 w1 hown1 hfr1 hat1);have HO4:=Hd hown1;have HB4:=Hd (Bs HB3.o hfr1 (by rintro j ⟨ad,e,rfl⟩;exact(HO3.o.addr ad e).2.1));clear hown1 hfr1 hat1;go_wp2_with fail;go_roundw
   case rel=>exact⟨k+1,by omega,by go_num,A1,c1,rfl,by rw [HT.o];exact HO4.o,HB4.o⟩
   case measure=>simp [intOf];omega
  ·obtain rfl:k=n:=by omega
   have HE:=Hd (show l.take k=l from Att (by have:=HL.o;omega));rw [HE.o] at HO;clear hIr;go_wp2_with fail;go_ret;exact⟨A,c,rfl,HO.o,HBR.o⟩
theorem Aek{l:List Int}{b:List UInt8}(hl:b.length+40+9*l.length≤1048576):D1 (l.map Cf) b:=
 ⟨fun v h=>by obtain⟨x,_,rfl⟩:=List.mem_map.1 h;exact(show Be ((1:Nat):Int)=true by decide),fun v h=>by obtain⟨x,_,rfl⟩:=List.mem_map.1 h;exact Hp x,
  fun v h=>by obtain⟨x,_,rfl⟩:=List.mem_map.1 h;exact K4 x _,by rw [Atq];exact hl⟩
theorem Afg{l:List Nat}{b:List UInt8}(hl:b.length+40+9*l.length≤1048576):D1 (l.map Ch) b:=
 ⟨fun v h=>by obtain⟨x,_,rfl⟩:=List.mem_map.1 h;exact(show Be ((2:Nat):Int)=true by decide),fun v h=>by obtain⟨x,_,rfl⟩:=List.mem_map.1 h;exact E3 x,
  fun v h=>by obtain⟨x,_,rfl⟩:=List.mem_map.1 h;exact La x _,by rw [Atq];exact hl⟩
theorem Alz{l:List Bool}{b:List UInt8}(hl:b.length+40+9*l.length≤1048576):D1 (l.map Gi) b:=
 ⟨fun v h=>by obtain⟨x,_,rfl⟩:=List.mem_map.1 h;exact(show Be ((26:Nat):Int)=true by decide),fun v h=>by obtain⟨x,_,rfl⟩:=List.mem_map.1 h;exact(show Av ((1:Nat):Int)=true by decide),
  fun v h=>by obtain⟨x,_,rfl⟩:=List.mem_map.1 h;exact⟨fun _=>(show 1≤8 by omega),fun h=>absurd h (show ¬inl 26=false by decide)⟩,by rw [Atq];exact hl⟩
theorem Sa{M:Bp}{l:List UInt8}{e:Nat}{A:Option Addr}{n c:Nat}{vs:List Bv}(hok:D1 vs l)(hty:K0 e 0)(hel:∀v∈vs,v.t=e):L6 M l e 0 A n c vs (Bc (vecTy e 0) true false vs l):=
 fun W O hb hv ho=>Afh M.bb e n c A vs l W O hb hv ho hok hty hel
theorem Aet{M:Bp}{l:List UInt8}{e:Nat}{A:Option Addr}{n c:Nat}{vs:List Bv}(hok:D1 vs l)(hty:K0 e n)(hn:0<n)(hel:∀v∈vs,v.t=e):L6 M l e n A n c vs (Bc (vecTy e n) false false vs l):=
 fun W O hb hv ho=>Aqx M.bb e n c A vs l W O hb hv ho hok hty hn hel
theorem Aqa{M:Bp}{l:List UInt8}{A:Option Addr}{n c:Nat}{vs:List Bv}(hok:D1 vs l):L6 M l (-1) 0 A n c vs (Bc 10 true true vs l):=
 fun W O hb hv ho=>Aqy M.bb n c A vs l W O hb hv ho hok
theorem Ajl(M:Bp)(fl:Int)(b:Bd)(A:Option Addr)(n c:Nat)(l:List Int)(w:World)(o:Nat→Nat)(h:BM M fl w o b)(hI:Is nbc w A n l)(hn:n≤1000000)(hs:b.s.length<65536)(hbd:∀x∈l, -9223372036854775808≤x∧x≤9223372036854775807)(hl:b.b.length+40+9*l.length≤1048576):
  Calls Tryz.prog 134 #[.pointer (some ⟨M.β,0,none⟩),.slice A n c] w (Cq M fl (b.vec 11 true false (l.map Cf)) w o):=by
 have HM:=Hd h;have HI:=Hd hI;have HS:=Hd hs;have HBD:=Hd hbd;have HL:=Hd hl;clear h hI hs hbd hl;go_enter Tryz.func134,Tryz.ntmps134;go_wp2_with fail;go_at_call 219;refine(X0 A n c l _ HI.o hn HBD.o).mono ?_;rintro e w1 ⟨A1,c1,rfl,hO,hb⟩;have HM1:=Hd (HM.o.fresh hb 0);have HO1:=Hd hO;have HB1:=Hd hb;clear hO hb;have HP:=Hd (Sa (M:=M) (A:=A1) (n:=n) (c:=c1) (Aek HL.o) (e:=1) (by unfold K0;omega) (fun v hv=>by obtain⟨x,_,rfl⟩:=List.mem_map.1 hv;rfl));go_wp2_with fail;go_at_call 218;refine(H8 M fl b ((1:Nat):Int) 0 A1 n c1 (l.map Cf) (Bc 11 true false (l.map Cf) b.b).1 (Bc 11 true false (l.map Cf) b.b).2 w1 _ HM1.o HO1.o.is (fun ad e=>⟨(HO1.o.addr ad e).2.2,Am (HO1.o.addr ad e).2.1⟩) HS.o HP.o).mono ?_;rintro e w2 hR;obtain rfl:=hR.1;have HR:=Hd (Cq.from_fresh HB1.o hR);clear hR;go_wp2_with fail;go_end0;exact HR.o
theorem Ahp(M:Bp)(fl:Int)(b:Bd)(A:Option Addr)(n c:Nat)(l:List Nat)(w:World)(o:Nat→Nat)(h:BM M fl w o b)(hI:Is ubc w A n l)(hn:n≤1000000)(hs:b.s.length<65536)(hbd:∀x∈l,x<18446744073709551616)(hl:b.b.length+40+9*l.length≤1048576):
  Calls Tryz.prog 137 #[.pointer (some ⟨M.β,0,none⟩),.slice A n c] w (Cq M fl (b.vec 12 true false (l.map Ch)) w o):=by
 have HM:=Hd h;have HI:=Hd hI;have HS:=Hd hs;have HBD:=Hd hbd;have HL:=Hd hl;clear h hI hs hbd hl;go_enter Tryz.func137,Tryz.ntmps137;go_wp2_with fail;go_at_call 221;refine(X1 A n c l _ HI.o hn HBD.o).mono ?_;rintro e w1 ⟨A1,c1,rfl,hO,hb⟩;have HM1:=Hd (HM.o.fresh hb 0);have HO1:=Hd hO;have HB1:=Hd hb;clear hO hb;have HP:=Hd (Sa (M:=M) (A:=A1) (n:=n) (c:=c1) (Afg HL.o) (e:=2) (by unfold K0;omega) (fun v hv=>by obtain⟨x,_,rfl⟩:=List.mem_map.1 hv;rfl));go_wp2_with fail;go_at_call 218;refine(H8 M fl b ((2:Nat):Int) 0 A1 n c1 (l.map Ch) (Bc 12 true false (l.map Ch) b.b).1 (Bc 12 true false (l.map Ch) b.b).2 w1 _ HM1.o HO1.o.is (fun ad e=>⟨(HO1.o.addr ad e).2.2,Am (HO1.o.addr ad e).2.1⟩) HS.o HP.o).mono ?_;rintro e w2 hR;obtain rfl:=hR.1;have HR:=Hd (Cq.from_fresh HB1.o hR);clear hR;go_wp2_with fail;go_end0;exact HR.o
theorem Afz(M:Bp)(fl:Int)(b:Bd)(A:Option Addr)(n c:Nat)(l:List Bool)(w:World)(o:Nat→Nat)(h:BM M fl w o b)(hI:Is bbc w A n l)(hn:n≤1000000)(hs:b.s.length<65536)(hbd:∀x∈l,x=true∨x=false)(hl:b.b.length+40+9*l.length≤1048576):
  Calls Tryz.prog 140 #[.pointer (some ⟨M.β,0,none⟩),.slice A n c] w (Cq M fl (b.vec 36 true false (l.map Gi)) w o):=by
 have HM:=Hd h;have HI:=Hd hI;have HS:=Hd hs;have HBD:=Hd hbd;have HL:=Hd hl;clear h hI hs hbd hl;go_enter Tryz.func140,Tryz.ntmps140;go_wp2_with fail;go_at_call 223;refine(Aj9 A n c l _ HI.o hn HBD.o).mono ?_;rintro e w1 ⟨A1,c1,rfl,hO,hb⟩;have HM1:=Hd (HM.o.fresh hb 0);have HO1:=Hd hO;have HB1:=Hd hb;clear hO hb;have HP:=Hd (Sa (M:=M) (A:=A1) (n:=n) (c:=c1) (Alz HL.o) (e:=26) (by unfold K0;omega) (fun v hv=>by obtain⟨x,_,rfl⟩:=List.mem_map.1 hv;rfl));go_wp2_with fail;go_at_call 218;refine(H8 M fl b ((26:Nat):Int) 0 A1 n c1 (l.map Gi) (Bc 36 true false (l.map Gi) b.b).1 (Bc 36 true false (l.map Gi) b.b).2 w1 _ HM1.o HO1.o.is (fun ad e=>⟨(HO1.o.addr ad e).2.2,Am (HO1.o.addr ad e).2.1⟩) HS.o HP.o).mono ?_;rintro e w2 hR;obtain rfl:=hR.1;have HR:=Hd (Cq.from_fresh HB1.o hR);clear hR;go_wp2_with fail;go_end0;exact HR.o
end Go.Proofs.YtgbjodnegkbfoaaGreat
