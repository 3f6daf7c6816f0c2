/- Parts of the proof. -/
import Derived.Test.YtejpbijeifjdeaaGreatQv11
import Derived.Maps.Views
import Derived.Maps.Ext
import Derived.Shelf.SlSortCmp.NoneTotal
import Derived.Shelf.Small.Strs
import Derived.Ground.SlsfProg
import Derived.Ground.NamesProg
import Derived.Shelf.SlSortCmp.WholeK
set_option maxHeartbeats 4000000
set_option maxRecDepth 100000
open Go.Value renaming int→Aa
open Go.IntKind renaming i64→Ab,u64→Ac
open Nat renaming le_refl→Ae,lt_of_lt_of_le→Ar
open Go.RowKit.Below renaming refl→Af
open List renaming getElem?_eq_getElem→Ai,take_of_length_le→Aw,take_succ_eq_append_getElem→Az
open Go.Proofs.Tryz
open Go.Proofs.Tryz renaming prog→Ad
namespace Go.Proofs.YtejpbijeifjdeaaGreat
variable {w w':World}{o:Nat→Nat}{n a i g c:Nat}{s l:List UInt8}{m:List (Nat×List UInt8)}{I:Nat→Prop}{p q:Addr}{M:Bp}{fl:Int}{v:Value}{A:Option Addr}{vs:List Bv}
section
open Go.RowKit Go.Acc
theorem Ow:Maps.Keyed Ad 26:=Maps.int_keyed underlying26
theorem Wc(a:Nat)(ha:a<18446744073709551616):(Lit.int .u64 (a:Int)).wf=true:=by
 have h1:IntKind.u64.min=0:=rfl;have h2:IntKind.u64.max=18446744073709551615:=rfl;simp [Lit.wf,h1,h2];omega
theorem Yl{p:Nat}{D:DataW Unit}(op:o p=7)(hm:w.ownsMap (H:=Unit) Ad 26 (plainElem Ad 9) p n D)(hn:n≤m.length)
  (hat:∀a s,m.find? (fun x=>x.1==a)=some (a,s)→D.atKey (.int .u64 a) (.lit (.string []))= .lit (.string s))
  (hm':w'.ownsMap (H:=Unit) Ad 26 (plainElem Ad 9) p (n+1) (D.put (.int .u64 (a:Int)) (.lit (.string s)))) (hg:w.grownBy w' (some p)) (ha:a<18446744073709551616):
  Lo w' (Bl o w.heap.size 7) p ((a,s)::m)∧To (fun i=>i=7) w o w' (Bl o w.heap.size 7):=by
 have c:WideAt.IsKeyLit (.int .u64 (a:Int)):=Ow.key (Maps.keyOf_int_mk underlying26 (Wc a ha));obtain⟨g,j,_⟩:=hm.canon Ow;refine⟨⟨by rw [Bs hm.lt];exact op,n+1,_,hm',by simp;omega,?_⟩,To.of_fr (Fr.of_grown hg) ?_ 7⟩
 ·intro d l b;rw [List.find?_cons] at b;by_cases e:a=d
  ·subst e;simp at b;subst b;exact Maps.atKey_put_same ⟨g,j⟩ c _ _
  ·have f:(a==d)=false:=beq_eq_false_iff_ne.mpr e;simp only [f] at b;rw [Maps.atKey_put_other (by intro h;injection h with _ h;omega)];exact hat d l b
 ·intro k _ c;injection c with c
  rw [c];exact op
structure R7(b:Bd)(s:List UInt8):Prop where
 st:b.s.length<65536
 len:b.b.length+s.length+1≤1048576
 ky:b.keys.length≤1048575
 nm:b.names.length≤1048575
theorem zY(f:Nat)(s:List UInt8)(b:Bd)(g:Option Nat)(q:Bool)(hg:Cj b.keys s=g)(hq:Kc f 1=q):b.put f s=match(if q=true then g else none) with
 |some a=>(b,⟨4,1,a⟩)
 |none=>({ b with b:=b.b++s++ [0],keys:=Fs b.keys s b.b.length,names:=(b.b.length,s)::b.names},⟨4,1,b.b.length⟩):=by
 unfold Bd.put;rw [hg,hq];cases(if q=true then g else none) <;>rfl
theorem _root_.Go.Acc.To.set_new{o':Nat→Nat}(h:To I w o w' o')(hp:w.heap.size≤p.block)(v:Value):To I w o (w'.setCell p v) o':=
 ⟨h.fr.setCell (fun hlt=>absurd hlt (by omega)) v,h.ow⟩
theorem BM.set_lone{b:Bd}(h:BM M fl w o b)(hp:o p.block=0)(v:Value):BM M fl (w.setCell p v) o b:=
 h.to_ (To.of_fr0 (I:=fun i=>i=0) (Fr.setCell (S:=fun k=>k=p.block) (Fr.refl _ w) (fun _=>rfl) v) (by rintro k _ rfl;exact hp)) (fun i hi e=>by subst e;exact Co hi)
theorem uG(h:i=4):Dg i:=by subst h;exact⟨by omega,by omega⟩
theorem uI(h:i=7):Dg i:=by subst h;exact⟨by omega,by omega⟩
theorem Ph{r:Nat}{t:TypeId}{x y z:Value}(h:Bb w r t #[x,y,z]):(w.cell? ⟨r,0,none⟩=some x∧w.cell? ⟨r,1,none⟩=some y∧w.cell? ⟨r,2,none⟩=some z)∧w.frozen? ⟨r,0,none⟩=false∧w.frozen? ⟨r,1,none⟩=false∧w.frozen? ⟨r,2,none⟩=false:=
 ⟨⟨h.cell 0,h.cell 1,h.cell 2⟩,h.frozen 0,h.frozen 1,h.frozen 2⟩
theorem mD(M:Bp)(fl:Int)(b:Bd)(s:List UInt8)(w:World)(o:Nat→Nat)(h:BM M fl w o b)(hr:R7 b s)(hz:Cl s=false):
  Calls Ad 196 #[Aca M.β,.string ⟨s.toArray⟩] w fun e w'=>∃a:Nat,(b.put (bits fl) s).2=⟨4,1,a⟩∧e= .returned (.agg #[Aa Ab 4,Aa Ab 1,Aa Ac (a:Int)])∧∃o',BM M fl w' o' (b.put (bits fl) s).1∧To Dg w o w' o':=by
 have HR:=Hd hr;obtain⟨g,hg⟩:∃g,Cj b.keys s=g:=⟨_,rfl⟩;obtain⟨q,hq⟩:∃q,Kc (bits fl) 1=q:=⟨_,rfl⟩;have HE:=Hd (zY (bits fl) s b g q hg hq);have HQ:=Hd hq;obtain⟨gv,a3⟩:∃v,g.getD 0=v:=⟨_,rfl⟩;obtain⟨a2,ab⟩:∃v,g.isSome=v:=⟨_,rfl⟩;have HG:=Hd (show T4 (Cj b.keys s)= .tuple #[Aa Ab (gv:Int),.bool a2] by rw [hg];unfold T4;rw [a3,ab]);have br:=Hd (And.intro a3 ab);have bp:=Hd (show ∀a,g=some a→a≤1048576 by
  intro a ha;obtain⟨A1,A2,n',c1,c2,ks,ns,hL,o1,o2,op,hP⟩:=h.keys.open_;rw [ha,hP.get] at hg;unfold Cj at hg;rw [Option.map_eq_some_iff] at hg;obtain⟨x,hx,rfl⟩:=hg;exact hP.at_ _ (List.of_mem_zip (List.mem_of_find?_eq_some hx)).2)
 have bt:=Hd (show b.keys.length≤1048576 by have:=hr.ky;omega);have HZ:=Hd hz;have bs:=Hd (fun W=>eG s W hz);have hB:Below w.heap.size w (w.alloc (.cells #[.int .i64 0,.int .i64 0,.int .u64 0] 169)):=(Af _ _).alloc (Ae _) _;have au:=Hd (h.fresh hB 0);have ax:=Hd (To.fresh Dg hB o 0);have al:=Hd (Bb.new w 169 #[.int .i64 0,.int .i64 0,.int .u64 0]);have ak:=Hd (show Bl o w.heap.size 0 w.heap.size=0 from Bo (Ae _));obtain⟨n,hn⟩:∃n,b.b.length=n:=⟨_,rfl⟩;have HN:=Hd hn;have a8:=Hd (show b.b.length+ [s,[0]].flatten.length≤1048576 by have:=hr.len;simp;omega);have ba:=Hd (show plainElem (H:=Unit) Ad 9 (.string ⟨s.toArray⟩)=some (.lit (.string s),[]) by
  have b5:(⟨s.toArray⟩:ByteArray).size≤maxLen:=by
   have:=hr.len;have e:(⟨s.toArray⟩:ByteArray).size=s.length:=rfl;rw [e];simp only [maxLen];omega
  have hu:Ad.underlying 9=some .string:=underlying9;unfold plainElem;rw [hu];simp [b5])
 have bj:n≤1048576:=by have:=hr.len;omega
 clear h hr hz hg hq a3 ab hB hn;go_enter func196,ntmps196;go_upto_region 1 with fail
 generalize w.alloc (.cells #[Aa Ab 0,Aa Ab 0,Aa Ac 0] 169)=w1 at au ax al⊢;generalize Bl o w.heap.size 0=o1 at au ax ak;generalize bk:w.heap.size=r at al ak⊢;have l:=Hd (show w.heap.size≤r by rw [bk];exact Ae _);clear bk;go_wp2_with fail;go_region_held3 (fun _=>True) (exact trivial) (first|(go_at_call 279;(with_reducible refine(bs.o _).mono ?_);rintro e w' ⟨rfl,rfl⟩)|(go_at_call 131;(with_reducible refine(Ho au.o.drew).mono ?_);rintro e w2 ⟨rfl,o2,bi,am⟩;have aj:=Hd bi;have bv:=Hd (al.o.to_ am.from_drew (by rw [ak.o];exact Co));have C:=Hd (show o2 r=0 by rw [am.from_drew.ow _ al.o.lt];exact ak.o);have bu:=Hd (ax.o.trans am.from_drew);clear bi am));obtain⟨b0,_,b2,_,_⟩:=aj.o.head.cells;obtain⟨_,b3,b4,_⟩:=Dd aj.o.head;go_wp2_with fail;go_at_call 280;refine(Rv 4 M.kb b.keys s _ o2 aj.o.keys bt.o).mono ?_;rintro e L ⟨rfl,hB⟩;rw [HG.o];have t:=Hd (aj.o.pure hB);have N:=Hd (bv.o.pure hB);have ay:=Hd (bu.o.trans (To.pure Dg hB o2));clear hB b0 b2 b3 b4;obtain⟨b0,b3,b4,_⟩:=Dd t.o.head;obtain⟨hg,an⟩:=br.o;cases g with
 |none=>
  obtain rfl:a2=false:=by rw [←an];rfl
  have HP:=Hd (show(if q=true then(none:Option Nat) else none)=none by split <;>rfl);clear hg an;have a4:IntKind.u64.wrap (n:Int)=(n:Int):=Ce _ (by omega);go_wp2_with fail;go_at_call 133;refine(Dt n t.o.buf HN.o).mono ?_;rintro e w' ⟨rfl,rfl⟩;go_wp2_with fail;go_at_call 138;refine(G6 M.bb 2 2 _ [s,[0]] b.b _ (Bl o2 L.heap.size 0) (t.o.fresh ((Af _ _).alloc (Ae _) _) 0).buf (Uf L s [0]) ?_ a8.o (by omega)).mono ?_
  ·rintro ad e;injection e with e
   subst e;show Bl o2 L.heap.size 0 L.heap.size≠1;rw [Bo (Ae _)];omega
  rintro e w4 ⟨rfl,o4,V,J⟩;have A:=Hd ((t.o.fresh ((Af _ _).alloc (Ae _) (.cells #[.string ⟨s.toArray⟩,.string ⟨([0]:List UInt8).toArray⟩] 9)) 0).buf_ J V);have G:=Hd ((To.fresh (fun i=>i=1) ((Af L.heap.size L).alloc (Ae _) (.cells #[.string ⟨s.toArray⟩,.string ⟨([0]:List UInt8).toArray⟩] 9)) o2 0).trans J);have R:=Hd (N.o.to_ G.o (by rw [C.o];omega));have O:=Hd (show o4 r=0 by rw [G.o.ow _ N.o.lt];exact C.o);have az:=Hd (ay.o.trans (G.o.mono fun _ h=>Ip h));clear V J b0 b3 b4;obtain⟨_,_,b4,_⟩:=Dd A.o.head;go_wp2_with fail;go_at_call 282;refine(Lv 4 M.kb b.keys s n w4 o4 A.o.keys HR.o.ky bj).mono ?_;rintro e w5 ⟨⟨x,rfl⟩,o5,X,c⟩;have B:=Hd (A.o.keys_ c X);have S:=Hd (R.o.to_ c (by rw [O.o];omega));have P:=Hd (show o5 r=0 by rw [c.ow _ R.o.lt];exact O.o);have a0:=Hd (az.o.trans (c.mono fun _ h=>uG h));clear X c b4;obtain⟨_,_,_,_,_,b7⟩:=Dd B.o.head;obtain⟨op,nn,D,j,K,Z⟩:=B.o.names;have ae:nn<maxLen:=by have:=HR.o.nm;have h2:nn≤b.names.length:=K;simp only [maxLen];omega
  go_wp2_with (at_mapUpdate;refine wpList_mapUpdate_own (H:=Unit) _ rfl _ _ _ 143 rfl 26 9 Ow underlying143 _ M.mb nn D rfl j ae _ _ (.int .u64 (n:Int)) rfl rfl (Maps.keyOf_int_mk underlying26 (Wc n (by omega))) (.lit (.string s)) [] ba.o ?_;intro w6 z f);obtain⟨Y,d⟩:=Yl op j K Z z f (by omega);have k:=Hd (show BM M fl w6 (Bl o5 w5.heap.size 7) { b with b:=b.b++s++ [0],keys:=Fs b.keys s b.b.length,names:=(b.b.length,s)::b.names} by
   have h6:=B.o.names_ d Y;have e2:b.b++s++ [0]=b.b++ [s,[0]].flatten:=by simp
   rw [e2,HN.o];exact h6)
  have T:=Hd (S.o.to_ d (by rw [P.o];omega));have E:=Hd (show Bl o5 w5.heap.size 7 r=0 by rw [d.ow _ S.o.lt];exact P.o);have Q:=Hd (a0.o.trans (d.mono fun _ h=>uI h));clear op j K Z z f Y d ae b7;generalize Bl o5 w5.heap.size 7=o6 at k E Q;have d0:=(Dd k.o.head).1;go_wp2_with fail;go_region_held3 (fun w'=>w'.cell? ⟨M.β,0,none⟩=some (Aca M.bb)) (first|with_reducible exact d0|with_reducible exact Bc d0|with_reducible exact e0) (first|(go_at_call 230;(with_reducible refine(Gm k.o.drew.buf).mono ?_);rintro e w' ⟨rfl,rfl⟩)|(go_at_call 131;(with_reducible refine(Ho k.o.drew).mono ?_);rintro e w7 ⟨rfl,o7,I,m⟩;have e0:=(Dd I.head).1;have av:=Hd I;have U:=Hd (T.o.to_ m.from_drew (by rw [E.o];exact Co));have F:=Hd (show o7 r=0 by rw [m.from_drew.ow _ T.o.lt];exact E.o);have a1:=Hd (Q.o.trans m.from_drew);clear I m));clear a4;have bl:IntKind.u64.wrap (n:Int)=(n:Int):=Ce _ (by omega);obtain⟨⟨r0,r1,r2⟩,f0,f1,f2⟩:=Ph U.o;go_wp2_with fail;have hF:=((U.o.set_ 0 (Aa Ab 4)).set_ 1 (Aa Ab 1)).set_ 2 (Aa Ac (n:Int));have u:=((av.o.set_lone (p:=⟨r,0,none⟩) F.o (Aa Ab 4)).set_lone (p:=⟨r,1,none⟩) F.o (Aa Ab 1)).set_lone (p:=⟨r,2,none⟩) F.o (Aa Ac (n:Int));have y:=((a1.o.set_new (p:=⟨r,0,none⟩) l.o (Aa Ab 4)).set_new (p:=⟨r,1,none⟩) l.o (Aa Ab 1)).set_new (p:=⟨r,2,none⟩) l.o (Aa Ac (n:Int));clear r0 r1 r2 f0 f1 f2;generalize ((w7.setCell ⟨r,0,none⟩ (Aa Ab 4)).setCell ⟨r,1,none⟩ (Aa Ab 1)).setCell ⟨r,2,none⟩ (Aa Ac (n:Int))=wF at hF u y⊢;obtain ⟨r0,r1,r2⟩:=hF.c3;refine bodyPost_ret (v:= .agg #[Aa Ab 4,Aa Ab 1,Aa Ac (n:Int)]) (by simp [results,results196,go_sem,r0,r1,r2]) rfl ?_;rw [HE.o,HP.o];exact⟨_,by first|rfl|(rw [HN.o]),rfl,_,u,y⟩
 |some a=>
  obtain rfl:a2=true:=by rw [←an];rfl
  obtain rfl:gv=a:=by rw [←hg];rfl
  have cj:=bp.o gv rfl;clear hg an;go_wp2_with fail;go_at_call 281;refine(Ww M.β 1 0 fl q L b3 (by omega) rfl HQ.o).mono ?_;rintro e w' ⟨rfl,rfl⟩;cases q with
  |false=>
   have HP:=Hd (show(if false=true then some gv else none)=none from rfl);have a4:IntKind.u64.wrap (n:Int)=(n:Int):=Ce _ (by omega);go_wp2_with fail;go_at_call 133;refine(Dt n t.o.buf HN.o).mono ?_;rintro e w' ⟨rfl,rfl⟩;go_wp2_with fail;go_at_call 138;refine(G6 M.bb 2 2 _ [s,[0]] b.b _ (Bl o2 L.heap.size 0) (t.o.fresh ((Af _ _).alloc (Ae _) _) 0).buf (Uf L s [0]) ?_ a8.o (by omega)).mono ?_
   ·rintro ad e;injection e with e
    subst e;show Bl o2 L.heap.size 0 L.heap.size≠1;rw [Bo (Ae _)];omega
   rintro e w4 ⟨rfl,o4,V,J⟩;have A:=Hd ((t.o.fresh ((Af _ _).alloc (Ae _) (.cells #[.string ⟨s.toArray⟩,.string ⟨([0]:List UInt8).toArray⟩] 9)) 0).buf_ J V);have G:=Hd ((To.fresh (fun i=>i=1) ((Af L.heap.size L).alloc (Ae _) (.cells #[.string ⟨s.toArray⟩,.string ⟨([0]:List UInt8).toArray⟩] 9)) o2 0).trans J);have R:=Hd (N.o.to_ G.o (by rw [C.o];omega));have O:=Hd (show o4 r=0 by rw [G.o.ow _ N.o.lt];exact C.o);have az:=Hd (ay.o.trans (G.o.mono fun _ h=>Ip h));clear V J b0 b3 b4;obtain⟨_,_,b4,_⟩:=Dd A.o.head;go_wp2_with fail;go_at_call 282;refine(Lv 4 M.kb b.keys s n w4 o4 A.o.keys HR.o.ky bj).mono ?_;rintro e w5 ⟨⟨x,rfl⟩,o5,X,c⟩;have B:=Hd (A.o.keys_ c X);have S:=Hd (R.o.to_ c (by rw [O.o];omega));have P:=Hd (show o5 r=0 by rw [c.ow _ R.o.lt];exact O.o);have a0:=Hd (az.o.trans (c.mono fun _ h=>uG h));clear X c b4;obtain⟨_,_,_,_,_,b7⟩:=Dd B.o.head;obtain⟨op,nn,D,j,K,Z⟩:=B.o.names;have ae:nn<maxLen:=by have:=HR.o.nm;have h2:nn≤b.names.length:=K;simp only [maxLen];omega
   go_wp2_with (at_mapUpdate;refine wpList_mapUpdate_own (H:=Unit) _ rfl _ _ _ 143 rfl 26 9 Ow underlying143 _ M.mb nn D rfl j ae _ _ (.int .u64 (n:Int)) rfl rfl (Maps.keyOf_int_mk underlying26 (Wc n (by omega))) (.lit (.string s)) [] ba.o ?_;intro w6 z f);obtain⟨Y,d⟩:=Yl op j K Z z f (by omega);have k:=Hd (show BM M fl w6 (Bl o5 w5.heap.size 7) { b with b:=b.b++s++ [0],keys:=Fs b.keys s b.b.length,names:=(b.b.length,s)::b.names} by
    have h6:=B.o.names_ d Y;have e2:b.b++s++ [0]=b.b++ [s,[0]].flatten:=by simp
    rw [e2,HN.o];exact h6)
   have T:=Hd (S.o.to_ d (by rw [P.o];omega));have E:=Hd (show Bl o5 w5.heap.size 7 r=0 by rw [d.ow _ S.o.lt];exact P.o);have Q:=Hd (a0.o.trans (d.mono fun _ h=>uI h));clear op j K Z z f Y d ae b7;generalize Bl o5 w5.heap.size 7=o6 at k E Q;have d0:=(Dd k.o.head).1;go_wp2_with fail;go_region_held3 (fun w'=>w'.cell? ⟨M.β,0,none⟩=some (Aca M.bb)) (first|with_reducible exact d0|with_reducible exact Bc d0|with_reducible exact e0) (first|(go_at_call 230;(with_reducible refine(Gm k.o.drew.buf).mono ?_);rintro e w' ⟨rfl,rfl⟩)|(go_at_call 131;(with_reducible refine(Ho k.o.drew).mono ?_);rintro e w7 ⟨rfl,o7,I,m⟩;have e0:=(Dd I.head).1;have av:=Hd I;have U:=Hd (T.o.to_ m.from_drew (by rw [E.o];exact Co));have F:=Hd (show o7 r=0 by rw [m.from_drew.ow _ T.o.lt];exact E.o);have a1:=Hd (Q.o.trans m.from_drew);clear I m));clear a4;have bl:IntKind.u64.wrap (n:Int)=(n:Int):=Ce _ (by omega);obtain⟨⟨r0,r1,r2⟩,f0,f1,f2⟩:=Ph U.o;go_wp2_with fail;have hF:=((U.o.set_ 0 (Aa Ab 4)).set_ 1 (Aa Ab 1)).set_ 2 (Aa Ac (n:Int));have u:=((av.o.set_lone (p:=⟨r,0,none⟩) F.o (Aa Ab 4)).set_lone (p:=⟨r,1,none⟩) F.o (Aa Ab 1)).set_lone (p:=⟨r,2,none⟩) F.o (Aa Ac (n:Int));have y:=((a1.o.set_new (p:=⟨r,0,none⟩) l.o (Aa Ab 4)).set_new (p:=⟨r,1,none⟩) l.o (Aa Ab 1)).set_new (p:=⟨r,2,none⟩) l.o (Aa Ac (n:Int));clear r0 r1 r2 f0 f1 f2;generalize ((w7.setCell ⟨r,0,none⟩ (Aa Ab 4)).setCell ⟨r,1,none⟩ (Aa Ab 1)).setCell ⟨r,2,none⟩ (Aa Ac (n:Int))=wF at hF u y⊢;obtain ⟨r0,r1,r2⟩:=hF.c3;refine bodyPost_ret (v:= .agg #[Aa Ab 4,Aa Ab 1,Aa Ac (n:Int)]) (by simp [results,results196,go_sem,r0,r1,r2]) rfl ?_;rw [HE.o,HP.o];exact⟨_,by first|rfl|(rw [HN.o]),rfl,_,u,y⟩
  |true=>
   have HP:=Hd (show(if true=true then some gv else none)=some gv from rfl);have bl:IntKind.u64.wrap (gv:Int)=(gv:Int):=Ce _ (by omega);obtain⟨⟨r0,r1,r2⟩,f0,f1,f2⟩:=Ph N.o;go_wp2_with fail;have hF:=((N.o.set_ 0 (Aa Ab 4)).set_ 1 (Aa Ab 1)).set_ 2 (Aa Ac (gv:Int));have u:=((t.o.set_lone (p:=⟨r,0,none⟩) C.o (Aa Ab 4)).set_lone (p:=⟨r,1,none⟩) C.o (Aa Ab 1)).set_lone (p:=⟨r,2,none⟩) C.o (Aa Ac (gv:Int));have y:=((ay.o.set_new (p:=⟨r,0,none⟩) l.o (Aa Ab 4)).set_new (p:=⟨r,1,none⟩) l.o (Aa Ab 1)).set_new (p:=⟨r,2,none⟩) l.o (Aa Ac (gv:Int));clear r0 r1 r2 f0 f1 f2;generalize ((L.setCell ⟨r,0,none⟩ (Aa Ab 4)).setCell ⟨r,1,none⟩ (Aa Ab 1)).setCell ⟨r,2,none⟩ (Aa Ac (gv:Int))=wF at hF u y⊢;obtain ⟨r0,r1,r2⟩:=hF.c3;refine bodyPost_ret (v:= .agg #[Aa Ab 4,Aa Ab 1,Aa Ac (gv:Int)]) (by simp [results,results196,go_sem,r0,r1,r2]) rfl ?_;rw [HE.o,HP.o];exact⟨_,by first|rfl|(rw [HN.o]),rfl,_,u,y⟩
structure Q2(M:Bp)(em mn:Int)(A:Option Addr)(n c:Nat)(vs:List Bv)(bx be bm bl:Nat)(w:World)(o:Nat→Nat):Prop where
 x:Bb w bx 104 #[Aca M.β]
 e:Bb w be 3 #[Aa Ab em]
 m:Bb w bm 3 #[Aa Ab mn]
 l:Bb w bl 144 #[.slice A n c]
 ox:o bx=0
 oe:o be=0
 om:o bm=0
 ol:o bl=0
 v:Ef w A n (vs.map vv)
 ov:∀ad,A=some ad→ad.block<w.heap.size∧o ad.block=0
section
variable {M:Bp} {em mn:Int} {A:Option Addr} {n c:Nat} {vs:List Bv} {bx be bm bl:Nat} {w w':World} {o o':Nat→Nat}
theorem Q2.to_(h:Q2 M em mn A n c vs bx be bm bl w o)(ht:To I w o w' o')(hI:¬I 0):Q2 M em mn A n c vs bx be bm bl w' o':=
 ⟨h.x.to_ ht (by rw [h.ox];exact hI),h.e.to_ ht (by rw [h.oe];exact hI),h.m.to_ ht (by rw [h.om];exact hI),h.l.to_ ht (by rw [h.ol];exact hI),
  by rw [ht.ow _ h.x.lt];exact h.ox,by rw [ht.ow _ h.e.lt];exact h.oe,by rw [ht.ow _ h.m.lt];exact h.om,by rw [ht.ow _ h.l.lt];exact h.ol,
  h.v.fr ht.fr (fun ad e=>by rw [(h.ov ad e).2];exact hI),fun ad e=>⟨Ar (h.ov ad e).1 ht.size,by rw [ht.ow _ (h.ov ad e).1];exact(h.ov ad e).2⟩⟩
theorem Q2.cells(h:Q2 M em mn A n c vs bx be bm bl w o):w.cell? ⟨bx,0,none⟩=some (Aca M.β)∧w.cell? ⟨be,0,none⟩=some (Aa Ab em)∧w.cell? ⟨bm,0,none⟩=some (Aa Ab mn)∧w.cell? ⟨bl,0,none⟩=some (.slice A n c):=
 ⟨h.x.cell 0,h.e.cell 0,h.m.cell 0,h.l.cell 0⟩
theorem Q2.drew(h:Q2 M em mn A n c vs bx be bm bl w o):Q2 M em mn A n c vs bx be bm bl w.drew o:=h.to_ (To.pure (fun _=>False) (Af _ _).drew o) id
end
theorem jV{u:Value}(h:w.cell? q=some v)(hne:q.block≠p.block):(w.setCell p u).cell? q=some v:=
 (World.cell?_of_block (w:=w) (Below.heap_setCell w p u q.block hne)).trans h
theorem Ek{u0 u1 u2:Value}(h:w.cell? q=some v)(hne:q.block≠g):(((w.setCell ⟨g,0,none⟩ u0).setCell ⟨g,1,none⟩ u1).setCell ⟨g,2,none⟩ u2).cell? q=some v:=jV (jV (jV h hne) hne) hne
theorem iO(w:World)(x y z u:Obj):Below w.heap.size w ((((w.alloc x).alloc y).alloc z).alloc u):=(N8 w x y z).alloc (by simp;omega) _
theorem Kf(h:o p.block=9)(v:Value):To (fun i=>i=9) w o (w.setCell p v) o:=
 To.of_fr0 (Fr.setCell (S:=fun k=>k=p.block) (Fr.refl _ w) (fun _=>rfl) v) (by rintro k _ rfl;exact h)
theorem Nq:∀i,Dg i→¬i=9:=by rintro i ⟨h1,h2⟩ rfl;omega
theorem uO(h:o g=9)(u0 u1 u2:Value):To (fun i=>i=9) w o (((w.setCell ⟨g,0,none⟩ u0).setCell ⟨g,1,none⟩ u1).setCell ⟨g,2,none⟩ u2) o:=
 ((Kf (p:=⟨g,0,none⟩) h u0).trans (Kf (p:=⟨g,1,none⟩) h u1)).trans (Kf (p:=⟨g,2,none⟩) h u2)
def Pc(M:Bp)(l:List UInt8)(em mn:Int)(A:Option Addr)(n c:Nat)(vs:List Bv)(x:List UInt8×Bv):Prop:=
 ∀W O,C2 W O M.bb l→Ef W A n (vs.map vv)→(∀ad,A=some ad→ad.block<W.heap.size∧O ad.block≠1)→Calls Ad 277 #[Aca M.bb,Aa Ab em,Aa Ab mn,.slice A n c] W (R9 W O M.bb x)
theorem dI(M:Bp)(fl:Int)(b:Bd)(em mn:Int)(A:Option Addr)(n c:Nat)(vs:List Bv)(l':List UInt8)(v':Bv)(bx be bm bl:Nat)(w:World)(o:Nat→Nat)(h:BM M fl w o b)(hc:Q2 M em mn A n c vs bx be bm bl w o)(hs:b.s.length<65536)
  (hP:Pc M b.b em mn A n c vs (l',v')):
  Calls Ad 276 #[Aca bx,Aca be,Aca bm,Aca bl] w (D3 M fl { b with b:=l',s:=b.s++ [v']} w o):=by
 have hA:=(Af w.heap.size w).alloc (Ae _) (.cells #[Aa Ab 0,Aa Ab 0,Aa Ac 0] 169);have r:=hA.drew;have O:=h.fresh r 9;have j:=hc.to_ (To.fresh (fun _=>False) r o 9) id;have N:=Hd (show Bb (w.alloc (.cells #[Aa Ab 0,Aa Ab 0,Aa Ac 0] 169)).drew w.heap.size 169 #[Aa Ab 0,Aa Ab 0,Aa Ac 0] from Bb.new _ _ _);have J:=Hd (show Bl o w.heap.size 9 w.heap.size=9 from Bo (Ae _));have Y:=Hd (To.fresh Dg r o 9);have HM:=Hd O;have HC:=Hd j;have HS:=Hd hs;have X:=Hd (hP _ _ h.drew.buf hc.drew.v (fun ad e=>⟨(hc.drew.ov ad e).1,by rw [(hc.drew.ov ad e).2];omega⟩));have V:=Hd h.drew;have U:=Hd hc.drew;have HP:=Hd (hP _ _ O.buf j.v (fun ad e=>⟨(j.ov ad e).1,by rw [(j.ov ad e).2];omega⟩));obtain⟨q,z,B,C⟩:=hc.cells;have Q:=h.head.cells.1;have nx:bx≠w.heap.size:=Nat.ne_of_lt hc.x.lt;have ne:be≠w.heap.size:=Nat.ne_of_lt hc.e.lt;have nm:bm≠w.heap.size:=Nat.ne_of_lt hc.m.lt;have nl:bl≠w.heap.size:=Nat.ne_of_lt hc.l.lt;have nb:M.β≠w.heap.size:=Nat.ne_of_lt (Bu Q);clear h hc hs hP hA r O j;go_enter func276,ntmps276;go_wp2_with fail;go_cut [4,5] (fun u4 u5 wx=>∃wy,wy=wx∧u5= Aa Ab 0∧∃b4 o4,u4= Aca b4∧BM M fl wx o4 { b with b:=l'}∧Q2 M em mn A n c vs bx be bm bl wx o4∧Bb wx b4 169 #[Aa Ab (v'.t:Int),Aa Ab (v'.w:Int),Aa Ac (v'.n:Int)]∧o4 b4=9∧To Dg w o wx o4)
 case first=>
  go_region_held3 (fun w'=>w'.cell? ⟨bx,0,none⟩=some (Aca M.β)∧w'.cell? ⟨be,0,none⟩=some (Aa Ab em)∧w'.cell? ⟨bm,0,none⟩=some (Aa Ab mn)∧w'.cell? ⟨bl,0,none⟩=some (.slice A n c)∧w'.cell? ⟨M.β,0,none⟩=some (Aca M.bb)) (first|with_reducible exact⟨q,z,B,C,Q⟩|with_reducible exact⟨Bc q,Bc z,Bc B,Bc C,Bc Q⟩|with_reducible exact⟨Bm _ q,Bm _ z,Bm _ B,Bm _ C,Bm _ Q⟩|with_reducible exact⟨Bc (Bm _ q),Bc (Bm _ z),Bc (Bm _ B),Bc (Bm _ C),Bc (Bm _ Q)⟩|with_reducible exact⟨D,E,F,G,R⟩|with_reducible exact⟨Bm _ D,Bm _ E,Bm _ F,Bm _ G,Bm _ R⟩|with_reducible exact⟨Ek (Bm _ D) px,Ek (Bm _ E) pe,Ek (Bm _ F) pm,Ek (Bm _ G) pl,Ek (Bm _ R) pb⟩|with_reducible exact⟨Ek D nx,Ek E ne,Ek F nm,Ek G nl,Ek R nb⟩) (first|(go_at_call 277;(with_reducible refine HP.o.mono ?_);rintro e g ⟨rfl,P,i,a⟩;have f:=HM.o.buf_ a i;have d:=HC.o.to_ a (by omega);obtain⟨D,E,F,G⟩:=d.cells;have R:=f.head.cells.1;have y:=N.o.to_ a (by rw [J.o];omega);obtain ⟨f0,f1,f2⟩:=y.f3;obtain ⟨z0,z1,z2⟩:=y.c3;have K:=Hd (show P w.heap.size=9 from(a.ow _ N.o.lt).trans J.o);have au:=Hd y;have I:=Hd f;have H:=Hd d;have L:=Hd (Y.o.trans (a.mono fun _ h=>Ip h));clear i a f d y)|(go_at_call 277;(with_reducible refine X.o.mono ?_);rintro e g ⟨rfl,P,i,a⟩;have f:=V.o.buf_ a i;have d:=U.o.to_ a (by omega);obtain⟨D,E,F,G⟩:=d.cells;have R:=f.head.cells.1;have px:bx≠g.heap.size:=Nat.ne_of_lt (Bu D);have pe:be≠g.heap.size:=Nat.ne_of_lt (Bu E);have pm:bm≠g.heap.size:=Nat.ne_of_lt (Bu F);have pl:bl≠g.heap.size:=Nat.ne_of_lt (Bu G);have pb:M.β≠g.heap.size:=Nat.ne_of_lt (Bu R);have I:=Hd f;have H:=Hd d;have L:=Hd (a.from_drew.mono fun _ h=>Ip h);clear i a f d))
  all_goals
   go_wp2_with fail;go_meet
  all_goals
   first
   |exact⟨_,rfl,rfl,w.heap.size,P,rfl,I.o.to_ (uO K.o _ _ _) Nq,H.o.to_ (uO K.o _ _ _) (by decide),((au.o.set_ 0 (Aa Ab (v'.t:Int))).set_ 1 (Aa Ab (v'.w:Int))).set_ 2 (Aa Ac (v'.n:Int)),K.o,((L.o.set_new (p:=⟨w.heap.size,0,none⟩) (Ae _) _).set_new (p:=⟨w.heap.size,1,none⟩) (Ae _) _).set_new (p:=⟨w.heap.size,2,none⟩) (Ae _) _⟩
   |exact⟨_,rfl,rfl,g.heap.size,Bl P g.heap.size 9,rfl,I.o.fresh ((Af g.heap.size g).alloc (Ae _) _) 9,H.o.to_ (To.fresh (fun _=>False) ((Af g.heap.size g).alloc (Ae _) _) P 9) id,Bb.new _ _ _,Bo (Ae _),L.o.trans (To.fresh Dg ((Af g.heap.size g).alloc (Ae _) _) P 9)⟩
 case rest=>
  obtain⟨w4,rfl,rfl,b4,o4,rfl,ae,ab,aj,ah,ai⟩:=hcut;have al:=Hd ae;have S:=Hd ab;have Z:=Hd aj;have W:=Hd ah;have ap:=Hd ai;clear ae ab aj ah ai q z B C Q nx ne nm nl nb HM HC HP X V U N J Y;obtain⟨q,z,B,C⟩:=S.o.cells;go_wp2_with fail;go_at_call 131;refine(Ho al.o).mono ?_;rintro e w5 ⟨rfl,o5,af,k⟩;have am:=Hd af;have T:=Hd (S.o.to_ k Co);have aa:=Hd (Z.o.to_ k (by rw [W.o];exact fun h=>Nq 9 h rfl));have ao:=Hd (show o5 b4=9 from(k.ow _ Z.o.lt).trans W.o);have aq:=Hd (ap.o.trans k);clear af k q z B C;obtain⟨q,z,B,C⟩:=T.o.cells;obtain ⟨v0,v1,v2⟩:=aa.o.c3;go_wp2_with fail;go_region_held3 (fun w'=>w'.cell? ⟨bx,0,none⟩=some (Aca M.β)∧w'.cell? ⟨b4,0,none⟩=some (Aa Ab (v'.t:Int))∧w'.cell? ⟨b4,1,none⟩=some (Aa Ab (v'.w:Int))∧w'.cell? ⟨b4,2,none⟩=some (Aa Ac (v'.n:Int))) (first|with_reducible exact⟨q,v0,v1,v2⟩|with_reducible exact⟨Bc q,Bc v0,Bc v1,Bc v2⟩|with_reducible exact⟨D,E,F,G⟩) (first|(go_at_call 203;(with_reducible refine(Mi M fl { b with b:=l'} v' _ o5 am.o.drew HS.o).mono ?_);rintro e w6 ⟨rfl,o6,ag,u⟩;have D:w6.cell? ⟨bx,0,none⟩=some (Aca M.β):=((T.o.to_ u.from_drew Co).x).cell 0;have ak:=aa.o.to_ u.from_drew (by rw [ao.o];exact fun h=>Nq 9 h rfl);obtain ⟨E,F,G⟩:=ak.c3;have an:=Hd ag;have ar:=Hd (aq.o.trans u.from_drew);clear ag u ak));go_wp2_with fail;go_end0;exact⟨rfl,o6,an.o,ar.o⟩
theorem Ta(M:Bp)(fl:Int)(b:Bd)(em mn:Int)(A:Option Addr)(n c:Nat)(vs:List Bv)(l':List UInt8)(v':Bv)(w:World)(o:Nat→Nat)(h:BM M fl w o b)(hv:Ef w A n (vs.map vv))(ho:∀ad,A=some ad→ad.block<w.heap.size∧o ad.block=0)(hs:b.s.length<65536)
  (hP:Pc M b.b em mn A n c vs (l',v')):
  Calls Ad 186 #[Aca M.β,Aa Ab em,Aa Ab mn,.slice A n c] w (D3 M fl { b with b:=l',s:=b.s++ [v']} w o):=by
 have l:=Hd hs;have j:=Hd hP;have a:=iO w (.cells #[Aca M.β] 104) (.cells #[Aa Ab em] 3) (.cells #[Aa Ab mn] 3) (.cells #[.slice A n c] 144);have g:=Hd a;have f:=Hd (h.fresh a 0);have i:=Hd (show Q2 M em mn A n c vs w.heap.size (w.heap.size+1) (w.heap.size+1+1) (w.heap.size+1+1+1) ((((w.alloc (.cells #[Aca M.β] 104)).alloc (.cells #[Aa Ab em] 3)).alloc (.cells #[Aa Ab mn] 3)).alloc (.cells #[.slice A n c] 144)) (Bl o w.heap.size 0) from
  ⟨(((Bb.new w 104 #[Aca M.β]).alloc _).alloc _).alloc _,((Cv w _ 3 #[Aa Ab em]).alloc _).alloc _,(K7 w _ _ 3 #[Aa Ab mn]).alloc _,Bb.new_ (by simp) _ _,Bo (by omega),Bo (by omega),Bo (by omega),Bo (by omega),hv.pure a,fun ad e=>⟨by have h1:=(ho ad e).1;have h2:=a.size;omega,by rw [Bs (ho ad e).1];exact(ho ad e).2⟩⟩)
 clear h hs a hP hv ho;go_enter func186,ntmps186;go_wp2_with fail;go_at_call 193;refine(Eb M fl 276 _ _ (Bl o w.heap.size 0) b.vals _ f.o.head Tryz.call276 ((dI M fl b em mn A n c vs l' v' w.heap.size (w.heap.size+1) (w.heap.size+1+1) (w.heap.size+1+1+1) _ (Bl o w.heap.size 0) f.o i.o l.o j.o).mono fun e w' h=>⟨h.1,h⟩)).mono ?_;rintro e w' d;obtain rfl:=d.1;have k:=Hd (d.from_fresh g.o);clear d;go_wp2;go_end0;exact k.o
def uW(w:World)(n:Nat)(vs:List Bv)(e:Ending)(w':World):Prop:=
 ∃A c,e= .returned (.slice A n c)∧Gd w' w.heap.size A n c (vs.map vv)∧Below w.heap.size w w'
theorem Sd(W:World)(v:Bv):Ef (W.alloc (.cells #[Aa Ab (v.t:Int),Aa Ab (v.w:Int),Aa Ac (v.n:Int)] 169)) (some ⟨W.heap.size,0,none⟩) 1 [vv v]:=(bV W v).is
theorem zH{α:Type}{f:α→List Value}{l:List α}{g:α→Value}(hf:∀x,f x=[g x])(h:Is f w A n l){k:Nat}(hk:k<n):
  ∃b off x,A=some ⟨b,off,none⟩∧l[k]?=some x∧w.cell? ⟨b,off+k,none⟩=some (g x):=by
 obtain⟨b,off,e,a,c⟩:=h.at_ (sz:=1) (fun x=>by rw [hf];rfl) (by omega) hk;refine⟨b,off,l[k],e,Ai a,?_⟩;have h0:=c 0 (by omega);simp only [hf,Nat.mul_one,Nat.add_zero] at h0;exact h0
theorem oL(A:Option Addr)(n c:Nat)(l:List Nat)(w:World)(hI:Is qH w A n l)(hn:n≤1000000)(hbd:∀x∈l,x<18446744073709551616):Calls Ad 189 #[.func (.func 190) #[] #[],.slice A n c] w (uW w n (l.map Ds)):=by
 have N:=Hd hI;have O:=Hd hI.1;have v:=Hd hbd;clear hI hbd;go_enter func189,ntmps189;go_wp2_with fail;go_loopw [4,9] (fun s u wr=>∃k:Nat,k≤n∧u= Aa Ab k∧∃A c,s= .slice A k c∧Gd wr w.heap.size A k c (((l.take k).map Ds).map vv)∧Below w.heap.size w wr) (fun _ u _=>n-(intOf u).toNat)
 case atStart=>exact⟨0,Nat.zero_le _,rfl,none,0,rfl,Own.nil _ _,Af _ _⟩
 case round=>
  obtain⟨k,Y,rfl,A,c,rfl,J,f⟩:=hrel;have B:=Hd J;have m:=Hd f;have d:=N.o.pure f;clear J f;by_cases F:k<n
  ·obtain⟨g,U,x,e,G,X⟩:=zH (fun _=>rfl) d F;have I:=Hd (show((l.take (k+1)).map Ds).map vv=((l.take k).map Ds).map vv++ [vv (Ds x)] by
    obtain⟨V,W⟩:=List.getElem?_eq_some_iff.1 G;rw [Az V,W,List.map_append,List.map_append];rfl)
   have P:=Hd (v.o x (List.mem_of_getElem? G));have S:(0:Int)≤(k:Int):=by omega
   have T:(k:Int)<(n:Int):=by omega
   rw [e];clear d G e;go_wp2_with fail;go_at_call 190;refine(Ug x _ P.o).mono ?_;rintro e H ⟨rfl,E⟩;have h:=Hd (A6 m.o E);have C:=Hd (B.o.pure E);clear E X;obtain⟨y,K⟩:∃y,Ds x=y:=⟨_,rfl⟩;rw [K] at I⊢;clear K;have i:=Hd (h.o.alloc h.o.size (.cells #[Aa Ab (y.t:Int),Aa Ab (y.w:Int),Aa Ac (y.n:Int)] 169));have p:=Hd (C.o.pure ((Af H.heap.size H).alloc (Ae _) (.cells #[Aa Ab (y.t:Int),Aa Ab (y.w:Int),Aa Ac (y.n:Int)] 169)));have z:=Hd (Sd H y);go_wp2_with (at_builtin;refine Fl _ rfl (.tmp 13) (.tmp 17) _ rfl 169 _ 3 24 underlying144 Ot rfl (by omega) I9 O8 _ _ _ _ _ rfl p.o _ _ _ _ rfl z.o (by omega) i.o.size ?_;intro L R Z a b q);have D:=Hd a;have r:=Hd (Cf i.o b (by rintro j ⟨Q,e,rfl⟩;exact(p.o.addr Q e).2.1));clear a b q;go_wp2_with fail;go_roundw
   case rel=>exact⟨k+1,by omega,by go_num,L,R,rfl,by rw [I.o];exact D.o,r.o⟩
   case measure=>simp [intOf];omega
  ·obtain rfl:k=n:=by omega
   have M:=Hd (show l.take k=l from Aw (by have:=O.o;omega));rw [M.o] at B;clear d;go_wp2_with fail;go_ret;exact⟨A,c,rfl,B.o,m.o⟩
theorem xP{l:List Nat}{b:List UInt8}(hl:b.length+40+9*l.length≤1048576):E5 (l.map Ds) b:=
 ⟨fun v h=>by obtain⟨x,_,rfl⟩:=List.mem_map.1 h;exact(show Ch ((2:Nat):Int)=true by decide),fun v h=>by obtain⟨x,_,rfl⟩:=List.mem_map.1 h;exact Fo x,
  fun v h=>by obtain⟨x,_,rfl⟩:=List.mem_map.1 h;exact Qm x _,by rw [List.length_map];exact hl⟩
theorem wY{e:Nat}(hok:E5 vs l)(hty:Q1 e n)(hn:0<n)(hel:∀v∈vs,v.t=e):Pc M l e n A n c vs (Cu (vecTy e n) false false vs l):=
 fun W O hb hv ho=>xS M.bb e n c A vs l W O hb hv ho hok hty hn hel
theorem wZ(hok:E5 vs l):Pc M l (-1) 0 A n c vs (Cu 10 true true vs l):=
 fun W O hb hv ho=>xT M.bb n c A vs l W O hb hv ho hok
theorem eF(M:Bp)(fl:Int)(b:Bd)(em:Int)(A:Option Addr)(n c:Nat)(vs:List Bv)(l':List UInt8)(v':Bv)(bx be bl:Nat)(w:World)(o:Nat→Nat)(h:BM M fl w o b)(hx:Bb w bx 104 #[Aca M.β])(he:Bb w be 3 #[Aa Ab em])(hl:Bb w bl 144 #[.slice A n c])
  (hv:Ef w A n (vs.map vv)) (ho:∀ad,A=some ad→ad.block<w.heap.size∧o ad.block=0) (hs:b.s.length<65536) (hn:n=2∨n=3∨n=4) (hP:Pc M b.b em n A n c vs (l',v')):
  Calls Ad 283 #[Aca bl,Aca bx,Aca be] w (D3 M fl { b with b:=l',s:=b.s++ [v']} w o):=by
 have f:=Hd (Ta M fl b em n A n c vs l' v' w o h hv ho hs hP);have j:w.cell? ⟨bx,0,none⟩=some (Aca M.β):=hx.cell 0;have g:w.cell? ⟨be,0,none⟩=some (Aa Ab em):=he.cell 0;have i:w.cell? ⟨bl,0,none⟩=some (.slice A n c):=hl.cell 0;have k:decide ((n:Int)<2)=false:=decide_eq_false (by omega);have l:decide ((4:Int)<(n:Int))=false:=decide_eq_false (by omega);have m:decide (n<2)=false:=decide_eq_false (by omega);have p:decide (4<n)=false:=decide_eq_false (by omega);clear h hx he hl hv ho hs hn hP;go_enter func283,ntmps283;go_wp2_with fail;go_at_call 186;refine f.o.mono ?_;rintro e q a;obtain rfl:=a.1;have d:=Hd a;clear a j g i;go_wp2_with fail;go_end0;exact d.o
theorem jM(M:Bp)(fl:Int)(b:Bd)(em:Int)(A:Option Addr)(n c:Nat)(vs:List Bv)(l':List UInt8)(v':Bv)(w:World)(o:Nat→Nat)(h:BM M fl w o b)(hv:Ef w A n (vs.map vv))(ho:∀ad,A=some ad→ad.block<w.heap.size∧o ad.block=0)(hs:b.s.length<65536)
  (hn:n=2∨n=3∨n=4) (hP:Pc M b.b em n A n c vs (l',v')):
  Calls Ad 197 #[Aca M.β,Aa Ab em,.slice A n c] w (D3 M fl { b with b:=l',s:=b.s++ [v']} w o):=by
 have a:=N8 w (.cells #[Aca M.β] 104) (.cells #[Aa Ab em] 3) (.cells #[.slice A n c] 144);have f:=Hd a;have i:=Hd (h.fresh a 0);have g:=Hd (eF M fl b em A n c vs l' v' w.heap.size (w.heap.size+1) (w.heap.size+1+1) _ (Bl o w.heap.size 0) (h.fresh a 0) (((Bb.new w 104 #[Aca M.β]).alloc _).alloc _) ((Cv w _ 3 #[Aa Ab em]).alloc _) (K7 w _ _ 144 #[.slice A n c])
  (hv.pure a) (fun ad e=>⟨by have h1:=(ho ad e).1;have h2:=a.size;omega,by rw [Bs (ho ad e).1];exact(ho ad e).2⟩) hs hn hP)
 clear h hs a hP hv ho hn;go_enter func197,ntmps197;go_wp2_with fail;go_at_call 193;refine(Eb M fl 283 _ _ (Bl o w.heap.size 0) b.vals _ i.o.head Tryz.call283 (g.o.mono fun e w' h=>⟨h.1,h⟩)).mono ?_;rintro e w' d;obtain rfl:=d.1;have j:=Hd (d.from_fresh f.o);clear d;go_wp2;go_end0;exact j.o
theorem Za(M:Bp)(fl:Int)(b:Bd)(A:Option Addr)(n c:Nat)(l:List Nat)(w:World)(o:Nat→Nat)(h:BM M fl w o b)(hI:Is qH w A n l)(hn:n=2∨n=3∨n=4)(hs:b.s.length<65536)(hbd:∀x∈l,x<18446744073709551616)(hl:b.b.length+40+9*l.length≤1048576):
  Calls Ad 121 #[Aca M.β,.slice A n c] w (D3 M fl (b.vec (11+3*n) false false (l.map Ds)) w o):=by
 have z:=Hd h;have u:=Hd hI;have C:=Hd hs;have f:=Hd hbd;have y:=Hd hl;have i:=Hd hn;have m:n≤1000000:=by omega
 have D:=Hd (show vecTy 2 n=11+3*n by rcases hn with rfl|rfl|rfl <;>rfl);clear h hI hs hbd hl hn;go_enter func121,ntmps121;go_wp2_with fail;go_at_call 189;refine(oL A n c l _ u.o m f.o).mono ?_;rintro e E ⟨p,r,rfl,t,k⟩;have g:=Hd (z.o.fresh k 0);have a:=Hd t;have d:=Hd k;clear t k;have q:=Hd (wY (M:=M) (A:=p) (n:=n) (c:=r) (xP y.o) (e:=2) (by have:=i.o;unfold Q1;omega) (by have:=i.o;omega) (fun v hv=>by obtain⟨x,_,rfl⟩:=List.mem_map.1 hv;rfl));rw [D.o] at q;go_wp2_with fail;go_at_call 197;refine(jM M fl b ((2:Nat):Int) p n r (l.map Ds) (Cu (11+3*n) false false (l.map Ds) b.b).1 (Cu (11+3*n) false false (l.map Ds) b.b).2 E _ g.o a.o.is (fun ad e=>⟨(a.o.addr ad e).2.2,Bo (a.o.addr ad e).2.1⟩) C.o i.o q.o).mono ?_;rintro e F j;obtain rfl:=j.1;have B:=Hd (D3.from_fresh d.o j);clear j;go_wp2_with fail;go_end0;exact B.o
theorem aO(l m:List (List UInt8)):Ci (l++m)=Ci l+Ci m:=by
 induction l with
 |nil=>simp [Ci]
 |cons s r ih=>simp only [List.cons_append,Ci,ih];omega
theorem nO{ks:List (List UInt8)}(h:F2 l ks vs)(hl:l.length+40+9*ks.length≤1048576):E5 vs l∧∀v∈vs,v.t=4:=by
 have a:∀v∈vs,∃s,Ja l s v:=by
  intro v hv;obtain⟨i,b,e⟩:=List.getElem_of_mem hv;have c:i<ks.length:=by rw [←h.1];exact b
  exact⟨ks[i],h.2 i ks[i] v (Ai c) (by rw [Ai b,e])⟩
 exact⟨⟨fun v hv=>by obtain⟨s,h1,_⟩:=a v hv;rw [h1];decide,fun v hv=>by obtain⟨s,_,h2,_⟩:=a v hv;rw [h2];decide,h.fit,by rw [h.1];exact hl⟩,
  fun v hv=>by obtain⟨s,h1,_⟩:=a v hv;exact h1⟩
theorem Xx(M:Bp)(fl:Int)(b:Bd)(k:Nat)(w:World)(o:Nat→Nat)(h:BM M fl w o b)(hk:b.s.length=k):Calls Ad 198 #[Aca M.β] w (Ab6 (Aa Ab (k:Int)) w):=by
 have c:=Hd h;have a:=Hd hk;obtain⟨f,g,i,j,_⟩:=h.head.cells;clear h hk;go_enter func198,ntmps198;go_wp2_with (go_at_call 129;refine(Pp M.β _ (by assumption)).mono ?_;rintro e d ⟨rfl,rfl⟩);go_at_call 284;refine(xI M.sb k b.s _ o c.o.stk a.o).mono ?_;rintro e d ⟨rfl,rfl⟩;go_wp2_with fail;go_ret;exact⟨rfl,rfl⟩
theorem mI(M:Bp)(fl:Int)(b:Bd)(k:Nat)(w:World)(o:Nat→Nat)(h:BM M fl w o b)(hk:b.s.length=k):Calls Ad 122 #[Aca M.β] w (Ab6 (Aa Ab (k:Int)) w):=by
 go_enter func122,ntmps122;go_wp2_with fail;go_at_call 198;refine(Xx M fl b k _ o h hk).mono ?_;rintro e w' ⟨rfl,rfl⟩;go_wp2_with fail;go_ret;exact⟨rfl,rfl⟩
theorem mA(M:Bp)(fl:Int)(b:Bd)(k:Nat)(w:World)(o:Nat→Nat)(h:BM M fl w o b)(hk:b.s.length=k):Calls Ad 124 #[Aca M.β] w (Ab6 (Aa Ab (k:Int)) w):=by
 go_enter func124,ntmps124;go_wp2_with fail;go_at_call 198;refine(Xx M fl b k _ o h hk).mono ?_;rintro e w' ⟨rfl,rfl⟩;go_wp2_with fail;go_ret;exact⟨rfl,rfl⟩
def Aar(w:World)(l:List Bv)(e:Ending)(w':World):Prop:=∃A c,e= .returned (.slice A l.length c)∧Gd w' w.heap.size A l.length c (l.map vv)∧Below w.heap.size w w'
theorem Us(M:Bp)(fl:Int)(b:Bd)(k:Nat)(w:World)(o:Nat→Nat)(h:BM M fl w o b)(hk:k≤b.s.length):Calls Ad 200 #[Aca M.β,Aa Ab (k:Int)] w (Aar w (b.s.drop k)):=by
 have j:=Hd h;have i:=Hd hk;obtain⟨p,q,r,t,_⟩:=h.head.cells;clear h hk;go_enter func200,ntmps200;go_wp2_with fail;go_at_call 130;refine(cT M.sb k b.s _ o j.o.stk i.o).mono ?_;rintro e u ⟨A,n,c,rfl,a,d⟩;have f:n=(b.s.drop k).length:=by have:=a.1;simpa using this.symm
 have l:=Hd f;have m:=Hd a;have g:=Hd d;clear f a d p q r t;go_wp2_with fail;go_ret;obtain rfl:=l.o;exact⟨A,c,rfl,m.o,g.o⟩
theorem aB(M:Bp)(fl:Int)(b:Bd)(k bx bk:Nat)(w:World)(o:Nat→Nat)(h:BM M fl w o b)(hx:Bb w bx 104 #[Aca M.β])(hb:Bb w bk 3 #[Aa Ab (k:Int)])(hox:o bx=0)(hk:k≤b.s.length)(hs:b.s.length≤65536)(hks:k<65536)(hok:E5 (b.s.drop k) b.b):
  Calls Ad 199 #[Aca bx,Aca bk] w (D3 M fl (b.endVec k) w o):=by
 have L:=Hd h;have R:=Hd hk;have N:=Hd hx;have C:=Hd hox;have B:=Hd hok;have E:=Hd hs;obtain⟨m,K⟩:∃m,(b.s.drop k).length=m:=⟨_,rfl⟩;have y:=Hd K;have r:m≤b.s.length∧b.s.length-m=k:=by rw [List.length_drop] at K;omega
 have g:=Hd r;have F:=Hd (show(b.s.take k).length<65536 by rw [List.length_take];omega);have t:w.cell? ⟨bx,0,none⟩=some (Aca M.β):=hx.cell 0;have Z:w.cell? ⟨bk,0,none⟩=some (Aa Ab (k:Int)):=hb.cell 0;clear h hx hb hox hok K r;go_enter func199,ntmps199;go_wp2_with fail;go_at_call 200;refine(Us M fl b k _ o L.o R.o).mono ?_;rintro e P ⟨A,c,rfl,p,hb⟩;rw [y.o] at p⊢;have S:=Hd p;have d:=Hd (show ∀ad,A=some ad→ad.block<P.heap.size∧Bl o w.heap.size 0 ad.block=0 from fun ad e=>⟨(p.addr ad e).2.2,Bo (p.addr ad e).2.1⟩);have f:=Hd (L.o.fresh hb 0);have l:=Hd (N.o.pure hb);have G:=Hd (To.fresh Dg hb o 0);have j:=Hd (show Bl o w.heap.size 0 bx=0 by rw [Bs N.o.lt];exact C.o);clear p hb t Z;have t:P.cell? ⟨bx,0,none⟩=some (Aca M.β):=l.o.cell 0;obtain⟨T,U,V,X,_⟩:=f.o.head.cells;go_wp2_with fail;go_at_call 201;refine(gQ M.sb m b.s _ _ f.o.stk g.o.1 (by have:=E.o;have:=g.o.1;omega)).mono ?_;rintro e Q ⟨⟨A2,n2,W,rfl⟩,O,i,a⟩;rw [g.o.2] at i;have v:=Hd (f.o.stk_ a i);have H:=Hd (G.o.trans (a.mono fun _ h=>iP h));have J:=Hd (l.o.to_ a (by rw [j.o];omega));have z:=Hd (S.o.fr a.fr (fun ad e=>by rw [(d.o ad e).2];omega));have u:=Hd (show ∀ad,A=some ad→ad.block<Q.heap.size∧O ad.block=0 from fun ad e=>⟨Ar (d.o ad e).1 a.size,(a.ow _ (d.o ad e).1).trans (d.o ad e).2⟩);clear i a t T U V X;have t:Q.cell? ⟨bx,0,none⟩=some (Aca M.β):=J.o.cell 0;have D:=Hd (show Pc M b.b (-1) 0 A m c (b.s.drop k) ((Cu 10 true true (b.s.drop k) b.b).1,(Cu 10 true true (b.s.drop k) b.b).2) from wZ B.o);go_wp2_with fail;go_at_call 186;refine(Ta M fl { b with s:=b.s.take k} (-1) 0 A m c (b.s.drop k) _ _ _ O v.o z.o.is u.o F.o D.o).mono ?_;rintro e w3 ⟨rfl,Y,n,q⟩;have x:=Hd n;have I:=Hd (H.o.trans q);clear n q t;go_wp2_with fail;go_end0;exact⟨rfl,Y,x.o,I.o⟩
theorem eD(M:Bp)(fl:Int)(b:Bd)(k:Nat)(w:World)(o:Nat→Nat)(h:BM M fl w o b)(hk:k≤b.s.length)(hs:b.s.length≤65536)(hks:k<65536)(hok:E5 (b.s.drop k) b.b):
  Calls Ad 123 #[Aca M.β,Aa Ab (k:Int)] w (D3 M fl (b.endVec k) w o):=by
 have a:=Bq w (.cells #[Aca M.β] 104) (.cells #[Aa Ab (k:Int)] 3);have d:=Hd a;have g:=Hd (h.fresh a 0);have f:=Hd (aB M fl b k w.heap.size (w.heap.size+1) _ (Bl o w.heap.size 0) (h.fresh a 0) ((Bb.new w 104 #[Aca M.β]).alloc _) (Cv w _ 3 #[Aa Ab (k:Int)]) (Bo (by omega)) hk hs hks hok);clear h hk hs hks hok a;go_enter func123,ntmps123;go_wp2_with fail;go_at_call 193;refine(Eb M fl 199 _ _ (Bl o w.heap.size 0) b.vals _ g.o.head Tryz.call199 (f.o.mono fun e w' h=>⟨h.1,h⟩)).mono ?_;rintro e w' c;obtain rfl:=c.1;have i:=Hd (c.from_fresh d.o);clear c;go_wp2;go_end0;exact i.o
def lI(names:List (Nat×List UInt8))(ns:List (List UInt8))(l:List Bv):Prop:=
 l.length=2*ns.length∧∀(i:Nat) s v,ns[i]?=some s→l[2*i]?=some v→v.t=4∧names.find? (fun x=>x.1==v.n)=some (v.n,s)∧v.n<18446744073709551616
theorem kU{ps:List MemPlace}(h:plainElem (H:=Unit) Ad 9 v=some (.lit (.string s),ps)):v= .string ⟨s.toArray⟩:=by
 unfold plainElem at h;rw [underlying9] at h;cases v <;>simp at h
 next b=>
  obtain⟨_,h⟩:=h;obtain⟨b⟩:=b;obtain⟨h,_⟩:=h;simp at h;subst h;rfl
theorem Lo.look{p:Nat}(h:Lo w o p m)(ha:a<18446744073709551616)(hf:m.find? (fun x=>x.1==a)=some (a,s)):
  (Instr.lookup 143 (.map (some p)) (Aa Ac (a:Int)) false).run Ad w= .ok (.string ⟨s.toArray⟩) w:=by
 obtain⟨_,n,D,e,_,c⟩:=h;have f:(zeroValue 9).run Ad w= .ok (.string ⟨#[]⟩) w:=by kernel_rfl
 obtain⟨v,g,b,d⟩:=e.lookup Ow underlying143 f (show plainElem Ad 9 (.string ⟨#[]⟩)=some (.lit (.string []),[]) by kernel_rfl) (Maps.keyOf_int_mk underlying26 (Wc a ha));rw [c a s hf] at d;rw [kU d] at b;exact b
def yB(w:World)(ns:List (List UInt8))(e:Ending)(w':World):Prop:=∃A c,e= .returned (.slice A ns.length c)∧K5 w' w.heap.size A ns.length c ns∧Below w.heap.size w w'
theorem Gv.map_cell{vals:List Bv}(h:Gv M fl w o vals):w.cell? ⟨M.β,7,none⟩=some (.map (some M.mb)):=by
 obtain⟨A,n,c,hb,_⟩:=h;exact hb.cell 7
theorem kG(M:Bp)(fl:Int)(b:Bd)(A:Option Addr)(n c:Nat)(l:List Bv)(ns:List (List UInt8))(w:World)(o:Nat→Nat)(h:BM M fl w o b)(hI:Ef w A n (l.map vv))(hn:n≤1000000)(hv:lI b.names ns l):
  Calls Ad 205 #[Aca M.β,.slice A n c] w (yB w ns):=by
 have HM:=Hd h;have HI:=Hd hI;have HV:=Hd hv.2;have HL:=Hd (show l.length=n by have:=hI.1;simpa using this);obtain⟨m,X⟩:∃m,ns.length=m:=⟨_,rfl⟩;have z:=Hd X;have S:n=2*m:=by have:=hv.1;have:=HL.o;omega
 subst S;have W:((2*m:Nat):Int) % 2=0:=by omega
 clear h hI hv X;go_enter func205,ntmps205;go_wp2_with fail;go_loopw [4,9] (fun s u wr=>∃k:Nat,k≤2*m∧u= Aa Ab k∧∃A1 c1,s= .slice A1 ((k+1)/2) c1∧K5 wr w.heap.size A1 ((k+1)/2) c1 (ns.take ((k+1)/2))∧Below w.heap.size w wr) (fun _ u _=>2*m-(intOf u).toNat)
 case atStart=>exact⟨0,Nat.zero_le _,rfl,none,0,rfl,Own.nil _ _,Af _ _⟩
 case round=>
  obtain⟨k,hk,rfl,A1,c1,rfl,J,x⟩:=hrel;have a:=Hd J;have p:=Hd x;have r:=HI.o.pure x;have O:=Hd (HM.o.pure x);clear J x;by_cases R:k<2*m
  ·obtain⟨g,ap,v,e,hv,v0,v1,v2⟩:=Ha r R;have ak:(0:Int)≤(k:Int):=by omega
   have al:(k:Int)<((2*m:Nat):Int):=by omega
   rw [e];rcases Nat.mod_two_eq_zero_or_one k with hp|hp
   ·obtain⟨j,rfl⟩:∃j,k=2*j:=⟨k/2,by omega⟩;have V:(2*j+1)/2=j:=by omega
    have G:(2*j+1+1)/2=j+1:=by omega
    have Q:j<ns.length:=by have:=z.o;omega
    obtain⟨s,T⟩:∃s,ns[j]?=some s:=⟨_,Ai Q⟩;obtain⟨ht,U,ha⟩:=HV.o j s v T hv;have I:(((2*j:Nat)):Int) % 2=0:=by omega
    have HT:=Hd (show ns.take (j+1)=ns.take j++ [s] by
     obtain⟨q1,q2⟩:=List.getElem?_eq_some_iff.1 T;rw [Az q1,q2])
    have ao:(v.t:Int)=4:=by omega
    have B:=(Af wr.heap.size wr).alloc (Ae _) (.cells #[Aa Ab 4,Aa Ab (v.w:Int),Aa Ac (v.n:Int)] 169);have E:=Hd (O.o.pure B);have am:(Instr.lookup 143 (.map (some M.mb)) (Aa Ac (v.n:Int)) false).run Ad (wr.alloc (.cells #[Aa Ab 4,Aa Ab (v.w:Int),Aa Ac (v.n:Int)] 169)).drew= .ok (.string ⟨s.toArray⟩) (wr.alloc (.cells #[Aa Ab 4,Aa Ab (v.w:Int),Aa Ac (v.n:Int)] 169)).drew:=E.o.drew.names.look ha U;have cm:(wr.alloc (.cells #[Aa Ab 4,Aa Ab (v.w:Int),Aa Ac (v.n:Int)] 169)).drew.cell? ⟨M.β,7,none⟩=some (.map (some M.mb)):=E.o.drew.head.map_cell;have C:Below wr.heap.size wr ((wr.alloc (.cells #[Aa Ab 4,Aa Ab (v.w:Int),Aa Ac (v.n:Int)] 169)).alloc (.cells #[.string ⟨s.toArray⟩] 9)).drew:=(B.alloc (by simp) _).drew;have D:=Hd (A6 p.o C);rw [V] at a⊢;have q:=Hd (a.o.pure C);have N:=Hd (show Fm ((wr.alloc (.cells #[Aa Ab 4,Aa Ab (v.w:Int),Aa Ac (v.n:Int)] 169)).alloc (.cells #[.string ⟨s.toArray⟩] 9)).drew (some ⟨wr.heap.size+1,0,none⟩) 1 [s] by
     have h:=nL (f:=Lz) (wr.alloc (.cells #[Aa Ab 4,Aa Ab (v.w:Int),Aa Ac (v.n:Int)] 169)) 9 s (.string ⟨s.toArray⟩) rfl;rw [J3] at h;exact h.pure ((Af _ _).drew))
    have d:=Hd G;clear r hv e V G T U ht B C;go_wp2_with fail;go_region_law (refine R0 rfl (.tmp 35) (.tmp 44) 31 rfl (.string ⟨#[]⟩) 16 (by kernel_rfl) (by kernel_rfl) rfl (by decide) D5 O6 w.heap.size A1 j c1 (ns.take j) rfl q.o _ 1 1 [s] rfl N.o (by omega) D.o.size ?_;intro Y c2 w2 i y F;have P:=Hd i;have K:=Hd (Cf D.o y (by rintro j ⟨ad,e,rfl⟩;exact(q.o.addr ad e).2.1));clear i y F)
    all_goals
     try go_wp2_with fail
     go_roundw
     case rel=>exact⟨2*j+1,by omega,by go_num,Y,c2,by rw [d.o],by rw [d.o,HT.o];exact P.o,K.o⟩
     case measure=>simp [intOf];omega
   ·have I:(k:Int) % 2=1:=by omega
    have d:=Hd (show(k+1+1)/2=(k+1)/2 by omega);have L:=Hd (p.o.alloc p.o.size (.cells #[Aa Ab (v.t:Int),Aa Ab (v.w:Int),Aa Ac (v.n:Int)] 169));have q:=Hd (a.o.pure ((Af wr.heap.size wr).alloc (Ae _) (.cells #[Aa Ab (v.t:Int),Aa Ab (v.w:Int),Aa Ac (v.n:Int)] 169)));clear r hv e;go_wp2_with fail;go_roundw
    case rel=>exact⟨k+1,by omega,by go_num,A1,c1,by rw [d.o],by rw [d.o];exact q.o,L.o⟩
    case measure=>simp [intOf];omega
  ·obtain rfl:k=2*m:=by omega
   have H:(2*m+1)/2=m:=by omega
   have Z:=Hd (show ns.take m=ns from Aw (by have:=z.o;omega));rw [H] at a⊢;rw [Z.o] at a;clear r H;go_wp2_with fail;go_ret;obtain rfl:=z.o;exact⟨A1,c1,rfl,a.o,p.o⟩
end
section
open Go.Shelf Go.RowKit Go.Acc
def S4:Go.Shelf.Ren:=⟨fun|6=>240|14=>299|15=>157|20=>337|21=>338|22=>339|23=>340|24=>341|25=>342|26=>343|27=>344|28=>261|29=>66|46=>358|47=>314|48=>315|49=>359|50=>360|57=>361|n=>n,fun|22=>118|24=>3|25=>47|3=>3|39=>103|0=>0|53=>296|55=>26|4=>4|46=>290|45=>289|50=>183|5=>5|9=>9|66=>327|70=>331|76=>358|77=>297|n=>n,fun|n=>n⟩
theorem gP:Go.Proofs.SlLaysF.n6 Ad S4:={
 mixed:=by kernel_rfl
 f6:=⟨Tryz.f240.name,by decide,func240.trans (congrArg some (by kernel_rfl))⟩
 f14:=⟨Tryz.f299.name,by decide,func299.trans (congrArg some (by kernel_rfl))⟩
 f15:=func157.trans (congrArg some (by kernel_rfl))
 f20:=⟨Tryz.f337.name,by decide,func337.trans (congrArg some (by kernel_rfl))⟩
 f21:=⟨Tryz.f338.name,by decide,func338.trans (congrArg some (by kernel_rfl))⟩
 f22:=⟨Tryz.f339.name,by decide,func339.trans (congrArg some (by kernel_rfl))⟩
 f23:=⟨Tryz.f340.name,by decide,func340.trans (congrArg some (by kernel_rfl))⟩
 f24:=⟨Tryz.f341.name,by decide,func341.trans (congrArg some (by kernel_rfl))⟩
 f25:=⟨Tryz.f342.name,by decide,func342.trans (congrArg some (by kernel_rfl))⟩
 f26:=⟨Tryz.f343.name,by decide,func343.trans (congrArg some (by kernel_rfl))⟩
 f27:=⟨Tryz.f344.name,by decide,func344.trans (congrArg some (by kernel_rfl))⟩
 f28:=func261.trans (congrArg some (by kernel_rfl))
 f29:=func66.trans (congrArg some (by kernel_rfl))
 f46:=⟨Tryz.f358.name,by decide,func358.trans (congrArg some (by kernel_rfl))⟩
 f47:=func314.trans (congrArg some (by kernel_rfl))
 f48:=func315.trans (congrArg some (by kernel_rfl))
 f49:=⟨Tryz.f359.name,by decide,func359.trans (congrArg some (by kernel_rfl))⟩
 f50:=⟨Tryz.f360.name,by decide,func360.trans (congrArg some (by kernel_rfl))⟩
 f57:=⟨Tryz.f361.name,by decide,func361.trans (congrArg some (by kernel_rfl))⟩
 t0:=underlying0
 a0:=isAgg0
 z0:=sizeOf0
 v0:=zeroValue0
 t3:=underlying3
 a3:=isAgg3
 z3:=sizeOf3
 v3:=zeroValue3
 t4:=underlying4
 a4:=isAgg4
 z4:=sizeOf4
 v4:=zeroValue4
 t5:=underlying5
 a5:=isAgg5
 z5:=sizeOf5
 v5:=zeroValue5
 t9:=underlying9
 a9:=isAgg9
 z9:=sizeOf9
 v9:=zeroValue9
 t22:=underlying118
 a22:=isAgg118
 z22:=sizeOf118
 v22:=zeroValue118
 a24:=isAgg3
 z24:=sizeOf3
 t25:=underlying47
 a25:=isAgg47
 z25:=sizeOf47
 v25:=zeroValue47
 t39:=underlying103
 a39:=isAgg103
 z39:=sizeOf103
 v39:=zeroValue103
 t45:=underlying289
 a45:=isAgg289
 z45:=sizeOf289
 v45:=zeroValue289
 t46:=underlying290
 a46:=isAgg290
 z46:=sizeOf290
 v46:=zeroValue290
 t50:=underlying183
 a50:=isAgg183
 z50:=sizeOf183
 v50:=zeroValue183
 t53:=underlying296
 a53:=isAgg296
 z53:=sizeOf296
 v53:=zeroValue296
 t55:=underlying26
 a55:=isAgg26
 z55:=sizeOf26
 v55:=zeroValue26
 t66:=underlying327
 a66:=isAgg327
 z66:=sizeOf327
 v66:=zeroValue327
 t70:=underlying331
 a70:=isAgg331
 z70:=sizeOf331
 v70:=zeroValue331
 t76:=underlying358
 a76:=isAgg358
 z76:=sizeOf358
 v76:=zeroValue358
 t77:=underlying297
 a77:=isAgg297
 z77:=sizeOf297
 v77:=zeroValue297}
def tI:Go.Shelf.Ren:=⟨fun|106=>242|213=>300|265=>345|n=>n,fun|3=>3|9=>9|n=>n,fun|n=>n⟩
theorem Abr:Go.Proofs.Lays.n106 Ad tI:={
 mixed:=by kernel_rfl
 f106:=func242.trans (congrArg some (by kernel_rfl))
 f213:=func300.trans (congrArg some (by kernel_rfl))
 f265:=func345.trans (congrArg some (by kernel_rfl))
 t3:=underlying3
 a3:=isAgg3
 z3:=sizeOf3
 v3:=zeroValue3
 t9:=underlying9
 a9:=isAgg9
 z9:=sizeOf9
 v9:=zeroValue9}
theorem pN(a b:List UInt8)(w:World):Calls Ad 242 #[.string ⟨a.toArray⟩,.string ⟨b.toArray⟩] w (Ab6 (Aa Ab (Go.Lib.compareBytes a b)) w):=
 (Any.strings_Compare Abr ⟨a.toArray⟩ ⟨b.toArray⟩ w).mono fun _ _ h=>⟨h.1,h.2.symm⟩
end
end Go.Proofs.YtejpbijeifjdeaaGreat
namespace Go.Acc
open Go.RowKit Go.Sort Go.Proofs
section
variable {α:Type} [Inhabited α] {f:α→List Value} {sz:Nat} {w:World} {B g n c:Nat} {e:TypeId} {l:List α}
theorem Qc{v:Value}{xs:List Value}(h:w.ownsRow B e sz v n xs)(hv:v= .slice (some ⟨g,0,none⟩) n c):∃cur,Bb w g e cur∧cur.size=c*sz∧cur.toList.take (n*sz)=xs∧n≤c∧c≤maxLen∧B≤g:=by
 subst hv;rcases h.2 with⟨hv,_⟩|⟨g',cap,cur,hv,hb,hg,hnc,hcm,hcs,htake⟩
 ·cases hv
 ·injection hv with h1 h2 h3
  injection h1 with h1
  injection h1 with h1
  subst h1 h3;exact⟨cur,hg,hcs,htake,hnc,hcm,hb⟩
theorem aG(hf:∀x,(f x).length=sz)(hz:0<sz)(d:Array α)(j:Nat)(hj:j<d.size*sz):(d.toList.flatMap f)[j]?=some (flatK f sz d)[j]! :=by
 have a:j/sz<d.toList.length:=by rw [Array.length_toList];exact Nat.div_lt_of_lt_mul (by rw [Nat.mul_comm];exact hj)
 have b:j % sz<sz:=Nat.mod_lt _ hz;have h1:=H6 hf d.toList (j/sz) (j % sz) a b;rw [show j/sz*sz+j % sz=j by rw [Nat.mul_comm];exact Nat.div_add_mod j sz] at h1;rw [h1,get_flatK _ _ _ _ hj];have c:d[j/sz]! =d.toList[j/sz]:=by
  rw [getElem!_pos d _ (by rw [←Array.length_toList];exact a)];rfl
 rw [c,getElem!_pos _ _ (by rw [hf];exact b)];exact Ai _
theorem own_holds(hf:∀x,(f x).length=sz)(hz:0<sz)(h:Own f sz e w B (some ⟨g,0,none⟩) n c l):HoldsK f sz w g 0 l.toArray:=by
 intro j hj;rw [size_flatK] at hj;have h1:=aG hf hz l.toArray j hj;have h2:=Rd.of_own h.2 j _ h1;obtain⟨b,off,e1,h3⟩:=h2;injection e1 with e1
 injection e1 with e1 e2
 subst e1 e2;refine⟨h3,?_⟩;rw [Nat.zero_add];exact Kv h.2 j
theorem kI(hf:∀x,(f x).length=sz)(hz:0<sz)(h:Own f sz e w B (some ⟨g,0,none⟩) n c l)(d':Array α)(hd:d'.size=n)(m:Nat)(os:Array Obj):
  Own f sz e (sortWorldK f sz w g 0 m d' os) B (some ⟨g,0,none⟩) n c d'.toList∧Fr (fun k=>k=g) w (sortWorldK f sz w g 0 m d' os):=by
 obtain⟨a,v,i,u,d,q,z⟩:=Qc h.2 rfl;have s:=v.lt;have b:(sortWorldK f sz w g 0 m d' os).heap[g]?=some (.cells (putCells id 0 (flatK f sz d') a) e (0,0)):=by
  unfold sortWorldK putRowK putRow mapBlock;rw [heap_grow_old _ _ (by simpa [ahead] using s)];have p:w.heap[g]?=some (.cells a e (0,0)):=v;simp [Array.getElem?_modify,p,onCells]
 refine⟨⟨by simp [hd],?_,.inr ⟨g,c,_,rfl,z,b,d,q,?_,?_⟩⟩,⟨rfl,rfl,rfl,?_,?_⟩⟩
 ·rw [Cd hf,Array.length_toList,hd]
 ·unfold putCells;rw [Array.size_mapIdx];exact i
 ·have y:n*sz≤a.size:=by rw [i];exact Nat.mul_le_mul_right _ d
  apply List.ext_getElem?;intro j;rw [List.getElem?_take];by_cases o:j<n*sz
  ·rw [if_pos o,aG hf hz d' j (by rw [hd];exact o)];have r:j<a.size:=by omega
   unfold putCells;simp [size_flatK,hd,o,r]
  ·rw [if_neg o,List.getElem?_eq_none];rw [Cd hf,Array.length_toList,hd];omega
 ·unfold sortWorldK;rw [size_grow];simp [putRowK,putRow,mapBlock]
 ·intro k A t;unfold sortWorldK putRowK putRow mapBlock;rw [heap_grow_old _ _ (by simpa [ahead] using A)];rw [Array.getElem?_modify,if_neg (fun e=>t e.symm)];rfl
end
end Go.Acc
