/- Parts of the proof. -/
import Derived.Test.YtejpbijeifjdeaaGreatQf11
import Derived.Maps.Views
import Derived.Maps.Ext
set_option maxHeartbeats 2000000
set_option maxRecDepth 100000
open Go.Value renaming int→Aa
open Go.IntKind renaming i64→Ab,u64→Ac
open Nat renaming le_refl→Ae,zero_le→Ak
open Go.RowKit.Below renaming refl→Af
open List renaming mem_of_getElem?→Aq,length_map→As,take_of_length_le→Bb,take_succ_eq_append_getElem→Bc
open Go.Proofs.Tryz
open Go.Proofs.Tryz renaming prog→Ad
namespace Go.Proofs.YtejpbijeifjdeaaGreat
open Go.RowKit Go.Acc
variable {w w':World}{o:Nat→Nat}{n i g e c:Nat}{I:Nat→Prop}{p q:Addr}{M:Bp}{v:Value}{A:Option Addr}{b l:List UInt8}{vs:List Bv}
theorem P5:Maps.Keyed Ad 26:=Maps.int_keyed underlying26
theorem Xx(a:Nat)(ha:a<18446744073709551616):(Lit.int .u64 (a:Int)).wf=true:=by
 have h1:IntKind.u64.min=0:=rfl;have h2:IntKind.u64.max=18446744073709551615:=rfl;simp [Lit.wf,h1,h2];omega
theorem Zq{p a:Nat}{s:List UInt8}{m:List (Nat×List UInt8)}{D:DataW Unit}(op:o p=7)(hm:w.ownsMap (H:=Unit) Ad 26 (plainElem Ad 9) p n D)(hn:n≤m.length)
  (hat:∀a s,m.find? (fun x=>x.1==a)=some (a,s)→D.atKey (.int .u64 a) (.lit (.string []))= .lit (.string s))
  (hm':w'.ownsMap (H:=Unit) Ad 26 (plainElem Ad 9) p (n+1) (D.put (.int .u64 (a:Int)) (.lit (.string s)))) (hg:w.grownBy w' (some p)) (ha:a<18446744073709551616):
  M3 w' (Br o w.heap.size 7) p ((a,s)::m)∧To (fun i=>i=7) w o w' (Br o w.heap.size 7):=by
 have c:WideAt.IsKeyLit (.int .u64 (a:Int)):=P5.key (Maps.keyOf_int_mk underlying26 (Xx a ha));obtain⟨g,j,_⟩:=hm.canon P5;refine⟨⟨by rw [B4 hm.lt];exact op,n+1,_,hm',by simp;omega,?_⟩,To.of_fr (Fr.of_grown hg) ?_ 7⟩
 ·intro d l b;rw [List.find?_cons] at b;by_cases e:a=d
  ·subst e;simp at b;subst b;exact Maps.atKey_put_same ⟨g,j⟩ c _ _
  ·have f:(a==d)=false:=beq_eq_false_iff_ne.mpr e;simp only [f] at b;rw [Maps.atKey_put_other (by intro h;injection h with _ h;omega)];exact hat d l b
 ·intro k _ c;injection c with c
  rw [c];exact op
structure Qk(b:Bd)(s:List UInt8):Prop where
 st:b.s.length<65536
 len:b.b.length+s.length+1≤1048576
 ky:b.keys.length≤1048575
 nm:b.names.length≤1048575
theorem Adn(f:Nat)(s:List UInt8)(b:Bd)(g:Option Nat)(q:Bool)(hg:Cf b.keys s=g)(hq:Fq f 1=q):b.put f s=match(if q=true then g else none) with
 |some a=>(b,⟨4,1,a⟩)
 |none=>({ b with b:=b.b++s++ [0],keys:=Fu b.keys s b.b.length,names:=(b.b.length,s)::b.names},⟨4,1,b.b.length⟩):=by
 unfold Bd.put;rw [hg,hq];cases(if q=true then g else none) <;>rfl
theorem _root_.Go.Acc.To.set_new{o':Nat→Nat}(h:To I w o w' o')(hp:w.heap.size≤p.block)(v:Value):To I w o (w'.setCell p v) o':=
 ⟨h.fr.setCell (fun hlt=>absurd hlt (by omega)) v,h.ow⟩
theorem BM.set_lone{fl:Int}{b:Bd}(h:BM M fl w o b)(hp:o p.block=0)(v:Value):BM M fl (w.setCell p v) o b:=
 h.to_ (To.of_fr0 (I:=fun i=>i=0) (Fr.setCell (S:=fun k=>k=p.block) (Fr.refl _ w) (fun _=>rfl) v) (by rintro k _ rfl;exact hp)) (fun i hi e=>by subst e;exact Cl hi)
theorem zD(h:i=4):Dd i:=by subst h;exact⟨by omega,by omega⟩
theorem zF(h:i=7):Dd i:=by subst h;exact⟨by omega,by omega⟩
theorem Qo{r:Nat}{t:TypeId}{x y z:Value}(h:Bk w r t #[x,y,z]):(w.cell? ⟨r,0,none⟩=some x∧w.cell? ⟨r,1,none⟩=some y∧w.cell? ⟨r,2,none⟩=some z)∧w.frozen? ⟨r,0,none⟩=false∧w.frozen? ⟨r,1,none⟩=false∧w.frozen? ⟨r,2,none⟩=false:=
 ⟨⟨h.cell 0,h.cell 1,h.cell 2⟩,h.frozen 0,h.frozen 1,h.frozen 2⟩
theorem Y9(M:Bp)(fl:Int)(b:Bd)(s:List UInt8)(w:World)(o:Nat→Nat)(h:BM M fl w o b)(hr:Qk b s)(hz:Ci s=false):
  Calls Ad 196 #[Afh M.β,.string ⟨s.toArray⟩] w fun e w'=>∃a:Nat,(b.put (bits fl) s).2=⟨4,1,a⟩∧e= .returned (.agg #[Aa Ab 4,Aa Ab 1,Aa Ac (a:Int)])∧∃o',BM M fl w' o' (b.put (bits fl) s).1∧To Dd w o w' o':=by
 have HR:=Hd hr;obtain⟨g,hg⟩:∃g,Cf b.keys s=g:=⟨_,rfl⟩;obtain⟨q,hq⟩:∃q,Fq (bits fl) 1=q:=⟨_,rfl⟩;have HE:=Hd (Adn (bits fl) s b g q hg hq);have HQ:=Hd hq;obtain⟨gv,a3⟩:∃v,g.getD 0=v:=⟨_,rfl⟩;obtain⟨a2,ab⟩:∃v,g.isSome=v:=⟨_,rfl⟩;have HG:=Hd (show Vk (Cf b.keys s)= .tuple #[Aa Ab (gv:Int),.bool a2] by rw [hg];unfold Vk;rw [a3,ab]);have br:=Hd (And.intro a3 ab);have bp:=Hd (show ∀a,g=some a→a≤1048576 by
  intro a ha;obtain⟨A1,A2,n',c1,c2,ks,ns,hL,o1,o2,op,hP⟩:=h.keys.open_;rw [ha,hP.get] at hg;unfold Cf at hg;rw [Option.map_eq_some_iff] at hg;obtain⟨x,hx,rfl⟩:=hg;exact hP.at_ _ (List.of_mem_zip (List.mem_of_find?_eq_some hx)).2)
 have bt:=Hd (show b.keys.length≤1048576 by have:=hr.ky;omega);have HZ:=Hd hz;have bs:=Hd (fun W=>iR s W hz);have hB:Below w.heap.size w (w.alloc (.cells #[.int .i64 0,.int .i64 0,.int .u64 0] 169)):=(Af _ _).alloc (Ae _) _;have au:=Hd (h.fresh hB 0);have ax:=Hd (To.fresh Dd hB o 0);have al:=Hd (Bk.new w 169 #[.int .i64 0,.int .i64 0,.int .u64 0]);have ak:=Hd (show Br o w.heap.size 0 w.heap.size=0 from Bt (Ae _));obtain⟨n,hn⟩:∃n,b.b.length=n:=⟨_,rfl⟩;have HN:=Hd hn;have a8:=Hd (show b.b.length+ [s,[0]].flatten.length≤1048576 by have:=hr.len;simp;omega);have ba:=Hd (show plainElem (H:=Unit) Ad 9 (.string ⟨s.toArray⟩)=some (.lit (.string s),[]) by
  have b5:(⟨s.toArray⟩:ByteArray).size≤maxLen:=by
   have:=hr.len;have e:(⟨s.toArray⟩:ByteArray).size=s.length:=rfl;rw [e];simp only [maxLen];omega
  have hu:Ad.underlying 9=some .string:=underlying9;unfold plainElem;rw [hu];simp [b5])
 have bj:n≤1048576:=by have:=hr.len;omega
 clear h hr hz hg hq a3 ab hB hn;go_enter func196,ntmps196;go_upto_region 1 with fail
 generalize w.alloc (.cells #[Aa Ab 0,Aa Ab 0,Aa Ac 0] 169)=w1 at au ax al⊢;generalize Br o w.heap.size 0=o1 at au ax ak;generalize bk:w.heap.size=r at al ak⊢;have l:=Hd (show w.heap.size≤r by rw [bk];exact Ae _);clear bk;go_wp2_with fail;go_region_held3 (fun _=>True) (exact trivial) (first|(go_at_call 279;(with_reducible refine(bs.o _).mono ?_);rintro e w' ⟨rfl,rfl⟩)|(go_at_call 131;(with_reducible refine(Iq au.o.drew).mono ?_);rintro e w2 ⟨rfl,o2,bi,am⟩;have aj:=Hd bi;have bv:=Hd (al.o.to_ am.from_drew (by rw [ak.o];exact Cl));have C:=Hd (show o2 r=0 by rw [am.from_drew.ow _ al.o.lt];exact ak.o);have bu:=Hd (ax.o.trans am.from_drew);clear bi am));obtain⟨b0,_,b2,_,_⟩:=aj.o.head.cells;obtain⟨_,b3,b4,_⟩:=Dx aj.o.head;go_wp2_with fail;go_at_call 280;refine(Tc 4 M.kb b.keys s _ o2 aj.o.keys bt.o).mono ?_;rintro e L ⟨rfl,hB⟩;rw [HG.o];have t:=Hd (aj.o.pure hB);have N:=Hd (bv.o.pure hB);have ay:=Hd (bu.o.trans (To.pure Dd hB o2));clear hB b0 b2 b3 b4;obtain⟨b0,b3,b4,_⟩:=Dx t.o.head;obtain⟨hg,an⟩:=br.o;cases g with
 |none=>
  obtain rfl:a2=false:=by rw [←an];rfl
  have HP:=Hd (show(if q=true then(none:Option Nat) else none)=none by split <;>rfl);clear hg an;have a4:IntKind.u64.wrap (n:Int)=(n:Int):=De _ (by omega);go_wp2_with fail;go_at_call 133;refine(Ea n t.o.buf HN.o).mono ?_;rintro e w' ⟨rfl,rfl⟩;go_wp2_with fail;go_at_call 138;refine(Hx M.bb 2 2 _ [s,[0]] b.b _ (Br o2 L.heap.size 0) (t.o.fresh ((Af _ _).alloc (Ae _) _) 0).buf (Vu L s [0]) ?_ a8.o (by omega)).mono ?_
  ·rintro ad e;injection e with e
   subst e;show Br o2 L.heap.size 0 L.heap.size≠1;rw [Bt (Ae _)];omega
  rintro e w4 ⟨rfl,o4,V,J⟩;have A:=Hd ((t.o.fresh ((Af _ _).alloc (Ae _) (.cells #[.string ⟨s.toArray⟩,.string ⟨([0]:List UInt8).toArray⟩] 9)) 0).buf_ J V);have G:=Hd ((To.fresh (fun i=>i=1) ((Af L.heap.size L).alloc (Ae _) (.cells #[.string ⟨s.toArray⟩,.string ⟨([0]:List UInt8).toArray⟩] 9)) o2 0).trans J);have R:=Hd (N.o.to_ G.o (by rw [C.o];omega));have O:=Hd (show o4 r=0 by rw [G.o.ow _ N.o.lt];exact C.o);have az:=Hd (ay.o.trans (G.o.mono fun _ h=>Jj h));clear V J b0 b3 b4;obtain⟨_,_,b4,_⟩:=Dx A.o.head;go_wp2_with fail;go_at_call 282;refine(Nc 4 M.kb b.keys s n w4 o4 A.o.keys HR.o.ky bj).mono ?_;rintro e w5 ⟨⟨x,rfl⟩,o5,X,c⟩;have B:=Hd (A.o.keys_ c X);have S:=Hd (R.o.to_ c (by rw [O.o];omega));have P:=Hd (show o5 r=0 by rw [c.ow _ R.o.lt];exact O.o);have a0:=Hd (az.o.trans (c.mono fun _ h=>zD h));clear X c b4;obtain⟨_,_,_,_,_,b7⟩:=Dx B.o.head;obtain⟨op,nn,D,j,K,Z⟩:=B.o.names;have ae:nn<maxLen:=by have:=HR.o.nm;have h2:nn≤b.names.length:=K;simp only [maxLen];omega
  go_wp2_with (at_mapUpdate;refine wpList_mapUpdate_own (H:=Unit) _ rfl _ _ _ 143 rfl 26 9 P5 underlying143 _ M.mb nn D rfl j ae _ _ (.int .u64 (n:Int)) rfl rfl (Maps.keyOf_int_mk underlying26 (Xx n (by omega))) (.lit (.string s)) [] ba.o ?_;intro w6 z f);obtain⟨Y,d⟩:=Zq op j K Z z f (by omega);have k:=Hd (show BM M fl w6 (Br o5 w5.heap.size 7) { b with b:=b.b++s++ [0],keys:=Fu b.keys s b.b.length,names:=(b.b.length,s)::b.names} by
   have h6:=B.o.names_ d Y;have e2:b.b++s++ [0]=b.b++ [s,[0]].flatten:=by simp
   rw [e2,HN.o];exact h6)
  have T:=Hd (S.o.to_ d (by rw [P.o];omega));have E:=Hd (show Br o5 w5.heap.size 7 r=0 by rw [d.ow _ S.o.lt];exact P.o);have Q:=Hd (a0.o.trans (d.mono fun _ h=>zF h));clear op j K Z z f Y d ae b7;generalize Br o5 w5.heap.size 7=o6 at k E Q;have d0:=(Dx k.o.head).1;go_wp2_with fail;go_region_held3 (fun w'=>w'.cell? ⟨M.β,0,none⟩=some (Afh M.bb)) (first|with_reducible exact d0|with_reducible exact Bj d0|with_reducible exact e0) (first|(go_at_call 230;(with_reducible refine(Hf k.o.drew.buf).mono ?_);rintro e w' ⟨rfl,rfl⟩)|(go_at_call 131;(with_reducible refine(Iq k.o.drew).mono ?_);rintro e w7 ⟨rfl,o7,I,m⟩;have e0:=(Dx I.head).1;have av:=Hd I;have U:=Hd (T.o.to_ m.from_drew (by rw [E.o];exact Cl));have F:=Hd (show o7 r=0 by rw [m.from_drew.ow _ T.o.lt];exact E.o);have a1:=Hd (Q.o.trans m.from_drew);clear I m));clear a4;have bl:IntKind.u64.wrap (n:Int)=(n:Int):=De _ (by omega);obtain⟨⟨r0,r1,r2⟩,f0,f1,f2⟩:=Qo U.o;go_wp2_with fail;have hF:=((U.o.set_ 0 (Aa Ab 4)).set_ 1 (Aa Ab 1)).set_ 2 (Aa Ac (n:Int));have u:=((av.o.set_lone (p:=⟨r,0,none⟩) F.o (Aa Ab 4)).set_lone (p:=⟨r,1,none⟩) F.o (Aa Ab 1)).set_lone (p:=⟨r,2,none⟩) F.o (Aa Ac (n:Int));have y:=((a1.o.set_new (p:=⟨r,0,none⟩) l.o (Aa Ab 4)).set_new (p:=⟨r,1,none⟩) l.o (Aa Ab 1)).set_new (p:=⟨r,2,none⟩) l.o (Aa Ac (n:Int));clear r0 r1 r2 f0 f1 f2;generalize ((w7.setCell ⟨r,0,none⟩ (Aa Ab 4)).setCell ⟨r,1,none⟩ (Aa Ab 1)).setCell ⟨r,2,none⟩ (Aa Ac (n:Int))=wF at hF u y⊢;obtain ⟨r0,r1,r2⟩:=hF.c3;refine bodyPost_ret (v:= .agg #[Aa Ab 4,Aa Ab 1,Aa Ac (n:Int)]) (by simp [results,results196,go_sem,r0,r1,r2]) rfl ?_;rw [HE.o,HP.o];exact⟨_,by first|rfl|(rw [HN.o]),rfl,_,u,y⟩
 |some a=>
  obtain rfl:a2=true:=by rw [←an];rfl
  obtain rfl:gv=a:=by rw [←hg];rfl
  have cj:=bp.o gv rfl;clear hg an;go_wp2_with fail;go_at_call 281;refine(Yg M.β 1 0 fl q L b3 (by omega) rfl HQ.o).mono ?_;rintro e w' ⟨rfl,rfl⟩;cases q with
  |false=>
   have HP:=Hd (show(if false=true then some gv else none)=none from rfl);have a4:IntKind.u64.wrap (n:Int)=(n:Int):=De _ (by omega);go_wp2_with fail;go_at_call 133;refine(Ea n t.o.buf HN.o).mono ?_;rintro e w' ⟨rfl,rfl⟩;go_wp2_with fail;go_at_call 138;refine(Hx M.bb 2 2 _ [s,[0]] b.b _ (Br o2 L.heap.size 0) (t.o.fresh ((Af _ _).alloc (Ae _) _) 0).buf (Vu L s [0]) ?_ a8.o (by omega)).mono ?_
   ·rintro ad e;injection e with e
    subst e;show Br o2 L.heap.size 0 L.heap.size≠1;rw [Bt (Ae _)];omega
   rintro e w4 ⟨rfl,o4,V,J⟩;have A:=Hd ((t.o.fresh ((Af _ _).alloc (Ae _) (.cells #[.string ⟨s.toArray⟩,.string ⟨([0]:List UInt8).toArray⟩] 9)) 0).buf_ J V);have G:=Hd ((To.fresh (fun i=>i=1) ((Af L.heap.size L).alloc (Ae _) (.cells #[.string ⟨s.toArray⟩,.string ⟨([0]:List UInt8).toArray⟩] 9)) o2 0).trans J);have R:=Hd (N.o.to_ G.o (by rw [C.o];omega));have O:=Hd (show o4 r=0 by rw [G.o.ow _ N.o.lt];exact C.o);have az:=Hd (ay.o.trans (G.o.mono fun _ h=>Jj h));clear V J b0 b3 b4;obtain⟨_,_,b4,_⟩:=Dx A.o.head;go_wp2_with fail;go_at_call 282;refine(Nc 4 M.kb b.keys s n w4 o4 A.o.keys HR.o.ky bj).mono ?_;rintro e w5 ⟨⟨x,rfl⟩,o5,X,c⟩;have B:=Hd (A.o.keys_ c X);have S:=Hd (R.o.to_ c (by rw [O.o];omega));have P:=Hd (show o5 r=0 by rw [c.ow _ R.o.lt];exact O.o);have a0:=Hd (az.o.trans (c.mono fun _ h=>zD h));clear X c b4;obtain⟨_,_,_,_,_,b7⟩:=Dx B.o.head;obtain⟨op,nn,D,j,K,Z⟩:=B.o.names;have ae:nn<maxLen:=by have:=HR.o.nm;have h2:nn≤b.names.length:=K;simp only [maxLen];omega
   go_wp2_with (at_mapUpdate;refine wpList_mapUpdate_own (H:=Unit) _ rfl _ _ _ 143 rfl 26 9 P5 underlying143 _ M.mb nn D rfl j ae _ _ (.int .u64 (n:Int)) rfl rfl (Maps.keyOf_int_mk underlying26 (Xx n (by omega))) (.lit (.string s)) [] ba.o ?_;intro w6 z f);obtain⟨Y,d⟩:=Zq op j K Z z f (by omega);have k:=Hd (show BM M fl w6 (Br o5 w5.heap.size 7) { b with b:=b.b++s++ [0],keys:=Fu b.keys s b.b.length,names:=(b.b.length,s)::b.names} by
    have h6:=B.o.names_ d Y;have e2:b.b++s++ [0]=b.b++ [s,[0]].flatten:=by simp
    rw [e2,HN.o];exact h6)
   have T:=Hd (S.o.to_ d (by rw [P.o];omega));have E:=Hd (show Br o5 w5.heap.size 7 r=0 by rw [d.ow _ S.o.lt];exact P.o);have Q:=Hd (a0.o.trans (d.mono fun _ h=>zF h));clear op j K Z z f Y d ae b7;generalize Br o5 w5.heap.size 7=o6 at k E Q;have d0:=(Dx k.o.head).1;go_wp2_with fail;go_region_held3 (fun w'=>w'.cell? ⟨M.β,0,none⟩=some (Afh M.bb)) (first|with_reducible exact d0|with_reducible exact Bj d0|with_reducible exact e0) (first|(go_at_call 230;(with_reducible refine(Hf k.o.drew.buf).mono ?_);rintro e w' ⟨rfl,rfl⟩)|(go_at_call 131;(with_reducible refine(Iq k.o.drew).mono ?_);rintro e w7 ⟨rfl,o7,I,m⟩;have e0:=(Dx I.head).1;have av:=Hd I;have U:=Hd (T.o.to_ m.from_drew (by rw [E.o];exact Cl));have F:=Hd (show o7 r=0 by rw [m.from_drew.ow _ T.o.lt];exact E.o);have a1:=Hd (Q.o.trans m.from_drew);clear I m));clear a4;have bl:IntKind.u64.wrap (n:Int)=(n:Int):=De _ (by omega);obtain⟨⟨r0,r1,r2⟩,f0,f1,f2⟩:=Qo U.o;go_wp2_with fail;have hF:=((U.o.set_ 0 (Aa Ab 4)).set_ 1 (Aa Ab 1)).set_ 2 (Aa Ac (n:Int));have u:=((av.o.set_lone (p:=⟨r,0,none⟩) F.o (Aa Ab 4)).set_lone (p:=⟨r,1,none⟩) F.o (Aa Ab 1)).set_lone (p:=⟨r,2,none⟩) F.o (Aa Ac (n:Int));have y:=((a1.o.set_new (p:=⟨r,0,none⟩) l.o (Aa Ab 4)).set_new (p:=⟨r,1,none⟩) l.o (Aa Ab 1)).set_new (p:=⟨r,2,none⟩) l.o (Aa Ac (n:Int));clear r0 r1 r2 f0 f1 f2;generalize ((w7.setCell ⟨r,0,none⟩ (Aa Ab 4)).setCell ⟨r,1,none⟩ (Aa Ab 1)).setCell ⟨r,2,none⟩ (Aa Ac (n:Int))=wF at hF u y⊢;obtain ⟨r0,r1,r2⟩:=hF.c3;refine bodyPost_ret (v:= .agg #[Aa Ab 4,Aa Ab 1,Aa Ac (n:Int)]) (by simp [results,results196,go_sem,r0,r1,r2]) rfl ?_;rw [HE.o,HP.o];exact⟨_,by first|rfl|(rw [HN.o]),rfl,_,u,y⟩
  |true=>
   have HP:=Hd (show(if true=true then some gv else none)=some gv from rfl);have bl:IntKind.u64.wrap (gv:Int)=(gv:Int):=De _ (by omega);obtain⟨⟨r0,r1,r2⟩,f0,f1,f2⟩:=Qo N.o;go_wp2_with fail;have hF:=((N.o.set_ 0 (Aa Ab 4)).set_ 1 (Aa Ab 1)).set_ 2 (Aa Ac (gv:Int));have u:=((t.o.set_lone (p:=⟨r,0,none⟩) C.o (Aa Ab 4)).set_lone (p:=⟨r,1,none⟩) C.o (Aa Ab 1)).set_lone (p:=⟨r,2,none⟩) C.o (Aa Ac (gv:Int));have y:=((ay.o.set_new (p:=⟨r,0,none⟩) l.o (Aa Ab 4)).set_new (p:=⟨r,1,none⟩) l.o (Aa Ab 1)).set_new (p:=⟨r,2,none⟩) l.o (Aa Ac (gv:Int));clear r0 r1 r2 f0 f1 f2;generalize ((L.setCell ⟨r,0,none⟩ (Aa Ab 4)).setCell ⟨r,1,none⟩ (Aa Ab 1)).setCell ⟨r,2,none⟩ (Aa Ac (gv:Int))=wF at hF u y⊢;obtain ⟨r0,r1,r2⟩:=hF.c3;refine bodyPost_ret (v:= .agg #[Aa Ab 4,Aa Ab 1,Aa Ac (gv:Int)]) (by simp [results,results196,go_sem,r0,r1,r2]) rfl ?_;rw [HE.o,HP.o];exact⟨_,by first|rfl|(rw [HN.o]),rfl,_,u,y⟩
structure Sa(M:Bp)(em mn:Int)(A:Option Addr)(n c:Nat)(vs:List Bv)(bx be bm bl:Nat)(w:World)(o:Nat→Nat):Prop where
 x:Bk w bx 104 #[Afh M.β]
 e:Bk w be 3 #[Aa Ab em]
 m:Bk w bm 3 #[Aa Ab mn]
 l:Bk w bl 144 #[.slice A n c]
 ox:o bx=0
 oe:o be=0
 om:o bm=0
 ol:o bl=0
 v:Fh w A n (vs.map vv)
 ov:∀ad,A=some ad→ad.block<w.heap.size∧o ad.block=0
section
variable {M:Bp} {em mn:Int} {A:Option Addr} {n c:Nat} {vs:List Bv} {bx be bm bl:Nat} {w w':World} {o o':Nat→Nat}
theorem Sa.to_(h:Sa M em mn A n c vs bx be bm bl w o)(ht:To I w o w' o')(hI:¬I 0):Sa M em mn A n c vs bx be bm bl w' o':=
 ⟨h.x.to_ ht (by rw [h.ox];exact hI),h.e.to_ ht (by rw [h.oe];exact hI),h.m.to_ ht (by rw [h.om];exact hI),h.l.to_ ht (by rw [h.ol];exact hI),
  by rw [ht.ow _ h.x.lt];exact h.ox,by rw [ht.ow _ h.e.lt];exact h.oe,by rw [ht.ow _ h.m.lt];exact h.om,by rw [ht.ow _ h.l.lt];exact h.ol,
  h.v.fr ht.fr (fun ad e=>by rw [(h.ov ad e).2];exact hI),fun ad e=>⟨Nat.lt_of_lt_of_le (h.ov ad e).1 ht.size,by rw [ht.ow _ (h.ov ad e).1];exact(h.ov ad e).2⟩⟩
theorem Sa.cells(h:Sa M em mn A n c vs bx be bm bl w o):w.cell? ⟨bx,0,none⟩=some (Afh M.β)∧w.cell? ⟨be,0,none⟩=some (Aa Ab em)∧w.cell? ⟨bm,0,none⟩=some (Aa Ab mn)∧w.cell? ⟨bl,0,none⟩=some (.slice A n c):=
 ⟨h.x.cell 0,h.e.cell 0,h.m.cell 0,h.l.cell 0⟩
theorem Sa.drew(h:Sa M em mn A n c vs bx be bm bl w o):Sa M em mn A n c vs bx be bm bl w.drew o:=h.to_ (To.pure (fun _=>False) (Af _ _).drew o) id
end
theorem nN{u:Value}(h:w.cell? q=some v)(hne:q.block≠p.block):(w.setCell p u).cell? q=some v:=
 (World.cell?_of_block (w:=w) (Below.heap_setCell w p u q.block hne)).trans h
theorem Fo{u0 u1 u2:Value}(h:w.cell? q=some v)(hne:q.block≠g):(((w.setCell ⟨g,0,none⟩ u0).setCell ⟨g,1,none⟩ u1).setCell ⟨g,2,none⟩ u2).cell? q=some v:=nN (nN (nN h hne) hne) hne
theorem mB(w:World)(x y z u:Obj):Below w.heap.size w ((((w.alloc x).alloc y).alloc z).alloc u):=(Pm w x y z).alloc (by simp;omega) _
theorem Ld(h:o p.block=9)(v:Value):To (fun i=>i=9) w o (w.setCell p v) o:=
 To.of_fr0 (Fr.setCell (S:=fun k=>k=p.block) (Fr.refl _ w) (fun _=>rfl) v) (by rintro k _ rfl;exact h)
theorem O5:∀i,Dd i→¬i=9:=by rintro i ⟨h1,h2⟩ rfl;omega
theorem zP(h:o g=9)(u0 u1 u2:Value):To (fun i=>i=9) w o (((w.setCell ⟨g,0,none⟩ u0).setCell ⟨g,1,none⟩ u1).setCell ⟨g,2,none⟩ u2) o:=
 ((Ld (p:=⟨g,0,none⟩) h u0).trans (Ld (p:=⟨g,1,none⟩) h u1)).trans (Ld (p:=⟨g,2,none⟩) h u2)
def Ns(M:Bp)(l:List UInt8)(em mn:Int)(A:Option Addr)(n c:Nat)(vs:List Bv)(x:List UInt8×Bv):Prop:=
 ∀W O,Dm W O M.bb l→Fh W A n (vs.map vv)→(∀ad,A=some ad→ad.block<W.heap.size∧O ad.block≠1)→Calls Ad 277 #[Afh M.bb,Aa Ab em,Aa Ab mn,.slice A n c] W (Tx W O M.bb x)
theorem gR(M:Bp)(fl:Int)(b:Bd)(em mn:Int)(A:Option Addr)(n c:Nat)(vs:List Bv)(l':List UInt8)(v':Bv)(bx be bm bl:Nat)(w:World)(o:Nat→Nat)(h:BM M fl w o b)(hc:Sa M em mn A n c vs bx be bm bl w o)(hs:b.s.length<65536)
  (hP:Ns M b.b em mn A n c vs (l',v')):
  Calls Ad 276 #[Afh bx,Afh be,Afh bm,Afh bl] w (Dq M fl { b with b:=l',s:=b.s++ [v']} w o):=by
 have hA:=(Af w.heap.size w).alloc (Ae _) (.cells #[Aa Ab 0,Aa Ab 0,Aa Ac 0] 169);have r:=hA.drew;have O:=h.fresh r 9;have j:=hc.to_ (To.fresh (fun _=>False) r o 9) id;have N:=Hd (show Bk (w.alloc (.cells #[Aa Ab 0,Aa Ab 0,Aa Ac 0] 169)).drew w.heap.size 169 #[Aa Ab 0,Aa Ab 0,Aa Ac 0] from Bk.new _ _ _);have J:=Hd (show Br o w.heap.size 9 w.heap.size=9 from Bt (Ae _));have Y:=Hd (To.fresh Dd r o 9);have HM:=Hd O;have HC:=Hd j;have HS:=Hd hs;have X:=Hd (hP _ _ h.drew.buf hc.drew.v (fun ad e=>⟨(hc.drew.ov ad e).1,by rw [(hc.drew.ov ad e).2];omega⟩));have V:=Hd h.drew;have U:=Hd hc.drew;have HP:=Hd (hP _ _ O.buf j.v (fun ad e=>⟨(j.ov ad e).1,by rw [(j.ov ad e).2];omega⟩));obtain⟨q,z,B,C⟩:=hc.cells;have Q:=h.head.cells.1;have nx:bx≠w.heap.size:=Nat.ne_of_lt hc.x.lt;have ne:be≠w.heap.size:=Nat.ne_of_lt hc.e.lt;have nm:bm≠w.heap.size:=Nat.ne_of_lt hc.m.lt;have nl:bl≠w.heap.size:=Nat.ne_of_lt hc.l.lt;have nb:M.β≠w.heap.size:=Nat.ne_of_lt (B3 Q);clear h hc hs hP hA r O j;go_enter func276,ntmps276;go_wp2_with fail;go_cut [4,5] (fun u4 u5 wx=>∃wy,wy=wx∧u5= Aa Ab 0∧∃b4 o4,u4= Afh b4∧BM M fl wx o4 { b with b:=l'}∧Sa M em mn A n c vs bx be bm bl wx o4∧Bk wx b4 169 #[Aa Ab (v'.t:Int),Aa Ab (v'.w:Int),Aa Ac (v'.n:Int)]∧o4 b4=9∧To Dd w o wx o4)
 case first=>
  go_region_held3 (fun w'=>w'.cell? ⟨bx,0,none⟩=some (Afh M.β)∧w'.cell? ⟨be,0,none⟩=some (Aa Ab em)∧w'.cell? ⟨bm,0,none⟩=some (Aa Ab mn)∧w'.cell? ⟨bl,0,none⟩=some (.slice A n c)∧w'.cell? ⟨M.β,0,none⟩=some (Afh M.bb)) (first|with_reducible exact⟨q,z,B,C,Q⟩|with_reducible exact⟨Bj q,Bj z,Bj B,Bj C,Bj Q⟩|with_reducible exact⟨Bs _ q,Bs _ z,Bs _ B,Bs _ C,Bs _ Q⟩|with_reducible exact⟨Bj (Bs _ q),Bj (Bs _ z),Bj (Bs _ B),Bj (Bs _ C),Bj (Bs _ Q)⟩|with_reducible exact⟨D,E,F,G,R⟩|with_reducible exact⟨Bs _ D,Bs _ E,Bs _ F,Bs _ G,Bs _ R⟩|with_reducible exact⟨Fo (Bs _ D) px,Fo (Bs _ E) pe,Fo (Bs _ F) pm,Fo (Bs _ G) pl,Fo (Bs _ R) pb⟩|with_reducible exact⟨Fo D nx,Fo E ne,Fo F nm,Fo G nl,Fo R nb⟩) (first|(go_at_call 277;(with_reducible refine HP.o.mono ?_);rintro e g ⟨rfl,P,i,a⟩;have f:=HM.o.buf_ a i;have d:=HC.o.to_ a (by omega);obtain⟨D,E,F,G⟩:=d.cells;have R:=f.head.cells.1;have y:=N.o.to_ a (by rw [J.o];omega);obtain ⟨f0,f1,f2⟩:=y.f3;obtain ⟨z0,z1,z2⟩:=y.c3;have K:=Hd (show P w.heap.size=9 from(a.ow _ N.o.lt).trans J.o);have au:=Hd y;have I:=Hd f;have H:=Hd d;have L:=Hd (Y.o.trans (a.mono fun _ h=>Jj h));clear i a f d y)|(go_at_call 277;(with_reducible refine X.o.mono ?_);rintro e g ⟨rfl,P,i,a⟩;have f:=V.o.buf_ a i;have d:=U.o.to_ a (by omega);obtain⟨D,E,F,G⟩:=d.cells;have R:=f.head.cells.1;have px:bx≠g.heap.size:=Nat.ne_of_lt (B3 D);have pe:be≠g.heap.size:=Nat.ne_of_lt (B3 E);have pm:bm≠g.heap.size:=Nat.ne_of_lt (B3 F);have pl:bl≠g.heap.size:=Nat.ne_of_lt (B3 G);have pb:M.β≠g.heap.size:=Nat.ne_of_lt (B3 R);have I:=Hd f;have H:=Hd d;have L:=Hd (a.from_drew.mono fun _ h=>Jj h);clear i a f d))
  all_goals
   go_wp2_with fail;go_meet
  all_goals
   first
   |exact⟨_,rfl,rfl,w.heap.size,P,rfl,I.o.to_ (zP K.o _ _ _) O5,H.o.to_ (zP K.o _ _ _) (by decide),((au.o.set_ 0 (Aa Ab (v'.t:Int))).set_ 1 (Aa Ab (v'.w:Int))).set_ 2 (Aa Ac (v'.n:Int)),K.o,((L.o.set_new (p:=⟨w.heap.size,0,none⟩) (Ae _) _).set_new (p:=⟨w.heap.size,1,none⟩) (Ae _) _).set_new (p:=⟨w.heap.size,2,none⟩) (Ae _) _⟩
   |exact⟨_,rfl,rfl,g.heap.size,Br P g.heap.size 9,rfl,I.o.fresh ((Af g.heap.size g).alloc (Ae _) _) 9,H.o.to_ (To.fresh (fun _=>False) ((Af g.heap.size g).alloc (Ae _) _) P 9) id,Bk.new _ _ _,Bt (Ae _),L.o.trans (To.fresh Dd ((Af g.heap.size g).alloc (Ae _) _) P 9)⟩
 case rest=>
  obtain⟨w4,rfl,rfl,b4,o4,rfl,ae,ab,aj,ah,ai⟩:=hcut;have al:=Hd ae;have S:=Hd ab;have Z:=Hd aj;have W:=Hd ah;have ap:=Hd ai;clear ae ab aj ah ai q z B C Q nx ne nm nl nb HM HC HP X V U N J Y;obtain⟨q,z,B,C⟩:=S.o.cells;go_wp2_with fail;go_at_call 131;refine(Iq al.o).mono ?_;rintro e w5 ⟨rfl,o5,af,k⟩;have am:=Hd af;have T:=Hd (S.o.to_ k Cl);have aa:=Hd (Z.o.to_ k (by rw [W.o];exact fun h=>O5 9 h rfl));have ao:=Hd (show o5 b4=9 from(k.ow _ Z.o.lt).trans W.o);have aq:=Hd (ap.o.trans k);clear af k q z B C;obtain⟨q,z,B,C⟩:=T.o.cells;obtain ⟨v0,v1,v2⟩:=aa.o.c3;go_wp2_with fail;go_region_held3 (fun w'=>w'.cell? ⟨bx,0,none⟩=some (Afh M.β)∧w'.cell? ⟨b4,0,none⟩=some (Aa Ab (v'.t:Int))∧w'.cell? ⟨b4,1,none⟩=some (Aa Ab (v'.w:Int))∧w'.cell? ⟨b4,2,none⟩=some (Aa Ac (v'.n:Int))) (first|with_reducible exact⟨q,v0,v1,v2⟩|with_reducible exact⟨Bj q,Bj v0,Bj v1,Bj v2⟩|with_reducible exact⟨D,E,F,G⟩) (first|(go_at_call 203;(with_reducible refine(Nx M fl { b with b:=l'} v' _ o5 am.o.drew HS.o).mono ?_);rintro e w6 ⟨rfl,o6,ag,u⟩;have D:w6.cell? ⟨bx,0,none⟩=some (Afh M.β):=((T.o.to_ u.from_drew Cl).x).cell 0;have ak:=aa.o.to_ u.from_drew (by rw [ao.o];exact fun h=>O5 9 h rfl);obtain ⟨E,F,G⟩:=ak.c3;have an:=Hd ag;have ar:=Hd (aq.o.trans u.from_drew);clear ag u ak));go_wp2_with fail;go_end0;exact⟨rfl,o6,an.o,ar.o⟩
theorem Jh(M:Bp)(fl:Int)(b:Bd)(em mn:Int)(A:Option Addr)(n c:Nat)(vs:List Bv)(l':List UInt8)(v':Bv)(w:World)(o:Nat→Nat)(h:BM M fl w o b)(hv:Fh w A n (vs.map vv))(ho:∀ad,A=some ad→ad.block<w.heap.size∧o ad.block=0)(hs:b.s.length<65536)
  (hP:Ns M b.b em mn A n c vs (l',v')):
  Calls Ad 186 #[Afh M.β,Aa Ab em,Aa Ab mn,.slice A n c] w (Dq M fl { b with b:=l',s:=b.s++ [v']} w o):=by
 have l:=Hd hs;have j:=Hd hP;have a:=mB w (.cells #[Afh M.β] 104) (.cells #[Aa Ab em] 3) (.cells #[Aa Ab mn] 3) (.cells #[.slice A n c] 144);have g:=Hd a;have f:=Hd (h.fresh a 0);have i:=Hd (show Sa M em mn A n c vs w.heap.size (w.heap.size+1) (w.heap.size+1+1) (w.heap.size+1+1+1) ((((w.alloc (.cells #[Afh M.β] 104)).alloc (.cells #[Aa Ab em] 3)).alloc (.cells #[Aa Ab mn] 3)).alloc (.cells #[.slice A n c] 144)) (Br o w.heap.size 0) from
  ⟨(((Bk.new w 104 #[Afh M.β]).alloc _).alloc _).alloc _,((Db w _ 3 #[Aa Ab em]).alloc _).alloc _,(Mf w _ _ 3 #[Aa Ab mn]).alloc _,Bk.new_ (by simp) _ _,Bt (by omega),Bt (by omega),Bt (by omega),Bt (by omega),hv.pure a,fun ad e=>⟨by have h1:=(ho ad e).1;have h2:=a.size;omega,by rw [B4 (ho ad e).1];exact(ho ad e).2⟩⟩)
 clear h hs a hP hv ho;go_enter func186,ntmps186;go_wp2_with fail;go_at_call 193;refine(Ej M fl 276 _ _ (Br o w.heap.size 0) b.vals _ f.o.head Tryz.call276 ((gR M fl b em mn A n c vs l' v' w.heap.size (w.heap.size+1) (w.heap.size+1+1) (w.heap.size+1+1+1) _ (Br o w.heap.size 0) f.o i.o l.o j.o).mono fun e w' h=>⟨h.1,h⟩)).mono ?_;rintro e w' d;obtain rfl:=d.1;have k:=Hd (d.from_fresh g.o);clear d;go_wp2;go_end0;exact k.o
def X1(w:World)(n:Nat)(vs:List Bv)(e:Ending)(w':World):Prop:=
 ∃A c,e= .returned (.slice A n c)∧Gg w' w.heap.size A n c (vs.map vv)∧Below w.heap.size w w'
theorem Mk(W:World)(v:Bv):Fh (W.alloc (.cells #[Aa Ab (v.t:Int),Aa Ab (v.w:Int),Aa Ac (v.n:Int)] 169)) (some ⟨W.heap.size,0,none⟩) 1 [vv v]:=(fC W v).is
theorem dQ{α:Type}{f:α→List Value}{l:List α}{g:α→Value}(hf:∀x,f x=[g x])(h:Is f w A n l){k:Nat}(hk:k<n):
  ∃b off x,A=some ⟨b,off,none⟩∧l[k]?=some x∧w.cell? ⟨b,off+k,none⟩=some (g x):=by
 obtain⟨b,off,e,a,c⟩:=h.at_ (sz:=1) (fun x=>by rw [hf];rfl) (by omega) hk;refine⟨b,off,l[k],e,List.getElem?_eq_getElem a,?_⟩;have h0:=c 0 (by omega);simp only [hf,Nat.mul_one,Nat.add_zero] at h0;exact h0
theorem Zm(A:Option Addr)(n c:Nat)(l:List Int)(w:World)(hI:Is kD w A n l)(hn:n≤1000000)(hbd:∀x∈l, -9223372036854775808≤x∧x≤9223372036854775807):Calls Ad 187 #[.func (.func 188) #[] #[],.slice A n c] w (X1 w n (l.map C5)):=by
 have N:=Hd hI;have O:=Hd hI.1;have v:=Hd hbd;clear hI hbd;go_enter func187,ntmps187;go_wp2_with fail;go_loopw [4,9] (fun s u wr=>∃k:Nat,k≤n∧u= Aa Ab k∧∃A c,s= .slice A k c∧Gg wr w.heap.size A k c (((l.take k).map C5).map vv)∧Below w.heap.size w wr) (fun _ u _=>n-(intOf u).toNat)
 case atStart=>exact⟨0,Ak _,rfl,none,0,rfl,Own.nil _ _,Af _ _⟩
 case round=>
  obtain⟨k,Y,rfl,A,c,rfl,J,f⟩:=hrel;have B:=Hd J;have m:=Hd f;have d:=N.o.pure f;clear J f;by_cases F:k<n
  ·obtain⟨g,U,x,e,G,X⟩:=dQ (fun _=>rfl) d F;have I:=Hd (show((l.take (k+1)).map C5).map vv=((l.take k).map C5).map vv++ [vv (C5 x)] by
    obtain⟨V,W⟩:=List.getElem?_eq_some_iff.1 G;rw [Bc V,W,List.map_append,List.map_append];rfl)
   have P:=Hd (v.o x (Aq G));have S:(0:Int)≤(k:Int):=by omega
   have T:(k:Int)<(n:Int):=by omega
   rw [e];clear d G e;go_wp2_with fail;go_at_call 188;refine(Vj x _ P.o).mono ?_;rintro e H ⟨rfl,E⟩;have h:=Hd (Bi m.o E);have C:=Hd (B.o.pure E);clear E X;obtain⟨y,K⟩:∃y,C5 x=y:=⟨_,rfl⟩;rw [K] at I⊢;clear K;have i:=Hd (h.o.alloc h.o.size (.cells #[Aa Ab (y.t:Int),Aa Ab (y.w:Int),Aa Ac (y.n:Int)] 169));have p:=Hd (C.o.pure ((Af H.heap.size H).alloc (Ae _) (.cells #[Aa Ab (y.t:Int),Aa Ab (y.w:Int),Aa Ac (y.n:Int)] 169)));have z:=Hd (Mk H y);go_wp2_with (at_builtin;refine Eb _ rfl (.tmp 13) (.tmp 17) _ rfl 169 _ 3 24 underlying144 Lr rfl (by omega) Ij L8 _ _ _ _ _ rfl p.o _ _ _ _ rfl z.o (by omega) i.o.size ?_;intro L R Z a b q);have D:=Hd a;have r:=Hd (Cq i.o b (by rintro j ⟨Q,e,rfl⟩;exact(p.o.addr Q e).2.1));clear a b q;go_wp2_with fail;go_roundw
   case rel=>exact⟨k+1,by omega,by go_num,L,R,rfl,by rw [I.o];exact D.o,r.o⟩
   case measure=>simp [intOf];omega
  ·obtain rfl:k=n:=by omega
   have M:=Hd (show l.take k=l from Bb (by have:=O.o;omega));rw [M.o] at B;clear d;go_wp2_with fail;go_ret;exact⟨A,c,rfl,B.o,m.o⟩
theorem Zn(A:Option Addr)(n c:Nat)(l:List Nat)(w:World)(hI:Is lJ w A n l)(hn:n≤1000000)(hbd:∀x∈l,x<18446744073709551616):Calls Ad 189 #[.func (.func 190) #[] #[],.slice A n c] w (X1 w n (l.map C9)):=by
 have N:=Hd hI;have O:=Hd hI.1;have v:=Hd hbd;clear hI hbd;go_enter func189,ntmps189;go_wp2_with fail;go_loopw [4,9] (fun s u wr=>∃k:Nat,k≤n∧u= Aa Ab k∧∃A c,s= .slice A k c∧Gg wr w.heap.size A k c (((l.take k).map C9).map vv)∧Below w.heap.size w wr) (fun _ u _=>n-(intOf u).toNat)
 case atStart=>exact⟨0,Ak _,rfl,none,0,rfl,Own.nil _ _,Af _ _⟩
 case round=>
  obtain⟨k,Y,rfl,A,c,rfl,J,f⟩:=hrel;have B:=Hd J;have m:=Hd f;have d:=N.o.pure f;clear J f;by_cases F:k<n
  ·obtain⟨g,U,x,e,G,X⟩:=dQ (fun _=>rfl) d F;have I:=Hd (show((l.take (k+1)).map C9).map vv=((l.take k).map C9).map vv++ [vv (C9 x)] by
    obtain⟨V,W⟩:=List.getElem?_eq_some_iff.1 G;rw [Bc V,W,List.map_append,List.map_append];rfl)
   have P:=Hd (v.o x (Aq G));have S:(0:Int)≤(k:Int):=by omega
   have T:(k:Int)<(n:Int):=by omega
   rw [e];clear d G e;go_wp2_with fail;go_at_call 190;refine(Vv x _ P.o).mono ?_;rintro e H ⟨rfl,E⟩;have h:=Hd (Bi m.o E);have C:=Hd (B.o.pure E);clear E X;obtain⟨y,K⟩:∃y,C9 x=y:=⟨_,rfl⟩;rw [K] at I⊢;clear K;have i:=Hd (h.o.alloc h.o.size (.cells #[Aa Ab (y.t:Int),Aa Ab (y.w:Int),Aa Ac (y.n:Int)] 169));have p:=Hd (C.o.pure ((Af H.heap.size H).alloc (Ae _) (.cells #[Aa Ab (y.t:Int),Aa Ab (y.w:Int),Aa Ac (y.n:Int)] 169)));have z:=Hd (Mk H y);go_wp2_with (at_builtin;refine Eb _ rfl (.tmp 13) (.tmp 17) _ rfl 169 _ 3 24 underlying144 Lr rfl (by omega) Ij L8 _ _ _ _ _ rfl p.o _ _ _ _ rfl z.o (by omega) i.o.size ?_;intro L R Z a b q);have D:=Hd a;have r:=Hd (Cq i.o b (by rintro j ⟨Q,e,rfl⟩;exact(p.o.addr Q e).2.1));clear a b q;go_wp2_with fail;go_roundw
   case rel=>exact⟨k+1,by omega,by go_num,L,R,rfl,by rw [I.o];exact D.o,r.o⟩
   case measure=>simp [intOf];omega
  ·obtain rfl:k=n:=by omega
   have M:=Hd (show l.take k=l from Bb (by have:=O.o;omega));rw [M.o] at B;clear d;go_wp2_with fail;go_ret;exact⟨A,c,rfl,B.o,m.o⟩
def Ho(b:Bool):Bv:=⟨26,1,if b=true then 1 else 0⟩
theorem Ab2(b:Bool)(w:World):Calls Ad 192 #[.bool b] w (Afc (.agg #[Aa Ab ((Ho b).t:Int),Aa Ab ((Ho b).w:Int),Aa Ac ((Ho b).n:Int)]) w):=by
 cases b with
 |true=>exact Rs 1 true w rfl
 |false=>exact Rs 0 false w rfl
theorem sQ(A:Option Addr)(n c:Nat)(l:List Bool)(w:World)(hI:Is pP w A n l)(hn:n≤1000000)(hbd:∀x∈l,x=true∨x=false):Calls Ad 191 #[.func (.func 192) #[] #[],.slice A n c] w (X1 w n (l.map Ho)):=by
 have N:=Hd hI;have O:=Hd hI.1;have v:=Hd hbd;clear hI hbd;go_enter func191,ntmps191;go_wp2_with fail;go_loopw [4,9] (fun s u wr=>∃k:Nat,k≤n∧u= Aa Ab k∧∃A c,s= .slice A k c∧Gg wr w.heap.size A k c (((l.take k).map Ho).map vv)∧Below w.heap.size w wr) (fun _ u _=>n-(intOf u).toNat)
 case atStart=>exact⟨0,Ak _,rfl,none,0,rfl,Own.nil _ _,Af _ _⟩
 case round=>
  obtain⟨k,Y,rfl,A,c,rfl,J,f⟩:=hrel;have B:=Hd J;have m:=Hd f;have d:=N.o.pure f;clear J f;by_cases F:k<n
  ·obtain⟨g,T,x,e,G,W⟩:=dQ (fun _=>rfl) d F;have I:=Hd (show((l.take (k+1)).map Ho).map vv=((l.take k).map Ho).map vv++ [vv (Ho x)] by
    obtain⟨U,V⟩:=List.getElem?_eq_some_iff.1 G;rw [Bc U,V,List.map_append,List.map_append];rfl)
   have X:=Hd (v.o x (Aq G));have R:(0:Int)≤(k:Int):=by omega
   have S:(k:Int)<(n:Int):=by omega
   rw [e];clear d G e;go_wp2_with fail;go_at_call 192;refine(Ab2 x _).mono ?_;rintro e H ⟨rfl,E⟩;have h:=Hd (Bi m.o E);have C:=Hd (B.o.pure E);clear E W;obtain⟨y,K⟩:∃y,Ho x=y:=⟨_,rfl⟩;rw [K] at I⊢;clear K;have i:=Hd (h.o.alloc h.o.size (.cells #[Aa Ab (y.t:Int),Aa Ab (y.w:Int),Aa Ac (y.n:Int)] 169));have p:=Hd (C.o.pure ((Af H.heap.size H).alloc (Ae _) (.cells #[Aa Ab (y.t:Int),Aa Ab (y.w:Int),Aa Ac (y.n:Int)] 169)));have z:=Hd (Mk H y);go_wp2_with (at_builtin;refine Eb _ rfl (.tmp 13) (.tmp 17) _ rfl 169 _ 3 24 underlying144 Lr rfl (by omega) Ij L8 _ _ _ _ _ rfl p.o _ _ _ _ rfl z.o (by omega) i.o.size ?_;intro L Q Z a b q);have D:=Hd a;have r:=Hd (Cq i.o b (by rintro j ⟨P,e,rfl⟩;exact(p.o.addr P e).2.1));clear a b q;go_wp2_with fail;go_roundw
   case rel=>exact⟨k+1,by omega,by go_num,L,Q,rfl,by rw [I.o];exact D.o,r.o⟩
   case measure=>simp [intOf];omega
  ·obtain rfl:k=n:=by omega
   have M:=Hd (show l.take k=l from Bb (by have:=O.o;omega));rw [M.o] at B;clear d;go_wp2_with fail;go_ret;exact⟨A,c,rfl,B.o,m.o⟩
theorem kE{l:List Int}(hl:b.length+40+9*l.length≤1048576):E5 (l.map C5) b:=
 ⟨fun v h=>by obtain⟨x,_,rfl⟩:=List.mem_map.1 h;exact(show Cb ((1:Nat):Int)=true by decide),fun v h=>by obtain⟨x,_,rfl⟩:=List.mem_map.1 h;exact Hv x,
  fun v h=>by obtain⟨x,_,rfl⟩:=List.mem_map.1 h;exact Mn x _,by rw [As];exact hl⟩
theorem lL{l:List Nat}(hl:b.length+40+9*l.length≤1048576):E5 (l.map C9) b:=
 ⟨fun v h=>by obtain⟨x,_,rfl⟩:=List.mem_map.1 h;exact(show Cb ((2:Nat):Int)=true by decide),fun v h=>by obtain⟨x,_,rfl⟩:=List.mem_map.1 h;exact Dy x,
  fun v h=>by obtain⟨x,_,rfl⟩:=List.mem_map.1 h;exact Ms x _,by rw [As];exact hl⟩
theorem uZ{l:List Bool}(hl:b.length+40+9*l.length≤1048576):E5 (l.map Ho) b:=
 ⟨fun v h=>by obtain⟨x,_,rfl⟩:=List.mem_map.1 h;exact(show Cb ((26:Nat):Int)=true by decide),fun v h=>by obtain⟨x,_,rfl⟩:=List.mem_map.1 h;exact(show Bz ((1:Nat):Int)=true by decide),
  fun v h=>by obtain⟨x,_,rfl⟩:=List.mem_map.1 h;exact⟨fun _=>(show 1≤8 by omega),fun h=>absurd h (show ¬inl 26=false by decide)⟩,by rw [As];exact hl⟩
theorem Ua(hok:E5 vs l)(hty:Me e 0)(hel:∀v∈vs,v.t=e):Ns M l e 0 A n c vs (Cd (vecTy e 0) true false vs l):=
 fun W O hb hv ho=>lN M.bb e n c A vs l W O hb hv ho hok hty hel
theorem kO(hok:E5 vs l)(hty:Me e n)(hn:0<n)(hel:∀v∈vs,v.t=e):Ns M l e n A n c vs (Cd (vecTy e n) false false vs l):=
 fun W O hb hv ho=>Ab7 M.bb e n c A vs l W O hb hv ho hok hty hn hel
theorem Abi(hok:E5 vs l):Ns M l (-1) 0 A n c vs (Cd 10 true true vs l):=
 fun W O hb hv ho=>Ab8 M.bb n c A vs l W O hb hv ho hok
theorem rS(M:Bp)(fl:Int)(b:Bd)(A:Option Addr)(n c:Nat)(l:List Int)(w:World)(o:Nat→Nat)(h:BM M fl w o b)(hI:Is kD w A n l)(hn:n≤1000000)(hs:b.s.length<65536)(hbd:∀x∈l, -9223372036854775808≤x∧x≤9223372036854775807)(hl:b.b.length+40+9*l.length≤1048576):
  Calls Ad 108 #[Afh M.β,.slice A n c] w (Dq M fl (b.vec 11 true false (l.map C5)) w o):=by
 have t:=Hd h;have q:=Hd hI;have z:=Hd hs;have f:=Hd hbd;have r:=Hd hl;clear h hI hs hbd hl;go_enter func108,ntmps108;go_wp2_with fail;go_at_call 187;refine(Zm A n c l _ q.o hn f.o).mono ?_;rintro e B ⟨k,m,rfl,p,j⟩;have g:=Hd (t.o.fresh j 0);have a:=Hd p;have d:=Hd j;clear p j;have u:=Hd (Ua (M:=M) (A:=k) (n:=n) (c:=m) (kE r.o) (e:=1) (by unfold Me;omega) (fun v hv=>by obtain⟨x,_,rfl⟩:=List.mem_map.1 hv;rfl));go_wp2_with fail;go_at_call 186;refine(Jh M fl b ((1:Nat):Int) 0 k n m (l.map C5) (Cd 11 true false (l.map C5) b.b).1 (Cd 11 true false (l.map C5) b.b).2 B _ g.o a.o.is (fun ad e=>⟨(a.o.addr ad e).2.2,Bt (a.o.addr ad e).2.1⟩) z.o u.o).mono ?_;rintro e C i;obtain rfl:=i.1;have y:=Hd (Dq.from_fresh d.o i);clear i;go_wp2_with fail;go_end0;exact y.o
theorem oX(M:Bp)(fl:Int)(b:Bd)(A:Option Addr)(n c:Nat)(l:List Nat)(w:World)(o:Nat→Nat)(h:BM M fl w o b)(hI:Is lJ w A n l)(hn:n≤1000000)(hs:b.s.length<65536)(hbd:∀x∈l,x<18446744073709551616)(hl:b.b.length+40+9*l.length≤1048576):
  Calls Ad 111 #[Afh M.β,.slice A n c] w (Dq M fl (b.vec 12 true false (l.map C9)) w o):=by
 have t:=Hd h;have q:=Hd hI;have z:=Hd hs;have f:=Hd hbd;have r:=Hd hl;clear h hI hs hbd hl;go_enter func111,ntmps111;go_wp2_with fail;go_at_call 189;refine(Zn A n c l _ q.o hn f.o).mono ?_;rintro e B ⟨k,m,rfl,p,j⟩;have g:=Hd (t.o.fresh j 0);have a:=Hd p;have d:=Hd j;clear p j;have u:=Hd (Ua (M:=M) (A:=k) (n:=n) (c:=m) (lL r.o) (e:=2) (by unfold Me;omega) (fun v hv=>by obtain⟨x,_,rfl⟩:=List.mem_map.1 hv;rfl));go_wp2_with fail;go_at_call 186;refine(Jh M fl b ((2:Nat):Int) 0 k n m (l.map C9) (Cd 12 true false (l.map C9) b.b).1 (Cd 12 true false (l.map C9) b.b).2 B _ g.o a.o.is (fun ad e=>⟨(a.o.addr ad e).2.2,Bt (a.o.addr ad e).2.1⟩) z.o u.o).mono ?_;rintro e C i;obtain rfl:=i.1;have y:=Hd (Dq.from_fresh d.o i);clear i;go_wp2_with fail;go_end0;exact y.o
theorem mE(M:Bp)(fl:Int)(b:Bd)(A:Option Addr)(n c:Nat)(l:List Bool)(w:World)(o:Nat→Nat)(h:BM M fl w o b)(hI:Is pP w A n l)(hn:n≤1000000)(hs:b.s.length<65536)(hbd:∀x∈l,x=true∨x=false)(hl:b.b.length+40+9*l.length≤1048576):
  Calls Ad 114 #[Afh M.β,.slice A n c] w (Dq M fl (b.vec 36 true false (l.map Ho)) w o):=by
 have t:=Hd h;have q:=Hd hI;have z:=Hd hs;have f:=Hd hbd;have r:=Hd hl;clear h hI hs hbd hl;go_enter func114,ntmps114;go_wp2_with fail;go_at_call 191;refine(sQ A n c l _ q.o hn f.o).mono ?_;rintro e B ⟨k,m,rfl,p,j⟩;have g:=Hd (t.o.fresh j 0);have a:=Hd p;have d:=Hd j;clear p j;have u:=Hd (Ua (M:=M) (A:=k) (n:=n) (c:=m) (uZ r.o) (e:=26) (by unfold Me;omega) (fun v hv=>by obtain⟨x,_,rfl⟩:=List.mem_map.1 hv;rfl));go_wp2_with fail;go_at_call 186;refine(Jh M fl b ((26:Nat):Int) 0 k n m (l.map Ho) (Cd 36 true false (l.map Ho) b.b).1 (Cd 36 true false (l.map Ho) b.b).2 B _ g.o a.o.is (fun ad e=>⟨(a.o.addr ad e).2.2,Bt (a.o.addr ad e).2.1⟩) z.o u.o).mono ?_;rintro e C i;obtain rfl:=i.1;have y:=Hd (Dq.from_fresh d.o i);clear i;go_wp2_with fail;go_end0;exact y.o
theorem iQ(M:Bp)(fl:Int)(b:Bd)(em:Int)(A:Option Addr)(n c:Nat)(vs:List Bv)(l':List UInt8)(v':Bv)(bx be bl:Nat)(w:World)(o:Nat→Nat)(h:BM M fl w o b)(hx:Bk w bx 104 #[Afh M.β])(he:Bk w be 3 #[Aa Ab em])(hl:Bk w bl 144 #[.slice A n c])
  (hv:Fh w A n (vs.map vv)) (ho:∀ad,A=some ad→ad.block<w.heap.size∧o ad.block=0) (hs:b.s.length<65536) (hn:n=2∨n=3∨n=4) (hP:Ns M b.b em n A n c vs (l',v')):
  Calls Ad 283 #[Afh bl,Afh bx,Afh be] w (Dq M fl { b with b:=l',s:=b.s++ [v']} w o):=by
 have f:=Hd (Jh M fl b em n A n c vs l' v' w o h hv ho hs hP);have j:w.cell? ⟨bx,0,none⟩=some (Afh M.β):=hx.cell 0;have g:w.cell? ⟨be,0,none⟩=some (Aa Ab em):=he.cell 0;have i:w.cell? ⟨bl,0,none⟩=some (.slice A n c):=hl.cell 0;have k:decide ((n:Int)<2)=false:=decide_eq_false (by omega);have l:decide ((4:Int)<(n:Int))=false:=decide_eq_false (by omega);have m:decide (n<2)=false:=decide_eq_false (by omega);have p:decide (4<n)=false:=decide_eq_false (by omega);clear h hx he hl hv ho hs hn hP;go_enter func283,ntmps283;go_wp2_with fail;go_at_call 186;refine f.o.mono ?_;rintro e q a;obtain rfl:=a.1;have d:=Hd a;clear a j g i;go_wp2_with fail;go_end0;exact d.o
theorem Wm(M:Bp)(fl:Int)(b:Bd)(em:Int)(A:Option Addr)(n c:Nat)(vs:List Bv)(l':List UInt8)(v':Bv)(w:World)(o:Nat→Nat)(h:BM M fl w o b)(hv:Fh w A n (vs.map vv))(ho:∀ad,A=some ad→ad.block<w.heap.size∧o ad.block=0)(hs:b.s.length<65536)
  (hn:n=2∨n=3∨n=4) (hP:Ns M b.b em n A n c vs (l',v')):
  Calls Ad 197 #[Afh M.β,Aa Ab em,.slice A n c] w (Dq M fl { b with b:=l',s:=b.s++ [v']} w o):=by
 have a:=Pm w (.cells #[Afh M.β] 104) (.cells #[Aa Ab em] 3) (.cells #[.slice A n c] 144);have f:=Hd a;have i:=Hd (h.fresh a 0);have g:=Hd (iQ M fl b em A n c vs l' v' w.heap.size (w.heap.size+1) (w.heap.size+1+1) _ (Br o w.heap.size 0) (h.fresh a 0) (((Bk.new w 104 #[Afh M.β]).alloc _).alloc _) ((Db w _ 3 #[Aa Ab em]).alloc _) (Mf w _ _ 144 #[.slice A n c])
  (hv.pure a) (fun ad e=>⟨by have h1:=(ho ad e).1;have h2:=a.size;omega,by rw [B4 (ho ad e).1];exact(ho ad e).2⟩) hs hn hP)
 clear h hs a hP hv ho hn;go_enter func197,ntmps197;go_wp2_with fail;go_at_call 193;refine(Ej M fl 283 _ _ (Br o w.heap.size 0) b.vals _ i.o.head Tryz.call283 (g.o.mono fun e w' h=>⟨h.1,h⟩)).mono ?_;rintro e w' d;obtain rfl:=d.1;have j:=Hd (d.from_fresh f.o);clear d;go_wp2;go_end0;exact j.o
theorem dK(M:Bp)(fl:Int)(b:Bd)(A:Option Addr)(n c:Nat)(l:List Int)(w:World)(o:Nat→Nat)(h:BM M fl w o b)(hI:Is kD w A n l)(hn:n=2∨n=3∨n=4)(hs:b.s.length<65536)(hbd:∀x∈l, -9223372036854775808≤x∧x≤9223372036854775807)(hl:b.b.length+40+9*l.length≤1048576):
  Calls Ad 120 #[Afh M.β,.slice A n c] w (Dq M fl (b.vec (10+3*n) false false (l.map C5)) w o):=by
 have z:=Hd h;have u:=Hd hI;have C:=Hd hs;have f:=Hd hbd;have y:=Hd hl;have i:=Hd hn;have m:n≤1000000:=by omega
 have D:=Hd (show vecTy 1 n=10+3*n by rcases hn with rfl|rfl|rfl <;>rfl);clear h hI hs hbd hl hn;go_enter func120,ntmps120;go_wp2_with fail;go_at_call 187;refine(Zm A n c l _ u.o m f.o).mono ?_;rintro e E ⟨p,r,rfl,t,k⟩;have g:=Hd (z.o.fresh k 0);have a:=Hd t;have d:=Hd k;clear t k;have q:=Hd (kO (M:=M) (A:=p) (n:=n) (c:=r) (kE y.o) (e:=1) (by have:=i.o;unfold Me;omega) (by have:=i.o;omega) (fun v hv=>by obtain⟨x,_,rfl⟩:=List.mem_map.1 hv;rfl));rw [D.o] at q;go_wp2_with fail;go_at_call 197;refine(Wm M fl b ((1:Nat):Int) p n r (l.map C5) (Cd (10+3*n) false false (l.map C5) b.b).1 (Cd (10+3*n) false false (l.map C5) b.b).2 E _ g.o a.o.is (fun ad e=>⟨(a.o.addr ad e).2.2,Bt (a.o.addr ad e).2.1⟩) C.o i.o q.o).mono ?_;rintro e F j;obtain rfl:=j.1;have B:=Hd (Dq.from_fresh d.o j);clear j;go_wp2_with fail;go_end0;exact B.o
theorem aE(M:Bp)(fl:Int)(b:Bd)(A:Option Addr)(n c:Nat)(l:List Nat)(w:World)(o:Nat→Nat)(h:BM M fl w o b)(hI:Is lJ w A n l)(hn:n=2∨n=3∨n=4)(hs:b.s.length<65536)(hbd:∀x∈l,x<18446744073709551616)(hl:b.b.length+40+9*l.length≤1048576):
  Calls Ad 121 #[Afh M.β,.slice A n c] w (Dq M fl (b.vec (11+3*n) false false (l.map C9)) w o):=by
 have z:=Hd h;have u:=Hd hI;have C:=Hd hs;have f:=Hd hbd;have y:=Hd hl;have i:=Hd hn;have m:n≤1000000:=by omega
 have D:=Hd (show vecTy 2 n=11+3*n by rcases hn with rfl|rfl|rfl <;>rfl);clear h hI hs hbd hl hn;go_enter func121,ntmps121;go_wp2_with fail;go_at_call 189;refine(Zn A n c l _ u.o m f.o).mono ?_;rintro e E ⟨p,r,rfl,t,k⟩;have g:=Hd (z.o.fresh k 0);have a:=Hd t;have d:=Hd k;clear t k;have q:=Hd (kO (M:=M) (A:=p) (n:=n) (c:=r) (lL y.o) (e:=2) (by have:=i.o;unfold Me;omega) (by have:=i.o;omega) (fun v hv=>by obtain⟨x,_,rfl⟩:=List.mem_map.1 hv;rfl));rw [D.o] at q;go_wp2_with fail;go_at_call 197;refine(Wm M fl b ((2:Nat):Int) p n r (l.map C9) (Cd (11+3*n) false false (l.map C9) b.b).1 (Cd (11+3*n) false false (l.map C9) b.b).2 E _ g.o a.o.is (fun ad e=>⟨(a.o.addr ad e).2.2,Bt (a.o.addr ad e).2.1⟩) C.o i.o q.o).mono ?_;rintro e F j;obtain rfl:=j.1;have B:=Hd (Dq.from_fresh d.o j);clear j;go_wp2_with fail;go_end0;exact B.o
end Go.Proofs.YtejpbijeifjdeaaGreat
