/- Parts of the proof. -/
import Derived.Test.YtgbjodnegkbfoaaGreatQa08
set_option maxHeartbeats 4000000
set_option maxRecDepth 100000
open Go.Value renaming int→Aa
open Go.IntKind renaming i64→Ab,u64→Ac
open Nat renaming le_refl→Ath,zero_le→Atl,lt_of_lt_of_le→Atr
open List renaming getElem?_eq_getElem→Ati,replicate→Atm
namespace Go.Proofs.YtgbjodnegkbfoaaGreat
open Go.RowKit Go.Acc
theorem Ars{W W':World}{base e size n:Nat}{v:Value}{xs:List Value}(h:W.ownsRow base e size v n xs)(hk:∀g,v.ownBlock=some g→W'.heap[g]?=W.heap[g]?):W'.ownsRow base e size v n xs:=by
 refine⟨h.1,?_⟩;rcases h.2 with hn|⟨g,cap,cur,rfl,hbg,hg,rest⟩
 ·exact .inl hn
 ·exact .inr ⟨g,cap,cur,rfl,hbg,by rw [hk g rfl];exact hg,rest⟩
theorem Wk{W W':World}{A:Option Addr}{B n c:Nat}{l:List Nv}(h:Jg W B A n c l)(hk:∀ad,A=some ad→W'.heap[ad.block]?=W.heap[ad.block]?):Jg W' B A n c l:=by
 refine⟨h.1,Ars h.2 fun g e=>?_⟩;cases A with
 |none=>simp [Value.ownBlock] at e
 |some ad=>simp [Value.ownBlock] at e;subst e;exact hk ad rfl
inductive Ix(w:World):(Nat→Prop)→Nv→Tr→Prop
 |mk {p:Nat→Prop} {x:Nv} {ks:List (List UInt8)} {l:List Tr} {vs:List Nv} (q:Nat→Nat→Prop) (h1:Ey w x.A x.an ks) (ha:∀ad,x.A=some ad→p ad.block∧∀i,¬q i ad.block) (hac:x.an≤x.ac) (hx:x.an≤1099511627776)
   (h2:Jg w 0 x.B x.bn x.bc vs) (hb:∀ad,x.B=some ad→p ad.block∧∀i,¬q i ad.block) (hy:x.bn≤1099511627776) (hab:∀a b,x.A=some a→x.B=some b→a.block≠b.block)
   (hq:∀i k,q i k→p k) (hd:∀i j k,i≠j→q i k→¬q j k) (hl:vs.length=l.length)
   (hc:∀(i:Nat) v t,vs[i]?=some v→l[i]?=some t→Ix w (q i) v t):Ix w p x (.mk x.k x.n x.u x.s ks l)
theorem Ix.keep{w w':World}{p:Nat→Prop}{x:Nv}{t:Tr}(h:Ix w p x t):(∀b,p b→w'.heap[b]?=w.heap[b]?)→Ix w' p x t:=by
 induction h with
 |mk q h1 ha hac hx h2 hb hy hab hq hd hl hc ih=>
  intro hk;refine .mk q ⟨h1.1,Ns h1.2 (fun ad e=>(ha ad e).1) fun a u hc hpa=>?_⟩ ha hac hx (Wk h2 fun ad e=>hk _ (hb ad e).1) hb hy hab hq hd hl (fun i v t hv ht=>ih i v t hv ht fun b hb=>hk b (hq i b hb));rw [World.cell?_of_block (hk _ hpa)];exact hc
theorem Ix.pure{w w':World}{p:Nat→Prop}{x:Nv}{t:Tr}(h:Ix w p x t)(hp:∀b,p b→b<w.heap.size)(hb:Below w.heap.size w w'):Ix w' p x t:=h.keep fun b hpb=>hb.block b (hp b hpb)
theorem Wf:(Tryz.prog.info? 26).map (fun i=>(i.zero,i.size,i.bytes))=some (some (.agg #[Aa Ab 0,Aa Ab 0,Aa Ac 0,.string ⟨#[]⟩,.slice none 0 0,.slice none 0 0]),6,88):=by kernel_rfl
theorem Akg(W:World)(x:Nv):Fh (W.alloc (.cells #[Aa Ab x.k,Aa Ab x.n,Aa Ac (x.u:Int),.string ⟨x.s.toArray⟩,.slice x.A x.an x.ac,.slice x.B x.bn x.bc] 26)) (some ⟨W.heap.size,0,none⟩) 1 [x]:=by
 refine⟨rfl,fun j y hy=>⟨_,_,rfl,?_⟩⟩;rw [Nat.zero_add,(Af.new W 26 _).cell j];have e: [x].flatMap Ic=Ic x:=by simp
 rw [e] at hy;rw [←hy];simp [Ic]
def Adz(w:World)(m:List (List UInt8))(e:Ending)(w':World):Prop:=
 ∃A n c,e= .returned (.slice A n c)∧Kz w' w.heap.size A n c m∧Below w.heap.size w w'
theorem Z4{w w1 w':World}{A:Option Addr}{n c:Nat}{l m:List (List UInt8)}(h:Kz w' w.heap.size A n c l)(hl:l=m)(h1:Below w.heap.size w w1){S:Nat→Prop}(hg:Fr S w1 w')(hS:∀k,k<w.heap.size→¬S k):Adz w m (.returned (.slice A n c)) w':=by
 subst hl;exact⟨A,n,c,rfl,h,h1.trans (hg.belowB hS h1.size)⟩
theorem Ac5(A:Option Addr)(n c:Nat)(l:List (List UInt8))(w:World)(h:Ey w A n l)(hl:n≤1099511627776):
  Calls Tryz.prog 126 #[.slice A n c] w (Adz w l):=by
 have hnil:=fun(w:World) (A:Option Addr) (n c:Nat)=>Lib.run_eql_slice_nil (P:=Tryz.prog) w 23 9 A n c 0 0 Tryz.underlying23
 rcases A with _|a
 ·obtain⟨rfl,rfl⟩:=h.none_ Dp (by omega);clear h hl;go_enter Tryz.func126,Tryz.ntmps126;go_wp2_with fail;go_ret;exact⟨none,0,0,rfl,Own.nil _ _,Below.refl _ _⟩
 ·have hr:Ey (w.alloc (.cells #[] 9)) (some a) n l:=h.alloc _;have ho:Kz (w.alloc (.cells #[] 9)) w.heap.size (some ⟨w.heap.size,0,none⟩) 0 0 []:=⟨rfl,World.ownsRow_lit w #[] 0 (Ath _) (Atl _) rfl⟩;have HR:=Hd hr;clear h hr;go_enter Tryz.func126,Tryz.ntmps126;go_wp2_with (at_builtin;refine Dt _ rfl (.tmp 5) (.tmp 6) _ rfl 9 _ 1 16 Tryz.underlying23 R3 rfl (by omega) Dp Ot _ _ _ _ _ rfl ho _ _ _ _ rfl HR.o (by omega) (by simp) ?_;intro A1 c1 w1 hown1 hfr1 hat1);go_ret;exact Z4 (by simpa using hown1) rfl ((Below.refl _ _).alloc (Ath _) _) hfr1 (by rintro k hk ⟨ad,h,h'⟩;injection h with h;subst h;simp at h';omega)
structure Zf(w:World)(B:Nat)(k:Nat)(ts:List Tr)(A:Option Addr)(c:Nat)(vs:List Nv)(q:Nat→Nat→Prop):Prop where
 own:Jg w B A k c vs
 lt:∀i b,q i b→B≤b∧b<w.heap.size∧i<k
 off:∀ad,A=some ad→∀i,¬q i ad.block
 apart:∀i j b,i≠j→q i b→¬q j b
 kids:∀(i:Nat) v t,vs[i]?=some v→ts[i]?=some t→Ix w (q i) v t
theorem Zf.pure{w w':World}{B k:Nat}{ts:List Tr}{A:Option Addr}{c:Nat}{vs:List Nv}{q:Nat→Nat→Prop}(h:Zf w B k ts A c vs q)(hb:Below w.heap.size w w'):Zf w' B k ts A c vs q:=
 ⟨h.own.pure hb,fun i b e=>⟨(h.lt i b e).1,Atr (h.lt i b e).2.1 hb.size,(h.lt i b e).2.2⟩,h.off,h.apart,fun i v t hv ht=>(h.kids i v t hv ht).pure (fun b e=>(h.lt i b e).2.1) hb⟩
theorem Zf.step{w W W':World}{B k:Nat}{ts:List Tr}{A A1:Option Addr}{c c1:Nat}{vs:List Nv}{q:Nat→Nat→Prop}{x:Nv}{t:Tr}{a:Nat}(h:Zf W B k ts A c vs q)(ht:ts[k]?=some t)(hB:B≤a)(hqa:∀i b,q i b→b<a)(hA:∀ad,A=some ad→ad.block<a)
  (hx:Ix W (fun b=>a≤b∧b<w.heap.size) x t) (hw:w.heap.size≤W.heap.size) (ho:Jg W' B A1 (k+1) c1 (vs++ [x])) (hf:Fr (fun b=>∃ad,A=some ad∧b=ad.block) W W')
  (hat:A1.map (·.block)=A.map (·.block)∨A1.map (·.block)=some W.heap.size):Zf W' B (k+1) ts A1 c1 (vs++ [x]) (fun i b=>q i b∨(i=k∧a≤b∧b<w.heap.size)):=by
 have hl:vs.length=k:=h.own.1;have hlt:=h.lt;refine⟨ho,?_,?_,?_,?_⟩
 ·rintro i b (e|⟨rfl,e1,e2⟩)
  ·obtain⟨e1,e2,e3⟩:=h.lt i b e;exact⟨e1,Atr e2 hf.size,by omega⟩
  ·exact⟨by omega,Atr e2 (Nat.le_trans hw hf.size),by omega⟩
 ·intro ad e i hi;subst e;rcases hat with e|e
  ·cases A with
   |none=>simp at e
   |some ad0=>
    simp at e;rw [e] at hi;rcases hi with hi|⟨_,h1,_⟩
    ·exact h.off _ rfl i hi
    ·have:=hA _ rfl;omega
  ·simp at e;rw [e] at hi;rcases hi with hi|⟨_,_,h2⟩
   ·have:=(h.lt i _ hi).2.1;omega
   ·omega
 ·rintro i j b hij (e|⟨rfl,e1,e2⟩) (e'|⟨rfl,e3,e4⟩)
  ·exact h.apart i j b hij e e'
  ·have:=hqa i b e;omega
  ·have:=hqa j b e';omega
  ·exact hij rfl
 ·intro i v t' hv ht';by_cases hi:i<k
  ·rw [List.getElem?_append_left (by omega)] at hv;have h1:=(h.kids i v t' hv ht').keep (w':=W') fun b hb=>hf.block b (h.lt i b hb).2.1 (by rintro⟨ad,e,rfl⟩;exact h.off ad e i hb)
   have e:(fun b=>q i b∨(i=k∧a≤b∧b<w.heap.size))=q i:=by
    funext b
    exact propext ⟨fun hh=>hh.elim (fun x=>x) (fun x=>absurd x.1 (by omega)),.inl⟩
   rw [e];exact h1
  ·rw [List.getElem?_append_right (by omega)] at hv;have hi2:i=k:=by
    have:=(List.getElem?_eq_some_iff.1 hv).1;simp at this;omega
   subst hi2;rw [hl,Nat.sub_self] at hv;simp at hv;subst hv;rw [ht] at ht';injection ht' with ht'
   subst ht';have h1:=hx.keep (w':=W') fun b hb=>hf.block b (Atr hb.2 hw) (by rintro⟨ad,e,rfl⟩;have:=hA ad e;omega)
   have e:(fun b=>q i b∨(i=i∧a≤b∧b<w.heap.size))=(fun b=>a≤b∧b<w.heap.size):=by
    funext b
    exact propext ⟨fun hh=>hh.elim (fun x=>absurd (h.lt i b x).2.2 (by omega)) (fun x=>x.2),fun hh=> .inr ⟨rfl,hh⟩⟩
   rw [e];exact h1
theorem Fx(w:World)(g:Nat)(v0 v1 v2 v3 v4 v5:Value):
  Fr (fun j=>j=g) w ((((((w.setCell ⟨g,0,none⟩ v0).setCell ⟨g,1,none⟩ v1).setCell ⟨g,2,none⟩ v2).setCell ⟨g,3,none⟩ v3).setCell ⟨g,4,none⟩ v4).setCell ⟨g,5,none⟩ v5):=
 ((((((Fr.refl (fun j=>j=g) w).setCell (p:=⟨g,0,none⟩) (fun _=>rfl) v0).setCell (p:=⟨g,1,none⟩) (fun _=>rfl) v1).setCell (p:=⟨g,2,none⟩) (fun _=>rfl) v2).setCell (p:=⟨g,3,none⟩) (fun _=>rfl) v3).setCell (p:=⟨g,4,none⟩) (fun _=>rfl) v4).setCell (p:=⟨g,5,none⟩) (fun _=>rfl) v5
def Asy(w:World)(t:Tr)(e:Ending)(w':World):Prop:=
 ∃x:Nv,e= .returned (.agg #[Aa Ab x.k,Aa Ab x.n,Aa Ac (x.u:Int),.string ⟨x.s.toArray⟩,.slice x.A x.an x.ac,.slice x.B x.bn x.bc])∧Ix w' (fun b=>w.heap.size≤b∧b<w'.heap.size) x t∧Below w.heap.size w w'
theorem Aiq{w0:World}{p:Nat→Prop}{x:Nv}{t:Tr}(h:Bk w0 p x t):∀W,Below w0.heap.size w0 W→Calls Tryz.prog 80 #[.agg #[Aa Ab x.k,Aa Ab x.n,Aa Ac (x.u:Int),.string ⟨x.s.toArray⟩,.slice x.A x.an x.ac,.slice x.B x.bn x.bc]] W (Asy W t):=by
 induction h with
 | @mk x ks l vs h1 ha hac hx h2 hb hbc hy hl hc ih=>
  intro W hW;have HW:=Hd hW;have HIH:=Hd ih;have HI:=Hd (show Fh W x.B x.bn vs from h2.pure hW);have HK:=Hd (show Ey W x.A x.an ks from h1.pure hW);have HVL:=Hd hl;have HBN:=Hd (show vs.length=x.bn from h2.1);have HB0:=Hd (Ba W (.cells #[Aa Ab x.k,Aa Ab x.n,Aa Ac (x.u:Int),.string ⟨x.s.toArray⟩,.slice x.A x.an x.ac,.slice x.B x.bn x.bc] 26) (.cells #[Aa Ab 0,Aa Ab 0,Aa Ac 0,.string ⟨#[]⟩,.slice none 0 0,.slice none 0 0] 26));have HX0:=Hd ((Af.new W 26 #[Aa Ab x.k,Aa Ab x.n,Aa Ac (x.u:Int),.string ⟨x.s.toArray⟩,.slice x.A x.an x.ac,.slice x.B x.bn x.bc]).alloc (.cells #[Aa Ab 0,Aa Ab 0,Aa Ac 0,.string ⟨#[]⟩,.slice none 0 0,.slice none 0 0] 26));have HR0:=Hd (Af.new_ (w:=W.alloc (.cells #[Aa Ab x.k,Aa Ab x.n,Aa Ac (x.u:Int),.string ⟨x.s.toArray⟩,.slice x.A x.an x.ac,.slice x.B x.bn x.bc] 26)) (g:=W.heap.size+1) (by simp) 26 #[Aa Ab 0,Aa Ab 0,Aa Ac 0,.string ⟨#[]⟩,.slice none 0 0,.slice none 0 0]);have HSZ:=Hd (show((W.alloc (.cells #[Aa Ab x.k,Aa Ab x.n,Aa Ac (x.u:Int),.string ⟨x.s.toArray⟩,.slice x.A x.an x.ac,.slice x.B x.bn x.bc] 26)).alloc (.cells #[Aa Ab 0,Aa Ab 0,Aa Ac 0,.string ⟨#[]⟩,.slice none 0 0,.slice none 0 0] 26)).heap.size=W.heap.size+2 by simp);have hxa:x.an≤1099511627776:=by omega
  have hxb:x.bn≤1099511627776:=by omega
  obtain⟨xk,xn,xu,xs,XA,xan,xac,XB,xbn,xbc⟩:=x;have hxa:xan≤1099511627776:=hxa;have hxb:xbn≤1099511627776:=hxb;have HBN:=Hd (show vs.length=xbn from HBN.o);have HKL:=Hd (show ks.length=xan from h1.1);clear ih h1 ha h2 hb hbc hl hc hW hac hx hy;go_enter Tryz.func80,Tryz.ntmps80;go_upto_region 1 with fail
  generalize (W.alloc (.cells #[Aa Ab xk,Aa Ab xn,Aa Ac (xu:Int),.string ⟨xs.toArray⟩,.slice XA xan xac,.slice XB xbn xbc] 26)).alloc (.cells #[Aa Ab 0,Aa Ab 0,Aa Ac 0,.string ⟨#[]⟩,.slice none 0 0,.slice none 0 0] 26)=w1 at HB0 HX0 HR0 HSZ⊢;generalize hbt:W.heap.size=bt at HX0 HR0 HSZ⊢;generalize hbr:bt+1=br at HR0⊢;have HT:=Hd (And.intro hbt hbr);clear hbt hbr;have c4:w1.cell? ⟨bt,4,none⟩=some (.slice XA xan xac):=HX0.o.cell 4;go_wp2_with fail;go_at_call 126;refine(Ac5 XA xan xac ks _ (HK.o.pure HB0.o) hxa).mono ?_;rintro e w2 ⟨A1,n1,c1,rfl,hO1,hB1⟩;obtain rfl:xan=n1:=by rw [←hO1.1];exact HKL.o.symm
  have HO1:=Hd hO1;have HB1:=Hd (Ad HB0.o hB1);have HX1:=Hd (HX0.o.pure hB1);have HR1:=Hd (HR0.o.pure hB1);have HS1:=Hd (show br<w1.heap.size∧w1.heap.size≤w2.heap.size from⟨HR0.o.lt,hB1.size⟩);clear c4 hO1 hB1;have c4:w2.cell? ⟨bt,4,none⟩=some (.slice XA xan xac):=HX1.o.cell 4;have f4:w2.frozen? ⟨bt,4,none⟩=false:=HX1.o.frozen 4;go_upto_region 2 with fail
  have HF2:=Hd (Fr.setCell (S:=fun j=>j=bt) (Fr.refl _ w2) (p:=⟨bt,4,none⟩) (fun _=>rfl) (.slice A1 xan c1));have HX2:=Hd (show Af (w2.setCell ⟨bt,4,none⟩ (.slice A1 xan c1)) bt 26 #[Aa Ab xk,Aa Ab xn,Aa Ac (xu:Int),.string ⟨xs.toArray⟩,.slice A1 xan c1,.slice XB xbn xbc] from HX1.o.set_ 4 _);generalize w2.setCell ⟨bt,4,none⟩ (.slice A1 xan c1)=w3 at HF2 HX2⊢;have hne:bt≠br:=by have:=HT.o.2;omega
  have HR2:=Hd (HR1.o.fr HF2.o (by omega));have HKS:=Hd (show Ey w3 A1 xan ks∧∀ad,A1=some ad→W.heap.size≤ad.block∧ad.block<w3.heap.size∧ad.block≠bt∧ad.block≠br by
   have hA:∀ad,A1=some ad→w1.heap.size≤ad.block∧ad.block<w2.heap.size:=fun ad e=>(HO1.o.addr ad e).2
   have hbt:bt<w1.heap.size:=by have h1:=HS1.o.1;have h2:=HT.o.2;omega
   refine⟨HO1.o.is.fr HF2.o (fun ad e=>by have:=hA ad e;omega),fun ad e=>?_⟩;have h3:=hA ad e;have h4:=HB0.o.size;have h5:=HF2.o.size;have h6:=HS1.o.1;have h7:=HT.o;omega)
  have HB2:=Hd (Bs HB1.o HF2.o (by rintro j rfl;exact Nat.le_of_eq HT.o.1));have HCAP:=Hd (show xan≤c1 from HO1.o.cap.1);have HS2:=Hd (show br<w3.heap.size by have h1:=HS1.o;have h2:=HF2.o.size;omega);clear c4 f4 hne HX1 HR1 HX0 HR0 HF2 HO1 HB0 HB1 HSZ HK;have c5:w3.cell? ⟨bt,5,none⟩=some (.slice XB xbn xbc):=HX2.o.cell 5;go_wp2_with fail;go_loopw [3,13] (fun s u wr=>∃k:Nat,k≤xbn∧u= Aa Ab k∧∃A c us q,s= .slice A k c∧Zf wr w3.heap.size k l A c us q∧Below W.heap.size W wr∧Af wr bt 26 #[Aa Ab xk,Aa Ab xn,Aa Ac (xu:Int),.string ⟨xs.toArray⟩,.slice A1 xan c1,.slice XB xbn xbc]∧Af wr br 26 #[Aa Ab 0,Aa Ab 0,Aa Ac 0,.string ⟨#[]⟩,.slice none 0 0,.slice none 0 0]∧Ey wr A1 xan ks∧w3.heap.size≤wr.heap.size) (fun _ u _=>xbn-(intOf u).toNat)
  case atStart=>exact⟨0,Atl _,rfl,none,0,[],fun _ _=>False,rfl,⟨Own.nil _ _,fun _ _ h=>h.elim,fun _ h=>(by cases h),fun _ _ _ _ h=>h.elim,fun i v t hv _=>by simp at hv⟩,HB2.o,HX2.o,HR2.o,HKS.o.1,Ath _⟩
  case round=>
   obtain⟨k,hk,rfl,A,c,us,q,rfl,hC,hbr,hx,hr,hks,hsz⟩:=hrel;have HC:=Hd hC;have HBR:=Hd hbr;have HXR:=Hd hx;have HRR:=Hd hr;have HKR:=Hd hks;have HSR:=Hd hsz;clear hC hbr hx hr hks hsz c5;by_cases hlt:k<xbn
   ·obtain⟨v,hv⟩:∃v,vs[k]?=some v:=⟨_,Ati (by have:=HBN.o;omega)⟩;obtain⟨t',ht'⟩:∃t',l[k]?=some t':=⟨_,Ati (by have:=HBN.o;have:=HVL.o;omega)⟩;have hIr:=HI.o.pure HBR.o;obtain⟨g,off,e,v0,v1,v2,v3,v4,v5⟩:=Gc hIr hv;have hal:=(Below.refl wr.heap.size wr).alloc (Ath _) (.cells #[Aa Ab v.k,Aa Ab v.n,Aa Ac (v.u:Int),.string ⟨v.s.toArray⟩,.slice v.A v.an v.ac,.slice v.B v.bn v.bc] 26);have HCD:=Hd (HIH.o k v t' hv ht' (wr.alloc (.cells #[Aa Ab v.k,Aa Ab v.n,Aa Ac (v.u:Int),.string ⟨v.s.toArray⟩,.slice v.A v.an v.ac,.slice v.B v.bn v.bc] 26)) (Ad HW.o (Ad HBR.o hal)));have HAL:=Hd hal;have HT':=Hd ht';have hk0:(0:Int)≤(k:Int):=by omega
    have hkn:(k:Int)<(xbn:Int):=by omega
    have e:XB=some ⟨g,off,none⟩:=e;rw [e];have HEE:=Hd e;clear hIr hv ht' hal e;go_wp2_with fail;go_at_call 80;refine HCD.o.mono ?_;rintro e w5 ⟨y,rfl,hX5,hB5⟩;have hB6:=(Below.refl w5.heap.size w5).alloc (Ath _) (.cells #[Aa Ab y.k,Aa Ab y.n,Aa Ac (y.u:Int),.string ⟨y.s.toArray⟩,.slice y.A y.an y.ac,.slice y.B y.bn y.bc] 26);have HB56:=Hd (B6 (B6 HAL.o hB5) hB6);have HO6:=Hd (HC.o.own.pure HB56.o);have HI6:=Hd (Akg w5 y);have HX5:=Hd hX5;have HS5:=Hd (show w3.heap.size≤(w5.alloc (.cells #[Aa Ab y.k,Aa Ab y.n,Aa Ac (y.u:Int),.string ⟨y.s.toArray⟩,.slice y.A y.an y.ac,.slice y.B y.bn y.bc] 26)).heap.size from Nat.le_trans HSR.o HB56.o.size);have HSS:=Hd (show(wr.alloc (.cells #[Aa Ab v.k,Aa Ab v.n,Aa Ac (v.u:Int),.string ⟨v.s.toArray⟩,.slice v.A v.an v.ac,.slice v.B v.bn v.bc] 26)).heap.size≤w5.heap.size from hB5.size);clear hX5 hB5 hB6 v0 v1 v2 v3 v4 v5;go_wp2_with (at_builtin;refine Dt _ rfl (.tmp 17) (.tmp 20) _ rfl 26 _ 6 88 Tryz.underlying24 Wf rfl (by omega) I3 Ael _ _ _ _ _ rfl HO6.o _ _ _ _ rfl HI6.o (by omega) HS5.o ?_;intro A2 c2 w6 hown hfr hat);have hA6:∀ad,A=some ad→w3.heap.size≤ad.block∧ad.block<wr.heap.size:=fun ad e=>(HC.o.own.addr ad e).2
    have hlr:wr.heap.size<(wr.alloc (.cells #[Aa Ab v.k,Aa Ab v.n,Aa Ac (v.u:Int),.string ⟨v.s.toArray⟩,.slice v.A v.an v.ac,.slice v.B v.bn v.bc] 26)).heap.size:=by simp
    have hst:=(HC.o.pure HB56.o).step (w:=w5) (a:=(wr.alloc (.cells #[Aa Ab v.k,Aa Ab v.n,Aa Ac (v.u:Int),.string ⟨v.s.toArray⟩,.slice v.A v.an v.ac,.slice v.B v.bn v.bc] 26)).heap.size) HT'.o (by have:=HSR.o;omega) (fun i b hb=>by have:=(HC.o.lt i b hb).2.1;omega) (fun ad e=>by have:=hA6 ad e;omega)
     (HX5.o.pure (fun b hb=>hb.2) ((Below.refl w5.heap.size w5).alloc (Ath _) (.cells #[Aa Ab y.k,Aa Ab y.n,Aa Ac (y.u:Int),.string ⟨y.s.toArray⟩,.slice y.A y.an y.ac,.slice y.B y.bn y.bc] 26))) (by simp) hown hfr hat
    have HST:=Hd hst;have hnb:∀b,b<w3.heap.size→¬(∃ad,A=some ad∧b=ad.block):=by
     rintro b hb ⟨ad,e,rfl⟩;have:=hA6 ad e;omega
    have HB7:=Hd (Bs (Ad HBR.o HB56.o) hfr (by rintro j ⟨ad,e,rfl⟩;have h1:=hA6 ad e;have h2:=HB2.o.size;omega));have HX7:=Hd ((HXR.o.pure HB56.o).fr hfr (hnb _ HX2.o.lt));have HR7:=Hd ((HRR.o.pure HB56.o).fr hfr (hnb _ HR2.o.lt));have HK7:=Hd ((HKR.o.pure HB56.o).fr hfr (fun ad e=>hnb _ (HKS.o.2 ad e).2.1));have HS7:=Hd (Nat.le_trans HS5.o hfr.size);clear hown hfr hat hst hnb hA6 hlr;go_wp2_with fail;go_roundw
    case rel=>exact⟨k+1,by omega,by go_num,A2,c2,_,_,rfl,HST.o,HB7.o,by rw [HEE.o] at *;exact HX7.o,HR7.o,HK7.o,HS7.o⟩
    case measure=>simp [intOf];omega
   ·obtain rfl:k=xbn:=by omega
    have c5:wr.cell? ⟨bt,5,none⟩=some (.slice XB k xbc):=HXR.o.cell 5;have f5:wr.frozen? ⟨bt,5,none⟩=false:=HXR.o.frozen 5;go_upto_region 9 with fail
    have HF8:=Hd (Fr.setCell (S:=fun j=>j=bt) (Fr.refl _ wr) (p:=⟨bt,5,none⟩) (fun _=>rfl) (.slice A k c));have HX8:=Hd (show Af (wr.setCell ⟨bt,5,none⟩ (.slice A k c)) bt 26 #[Aa Ab xk,Aa Ab xn,Aa Ac (xu:Int),.string ⟨xs.toArray⟩,.slice A1 xan c1,.slice A k c] from HXR.o.set_ 5 _);generalize wr.setCell ⟨bt,5,none⟩ (.slice A k c)=w8 at HF8 HX8⊢;have HR8:=Hd (HRR.o.fr HF8.o (by have:=HT.o.2;omega));have HS8:=Hd (show wr.heap.size≤w8.heap.size from HF8.o.size);have HB8:=Hd (Bs HBR.o HF8.o (by rintro j rfl;exact Nat.le_of_eq HT.o.1));clear c5 f5;have c0:w8.cell? ⟨bt,0,none⟩=some (Aa Ab xk):=HX8.o.cell 0;have c1':w8.cell? ⟨bt,1,none⟩=some (Aa Ab xn):=HX8.o.cell 1;have c2:w8.cell? ⟨bt,2,none⟩=some (Aa Ac (xu:Int)):=HX8.o.cell 2;have c3:w8.cell? ⟨bt,3,none⟩=some (.string ⟨xs.toArray⟩):=HX8.o.cell 3;have c4:w8.cell? ⟨bt,4,none⟩=some (.slice A1 xan c1):=HX8.o.cell 4;have c5:w8.cell? ⟨bt,5,none⟩=some (.slice A k c):=HX8.o.cell 5;obtain ⟨r0,r1,r2,r3,r4,r5⟩:=HR8.o.c6;have hfz:∀j,w8.frozen? ⟨br,j,none⟩=false:=fun j=>HR8.o.frozen j
    have f0:=hfz 0;have f1:=hfz 1;have f2:=hfz 2;have f3:=hfz 3;have f4:=hfz 4;have f5:=hfz 5;clear hfz;go_wp2_with fail;refine bodyPost_ret (v:= .agg #[Aa Ab xk,Aa Ab xn,Aa Ac (xu:Int),.string ⟨xs.toArray⟩,.slice A1 xan c1,.slice A k c]) (by simp [results,Tryz.results80,go_sem,r0,r1,r2,r3,r4,r5]) rfl ?_;have hF9:=Fx w8 br (Aa Ab xk) (Aa Ab xn) (Aa Ac (xu:Int)) (.string ⟨xs.toArray⟩) (.slice A1 xan c1) (.slice A k c);generalize (((((w8.setCell ⟨br,0,none⟩ (Aa Ab xk)).setCell ⟨br,1,none⟩ (Aa Ab xn)).setCell ⟨br,2,none⟩ (Aa Ac (xu:Int))).setCell ⟨br,3,none⟩ (.string ⟨xs.toArray⟩)).setCell ⟨br,4,none⟩ (.slice A1 xan c1)).setCell ⟨br,5,none⟩ (.slice A k c)=w9 at hF9⊢;have hC8:=HC.o;have hS:=HKS.o;have hb1:=HT.o;have hs1:=HS1.o;have hs2:=HS2.o;have hs8:=HF8.o.size;have hs9:=hF9.size;have hsr:=HSR.o;have hbw:=HB2.o.size;have hAl:∀ad,A=some ad→w3.heap.size≤ad.block∧ad.block<wr.heap.size:=fun ad e=>(hC8.own.addr ad e).2
    have hnb:∀b,b<wr.heap.size→b≠bt→b≠br→w9.heap[b]?=wr.heap[b]?:=fun b h1 h2 h3=>(hF9.block b (by omega) (by omega)).trans (HF8.o.block b h1 (by omega))
    have hlv:us.length=k:=hC8.own.1;refine⟨⟨xk,xn,xu,xs,A1,xan,c1,A,k,c⟩,rfl,Ix.mk (x:=⟨xk,xn,xu,xs,A1,xan,c1,A,k,c⟩) q ⟨HKR.o.1,?_⟩ (fun ad e=>⟨?_,fun i hi=>?_⟩) HCAP.o hxa (Wk (hC8.own.rebase (Atl _)) fun ad e=>?_) (fun ad e=>⟨?_,hC8.off ad e⟩) hxb (fun a b ea eb=>?_) (fun i b hb=>?_) hC8.apart (by rw [hlv,←HBN.o];exact HVL.o) (fun i v t hv ht=>(hC8.kids i v t hv ht).keep fun b hb=>?_),Bs HB8.o hF9 (by rintro j rfl;omega)⟩
    ·exact(HKR.o.2.fr HF8.o (fun ad e=>by have:=hS.2 ad e;omega)).fr hF9 (fun ad e=>by have:=hS.2 ad e;omega)
    ·have:=hS.2 ad e;omega
    ·have:=hS.2 ad e;have:=hC8.lt i _ hi;omega
    ·have:=hAl ad e;exact hnb _ (by omega) (by omega) (by omega)
    ·have:=hAl ad e;omega
    ·have:=hS.2 a ea;have:=hAl b eb;omega
    ·have:=hC8.lt i b hb;omega
    ·have:=hC8.lt i b hb;exact hnb _ (by omega) (by omega) (by omega)
theorem Am8{α:Type}{f:α→List Value}{sz:Nat}{e:TypeId}(hf:∀x,(f x).length=sz){w:World}{B g n c:Nat}{l:List α}(h:Go.Acc.Own f sz e w B (some ⟨g,0,none⟩) n c l):∃cur,Af w g e cur∧n*sz≤cur.size∧
  (∀(w':World) (cur':Array Value) (off k:Nat) (m:List α),Af w' g e cur'→Lw cur (off*sz) (m.flatMap f) (k*sz) cur'→m.length=k→off+k≤n→Go.Acc.Own f sz e w' B (some ⟨g,0,none⟩) n c (l.take off++m++l.drop (off+k))):=by
 obtain⟨hl,h1,h2⟩:=h;rcases h2 with⟨hv,_⟩|⟨g',cap,cur,hv,hb,hg,hnc,hcm,hcs,htake⟩
 ·cases hv
 ·injection hv with e1 _ e3
  injection e1 with e1
  injection e1 with e1
  subst e1 e3;have hns:n*sz≤cur.size:=by
   rw [hcs];exact Nat.mul_le_mul_right sz hnc
  refine⟨cur,hg,hns,?_⟩;intro w' cur' off k m hB hS hm hk;have hle:off*sz+k*sz≤n*sz:=by rw [←Nat.add_mul];exact Nat.mul_le_mul_right sz hk
  refine⟨by simp;omega,?_,.inr ⟨g,c,cur',rfl,hb,hB,hnc,hcm,by rw [hS.1];exact hcs,?_⟩⟩
  ·rw [Bj hf];simp;rw [hm,hl];congr 1;omega
  ·rw [hS.take (by rw [Bj hf,hm]) hle hns,htake,List.flatMap_append,List.flatMap_append,Me hf,Ob hf,Nat.add_mul]
theorem Aqh(cur:Array Value)(i:Nat)(x:Nv)(h:i+6≤cur.size):Lw cur i (Ic x) 6 ((((((cur.setIfInBounds i (Aa Ab x.k)).setIfInBounds (i+1) (Aa Ab x.n)).setIfInBounds (i+2) (Aa Ac (x.u:Int))).setIfInBounds (i+3) (.string ⟨x.s.toArray⟩)).setIfInBounds (i+4) (.slice x.A x.an x.ac)).setIfInBounds (i+5) (.slice x.B x.bn x.bc)):=by
 refine⟨by simp,fun j=>?_⟩;by_cases hj:i≤j∧j<i+6
 ·rw [if_pos hj];have hc:j=i∨j=i+1∨j=i+2∨j=i+3∨j=i+4∨j=i+5:=by omega
  rcases hc with rfl|rfl|rfl|rfl|rfl|rfl
  ·simp [Array.getElem?_setIfInBounds,Ic];omega
  ·simp [Array.getElem?_setIfInBounds,Ic];omega
  ·simp [Array.getElem?_setIfInBounds,Ic];omega
  ·simp [Array.getElem?_setIfInBounds,Ic];omega
  ·simp [Array.getElem?_setIfInBounds,Ic];omega
  ·simp [Array.getElem?_setIfInBounds,Ic];omega
 ·rw [if_neg hj];simp only [Array.getElem?_setIfInBounds];rw [if_neg (by omega),if_neg (by omega),if_neg (by omega),if_neg (by omega),if_neg (by omega),if_neg (by omega)]
theorem Ko{w:World}{B g n c i:Nat}{l:List Nv}(h:Jg w B (some ⟨g,0,none⟩) n c l)(hi:i<n)(x:Nv):
  (∀j,j<6→∃u,w.cell? ⟨g,i*6+j,none⟩=some u)∧(∀j,w.frozen? ⟨g,j,none⟩=false)∧Jg (((((((w).setCell ⟨g,i*6,none⟩ (Aa Ab (x).k)).setCell ⟨g,i*6+1,none⟩ (Aa Ab (x).n)).setCell ⟨g,i*6+2,none⟩ (Aa Ac ((x).u:Int))).setCell ⟨g,i*6+3,none⟩ (.string ⟨(x).s.toArray⟩)).setCell ⟨g,i*6+4,none⟩ (.slice (x).A (x).an (x).ac)).setCell ⟨g,i*6+5,none⟩ (.slice (x).B (x).bn (x).bc)) B (some ⟨g,0,none⟩) n c (l.set i x):=by
 obtain⟨cur,hK,hsz,hback⟩:=Am8 I3 h;refine⟨fun j hj=>⟨cur[i*6+j]'(by omega),by rw [hK.cell,Array.getElem?_eq_getElem (by omega)]⟩,fun j=>hK.frozen j,?_⟩;have hb:=hback _ _ i 1 [x] ((((((hK.set_ (i*6) (Aa Ab x.k)).set_ (i*6+1) (Aa Ab x.n)).set_ (i*6+2) (Aa Ac (x.u:Int))).set_ (i*6+3) (.string ⟨x.s.toArray⟩)).set_ (i*6+4) (.slice x.A x.an x.ac)).set_ (i*6+5) (.slice x.B x.bn x.bc)) (by simpa using Aqh cur (i*6) x (by omega)) rfl (by omega);have hl:l.length=n:=h.1;have e:l.take i++ [x]++l.drop (i+1)=l.set i x:=by
  rw [List.set_eq_take_append_cons_drop,if_pos (by omega)];simp
 rw [e] at hb;exact hb
theorem Aau(w:World)(g o:Nat)(x:Nv):Fr (fun j=>j=g) w (((((((w).setCell ⟨g,o,none⟩ (Aa Ab (x).k)).setCell ⟨g,o+1,none⟩ (Aa Ab (x).n)).setCell ⟨g,o+2,none⟩ (Aa Ac ((x).u:Int))).setCell ⟨g,o+3,none⟩ (.string ⟨(x).s.toArray⟩)).setCell ⟨g,o+4,none⟩ (.slice (x).A (x).an (x).ac)).setCell ⟨g,o+5,none⟩ (.slice (x).B (x).bn (x).bc)):=
 ((((((Fr.refl (fun j=>j=g) w).setCell (p:=⟨g,o,none⟩) (fun _=>rfl) _).setCell (p:=⟨g,o+1,none⟩) (fun _=>rfl) _).setCell (p:=⟨g,o+2,none⟩) (fun _=>rfl) _).setCell (p:=⟨g,o+3,none⟩) (fun _=>rfl) _).setCell (p:=⟨g,o+4,none⟩) (fun _=>rfl) _).setCell (p:=⟨g,o+5,none⟩) (fun _=>rfl) _
structure SrR(W0 wr:World)(q:Nat→Nat→Prop)(A:Option Addr)(n c k:Nat)(vs:List Nv)(ts:List Tr)(us:List Nv):Prop where
 own:Jg wr 0 A n c us
 rest:∀i,k≤i→us[i]?=vs[i]?
 done:∀(i:Nat) v t,i<k→us[i]?=some v→ts[i]?=some t→Bk wr (fun b=>q i b∨(W0.heap.size≤b∧b<wr.heap.size)) v (Aq t)
 fr:Fr (fun b=>(∃i,q i b)∨∃ad,A=some ad∧b=ad.block) W0 wr
 same:∀i b,k≤i→q i b→wr.heap[b]?=W0.heap[b]?
theorem SrR.step{W0 wr W5 W6:World}{q:Nat→Nat→Prop}{g n c k:Nat}{vs:List Nv}{ts:List Tr}{us:List Nv}{y:Nv}{t:Tr}(h:SrR W0 wr q (some ⟨g,0,none⟩) n c k vs ts us)(hk:k<n)(ht:ts[k]?=some t)
  (hq:∀i b,q i b→b<W0.heap.size∧b≠g) (hg:g<W0.heap.size) (hd:∀i j b,i≠j→q i b→¬q j b) (hb:Below wr.heap.size wr W5)
  (hy:Bk W6 (fun b=>q k b∨(W5.heap.size≤b∧b<W6.heap.size)) y (Aq t)) (hf:Fr (q k) W5 W6):
  SrR W0 (((((((W6).setCell ⟨g,k*6,none⟩ (Aa Ab (y).k)).setCell ⟨g,k*6+1,none⟩ (Aa Ab (y).n)).setCell ⟨g,k*6+2,none⟩ (Aa Ac ((y).u:Int))).setCell ⟨g,k*6+3,none⟩ (.string ⟨(y).s.toArray⟩)).setCell ⟨g,k*6+4,none⟩ (.slice (y).A (y).an (y).ac)).setCell ⟨g,k*6+5,none⟩ (.slice (y).B (y).bn (y).bc)) q (some ⟨g,0,none⟩) n c (k+1) vs ts (us.set k y):=by
 have hs:W0.heap.size≤wr.heap.size:=h.fr.size;have hs5:=hb.size;have hs6:=hf.size;have hO6:Jg W6 0 (some ⟨g,0,none⟩) n c us:=(h.own.pure hb).fr hf (fun ad e=>by injection e with e;subst e;intro hh;exact(hq k g hh).2 rfl);have hF7:=Aau W6 g (k*6) y;have hO7:=(Ko hO6 hk y).2.2;have hl:us.length=n:=h.own.1;clear hO6;generalize (((((((W6).setCell ⟨g,k*6,none⟩ (Aa Ab (y).k)).setCell ⟨g,k*6+1,none⟩ (Aa Ab (y).n)).setCell ⟨g,k*6+2,none⟩ (Aa Ac ((y).u:Int))).setCell ⟨g,k*6+3,none⟩ (.string ⟨(y).s.toArray⟩)).setCell ⟨g,k*6+4,none⟩ (.slice (y).A (y).an (y).ac)).setCell ⟨g,k*6+5,none⟩ (.slice (y).B (y).bn (y).bc))=W7 at hF7 hO7⊢;refine⟨hO7,fun i hi=>?_,fun i v t' hi hv ht'=>?_,?_,fun i b hi hqi=>?_⟩
 ·rw [List.getElem?_set_ne (by omega)];exact h.rest i (by omega)
 ·by_cases e:i=k
  ·subst e;rw [List.getElem?_set_self (by omega)] at hv;injection hv with hv
   subst hv;rw [ht] at ht';injection ht' with ht'
   subst ht';refine(hy.keep fun a u hc hp=>By hF7 hc ?_).mono fun b hb=>?_
   ·rcases hp with hp|hp
    ·exact(hq _ _ hp).2
    ·omega
   ·have:=hF7.size;rcases hb with hb|hb
    ·exact .inl hb
    ·exact .inr ⟨by omega,by omega⟩
  ·rw [List.getElem?_set_ne (by omega)] at hv;refine((h.done i v t' (by omega) hv ht').keep fun a u hc hp=>By hF7 (By hf (Ag hb hc) ?_) ?_).mono fun b hb=>?_
   ·intro hqk;rcases hp with hp|hp
    ·exact hd i k _ e hp hqk
    ·have:=(hq _ _ hqk).1;omega
   ·rcases hp with hp|hp
    ·exact(hq _ _ hp).2
    ·omega
   ·have:=hF7.size;rcases hb with hb|hb
    ·exact .inl hb
    ·exact .inr ⟨hb.1,by omega⟩
 ·refine((h.fr.trans (Fr.of_below hb (fun _=>False)) (fun _ _ h=>h.elim)).trans hf (fun i _ hh=> .inl ⟨k,hh⟩)).trans hF7 (fun i _ hh=> .inr ⟨_,rfl,hh⟩)
 ·obtain⟨h1,h2⟩:=hq i b hqi;rw [hF7.block b (by omega) h2,hf.block b (by omega) (fun hk=>hd i k b (by omega) hqi hk),hb.block b (by omega)];exact h.same i b (by omega) hqi
theorem Eg{w:World}{a:Addr}{u:Value}{g o:Nat}{x:Nv}(h:w.cell? a=some u)(hne:a.block≠g):World.cell? (((((((w).setCell ⟨g,o,none⟩ (Aa Ab (x).k)).setCell ⟨g,o+1,none⟩ (Aa Ab (x).n)).setCell ⟨g,o+2,none⟩ (Aa Ac ((x).u:Int))).setCell ⟨g,o+3,none⟩ (.string ⟨(x).s.toArray⟩)).setCell ⟨g,o+4,none⟩ (.slice (x).A (x).an (x).ac)).setCell ⟨g,o+5,none⟩ (.slice (x).B (x).bn (x).bc)) a=some u:=By (Aau w g o x) h hne
def Alr(w:World)(p:Nat→Prop)(t:Tr)(e:Ending)(w':World):Prop:=
 ∃x:Nv,e= .returned (.agg #[Aa Ab x.k,Aa Ab x.n,Aa Ac (x.u:Int),.string ⟨x.s.toArray⟩,.slice x.A x.an x.ac,.slice x.B x.bn x.bc])∧Bk w' (fun b=>p b∨(w.heap.size≤b∧b<w'.heap.size)) x (Aq t)∧Fr p w w'
theorem Apy(n:Nat):(madeCells #[.string ⟨#[]⟩] n).toList=(Atm n ([]:List UInt8)).flatMap Jc:=by
 apply List.ext_getElem?;intro j;by_cases hj:j<n
 ·have h1:=G7 Dp (Atm n ([]:List UInt8)) j 0 (by simpa using hj) (by omega);rw [Nat.mul_one,Nat.add_zero,List.getElem_replicate] at h1;rw [h1];simp [madeCells,hj,Jc,Nat.mod_one]
 ·rw [List.getElem?_eq_none (by simp [madeCells];omega),List.getElem?_eq_none (by rw [Bj Dp];simp;omega)]
def Ja:Nv:=⟨0,0,0,[],none,0,0,none,0,0⟩
theorem Apx(n:Nat):(madeCells #[Aa Ab 0,Aa Ab 0,Aa Ac 0,.string ⟨#[]⟩,.slice none 0 0,.slice none 0 0] (n*6)).toList=(Atm n Ja).flatMap Ic:=by
 apply List.ext_getElem?;intro j;by_cases hj:j<n*6
 ·have h1:=G7 I3 (Atm n Ja) (j/6) (j % 6) (by simp;omega) (by omega);rw [show j/6*6+j % 6=j by omega,List.getElem_replicate] at h1;rw [h1];have h6:j % 6=0∨j % 6=1∨j % 6=2∨j % 6=3∨j % 6=4∨j % 6=5:=by omega
  rcases h6 with h6|h6|h6|h6|h6|h6 <;>simp [madeCells,hj,Ic,Ja,h6]
 ·rw [List.getElem?_eq_none (by simp [madeCells];omega),List.getElem?_eq_none (by rw [Bj I3];simp;omega)]
theorem Arp(n:Nat)(hn:n≤1099511627776):∃Z:Array Value,Z.toList=(Atm n ([]:List UInt8)).flatMap Jc∧∀W:World,(Instr.makeSlice 23 (Aa Ab (n:Int)) (Aa Ab (n:Int))).run Tryz.prog W= .ok (.slice (some ⟨W.heap.size,0,none⟩) n n) (W.alloc (.cells Z 9)):=by
 obtain⟨i,hi,hz,hs,hb⟩:=info_parts R3;refine⟨_,Apy n,fun W=>?_⟩;have hr:=run_make (P:=Tryz.prog) W 23 9 i _ Tryz.underlying23 hi hz .i64 .i64 n n (by omega) (Int.le_refl _) (by rw [hb];omega) (by omega);simp only [Int.toNat_natCast,hs,Nat.mul_one] at hr;exact hr
theorem Apz(n:Nat)(hn:n≤1099511627776):∃Z:Array Value,Z.toList=(Atm n Ja).flatMap Ic∧∀W:World,(Instr.makeSlice 24 (Aa Ab (n:Int)) (Aa Ab (n:Int))).run Tryz.prog W= .ok (.slice (some ⟨W.heap.size,0,none⟩) n n) (W.alloc (.cells Z 26)):=by
 obtain⟨i,hi,hz,hs,hb⟩:=info_parts Wf;refine⟨_,Apx n,fun W=>?_⟩;have hr:=run_make (P:=Tryz.prog) W 24 26 i _ Tryz.underlying24 hi hz .i64 .i64 n n (by omega) (Int.le_refl _) (by rw [hb];omega) (by omega);simp only [Int.toNat_natCast,hs] at hr;exact hr
theorem Pr{α:Type}{f:α→List Value}{sz:Nat}{e:TypeId}(hf:∀x,(f x).length=sz)(W:World)(Z:Array Value)(n B:Nat)(l:List α)(hB:B≤W.heap.size)(hn:l.length=n)(hm:n≤1099511627776)(hZ:Z.toList=l.flatMap f):Go.Acc.Own f sz e (W.alloc (.cells Z e)) B (some ⟨W.heap.size,0,none⟩) n n l:=by
 refine⟨hn,?_⟩;have hs:Z.size=n*sz:=by rw [←Array.length_toList,hZ,Bj hf,hn]
 have:=World.ownsRow_lit (base:=B) (e:=e) (size:=sz) W Z n hB (by simp only [maxLen];omega) hs;rw [hZ] at this;exact this
def Alu(B n:Nat)(K:List (List UInt8))(L:List Nv)(u v:Value)(w:World):Prop:=
 ∃g h,u= .slice (some ⟨g,0,none⟩) n n∧v= .slice (some ⟨h,0,none⟩) n n∧Kz w B (some ⟨g,0,none⟩) n n K∧Jg w B (some ⟨h,0,none⟩) n n L∧g≠h
theorem Ar7{W:World}{Z Y:Array Value}{n:Nat}(hn:n≤1099511627776)(hZ:Z.toList=(Atm n ([]:List UInt8)).flatMap Jc)(hY:Y.toList=(Atm n Ja).flatMap Ic):
  Alu W.heap.size n (Atm n []) (Atm n Ja) (.slice (some ⟨W.heap.size,0,none⟩) n n) (.slice (some ⟨W.heap.size+1,0,none⟩) n n) ((W.alloc (.cells Z 9)).alloc (.cells Y 26)):=by
 have h1:=Pr (e:=9) Dp W Z n W.heap.size (Atm n []) (Ath _) (by simp) hn hZ;have h2:=Pr (e:=26) I3 (W.alloc (.cells Z 9)) Y n W.heap.size (Atm n Ja) (by simp) (by simp) hn hY;have e:(W.alloc (.cells Z 9)).heap.size=W.heap.size+1:=by simp
 rw [e] at h2;exact⟨_,_,rfl,rfl,h1.pure ((Below.refl _ _).alloc (Ath _) _),h2,by omega⟩
theorem Ar8{W:World}{Z Y:Array Value}{n:Nat}(hn:n≤1099511627776)(hZ:Z.toList=(Atm n ([]:List UInt8)).flatMap Jc)(hY:Y.toList=(Atm n Ja).flatMap Ic):
  Alu W.heap.size n (Atm n []) (Atm n Ja) (.slice (some ⟨W.heap.size+1,0,none⟩) n n) (.slice (some ⟨W.heap.size,0,none⟩) n n) ((W.alloc (.cells Y 26)).alloc (.cells Z 9)):=by
 have h2:=Pr (e:=26) I3 W Y n W.heap.size (Atm n Ja) (Ath _) (by simp) hn hY;have h1:=Pr (e:=9) Dp (W.alloc (.cells Y 26)) Z n W.heap.size (Atm n []) (by simp) (by simp) hn hZ;have e:(W.alloc (.cells Y 26)).heap.size=W.heap.size+1:=by simp
 rw [e] at h1;exact⟨_,_,rfl,rfl,h1,h2.pure ((Below.refl _ _).alloc (Ath _) _),by omega⟩
end Go.Proofs.YtgbjodnegkbfoaaGreat
