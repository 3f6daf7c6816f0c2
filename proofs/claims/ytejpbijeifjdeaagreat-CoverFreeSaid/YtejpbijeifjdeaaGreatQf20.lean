/- Parts of the proof. -/
import Derived.Test.YtejpbijeifjdeaaGreatQf19
import Derived.Deep.RegionHeld3
import Derived.Deep.Strs
set_option maxHeartbeats 4000000
set_option maxRecDepth 100000
open Go.Value renaming int→Aa
open Go.IntKind renaming i64→Ab,u64→Ac
open Nat renaming le_refl→Ae,lt_of_lt_of_le→Ax
open Go.RowKit.Below renaming refl→Af
open List renaming getElem?_eq_getElem→Ag,length_map→As,getElem?_eq_none→Bg,getElem?_append_left→Bh
open Go.Proofs.Tryz
open Go.Proofs.Tryz renaming prog→Ad
namespace Go.Proofs.YtejpbijeifjdeaaGreat
variable {w w' w1 W:World}{x:Nv}{B k rb c base:Nat}{A:Option Addr}{vs:List Nv}{o:Obj}{H:Type}{spare:Nat→Bool}{held:Bool}
section
open Go.RowKit Go.Acc
inductive I4(w:World):Nv→Tr→Prop
 |mk {x:Nv} {ks:List (List UInt8)} {l:List Tr} {vs:List Nv} (h1:Fs w x.A x.an ks) (h2:Gj w x.B x.bn vs) (hn:x.bn≤9223372036854775807) (hl:vs.length=l.length)
   (hc:∀(i:Nat) v t,vs[i]?=some v→l[i]?=some t→I4 w v t):I4 w x (.mk x.k x.n x.u x.s ks l)
theorem I4.pure{t:Tr}(h:I4 w x t)(hb:Below w.heap.size w w'):I4 w' x t:=by
 induction h with
 |mk h1 h2 hn hl hc ih=>exact .mk (h1.pure hb) (h2.pure hb) hn hl ih
structure Ud(w:World)(B k:Nat)(ts:List Tr)(A:Option Addr)(c:Nat)(vs:List Nv):Prop where
 own:J7 w B A k c vs
 len:ts.length=k
 kids:∀(i:Nat) v t,vs[i]?=some v→ts[i]?=some t→Ck w (fun b=>B≤b∧b<w.heap.size∧∀ad,A=some ad→b≠ad.block) v t
theorem Ud.nil(w:World)(B:Nat):Ud w B 0 [] none 0 []:=⟨Own.nil _ _,rfl,fun i v t hv _=>by simp at hv⟩
theorem Ud.fr{ts:List Tr}(h:Ud w B k ts A c vs)(hf:Fr (fun j=>j=rb) w w')(hr:rb<B):Ud w' B k ts A c vs:=
 ⟨h.own.fr hf (fun ad e=>by have:=(h.own.addr ad e).2.1;omega),h.len,fun i v t hv ht=>((h.kids i v t hv ht).keep fun a u hc hp=>C0 hf hc (by omega)).mono fun b hb=>⟨hb.1,Ax hb.2.1 hf.size,hb.2.2⟩⟩
theorem Ud.step{W7 W8:World}{a:Nat}{ts:List Tr}{A1:Option Addr}{c1:Nat}{y:Nv}{t:Tr}(h:Ud w B k ts A c vs)(hf:Fr (fun j=>j=rb) w W7)(hr:rb<B)(hB:B≤w.heap.size)(ha:w.heap.size≤a)
  (hx:Ck W7 (fun b=>a≤b∧b<W7.heap.size) y t) (ho:J7 W8 B A1 (k+1) c1 (vs++ [y])) (hF:Fr (fun b=>∃ad,A=some ad∧b=ad.block) W7 W8)
  (hat:A1.map (·.block)=A.map (·.block)∨A1.map (·.block)=some W7.heap.size):Ud W8 B (k+1) (ts++ [t]) A1 c1 (vs++ [y]):=by
 have m:∀ad,A=some ad→B≤ad.block∧ad.block<w.heap.size:=fun ad e=>(h.own.addr ad e).2
 have o:vs.length=k:=h.own.1;have q:=hf.size;have p:=hF.size;have f:∀ad,A1=some ad→(∃ad0,A=some ad0∧ad.block=ad0.block)∨ad.block=W7.heap.size:=by
  rintro ad rfl;rcases hat with e|e
  ·cases A with
   |none=>simp at e
   |some ad0=>simp at e;exact .inl ⟨ad0,rfl,e⟩
  ·simp at e;exact .inr e
 refine⟨ho,by rw [List.length_append,h.len];rfl,fun i v t' hv ht=>?_⟩;by_cases n:i<k
 ·rw [Bh (by omega)] at hv;rw [Bh (by rw [h.len];exact n)] at ht;refine((h.kids i v t' hv ht).keep fun b u hc hp=>C0 hF (C0 hf hc (by omega)) ?_).mono fun b hb=>⟨hb.1,by omega,fun ad e e2=>?_⟩
  ·rintro⟨ad,e,e2⟩;exact hp.2.2 ad e e2
  ·rcases f ad e with⟨ad0,d,l⟩|d
   ·exact hb.2.2 ad0 d (e2.trans l)
   ·omega
 ·have g:i=k:=by
   have:=(List.getElem?_eq_some_iff.1 hv).1;simp at this;omega
  subst g;rw [List.getElem?_append_right (by omega),o,Nat.sub_self] at hv;rw [List.getElem?_append_right (by rw [h.len];exact Ae _),h.len,Nat.sub_self] at ht;simp at hv ht;subst hv ht;refine(hx.keep fun b u hc hp=>C0 hF hc ?_).mono fun b hb=>⟨by omega,by omega,fun ad e e2=>?_⟩
  ·rintro⟨ad,e,e2⟩;have:=m ad e;omega
  ·rcases f ad e with⟨ad0,d,l⟩|d
   ·have:=m ad0 d;omega
   ·omega
def Aeu(W:World)(rb m:Nat)(t:Tr)(left:Nat)(e:Ending)(W':World):Prop:=
 ∃y:Nv,e= .returned (.agg (Afe y))∧Ck W' (fun b=>W.heap.size≤b∧b<W'.heap.size) y (Fj m t left).1∧Bk W' rb 110 #[Aa Ab ((Fj m t left).2:Int),Aa Ab (m:Int)]∧Fr (fun j=>j=rb) W W'
theorem qM(h:∀ad,A=some ad→(w1.alloc o).drew.heap.size≤ad.block):∀ad,A=some ad→¬ad.block=w1.heap.size:=by
 intro ad e;have h1:(w1.alloc o).heap.size≤ad.block:=h ad e;rw [Ku] at h1;omega
theorem Aeh:w1.heap.size≤(w1.alloc o).drew.heap.size:=by
 show w1.heap.size≤(w1.alloc o).heap.size;rw [Ku];omega
theorem tK(m:Nat){w0:World}{t:Tr}(h:I4 w0 x t):∀(W:World) (rb left:Nat),Below w0.heap.size w0 W→w0.heap.size≤rb→left≤1000→Bk W rb 110 #[Aa Ab (left:Int),Aa Ab (m:Int)]→
  Calls Ad 72 #[Afh rb,.agg (Afe x)] W (Aeu W rb m t left):=by
 induction h with
 | @mk x ks l vs h1 h2 hn hl hc ih=>
  intro W rb left hW X ej hR;obtain⟨C,D,xu,xs,XA,d,H,XB,xbn,O⟩:=x;have cg:=Hd ih;have HW:=Hd hW;have a8:=Hd (And.intro X hR.lt);replace h1:Fs w0 XA d ks:=h1;replace h2:Gj w0 XB xbn vs:=h2;replace hn:xbn≤9223372036854775807:=hn;have HI:=Hd h2;have bo:=Hd hl;have a1:=Hd (show vs.length=xbn from h2.1);have ao:=Bu W (.cells (Aff C D xu xs XA d H XB xbn O) 34) (.cells #[Aa Ab 0,Aa Ab 0,Aa Ac 0,.string ⟨#[]⟩,.slice none 0 0,.slice none 0 0] 34);have a0:=Hd ao;have aa:=Hd ((Bk.new W 34 (Aff C D xu xs XA d H XB xbn O)).alloc (.cells #[Aa Ab 0,Aa Ab 0,Aa Ac 0,.string ⟨#[]⟩,.slice none 0 0,.slice none 0 0] 34));have U:=Hd (Bk.new_ (w:=W.alloc (.cells (Aff C D xu xs XA d H XB xbn O) 34)) (g:=W.heap.size+1) (by simp) 34 #[Aa Ab 0,Aa Ab 0,Aa Ac 0,.string ⟨#[]⟩,.slice none 0 0,.slice none 0 0]);have aj:=Hd (hR.pure ao);have a5:=Hd (h1.pure (Bi hW ao));clear ih h1 h2 hl hc hW X hR ao;go_enter func72,ntmps72;go_upto_region 1 with fail
  generalize (W.alloc (.cells (Aff C D xu xs XA d H XB xbn O) 34)).alloc (.cells #[Aa Ab 0,Aa Ab 0,Aa Ac 0,.string ⟨#[]⟩,.slice none 0 0,.slice none 0 0] 34)=w1 at a0 aa U aj a5⊢;generalize B:W.heap.size=bt at aa U⊢;generalize b0:bt+1=br at U⊢;have HT:=Hd (show W.heap.size=bt∧bt+1=br∧br<w1.heap.size∧rb<bt from⟨B,b0,U.o.lt,by rw [←B];exact a8.o.2⟩);clear B b0;obtain ⟨x0,x1,x2,x3,x4⟩:=aa.o.c5;have r1:w1.cell? ⟨rb,1,none⟩=some (Aa Ab (m:Int)):=aj.o.cell 1;have a9:=Hd (show ∀W',Below w1.heap.size w1 W'→Calls Ad 141 #[.slice XA d H,Aa Ab 64,Aa Ab (m:Int)] W' (yZ W' (min d 64) ((ks.take 64).map fun x=>x.take m)) from fun W' hb=>oR XA d H ks 64 m W' (a5.o.pure hb) (by omega));have G:bt≠w1.heap.size:=by have:=HT.o;omega
  have da:rb≠w1.heap.size:=by have:=HT.o;omega
  have a2:=Hd (show Below w1.heap.size w1 w1.drew from(Af _ _).drew);have a3:=Hd (show Below w1.heap.size w1 (w1.alloc (.cells #[Aa Ab 0,Aa Ab 0,Aa Ac 0,.string ⟨#[]⟩,.slice none 0 0,.slice none 0 0] 34)).drew from((Af _ _).alloc (Ae _) _).drew);go_cut [5] (fun u5 wx=>∃wy,wy=wx∧∃g A c,u5= Afh g∧Bk wx g 34 #[Aa Ab C,Aa Ab D,Aa Ac (xu:Int),.string ⟨(xs.take m).toArray⟩,.slice A (min d 64) c,.slice none 0 0]∧Md wx w1.heap.size A (min d 64) c ((ks.take 64).map fun x=>x.take m)∧w1.heap.size≤g∧(∀ad,A=some ad→ad.block≠g)∧Below w1.heap.size w1 wx)
  case first=>
   go_region_held3 (fun w'=>w'.cell? ⟨bt,0,none⟩=some (Aa Ab C)∧w'.cell? ⟨bt,1,none⟩=some (Aa Ab D)∧w'.cell? ⟨bt,2,none⟩=some (Aa Ac (xu:Int))∧w'.cell? ⟨bt,3,none⟩=some (.string ⟨xs.toArray⟩)∧w'.cell? ⟨bt,4,none⟩=some (.slice XA d H)∧w'.cell? ⟨rb,1,none⟩=some (Aa Ab (m:Int)))
    ((with_reducible refine⟨?_,?_,?_,?_,?_,?_⟩) <;>(repeat (first|with_reducible assumption|with_reducible refine Bj ?_|with_reducible refine Bs _ ?_|with_reducible refine zJ ?_ ?_)))
    (first
     |(go_at_call 140;(with_reducible refine(fU xs m _).mono ?_);rintro e w' ⟨rfl,rfl⟩)
     |(go_at_call 141;(with_reducible refine(a9.o _ a2.o).mono ?_);rintro e w5 ⟨A5,c5,rfl,ab,f⟩;have y0:=Bl f (Bj x0);have y1:=Bl f (Bj x1);have y2:=Bl f (Bj x2);have y3:=Bl f (Bj x3);have y4:=Bl f (Bj x4);have y5:=Bl f (Bj r1);have R:=Hd ab;have Y:=Hd (C1 a2.o f);have d3:=Hd f;clear ab f)
     |(go_at_call 141;(with_reducible refine(a9.o _ a3.o).mono ?_);rintro e w5 ⟨A5,c5,rfl,ab,f⟩;have y0:=Bl f (Bj (Bs (.cells #[Aa Ab 0,Aa Ab 0,Aa Ac 0,.string ⟨#[]⟩,.slice none 0 0,.slice none 0 0] 34) x0));have y1:=Bl f (Bj (Bs (.cells #[Aa Ab 0,Aa Ab 0,Aa Ac 0,.string ⟨#[]⟩,.slice none 0 0,.slice none 0 0] 34) x1));have y2:=Bl f (Bj (Bs (.cells #[Aa Ab 0,Aa Ab 0,Aa Ac 0,.string ⟨#[]⟩,.slice none 0 0,.slice none 0 0] 34) x2));have y3:=Bl f (Bj (Bs (.cells #[Aa Ab 0,Aa Ab 0,Aa Ac 0,.string ⟨#[]⟩,.slice none 0 0,.slice none 0 0] 34) x3));have y4:=Bl f (Bj (Bs (.cells #[Aa Ab 0,Aa Ab 0,Aa Ac 0,.string ⟨#[]⟩,.slice none 0 0,.slice none 0 0] 34) x4));have y5:=Bl f (Bj (Bs (.cells #[Aa Ab 0,Aa Ab 0,Aa Ac 0,.string ⟨#[]⟩,.slice none 0 0,.slice none 0 0] 34) r1));have R:=Hd ab;have Y:=Hd (C1 a3.o f);have HQ:=Hd ((Bk.new w1 34 #[Aa Ab 0,Aa Ab 0,Aa Ac 0,.string ⟨#[]⟩,.slice none 0 0,.slice none 0 0]).drew.pure f);have q0:=HQ.o.cell 0;have q1:=HQ.o.cell 1;have q2:=HQ.o.cell 2;have q3:=HQ.o.cell 3;have q4:=HQ.o.cell 4;have q5:=HQ.o.cell 5;obtain ⟨p0,p1,p2,p3,p4,p5⟩:=HQ.o.f6;have d2:=Hd (show(w1.alloc (.cells #[Aa Ab 0,Aa Ab 0,Aa Ac 0,.string ⟨#[]⟩,.slice none 0 0,.slice none 0 0] 34)).heap.size≤w5.heap.size from f.size);clear ab f))
   all_goals
    go_wp2_with fail;go_meet
    first
     |exact⟨_,rfl,_,A5,c5,rfl,(((((HQ.o.set_ 0 _).set_ 1 _).set_ 2 _).set_ 3 _).set_ 4 _).set_ 5 _,(R.o.fr (G6 w5 w1.heap.size _ _ _ _ _ _) (qM (fun ad e=>(R.o.addr ad e).2.1))).rebase Aeh,Ae _,qM (fun ad e=>(R.o.addr ad e).2.1),Cq Y.o (G6 w5 w1.heap.size _ _ _ _ _ _) (by rintro j rfl;exact Ae _)⟩
     |exact⟨_,rfl,_,A5,c5,rfl,Bk.new _ _ _,R.o.pure ((Af w5.heap.size w5).alloc (Ae _) _),Y.o.size,fun ad e=>Nat.ne_of_lt (R.o.addr ad e).2.2,Y.o.alloc Y.o.size _⟩
  case rest=>
  obtain⟨w2,rfl,g,I,P,rfl,hG,ae,b2,bs,V⟩:=hcut;have HG:=Hd hG;have ck:=Hd ae;have ah:=Hd (Bi a0.o V);have cr:=Hd (aa.o.pure V);have cu:=Hd (U.o.pure V);have cl:=Hd (aj.o.pure V);have T:=Hd (show br<w1.heap.size∧w1.heap.size≤w2.heap.size∧w1.heap.size≤g∧g<w2.heap.size from⟨HT.o.2.2.1,V.size,b2,hG.lt⟩);have au:=Hd (show min d 64≤P from ae.cap.1);have E:=Hd (show ∀ad,I=some ad→w1.heap.size≤ad.block∧ad.block<w2.heap.size∧ad.block≠g from fun ad e=>⟨(ae.addr ad e).2.1,(ae.addr ad e).2.2,bs ad e⟩);clear x0 x1 x2 x3 x4 r1 hG ae b2 bs V G da a9 a2 a3 aa U aj a5 a0;go_upto_region 4 with fail
  go_wp2_with fail;go_loopw [6,7] (fun s u wr=>∃(k lf:Nat) (A:Option Addr) (c:Nat) (us:List Nv) (rs:List Tr),k≤xbn∧s= .slice A k c∧u= Aa Ab (k:Int)∧Ud wr w2.heap.size k rs A c us∧k+lf≤1000∧F4 m l left=(rs++(F4 m (l.drop k) lf).1,(F4 m (l.drop k) lf).2)∧
   Bk wr rb 110 #[Aa Ab (lf:Int),Aa Ab (m:Int)]∧Bk wr bt 34 (Aff C D xu xs XA d H XB xbn O)∧Bk wr br 34 #[Aa Ab 0,Aa Ab 0,Aa Ac 0,.string ⟨#[]⟩,.slice none 0 0,.slice none 0 0]∧Bk wr g 34 #[Aa Ab C,Aa Ab D,Aa Ac (xu:Int),.string ⟨(xs.take m).toArray⟩,.slice I (min d 64) P,.slice none 0 0]∧
   Fs wr I (min d 64) ((ks.take 64).map fun x=>x.take m)∧w2.heap.size≤wr.heap.size∧Fr (fun j=>j=rb) W wr) (fun _ u _=>1000-(intOf u).toNat)
  case atStart=>exact⟨0,left,none,0,[],[],Nat.zero_le _,rfl,rfl,Ud.nil _ _,by omega,by simp,cl.o,cr.o,cu.o,HG.o,ck.o.is,Ae _,Fr.of_below ah.o _⟩
  case round=>
   obtain⟨k,lf,A,c,us,rs,hk,rfl,rfl,hC,bd,b1,hr,hx,hz,hg,b3,aq,z⟩:=hrel;have J:=Hd hC;have a4:=Hd b1;have HR:=Hd hr;have HX:=Hd hx;have HZ:=Hd hz;have L:=Hd hg;have a6:=Hd b3;have ak:=Hd aq;have ai:=Hd z;have Z:=Hd bd;clear hC b1 hr hx hz hg b3 aq z;have x5:wr.cell? ⟨bt,5,none⟩=some (.slice XB xbn O):=HX.o.cell 5;have r0:wr.cell? ⟨rb,0,none⟩=some (Aa Ab (lf:Int)):=HR.o.cell 0;by_cases h1:k<xbn
   ·have eg:(k:Int)<(xbn:Int):=by omega
    by_cases h2:0<lf
    ·obtain⟨l',rfl⟩:∃l',lf=l'+1:=⟨lf-1,by omega⟩;obtain⟨v,hv⟩:∃v,vs[k]?=some v:=⟨_,Ag (by have:=a1.o;omega)⟩;obtain⟨t',bf⟩:∃t',l[k]?=some t':=⟨_,Ag (by have:=a1.o;have:=bo.o;omega)⟩;have b5:(wr.setCell ⟨rb,0,none⟩ (Aa Ab (l':Int))).heap.size=wr.heap.size:=by simp [World.setCell]
     have ap:=Fr.setCell (S:=fun j=>j=rb) (Fr.refl (fun j=>j=rb) wr) (p:=⟨rb,0,none⟩) (fun _=>rfl) (Aa Ab (l':Int));have f:Below w0.heap.size w0 (wr.setCell ⟨rb,0,none⟩ (Aa Ab (l':Int))):=HW.o.trans ((ai.o.trans ap (fun _ _ e=>e)).belowB (fun i hi e=>by have h:=a8.o.1;omega) HW.o.size);have b4:Bk (wr.setCell ⟨rb,0,none⟩ (Aa Ab (l':Int))) rb 110 #[Aa Ab (l':Int),Aa Ab (m:Int)]:=HR.o.set_ 0 _;have bk:=Hd (cg.o k v t' hv bf _ rb l' f a8.o.1 (by omega) b4);have bp:=Hd (HX.o.fr ap (by have:=HT.o;omega));have bu:Gj (wr.setCell ⟨rb,0,none⟩ (Aa Ab (l':Int))) XB xbn vs:=HI.o.pure f;obtain⟨gv,ek,e,v0,v1,v2,v3,v4,v5⟩:=H9 bu hv;have bl:=Hd ap;have bn:=Hd b5;have ce:=Hd (show F4 m l left=((rs++ [(Fj m t' l').1])++(F4 m (l.drop (k+1)) (Fj m t' l').2).1,(F4 m (l.drop (k+1)) (Fj m t' l').2).2) by
      obtain⟨q1,q2⟩:=List.getElem?_eq_some_iff.1 bf;rw [a4.o,List.drop_eq_getElem_cons q1,q2,F4,if_neg (by omega),Nat.add_sub_cancel];simp)
     have ci:=Hd (Sj m t' l').1;have dd:wr.cell? ⟨rb,0,none⟩=some (Aa Ab ((l':Int)+1)):=r0;have rf:wr.frozen? ⟨rb,0,none⟩=false:=HR.o.frozen 0;have eh:(0:Int)<(l':Int)+1:=by omega
     have ei:(l':Int)+1≤1000:=by have:=Z.o;omega
     have ee:(0:Int)≤(k:Int):=by omega
     have ef:(k:Int)≤1000:=by have:=Z.o;omega
     clear r0 ap f b4 bu hv bf b5;go_upto_region 7 with fail
     clear dd rf x5;generalize wr.setCell ⟨rb,0,none⟩ (Aa Ab (l':Int))=w5 at bk bp v0 v1 v2 v3 v4 v5 bl bn⊢;have x5:w5.cell? ⟨bt,5,none⟩=some (.slice XB xbn O):=bp.o.cell 5;rw [e] at x5;have HE:=Hd e;clear e;go_wp2_with fail;go_at_call 72;refine bk.o.mono ?_;rintro e w6 ⟨y,rfl,bv,bw,cx⟩;have cj:=Hd bv;have cm:=Hd bw;have hF:=bl.o.trans cx (fun _ _ e=>e);have bx:=(Af w6.heap.size w6).alloc (Ae _) (.cells (Afe y) 34);have an:=hF.trans (Fr.of_below bx (fun _=>False)) (fun _ _ h=>h.elim);have X:rb<w2.heap.size:=by have h1:=HT.o;have h2:=T.o;omega
     have Q:=Hd an;have cd:=Hd (J.o.fr an X);have a7:=cd.o.own;have a7:=Hd a7;have cf:=Hd (eY w6 y);have bm:=Hd (show w2.heap.size≤(w6.alloc (.cells (Afe y) 34)).heap.size from Nat.le_trans ak.o an.size);have aw:=Hd X;clear bv bw hF bx an X v0 v1 v2 v3 v4 v5 x5;go_wp2_with (at_builtin;refine Eb _ rfl (.tmp 51) (.tmp 59) _ rfl 34 _ 6 88 underlying32 T1 rfl (by omega) Jg Yf _ _ _ _ _ rfl a7.o _ _ _ _ rfl cf.o (by omega) bm.o ?_;intro A2 c2 w8 ax z bz);have bb:∀ad,A=some ad→w2.heap.size≤ad.block:=fun ad e=>(J.o.own.addr ad e).2.1
     have b6:=J.o.step Q.o aw.o ak.o (a:=w5.heap.size) (by rw [bn.o];exact Ae _) ((cj.o.pure ((Af w6.heap.size w6).alloc (Ae _) _)).mono fun b hb=>⟨hb.1,Ax hb.2 (by simp)⟩) ax z bz;have G:∀b,b<w2.heap.size→¬(∃ad,A=some ad∧b=ad.block):=by
      rintro b hb ⟨ad,e,rfl⟩;have:=bb ad e;omega
     have B:=HT.o;have N:=T.o;have cp:=Hd b6;have cn:=Hd ((cm.o.pure ((Af w6.heap.size w6).alloc (Ae _) _)).fr z (G rb aw.o));have cs:=Hd ((HX.o.fr Q.o (by omega)).fr z (G bt (by omega)));have M:=Hd ((HZ.o.fr Q.o (by omega)).fr z (G br (by omega)));have K:=Hd ((L.o.fr Q.o (by omega)).fr z (G g (by omega)));have ch:=Hd ((a6.o.fr Q.o (fun ad e=>by have:=E.o ad e;omega)).fr z (fun ad e=>G _ (E.o ad e).2.1));have co:=Hd (Nat.le_trans bm.o z.size);have n:=Hd ((ai.o.trans Q.o (fun _ _ e=>e)).trans z (fun i hi h=>by
      obtain⟨ad,e,rfl⟩:=h;have h1:=bb ad e;have h2:=ah.o.size;omega))
     clear ax z bz b6 G bb B N;go_wp2_with fail;go_roundw
     case rel=>exact⟨k+1,_,A2,c2,_,_,by omega,rfl,by go_num,cp.o,by have h1:=ci.o;have h2:=Z.o;omega,ce.o,cn.o,cs.o,M.o,K.o,ch.o,co.o,n.o⟩
     case measure=>simp [intOf];omega
    ·obtain rfl:lf=0:=by omega
     have r0:wr.cell? ⟨rb,0,none⟩=some (Aa Ab 0):=HR.o.cell 0;have F:=Hd (show F4 m l left=(rs,0) by rw [a4.o];cases l.drop k <;>simp [F4]);have g5:wr.cell? ⟨g,5,none⟩=some (.slice none 0 0):=L.o.cell 5;have gf:wr.frozen? ⟨g,5,none⟩=false:=L.o.frozen 5;go_upto_region 9 with fail
     have n:=Hd (Fr.setCell (S:=fun j=>j=g) (Fr.refl _ wr) (p:=⟨g,5,none⟩) (fun _=>rfl) (.slice A k c));have K:=Hd (show Bk (wr.setCell ⟨g,5,none⟩ (.slice A k c)) g 34 #[Aa Ab C,Aa Ab D,Aa Ac (xu:Int),.string ⟨(xs.take m).toArray⟩,.slice I (min d 64) P,.slice A k c] from L.o.set_ 5 _);generalize wr.setCell ⟨g,5,none⟩ (.slice A k c)=w8 at n K⊢;have B:=HT.o;have N:=T.o;have M:=Hd (HZ.o.fr n.o (by omega));clear g5 gf x5 r0;obtain ⟨c0,c1,c2,c3,c4,c5⟩:=K.o.c6;obtain ⟨q0,q1,q2,q3,q4,q5⟩:=M.o.c6;have r:∀j,w8.frozen? ⟨br,j,none⟩=false:=fun j=>M.o.frozen j
     have f0:=r 0;have f1:=r 1;have f2:=r 2;have f3:=r 3;have f4:=r 4;have f5:=r 5;clear r B N;go_wp2_with fail;refine bodyPost_ret (v:= .agg #[Aa Ab C,Aa Ab D,Aa Ac (xu:Int),.string ⟨(xs.take m).toArray⟩,.slice I (min d 64) P,.slice A k c]) (by simp [results,results72,go_sem,q0,q1,q2,q3,q4,q5]) rfl ?_;have q:=G6 w8 br (Aa Ab C) (Aa Ab D) (Aa Ac (xu:Int)) (.string ⟨(xs.take m).toArray⟩) (.slice I (min d 64) P) (.slice A k c);generalize (((((w8.setCell ⟨br,0,none⟩ (Aa Ab C)).setCell ⟨br,1,none⟩ (Aa Ab D)).setCell ⟨br,2,none⟩ (Aa Ac (xu:Int))).setCell ⟨br,3,none⟩ (.string ⟨(xs.take m).toArray⟩)).setCell ⟨br,4,none⟩ (.slice I (min d 64) P)).setCell ⟨br,5,none⟩ (.slice A k c)=w9 at q⊢;have B:=HT.o;have N:=T.o;have aq:=ak.o;have db:=n.o.size;have dc:=q.size;have c8:=ah.o.size;have bd:=Z.o;have hA:∀ad,A=some ad→w2.heap.size≤ad.block∧ad.block<wr.heap.size:=fun ad e=>(J.o.own.addr ad e).2
     have be:us.length=k:=J.o.own.1;refine⟨⟨C,D,xu,xs.take m,I,min d 64,P,A,k,c⟩,rfl,?_,?_,?_⟩
     ·rw [Fj,F.o];refine Ck.mk (x:=⟨C,D,xu,xs.take m,I,min d 64,P,A,k,c⟩) ((a6.o.fr n.o (fun ad e=>(E.o ad e).2.2)).fr q (fun ad e=>by have:=E.o ad e;omega)) (fun ad e=>by have:=E.o ad e;omega) au.o (show min d 64≤1099511627776 by omega) ((J.o.own.is.fr n.o (fun ad e=>by have:=hA ad e;omega)).fr q (fun ad e=>by have:=hA ad e;omega)) (fun ad e=>by have:=hA ad e;omega) J.o.own.cap.1 (show k≤1099511627776 by omega) (by rw [be];exact J.o.len.symm) (fun i v t hv ht=>((J.o.kids i v t hv ht).keep fun a u hc hp=>C0 q (C0 n.o hc (by omega)) (by omega)).mono fun b hb=>by omega)
     ·rw [Fj,F.o];exact(HR.o.fr n.o (by omega)).fr q (by omega)
     ·exact(ai.o.trans n.o (fun i hi e=>by omega)).trans q (fun i hi e=>by omega)
   ·obtain rfl:xbn=k:=by omega
    have F:=Hd (show F4 m l left=(rs,lf) by rw [a4.o,List.drop_of_length_le (by have h1:=a1.o;have h2:=bo.o;omega)];simp [F4]);have g5:wr.cell? ⟨g,5,none⟩=some (.slice none 0 0):=L.o.cell 5;have gf:wr.frozen? ⟨g,5,none⟩=false:=L.o.frozen 5;go_upto_region 9 with fail
    have n:=Hd (Fr.setCell (S:=fun j=>j=g) (Fr.refl _ wr) (p:=⟨g,5,none⟩) (fun _=>rfl) (.slice A xbn c));have K:=Hd (show Bk (wr.setCell ⟨g,5,none⟩ (.slice A xbn c)) g 34 #[Aa Ab C,Aa Ab D,Aa Ac (xu:Int),.string ⟨(xs.take m).toArray⟩,.slice I (min d 64) P,.slice A xbn c] from L.o.set_ 5 _);generalize wr.setCell ⟨g,5,none⟩ (.slice A xbn c)=w8 at n K⊢;have B:=HT.o;have N:=T.o;have M:=Hd (HZ.o.fr n.o (by omega));clear g5 gf x5 r0;obtain ⟨c0,c1,c2,c3,c4,c5⟩:=K.o.c6;obtain ⟨q0,q1,q2,q3,q4,q5⟩:=M.o.c6;have r:∀j,w8.frozen? ⟨br,j,none⟩=false:=fun j=>M.o.frozen j
    have f0:=r 0;have f1:=r 1;have f2:=r 2;have f3:=r 3;have f4:=r 4;have f5:=r 5;clear r B N;go_wp2_with fail;refine bodyPost_ret (v:= .agg #[Aa Ab C,Aa Ab D,Aa Ac (xu:Int),.string ⟨(xs.take m).toArray⟩,.slice I (min d 64) P,.slice A xbn c]) (by simp [results,results72,go_sem,q0,q1,q2,q3,q4,q5]) rfl ?_;have q:=G6 w8 br (Aa Ab C) (Aa Ab D) (Aa Ac (xu:Int)) (.string ⟨(xs.take m).toArray⟩) (.slice I (min d 64) P) (.slice A xbn c);generalize (((((w8.setCell ⟨br,0,none⟩ (Aa Ab C)).setCell ⟨br,1,none⟩ (Aa Ab D)).setCell ⟨br,2,none⟩ (Aa Ac (xu:Int))).setCell ⟨br,3,none⟩ (.string ⟨(xs.take m).toArray⟩)).setCell ⟨br,4,none⟩ (.slice I (min d 64) P)).setCell ⟨br,5,none⟩ (.slice A xbn c)=w9 at q⊢;have B:=HT.o;have N:=T.o;have aq:=ak.o;have db:=n.o.size;have dc:=q.size;have c8:=ah.o.size;have bd:=Z.o;have hA:∀ad,A=some ad→w2.heap.size≤ad.block∧ad.block<wr.heap.size:=fun ad e=>(J.o.own.addr ad e).2
    have be:us.length=xbn:=J.o.own.1;refine⟨⟨C,D,xu,xs.take m,I,min d 64,P,A,xbn,c⟩,rfl,?_,?_,?_⟩
    ·rw [Fj,F.o];refine Ck.mk (x:=⟨C,D,xu,xs.take m,I,min d 64,P,A,xbn,c⟩) ((a6.o.fr n.o (fun ad e=>(E.o ad e).2.2)).fr q (fun ad e=>by have:=E.o ad e;omega)) (fun ad e=>by have:=E.o ad e;omega) au.o (show min d 64≤1099511627776 by omega) ((J.o.own.is.fr n.o (fun ad e=>by have:=hA ad e;omega)).fr q (fun ad e=>by have:=hA ad e;omega)) (fun ad e=>by have:=hA ad e;omega) J.o.own.cap.1 (show xbn≤1099511627776 by omega) (by rw [be];exact J.o.len.symm) (fun i v t hv ht=>((J.o.kids i v t hv ht).keep fun a u hc hp=>C0 q (C0 n.o hc (by omega)) (by omega)).mono fun b hb=>by omega)
    ·rw [Fj,F.o];exact(HR.o.fr n.o (by omega)).fr q (by omega)
    ·exact(ai.o.trans n.o (fun i hi e=>by omega)).trans q (fun i hi e=>by omega)
end
section
open Go.RowKit Go.Acc Go.Deep
def Tw(w:World)(t:Tr)(e:Ending)(w':World):Prop:=
 ∃y:Nv,e= .returned (.agg (Afe y))∧Ck w' (fun b=>w.heap.size≤b∧b<w'.heap.size) y t∧Below w.heap.size w w'
theorem vQ(m nd:Nat){t:Tr}(h:I4 w x t)(hd:nd≤1000):Calls Ad 38 #[.agg (Afe x),Aa Ab ((nd:Int)+1),Aa Ab (m:Int)] w (Tw w (Fj m t nd).1):=by
 obtain⟨M,N,O,xs,K,q,p,L,y,r⟩:=x;have f:=Hd (Bu w (.cells (Aff M N O xs K q p L y r) 34) (.cells #[Aa Ab 0,Aa Ab 0,Aa Ac 0,.string ⟨#[]⟩,.slice none 0 0,.slice none 0 0] 34));have D:=Hd ((Bk.new w 34 (Aff M N O xs K q p L y r)).alloc (.cells #[Aa Ab 0,Aa Ab 0,Aa Ac 0,.string ⟨#[]⟩,.slice none 0 0,.slice none 0 0] 34));have d:=Hd (Bk.new_ (w:=w.alloc (.cells (Aff M N O xs K q p L y r) 34)) (g:=w.heap.size+1) (by simp) 34 #[Aa Ab 0,Aa Ab 0,Aa Ac 0,.string ⟨#[]⟩,.slice none 0 0,.slice none 0 0]);have Z:=Hd h;have ad:(0:Int)≤(nd:Int):=by omega
 have ae:(nd:Int)≤1000:=by omega
 have Y:=Hd hd;clear h hd;go_enter func38,ntmps38;go_upto_region 1 with fail
 generalize (w.alloc (.cells (Aff M N O xs K q p L y r) 34)).alloc (.cells #[Aa Ab 0,Aa Ab 0,Aa Ac 0,.string ⟨#[]⟩,.slice none 0 0,.slice none 0 0] 34)=w1 at f D d⊢;generalize J:w.heap.size=bt at D d⊢;generalize I:bt+1=br at d⊢;have HT:=Hd (And.intro J I);clear J I;go_upto_region 2 with fail
 have l:=(Af w1.heap.size w1).alloc (Ae _) (.cells #[Aa Ab (nd:Int),Aa Ab (m:Int)] 110);have R:=Hd (Bk.new w1 110 #[Aa Ab (nd:Int),Aa Ab (m:Int)]);have F:=Hd (D.o.pure l);have G:=Hd (d.o.pure l);have C:=Hd (Bi f.o l);have E:=Hd (show br<w1.heap.size from d.o.lt);clear l;have V:=Hd (tK m Z.o _ w1.heap.size nd C.o f.o.size Y.o R.o);generalize w1.alloc (.cells #[Aa Ab (nd:Int),Aa Ab (m:Int)] 110)=w2 at R F G C V⊢;obtain ⟨x0,x1,x2,x3,x4,x5⟩:=F.o.c6;go_wp2_with fail;go_at_call 72;refine V.o.mono ?_;rintro e X ⟨z,rfl,W,T,i⟩;have HN:=Hd W;have Q:=Hd i;have H:=Hd (G.o.fr i (by have:=E.o;omega));have S:=Hd (show w1.heap.size<w2.heap.size from R.o.lt);have P:=Hd (Cq C.o i (by rintro j rfl;exact f.o.size));clear W T i x0 x1 x2 x3 x4 x5;obtain ⟨r0,r1,r2,r3,r4,r5⟩:=H.o.c6;have c:∀j,X.frozen? ⟨br,j,none⟩=false:=fun j=>H.o.frozen j
 have f0:=c 0;have f1:=c 1;have f2:=c 2;have f3:=c 3;have f4:=c 4;have f5:=c 5;clear c;go_wp2_with fail;refine bodyPost_ret (v:= .agg (Afe z)) (by simp [results,results38,go_sem,r0,r1,r2,r3,r4,r5]) rfl ?_;have U:=G6 X br (Aa Ab z.k) (Aa Ab z.n) (Aa Ac (z.u:Int)) (.string ⟨z.s.toArray⟩) (.slice z.A z.an z.ac) (.slice z.B z.bn z.bc);have hs:=E.o;have ht:=HT.o;have h4:=Q.o.size;have h5:=U.size;have h6:=S.o;exact⟨z,rfl,(HN.o.keep fun a u hc hp=>C0 U hc (by omega)).mono fun b hb=>⟨by omega,by omega⟩,Cq P.o U (by rintro j rfl;omega)⟩
theorem jB{enc:TypeId×Value→H}{P:Program}{t:TypeId}{fs:Array Field}{fuel:Nat}{cs:List Value}{x:DataW H×List MemPlace}
  (he:P.underlying t=some (.struct fs)) (hone:oneCellFields P fs=true) (hC:P.cellsOf t=fs.size) (h:DataW.trod enc P w base spare held fuel t cs=some x):
  ∃n,fuel=n+1∧cs.length=fs.size∧∀(j:Nat) (f:Field),fs[j]?=some f→∃(v:Value) (y:DataW H×List MemPlace),cs[j]?=some v∧DataW.trod enc P w base spare held n f.type [v]=some y:=by
 obtain⟨ys,n,i,_,c,l,d⟩:=DataW.trod_struct he h;rw [hC] at c;refine⟨n,i,c,fun j f hj=>?_⟩;obtain⟨k,g⟩:=hone_of hone j f hj;have e:j<fs.size:=(Array.getElem?_eq_some_iff.1 hj).1;have h1:=d j f hj;rw [k,g] at h1;have a:(cs.drop j).take 1=[cs[j]'(by omega)]:=by
  rw [List.drop_eq_getElem_cons (by omega)];rfl
 rw [a] at h1;have b:ys[j]?=some (ys[j]'(by omega)):=Ag (by omega);exact⟨_,_,Ag (by omega),h1.trans b⟩
theorem mJ:Ad.cellsOf 34=6:=by kernel_rfl
theorem qB:Ad.cellsOf 9=1:=by kernel_rfl
theorem zB(s:ByteArray):(.string s:Value)= .string ⟨s.data.toList.toArray⟩:=by
 cases s;simp
theorem eV{enc:TypeId×Value→H}:∀(fuel:Nat) (cs:List Value) (x:DataW H×List MemPlace),DataW.trod enc Ad W base spare held fuel 34 cs=some x→
  ∃(nv:Nv) (t:Tr),cs=Jm nv∧I4 W nv t∧G0 t:=by
 intro fuel
 induction fuel using Nat.strongRecOn with
 |ind fuel ih=>
  intro cs x h;obtain⟨n,rfl,N,c⟩:=jB underlying34 (by kernel_rfl) (by kernel_rfl) h;obtain⟨v0,y0,Q,t0⟩:=c 0 _ rfl;obtain⟨v1,y1,R,t1⟩:=c 1 _ rfl;obtain⟨v2,y2,S,t2⟩:=c 2 _ rfl;obtain⟨v3,y3,T,t3⟩:=c 3 _ rfl;obtain⟨v4,y4,U,t4⟩:=c 4 _ rfl;obtain⟨v5,y5,V,t5⟩:=c 5 _ rfl;clear c;obtain⟨k,y,_,_⟩:=DataW.trod_int underlying3 t0;obtain⟨m,C,_,F⟩:=DataW.trod_int underlying2 t1;obtain⟨u,K,_,L⟩:=DataW.trod_int underlying26 t2;obtain⟨s,I,_,_⟩:=DataW.trod_string underlying9 t3;have D:=rM F;have af:=Ad3 L;obtain⟨u,rfl⟩:∃u':Nat,u=(u':Int):=⟨u.toNat,by omega⟩;obtain⟨A,an,ac,X,ks,d⟩:∃A an ac,v4= .slice A an ac∧∃ks,Fs W A an ks:=by
   rcases open_strs underlying31 underlying9 qB t4 with⟨h0,_⟩|⟨a,len,b,mm,P,h0,_,z,_,E,_,hi⟩
   ·injection h0 with h0
    exact⟨none,0,0,h0,[],Is.nil _ _⟩
   ·injection h0 with h0
    obtain⟨ks,d,_⟩:=Uj (f:=Ke) Ei (by omega) (w:=W) (a:=a) (n:=len) (fun _=>True) (fun i hil=>⟨(P i).data.toList,trivial,fun j hj=>by
     obtain rfl:j=0:=by omega
     rw [Nat.mul_one,Nat.add_zero,(hi i (by rw [E];split <;>omega)).1,zB];rfl⟩)
    exact⟨some a,len,b,h0,ks,d⟩
  obtain⟨B,bn,bc,Y,q,vs,g,G⟩:∃B bn bc,v5= .slice B bn bc∧bn≤9223372036854775807∧∃vs,Gj W B bn vs∧∀v∈vs,∃t,I4 W v t∧G0 t:=by
   rcases DataW.trod_slice underlying32 t5 with⟨h0,_⟩|⟨a,len,b,o,O,n',ae,h0,_,_,z,r,ad,hi,_,_⟩
   ·injection h0 with h0
    exact⟨none,0,0,h0,by omega,[],Is.nil _ _,fun v hv=>by simp at hv⟩
   ·injection h0 with h0
    simp only [maxLen] at r;obtain⟨vs,g,G⟩:=Uj (f:=Jm) Jg (by omega) (w:=W) (a:=a) (n:=len) (fun v=>∃t,I4 W v t∧G0 t) (fun i hil=>by
     have h1:=hi i hil;rw [mJ,Ag (by omega)] at h1;cases hc:W.cells? base (a.add (i*6)) 6 with
     |none=>rw [hc] at h1;cases h1
     |some cs'=>
      rw [hc] at h1;obtain⟨nv,t,rfl,Z,hT⟩:=ih n' (by omega) _ _ h1;obtain⟨_,ab,p⟩:=World.cells?_some hc;exact⟨nv,⟨t,Z,hT⟩,fun j hj=>by rw [←Go.Deep.add_add];exact p j hj⟩)
    exact⟨some a,len,b,h0,by omega,vs,g,G⟩
  obtain⟨ts,J,l⟩:=Yc (fun i t=>∀v,vs[i]?=some v→I4 W v t∧G0 t) vs.length (fun i hi=>by
   obtain⟨t,h1,h2⟩:=G vs[i] (List.getElem_mem _);exact⟨t,fun v hv=>by rw [Ag hi] at hv;injection hv with hv;rw [←hv];exact⟨h1,h2⟩⟩)
  refine⟨⟨k,m,u,s.data.toList,A,an,ac,B,bn,bc⟩,.mk k m u s.data.toList ks ts,?_,?_,?_⟩
  ·apply List.ext_getElem?;intro j;have M:j=0∨j=1∨j=2∨j=3∨j=4∨j=5∨6≤j:=by omega
   rcases M with rfl|rfl|rfl|rfl|rfl|rfl|M
   ·rw [Q];injection y with y;rw [y];rfl
   ·rw [R];injection C with C;rw [C];rfl
   ·rw [S];injection K with K;rw [K];rfl
   ·rw [T];injection I with I;rw [I,zB];rfl
   ·rw [U,X];rfl
   ·rw [V,Y];rfl
   ·have N:cs.length=6:=N;rw [Bg (by omega),Bg (by simp [Jm];omega)]
  ·exact I4.mk (x:=⟨k,m,u,s.data.toList,A,an,ac,B,bn,bc⟩) d g q J.symm (fun i v t hv ht=>by
    obtain⟨hi,e⟩:=List.getElem?_eq_some_iff.1 ht;rw [←e];exact(l i hi v hv).1)
  ·refine .mk D (by omega) (fun t ht=>?_);obtain⟨i,hi,e⟩:=List.getElem_of_mem ht;rw [←e];exact(l i hi vs[i] (Ag (by omega))).2
theorem wZ{enc:TypeId×Value→H}{v:Value}{d:DataW H}{p:List MemPlace}(k:Value.okWide Ad W .any base 34 v)(h:DataW.Trod enc Ad W 0 (fun _=>true) true 34 v d p):
  ∃(x:Nv) (t:Tr),v= .agg (Afe x)∧I4 W x t∧G0 t:=by
 obtain⟨a,g⟩:=h;obtain⟨x,t,b,c,f⟩:=eV a _ _ g;obtain⟨cs,rfl⟩:∃cs,v= .agg cs:=by
  unfold Value.okWide at k;rw [underlying34] at k;obtain⟨cs,e,_⟩:=k;exact⟨cs,e⟩
 refine⟨x,t,?_,c,f⟩;have b:cs.toList=Jm x:=b;have:cs=(Afe x):=by
  cases cs;simp only at b;rw [b];rfl
 rw [this]
end
section
open Go.RowKit Go.Acc
theorem vP(m nd:Nat)(t:Tr)(h:(124+2*m)*(nd+1)≤65000):(Fj m t nd).1.cost≤64+2*m+64*(m+20)+nd*(104+2*m+64*(m+20))∧(Ft (Fj m t nd).1→(Fj m t nd).1.cost≤65000):=by
 have h1:=Sj m t nd;have h2:=U2 m t nd 0;refine⟨?_,fun hv=>?_⟩
 ·have h3:(nd-(Fj m t nd).2)*(104+2*m+64*(m+20))≤nd*(104+2*m+64*(m+20)):=Nat.mul_le_mul_right _ (Nat.sub_le _ _);exact Nat.le_trans h1.2 (Nat.add_le_add_left h3 _)
 ·have h3:=bX m _ 0 hv (U1 m t nd);have a:(Tr.pre 0 (Fj m t nd).1).length*(124+2*m)≤(nd+1)*(124+2*m):=Nat.mul_le_mul_right _ (by omega);rw [Nat.mul_comm (124+2*m)] at h;omega
mutual
theorem kN{m:Nat}:∀(t:Tr) (d:Nat),Yy m t→∀y∈Tr.pre d t,∀s∈y.2.ks,s.length≤m
 | .mk k n u s ks l,d,h,y,hy=>by
  cases h with
  |mk l1 l2 l3=>
   rw [Tr.pre] at hy;rcases List.mem_cons.1 hy with rfl|hy
   ·exact l2
   ·exact fH l (d+1) l3 y hy
theorem fH{m:Nat}:∀(l:List Tr) (d:Nat),(∀t∈l,Yy m t)→∀y∈Tr.pre.Tr.preL d l,∀s∈y.2.ks,s.length≤m
 | [],_,_,y,hy=>by simp [Tr.pre.Tr.preL] at hy
 |t::r,d,h,y,hy=>by
  rw [Tr.pre.Tr.preL] at hy;rcases List.mem_append.1 hy with hy|hy
  ·exact kN t d (h t (by simp)) y hy
  ·exact fH r d (fun x hx=>h x (by simp [hx])) y hy
end
theorem qN(m nd:Nat){t:Tr}(h:I4 w x t)(hN:G0 t)(h1:(124+2*m)*(nd+1)≤65000):
  ∃T,(∀W,Below w.heap.size w W→Calls Ad 38 #[.agg (Afe x),Aa Ab ((nd:Int)+1),Aa Ab (m:Int)] W (Tw W T))∧G0 T∧R4 T∧(Ft T→T.cost≤65000)∧(Tr.pre 0 T).length≤nd+1:=by
 have a:=vP m nd t h1;have b:=U2 m t nd 0;refine⟨(Fj m t nd).1,fun W hb=>?_,cJ m t nd hN,⟨fun y hy s hs=>?_,?_⟩,a.2,by omega⟩
 ·have h2:124*(nd+1)≤(124+2*m)*(nd+1):=Nat.mul_le_mul_right _ (by omega);exact vQ m nd (h.pure hb) (by omega)
 ·have:=kN _ 0 (U1 m t nd) y hy s hs;have:124+2*m≤(124+2*m)*(nd+1):=Nat.le_mul_of_pos_right _ (by omega);omega
 ·have:nd+1≤(124+2*m)*(nd+1):=Nat.le_mul_of_pos_left _ (by omega);omega
end
section
open Go.Acc
mutual
def Tr.sz:Tr→Nat
 | .mk _ _ _ _ _ l=>1+Tr.szL l
def Tr.szL:List Tr→Nat
 | []=>0
 |t::r=>t.sz+Tr.szL r
end
mutual
def Tr.high:Tr→Nat
 | .mk _ _ _ _ _ l=>1+Tr.highL l
def Tr.highL:List Tr→Nat
 | []=>0
 |t::r=>max t.high (Tr.highL r)
end
theorem dV{ez et:Int}:∀(l had:List (List UInt8)),(∀s∈l,(0:UInt8)∉s)→l.Nodup→(∀s∈l,s∉had)→Jl ez et had l=0
 | [],_,_,_,_=>rfl
 |k::r,had,h1,h2,h3=>by
  have c:Ci k=false:=by
   cases e:Ci k with
   |false=>rfl
   |true=>
    obtain⟨x,b,e⟩:=List.any_eq_true.1 e;have:x=0:=by simpa using e
    subst this;exact absurd b (h1 k (by simp))
  have a:had.contains k=false:=by
   cases e:had.contains k with
   |false=>rfl
   |true=>exact absurd (by simpa using e) (h3 k (by simp))
  obtain⟨d,f⟩:=List.nodup_cons.1 h2;unfold Jl;rw [if_neg (by rw [c];decide),if_neg (by rw [a];decide)];refine dV r (k::had) (fun s hs=>h1 s (by simp [hs])) f fun s hs hm=>?_
  rcases List.mem_cons.1 hm with rfl|hm
  ·exact d hs
  ·exact h3 s (by simp [hs]) hm
mutual
theorem jQ{e:Rw}(he:e.Ok):∀(t:Tr) (d c:Nat),(Gk e d t c).1=0→d+t.high≤64∧c+t.sz≤4096∧(Gk e d t c).2=c+t.sz
 | .mk k n u s ks l,d,c,h=>by
  rw [Gk] at h⊢;by_cases h1:c+1>4096
  ·rw [if_pos h1] at h;exact absurd h he.limit
  rw [if_neg h1] at h⊢;by_cases h2:d≥64
  ·rw [if_pos h2] at h;exact absurd h he.deep
  rw [if_neg h2] at h⊢;by_cases h3:Ep (.mk k n u s ks l)=false
  ·rw [if_pos h3] at h;exact absurd h he.kind
  rw [if_neg h3] at h⊢;by_cases f:It e.key e.twice (.mk k n u s ks l)≠0
  ·rw [if_pos f] at h;exact absurd h f
  rw [if_neg f] at h⊢;obtain⟨a,b,g⟩:=bK he l (d+1) (c+1) h;rw [Tr.high,Tr.sz,g];refine⟨?_,?_,by omega⟩
  ·cases l with
   |nil=>rw [Tr.highL];omega
   |cons x r=>have:=a (by simp);omega
  ·cases l with
   |nil=>rw [Tr.szL];omega
   |cons x r=>have:=b (by simp);omega
theorem bK{e:Rw}(he:e.Ok):∀(l:List Tr) (d c:Nat),(Lm e d l c).1=0→(l≠ []→d+Tr.highL l≤64)∧(l≠ []→c+Tr.szL l≤4096)∧(Lm e d l c).2=c+Tr.szL l
 | [],_,_,_=>⟨fun h=>absurd rfl h,fun h=>absurd rfl h,rfl⟩
 |x::r,d,c,h=>by
  rw [Lm] at h⊢;by_cases h1:(Gk e d x c).1≠0
  ·rw [if_pos h1] at h;exact absurd h h1
  rw [if_neg h1] at h⊢;obtain⟨i,j,f⟩:=jQ he x d c (Decidable.not_not.1 h1);obtain⟨g,a,b⟩:=bK he r d _ h;rw [f] at a b⊢;rw [Tr.highL,Tr.szL];refine⟨fun _=>?_,fun _=>?_,by rw [b];omega⟩
  ·cases r with
   |nil=>rw [Tr.highL];omega
   |cons y q=>have:=g (by simp);omega
  ·cases r with
   |nil=>rw [Tr.szL];omega
   |cons y q=>have:=a (by simp);omega
end
mutual
theorem qD{e:Rw}:∀(t:Tr) (d c:Nat),Ft t→d+t.high≤64→c+t.sz≤4096→Gk e d t c=(0,c+t.sz)
 | .mk k n u s ks l,d,c,h,hd,hc=>by
  rw [Tr.high] at hd;rw [Tr.sz] at hc⊢;cases h with
  |mk h1 h2 h3 h4 hl=>
   rw [Gk,if_neg (by omega),if_neg (by omega),if_neg (by rw [h1];decide)];have b:It e.key e.twice (.mk k n u s ks l)=0:=by
    show(if k=5∧Ci s=true then e.key else Jl e.key e.twice [] ks)=0;rw [if_neg,dV ks [] h3 h4 (fun _ _ h=>by simp at h)];rintro⟨a,g⟩;obtain⟨x,f,e⟩:=List.any_eq_true.1 g;have:x=0:=by simpa using e
    subst this;exact h2 a f
   rw [if_neg (by rw [b];decide),jO l (d+1) (c+1) hl (by omega) (by omega)];rw [Nat.add_assoc]
theorem jO{e:Rw}:∀(l:List Tr) (d c:Nat),(∀t∈l,Ft t)→d+Tr.highL l≤64→c+Tr.szL l≤4096→Lm e d l c=(0,c+Tr.szL l)
 | [],_,_,_,_,_=>rfl
 |x::r,d,c,h,hd,hc=>by
  rw [Tr.highL] at hd;rw [Tr.szL] at hc⊢;rw [Lm,qD x d c (h x (by simp)) (by omega) (by omega),if_neg (by simp),jO r d _ (fun y hy=>h y (by simp [hy])) (by omega) (by omega),Nat.add_assoc]
end
theorem yK{a b:List Tr}(h:a.Perm b):Tr.szL a=Tr.szL b:=by
 induction h with
 |nil=>rfl
 |cons x _ ih=>rw [Tr.szL,Tr.szL,ih]
 |swap x y l=>rw [Tr.szL,Tr.szL,Tr.szL,Tr.szL];omega
 |trans _ _ h1 h2=>exact h1.trans h2
theorem nL{a b:List Tr}(h:a.Perm b):Tr.highL a=Tr.highL b:=by
 induction h with
 |nil=>rfl
 |cons x _ ih=>rw [Tr.highL,Tr.highL,ih]
 |swap x y l=>rw [Tr.highL,Tr.highL,Tr.highL,Tr.highL];omega
 |trans _ _ h1 h2=>exact h1.trans h2
mutual
theorem lG:∀(t:Tr),Ft t→(By t).sz=t.sz∧(By t).high=t.high
 | .mk k n u s ks l,h=>by
  cases h with
  |mk h1 h2 h3 h4 hl=>
   have b:=gB l hl;have g:(Cp l).length=l.length:=by rw [Cx,As]
   simp only [Ep,Bool.and_eq_true,decide_eq_true_eq] at h1;obtain⟨⟨⟨_,a⟩,_⟩,_⟩:=h1;rw [By];by_cases c:k=17
   ·rw [if_pos c];have a:ks.length=l.length:=a c;have f:=Eo (ks.zip (Cp l));have d:=yK (f.map (·.2));have e:=nL (f.map (·.2));rw [List.map_snd_zip (by omega)] at d e;rw [Tr.sz,Tr.sz,Tr.high,Tr.high,d,e,b.1,b.2];exact⟨rfl,rfl⟩
   ·rw [if_neg c,Tr.sz,Tr.sz,Tr.high,Tr.high,b.1,b.2];exact⟨rfl,rfl⟩
theorem gB:∀(l:List Tr),(∀t∈l,Ft t)→Tr.szL (Cp l)=Tr.szL l∧Tr.highL (Cp l)=Tr.highL l
 | [],_=>⟨rfl,rfl⟩
 |t::r,h=>by
  have h1:=lG t (h t (by simp));have h2:=gB r (fun x hx=>h x (by simp [hx]));rw [Cp,Tr.szL,Tr.szL,Tr.highL,Tr.highL,h1.1,h1.2,h2.1,h2.2];exact⟨rfl,rfl⟩
end
theorem gP{t:Tr}(h:Ft t):Ft (By t):=by
 induction h with
 |mk h1 h2 h3 h4 hl ih=>
  rename_i k n u s ks l;have j:∀t∈Cp l,Ft t:=by
   intro t ht;rw [Cx] at ht;obtain⟨x,hx,rfl⟩:=List.mem_map.1 ht;exact ih x hx
  have e:(Cp l).length=l.length:=by rw [Cx,As]
  have r:=h1;simp only [Ep,Bool.and_eq_true,decide_eq_true_eq] at h1;obtain⟨⟨⟨⟨⟨⟨⟨⟨⟨g,i⟩,m⟩,o⟩,p⟩,w⟩,q⟩,a⟩,z⟩,v⟩:=h1;rw [By];by_cases b:k=17
  ·rw [if_pos b];have a:ks.length=l.length:=a b;have c:=Eo (ks.zip (Cp l));have d:=c.map (·.1);rw [List.map_fst_zip (by omega)] at d;refine .mk ?_ h2 (fun x hx=>h3 x (d.mem_iff.1 hx)) (d.nodup_iff.2 h4) (fun t ht=>?_)
   ·simp only [Ep,Bool.and_eq_true,decide_eq_true_eq];refine⟨⟨⟨⟨⟨⟨⟨⟨⟨g,i⟩,m⟩,o⟩,p⟩,.inl b⟩,q⟩,fun _=>?_⟩,fun h=>?_⟩,List.all_eq_true.2 fun x _=>decide_eq_true (.inl ?_)⟩
    ·simp [Tr.ks,Tr.l]
    ·have h:k=15∨k=16:=h;omega
    ·show B5 k=0;rw [b];rfl
   ·obtain⟨y,f,rfl⟩:=List.mem_map.1 ht;exact j _ (List.of_mem_zip (c.mem_iff.1 f)).2
  ·rw [if_neg b];refine .mk ?_ h2 h3 h4 j;simp only [Ep,Bool.and_eq_true,decide_eq_true_eq];refine⟨⟨⟨⟨⟨⟨⟨⟨⟨g,i⟩,m⟩,o⟩,p⟩,w⟩,q⟩,fun h=>absurd h b⟩,fun h=>?_⟩,List.all_eq_true.2 fun x hx=>?_⟩
   ·show 2≤(Cp l).length∧(Cp l).length≤4;rw [e];exact z h
   ·have hx:x∈Cp l:=hx;rw [Cx] at hx;obtain⟨y,f,rfl⟩:=List.mem_map.1 hx;have:=of_decide_eq_true (List.all_eq_true.1 v y f);rw [fX];exact decide_eq_true this
theorem eW{t:Tr}(h:G0 t):G0 (By t):=by
 induction h with
 |mk h1 h2 h ih=>
  rename_i k n u s ks l;have hm:∀t∈Cp l,G0 t:=by
   intro t ht;rw [Cx] at ht;obtain⟨x,hx,rfl⟩:=List.mem_map.1 ht;exact ih x hx
  rw [By];split
  ·refine .mk h1 h2 fun t ht=>?_
   obtain⟨y,hy,rfl⟩:=List.mem_map.1 ht;exact hm _ (List.of_mem_zip ((Eo _).mem_iff.1 hy)).2
  ·exact .mk h1 h2 hm
theorem vL{e:Rw}(he:e.Ok){t:Tr}(h:(Gk e 0 t 0).1=0):(Gk e 0 (By t) 0).1=0:=by
 have hv:=Kx he t 0 0 h;obtain⟨h1,h2,_⟩:=jQ he t 0 0 h;obtain⟨s1,s2⟩:=lG t hv;rw [qD (By t) 0 0 (gP hv) (by omega) (by omega)]
end
end Go.Proofs.YtejpbijeifjdeaaGreat
