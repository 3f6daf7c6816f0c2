/- Parts of the proof. -/
import Derived.Test.YtejpbijeifjdeaaGreatQk23
import Derived.RangeFuncNested
import Derived.RangeFuncBound
import Derived.RangeFuncCalls
import Derived.RangeFuncLeaves
import Derived.Shelf.Abstract
import Derived.Shelf.RegionOpen
import Derived.OwnWalkIn
import Derived.TacticsInMore
import Derived.LoopNIn
import Derived.LoopIn
set_option maxHeartbeats 4000000
set_option maxRecDepth 100000
open Go.Value renaming int→Aa
open Go.IntKind renaming i64→Ab
open Nat renaming le_refl→Ae,le_trans→Am,lt_of_lt_of_le→As
open Go.RowKit.Below renaming refl→Af
open Go.Proofs.Tryz
open Go.Proofs.Tryz renaming prog→Ad
namespace Go.Proofs.YtejpbijeifjdeaaGreat
open Go.RowKit Go.Acc
variable {w w' W W':World}{E:Fe}{p q t v f x:Int}{bx br bX bR bF g B n:Nat}{row:Option Nat}{had:List P3}
attribute [local go_sem] Oper.semAt_some
theorem oN(h:Below w.heap.size w w'):w.grownBy w' none:=⟨h.os,h.tape,h.output,h.size,fun k hk _=>h.block k hk⟩
structure Pj(E:Fe)(p q t v:Int)(bx br:Nat)(w:World):Prop where
 m:Jp E w
 x:Bh w bx 89 #[Adm E.bw]
 r:Bh w br 70 (Adl p q t v)
theorem Pj.pure(h:Pj E p q t v bx br w)(hb:Below w.heap.size w w'):Pj E p q t v bx br w':=⟨h.m.pure hb,h.x.pure hb,h.r.pure hb⟩
def oE(E:Fe)(p q t v:Int)(bx br:Nat)(w w':World):Prop:=Pj E p q t v bx br w→Pj E p q t v bx br w'
def cQ(l:List UInt8)(r:Rq)(N:Nat)(i:Fin N):Array Value:=#[Aa Ab (i.val:Int),.agg #[Aa Ab (Cq l r i.val).p,Aa Ab (Cq l r i.val).q,Aa Ab (Cq l r i.val).t,Aa Ab (Cq l r i.val).v]]
theorem Wk(E:Fe)(p q t v:Int)(w:World):Calls Ad 94 #[Adm E.bw,.agg (Adl p q t v)] w fun e w'=>e= .returned (.func (.func 173) #[] #[Adm w.heap.size,.pointer (some ⟨w.heap.size+1,0,none⟩)])∧w'=(w.alloc (.cells #[Adm E.bw] 89)).alloc (.cells (Adl p q t v) 70):=by
 go_enter func94,ntmps94;go_wp2;go_ret;exact⟨rfl,rfl⟩
theorem Qw(l:List UInt8)(p q t v:Int):lsLen l p q t v≤l.length:=by
 by_cases h:Cm l p q t v=0
 ·obtain⟨h1,_,_,h4⟩:=Kl h;have h5:lsLen l p q t v*1≤lsLen l p q t v*(v.toNat+tgs t):=Nat.mul_le_mul_left _ (by omega);omega
 ·unfold lsLen;rw [if_neg h];exact Nat.zero_le _
theorem Se(E:Fe)(p q t v:Int)(bx br N:Nat)(w:World)(hN:lsLen E.l p q t v=N)(h:Pj E p q t v bx br w)(n:Nat)(hn:1≤n):
  SeqStopsK Fence.wide n Ad 173 #[Adm bx,Adm br] (cQ E.l ⟨p,q,t,v⟩ N) (oE E p q t v bx br) (fun xs=>xs=List.finRange N) (fun pre=>pre<+:List.finRange N) N w:=by
 intro l J Jx W hW hJ aq hY h0;have d:=Hd (h.pure hW);have j:=Hd h0;have Q:=Hd hJ;have HY:=Hd hY;have HN:=Hd hN;clear h hW h0 hJ hY hN aq;refine callsIn_wide.2 ?_;obtain⟨er,he⟩:∃a,Cm E.l p q t v=a:=⟨_,rfl⟩;have ai:=Hd he;have ak:=Hd (show(lsLen E.l p q t v:Int)=(N:Int) by rw [HN.o]);have L:=d.o.m.hc;have bm:=d.o.m.hn;have be:N≤4294967296:=by have h1:=Qw E.l p q t v;have h2:=d.o.m.b.1;have h3:=HN.o;omega
 clear he;have D:=d.o.m.c0;have C:W.cell? ⟨bx,0,none⟩=some (Adm E.bw):=d.o.x.cell 0;have H:=Be d.o.r;have M:=Bc d.o.r;have O:=Bb d.o.r;have P:=Bf d.o.r;go_enter func173,ntmps173;go_wp2_with fail;go_region_held3 (fun w'=>w'.cell? ⟨bx,0,none⟩=some (Adm E.bw)∧w'.cell? ⟨E.bw,0,none⟩=some (.slice E.A E.n E.c)∧(w'.cell? ⟨br,0,none⟩=some (Aa Ab p)∧w'.cell? ⟨br,1,none⟩=some (Aa Ab q)∧w'.cell? ⟨br,2,none⟩=some (Aa Ab t)∧w'.cell? ⟨br,3,none⟩=some (Aa Ab v)))
  (first|with_reducible exact⟨C,D,H,M,O,P⟩|with_reducible exact⟨Bi C,Bi D,Bi H,Bi M,Bi O,Bi P⟩)
  (first|(go_at_call 153;(with_reducible refine(Yt E.A E.n E.c p q t v N er E.l _ d.o.m.drew.b L (by omega) ak.o ai.o).mono ?_);rintro e w5 ⟨rfl,z⟩;have f:=B4 (Co W) z;replace d:=Hd (d.o.pure f);replace j:=Hd (Q.o _ _ _ none j.o (oN f) (fun r e=>by cases e));replace C:=Bg f C;replace D:=Bg f D;replace H:=Bg f H;replace M:=Bg f M;replace O:=Bg f O;replace P:=Bg f P;clear z f))
 clear C D H M O P;go_wp2_with fail;go_loopw [19] (fun u wr=>∃k:Nat,u= Aa Ab k∧k≤N∧Pj E p q t v bx br wr∧J ((List.finRange N).take k) wr) (fun u _=>N-(intOf u).toNat)
 case atStart=>exact⟨0,rfl,Nat.zero_le _,d.o,by rw [List.take_zero];exact j.o⟩
 case round=>
  clear d j;obtain⟨k,rfl,bf,S,T⟩:=hrel;have d:=Hd S;have j:=Hd T;clear S T;by_cases B:k<N
  ·obtain⟨kp,U⟩:∃x,Rm E.l p q t v k=x:=⟨_,rfl⟩;obtain⟨kq,V⟩:∃x,Rn E.l p q t v k=x:=⟨_,rfl⟩;obtain⟨kt,X⟩:∃x,Pk E.l p q t v k=x:=⟨_,rfl⟩;obtain⟨kv,Y⟩:∃x,Ro E.l p q t v k=x:=⟨_,rfl⟩;obtain⟨ee,F⟩:∃x,Eu E.l p q t v k=x:=⟨_,rfl⟩;have HP:=Hd U;have K:=Hd V;have HT:=Hd X;have HV:=Hd Y;have R:=Hd F;clear U V X Y F;go_upto_region 4 with fail
   go_cut [7,8] (fun u7 u8 wx=>∃wy,wy=wx∧u8= Aa Ab ee∧∃g,u7= Adm g∧Bh wx g 70 (Adl kp kq kt kv)∧Below wr.heap.size wr wx)
   case first=>
    have i:=Hd (Af wr.heap.size wr);have HL:=Hd d.o.m.b;have s:=Hd d.o;have ah:=Hd (show wr.cell? ⟨bx,0,none⟩=some (Adm E.bw) from d.o.x.cell 0);have bg:E.bw≠wr.heap.size:=by have:=Bl d.o.m.c0;simp only at this;omega
    have bh:br≠wr.heap.size:=by have:=d.o.r.lt;omega
    have bi:bx≠wr.heap.size:=by have:=d.o.x.lt;omega
    have D:=d.o.m.c0;have C:wr.cell? ⟨bx,0,none⟩=some (Adm E.bw):=d.o.x.cell 0;have H:=Be d.o.r;have M:=Bc d.o.r;have O:=Bb d.o.r;have P:=Bf d.o.r;clear d j;go_region_held3 (fun w'=>w'.cell? ⟨bx,0,none⟩=some (Adm E.bw)∧w'.cell? ⟨E.bw,0,none⟩=some (.slice E.A E.n E.c)∧(w'.cell? ⟨br,0,none⟩=some (Aa Ab p)∧w'.cell? ⟨br,1,none⟩=some (Aa Ab q)∧w'.cell? ⟨br,2,none⟩=some (Aa Ab t)∧w'.cell? ⟨br,3,none⟩=some (Aa Ab v)))
     ((with_reducible refine⟨?_,?_,?_,?_,?_,?_⟩) <;>(repeat (first|with_reducible assumption|with_reducible refine B3 ?_|with_reducible refine C4 _ ?_|with_reducible refine J1 ?_ ?_)))
     (first|(go_at_call 155;(first|(with_reducible refine(Wu E.A E.n E.c p q t v k kp kq kt kv ee E.l _ (HL.o.pure i.o.drew) L (by omega) HP.o K.o HT.o HV.o R.o).mono ?_)|(with_reducible refine(Wu E.A E.n E.c p q t v k kp kq kt kv ee E.l _ (HL.o.pure (i.o.alloc i.o.size _).drew) L (by omega) HP.o K.o HT.o HV.o R.o).mono ?_));rintro e w7 ⟨rfl,z⟩;(first|(with_reducible replace i:=Hd (Ba i.o.drew z))|((with_reducible have HK:=Hd ((Bh.new wr 70 (Adl 0 0 0 0)).drew.pure z));(with_reducible replace i:=Hd (Ba (i.o.alloc i.o.size _).drew z));obtain ⟨q0,q1,q2,q3⟩:=HK.o.c4;obtain ⟨p0,p1,p2⟩:=HK.o.f3;have p3:=HK.o.frozen 3));replace C:=Bg i.o ah.o;replace D:=Bg i.o s.o.m.c0;replace H:=Bg i.o (Be s.o.r);replace M:=Bg i.o (Bc s.o.r);replace O:=Bg i.o (Bb s.o.r);replace P:=Bg i.o (Bf s.o.r);have bj:E.bw≠w7.heap.size:=(by have:=Bl D;simp only at this;omega);have bk:br≠w7.heap.size:=(by have:=Bl H;simp only at this;omega);have bl:bx≠w7.heap.size:=(by have:=Bl C;simp only at this;omega);clear z))
    all_goals
     go_wp2_with fail;go_meet
     first
      |with_reducible exact⟨_,rfl,rfl,_,rfl,Bh.new _ _ _,i.o.alloc i.o.size _⟩
      |exact⟨_,rfl,rfl,_,rfl,(((HK.o.set_ 0 _).set_ 1 _).set_ 2 _).set_ 3 _,B6 _ i.o (Ae _) _ _ _ _⟩
   case rest=>
   obtain⟨w6,rfl,rfl,g,rfl,hK,z⟩:=hcut;replace d:=Hd (d.o.pure z);replace j:=Hd (Q.o _ _ _ none j.o (oN z) (fun r e=>by cases e));obtain ⟨k0,k1,k2,k3⟩:=hK.c4;have G:cQ E.l ⟨p,q,t,v⟩ N ⟨k,B⟩=#[Aa Ab (k:Int),.agg (Adl kp kq kt kv)]:=by
    unfold cQ Cq;simp only [HP.o,K.o,HT.o,HV.o]
   obtain⟨fn,a9,ab,az,hy,hR⟩:=HY.o ((List.finRange N).take k) ⟨k,B⟩ _ j.o (by rw [List.length_take,List.length_finRange];omega);rw [G] at hy;clear z hK G;go_upto_region 5 with fail
   refine(wpIn_wide (n:=n)).1 ?_
   gi_wp2
   refine hR.mono ?_;rintro e W9 (⟨rfl,y,Z⟩|⟨rfl,y⟩)
   ·have aj:=Hd (Z d.o);have I:=Hd y;clear y Z hR hy d j k0 k1 k2 k3
    gi_wp2
    have bn:IntKind.i64.wrap ((k:Int)+1)=(k:Int)+1:=IntWalk.i64_in _ (by omega);go_wp2_with fail;go_roundw
    case rel=>
     refine⟨k+1,by go_num,B,aj.o,?_⟩;have e:(List.finRange N).take (k+1)=(List.finRange N).take k++ [⟨k,B⟩]:=by
      rw [←List.take_append_getElem (by rw [List.length_finRange];exact B)];simp
     rw [e];exact I.o
    case measure=>simp [intOf];omega
   ·have I:=Hd y;have am:=Hd (show(List.finRange N).take k++ [⟨k,B⟩]<+:List.finRange N by
     have e:(List.finRange N).take (k+1)=(List.finRange N).take k++ [⟨k,B⟩]:=by
      rw [←List.take_append_getElem (by rw [List.length_finRange];exact B)];simp
     rw [←e];exact List.take_prefix _ _)
    clear y hR hy d j k0 k1 k2 k3
    gi_wp2
    go_wp2_with fail;refine bodyPost_ret (results_none rfl _ _ _) rfl ?_;exact⟨⟨_,rfl⟩,.inr ⟨_,am.o,I.o⟩⟩
  ·have au:k=N:=by omega
   have hd:decide (k<N)=false:=decide_eq_false (by omega);have HE:=Hd (show(List.finRange N).take k=List.finRange N from List.take_of_length_le (by rw [List.length_finRange];omega));clear B au;go_wp2_with fail;go_end0;refine⟨⟨_,rfl⟩,.inl ⟨_,rfl,?_⟩⟩;have:=j.o;rw [HE.o] at this;exact this
attribute [local go_sem] Oper.semAt_some
def Jo(l:List UInt8)(r:Rq):Int:=((lsAt l r.p r.q r.t r.v:Int)-lsFrom l r.p r.q r.t r.v)/r.v
def N2(l:List UInt8)(r:Rq)(f:Int)(i:Nat):Bool:=Cy l (Cq l r i).p (Cq l r i).q (Cq l r i).t (Cq l r i).v (lsFrom l r.p r.q r.t r.v+(Jo l r+i)*f) f
def K3(l:List UInt8)(r:Rq)(f:Int):Bool:=
 if 0<Jo l r∧f<Fq (lsLen l r.p r.q r.t r.v) then false
 else if Jo l r=3∧Cy l (Ck l r).p (Ck l r).q (Ck l r).t (Ck l r).v (lsFrom l r.p r.q r.t r.v) f=false then false
 else(List.range (lsLen l r.p r.q r.t r.v)).all (N2 l r f)
structure Zf(E:Fe)(p q t v f:Int)(bX bR bF:Nat)(w:World):Prop where
 i:Pj E p q t v bX bR w
 f:Bh w bF 3 #[Aa Ab f]
theorem Zf.pure(h:Zf E p q t v f bX bR bF w)(hb:Below w.heap.size w w'):Zf E p q t v f bX bR bF w':=⟨h.i.pure hb,h.f.pure hb⟩
theorem Dk(hg:W.grownBy W' row)(hr:∀r,row=some r→∃o:Obj,W.heap[r]?=some o∧o.isCells=false){t:TypeId}{cs:Array Value}(h:Bh W g t cs):Bh W' g t cs:=(grownBy_keeps_cells hg hr h rfl).trans h
theorem Jp.kept(h:Jp E W)(hg:W.grownBy W' row)(hr:∀r,row=some r→∃o:Obj,W.heap[r]?=some o∧o.isCells=false):Jp E W':=⟨h.hc,h.hn,⟨h.b.1,h.b.2.keep fun _ _ hc _=>cell_kept hc hg hr⟩,cell_kept h.c0 hg hr⟩
theorem Pj.kept(h:Pj E p q t v bx br W)(hg:W.grownBy W' row)(hr:∀r,row=some r→∃o:Obj,W.heap[r]?=some o∧o.isCells=false):Pj E p q t v bx br W':=⟨h.m.kept hg hr,Dk hg hr h.x,Dk hg hr h.r⟩
theorem wZ{A B C:World}(h:oE E p q t v bx br A B)(k:oE E p q t v bx br B C):oE E p q t v bx br A C:=fun x=>k (h x)
theorem wY(W:World)(l:Nat)(o o':Obj)(_:B≤l)(hl:W.heap[l]?=some o)(hc:o.isCells=false)(_:o.isWalk=false):oE E p q t v bx br W (W.putObj l o'):=fun h=>h.kept (grownBy_putObj' W l o') (fun r e=>by cases e;exact⟨o,hl,hc⟩)
theorem Zf.kept(h:Zf E p q t v f bX bR bF W)(hg:W.grownBy W' row)(hr:∀r,row=some r→∃o:Obj,W.heap[r]?=some o∧o.isCells=false):Zf E p q t v f bX bR bF W':=⟨h.i.kept hg hr,Dk hg hr h.f⟩
theorem Pq(hb:Below W.heap.size W W'):KeepsFrom B W W':=⟨hb.size,fun k _ _ hk _=>(hb.block k (Array.getElem?_eq_some_iff.1 hk).1).trans hk⟩
theorem fY{F:Fence}{P:Program}{c:Code}{Q:Exit→Act→World→Prop}{a:Act}(h:∀a0,a0=a→c.wpIn F n P Q a0 w):c.wpIn F n P Q a w:=h a rfl
theorem lD(u:Value)(h:Below n w w')(hg:n≤g):Below n w (w'.setCell ⟨g,0,none⟩ u):=h.setCell (p:=⟨g,0,none⟩) hg u
theorem uT(E:Fe)(p q t v f:Int)(r:Bool)(w:World)(h:Jp E w)(hv:1≤v∧v≤8)(hf:1≤f∧f≤8)(hr:K3 E.l ⟨p,q,t,v⟩ f=r):
  Calls Ad 172 #[Adm E.bw,.agg (Adl p q t v),Aa Ab f] w (Adh (.bool r) w):=by
 have d0:=h.hn;have av:=h.hc;have b5:=Hd h;clear h;refine callsIn_wide.1 (callsIn_of_wp_marks (n:=6) func172 rfl trivial (wpIn_wide.2 ?_));simp only [ntmps172,List.size_toArray,List.length_cons,List.length_nil,Nat.reduceAdd,Nat.reduceSub,Array.replicate_succ,Array.replicate_zero,List.push_toArray,List.append_toArray,List.nil_append,List.cons_append];obtain⟨fr,cb⟩:∃x:Int,(lsFrom E.l p q t v:Int)=x:=⟨_,rfl⟩;obtain⟨a,ha⟩:∃x:Int,(lsAt E.l p q t v:Int)=x:=⟨_,rfl⟩;obtain⟨o,ho⟩:∃x:Int,(lsTo E.l p q t v:Int)=x:=⟨_,rfl⟩;obtain⟨N,hN⟩:∃N:Nat,lsLen E.l p q t v=N:=⟨_,rfl⟩;obtain⟨er,he⟩:∃x,Cm E.l p q t v=x:=⟨_,rfl⟩;have L:=Hd cb;have HA:=Hd ha;have HO:=Hd ho;have HN:=Hd hN;have bg:=Hd (show(lsLen E.l p q t v:Int)=(N:Int) by rw [hN]);have ao:=Hd he;have HR:=Hd hr;clear cb ha ho hN he hr;have d:=Hd (show Zf E p q t v f w.heap.size (w.heap.size+1) (w.heap.size+1+1) ((((w.alloc (.cells #[Adm E.bw] 89)).alloc (.cells (Adl p q t v) 70)).alloc (.cells #[Aa Ab f] 3)).alloc (.cells #[.bool false] 4)) from
  ⟨⟨(((b5.o.alloc _).alloc _).alloc _).alloc _,(((Bh.new w _ _).alloc _).alloc _).alloc _,((Bh.new_ (by simp) _ _).alloc _).alloc _⟩,(Bh.new_ (by simp) _ _).alloc _⟩)
 have H:=Hd (Bh.new_ (w:=(((w.alloc (.cells #[Adm E.bw] 89)).alloc (.cells (Adl p q t v) 70)).alloc (.cells #[Aa Ab f] 3))) (g:=w.heap.size+1+1+1) (by simp) 4 #[.bool false]);have HB:=Hd (show Below w.heap.size w ((((w.alloc (.cells #[Adm E.bw] 89)).alloc (.cells (Adl p q t v) 70)).alloc (.cells #[Aa Ab f] 3)).alloc (.cells #[.bool false] 4)) from
  ((((Af _ _).alloc (Ae _) _).alloc (by simp) _).alloc (by simp <;>omega) _).alloc (by simp <;>omega) _)
 clear b5;go_upto_region 1 with fail
 generalize (((w.alloc (.cells #[Adm E.bw] 89)).alloc (.cells (Adl p q t v) 70)).alloc (.cells #[Aa Ab f] 3)).alloc (.cells #[.bool false] 4)=w1 at d H HB⊢;have T:=Hd (show w.heap.size≤w.heap.size+1+1+1 by omega);obtain⟨n0,a4⟩:∃n0,w.heap.size=n0:=⟨_,rfl⟩;generalize w.heap.size+1+1+1=bS at H T⊢;generalize w.heap.size+1+1=bF at d⊢;generalize w.heap.size+1=bR at d⊢;rw [a4] at HB T;have C:=Hd (Nat.le_of_eq a4.symm);have ay:=Hd a4;clear a4;obtain⟨V,Y⟩:∃x,w.heap.size=x:=⟨_,rfl⟩;rw [Y] at d⊢;clear Y;have c0:=d.o.i.m.c0;have O:_=some (Adm E.bw):=d.o.i.x.cell 0;have S:=Be d.o.i.r;have x1:=Bc d.o.i.r;have x2:=Bb d.o.i.r;have x3:=Bf d.o.i.r;go_cut [7,8,9,10] from 18 to 86 (fun u7 u8 u9 u10 wx=>∃wy,wy=wx∧u8= Aa Ab a∧u9= Aa Ab o∧u10= Aa Ab er∧∃g,u7= Adm g∧Bh wx g 3 #[Aa Ab fr]∧w1.heap.size≤g∧Below w1.heap.size w1 wx)
 case first=>
  have z:=Hd (Af w1.heap.size w1);have G:=Hd d.o;have bb:=Hd (show w1.cell? ⟨V,0,none⟩=some (Adm E.bw) from d.o.i.x.cell 0);have cy:E.bw≠w1.heap.size:=by have:=Bl d.o.i.m.c0;simp only at this;omega
  have cz:bR≠w1.heap.size:=by have:=d.o.i.r.lt;omega
  have c1:V≠w1.heap.size:=by have:=d.o.i.x.lt;omega
  clear d HB H;go_region_held3 (fun w'=>w'.cell? ⟨V,0,none⟩=some (Adm E.bw)∧w'.cell? ⟨E.bw,0,none⟩=some (.slice E.A E.n E.c)∧(w'.cell? ⟨bR,0,none⟩=some (Aa Ab p)∧w'.cell? ⟨bR,1,none⟩=some (Aa Ab q)∧w'.cell? ⟨bR,2,none⟩=some (Aa Ab t)∧w'.cell? ⟨bR,3,none⟩=some (Aa Ab v))) ((with_reducible refine⟨?_,?_,?_,?_,?_,?_⟩) <;>(repeat (first|with_reducible assumption|with_reducible refine B3 ?_|with_reducible refine C4 _ ?_|with_reducible refine J1 ?_ ?_)))
   (first|(go_at_call 152;(first|(with_reducible refine(Vc E.A E.n E.c p q t v fr a o er E.l _ (G.o.i.m.b.pure z.o.drew) av (by omega) L.o HA.o HO.o ao.o).mono ?_)|(with_reducible refine(Vc E.A E.n E.c p q t v fr a o er E.l _ (G.o.i.m.b.pure (z.o.alloc z.o.size _).drew) av (by omega) L.o HA.o HO.o ao.o).mono ?_));rintro e w7 ⟨rfl,u⟩;(first|(with_reducible replace z:=Hd (Ba z.o.drew u))|((with_reducible have HK:=Hd ((Bh.new w1 3 #[Aa Ab 0]).drew.pure u));(with_reducible replace z:=Hd (Ba (z.o.alloc z.o.size _).drew u));have q0:_=some (Aa Ab 0):=HK.o.cell 0;have p0:=HK.o.frozen 0));replace O:=Bg z.o bb.o;replace c0:=Bg z.o G.o.i.m.c0;replace S:=Bg z.o (Be G.o.i.r);replace x1:=Bg z.o (Bc G.o.i.r);replace x2:=Bg z.o (Bb G.o.i.r);replace x3:=Bg z.o (Bf G.o.i.r);have c2:E.bw≠w7.heap.size:=(by have:=Bl c0;simp only at this;omega);have c3:bR≠w7.heap.size:=(by have:=Bl S;simp only at this;omega);have c5:V≠w7.heap.size:=(by have:=Bl O;simp only at this;omega);clear u))
  all_goals
   go_wp2_with fail;go_meet
   first
    |with_reducible exact⟨_,rfl,rfl,rfl,rfl,_,rfl,Bh.new _ _ _,z.o.size,z.o.alloc z.o.size _⟩
    |exact⟨_,rfl,rfl,rfl,rfl,_,rfl,HK.o.set_ 0 _,Ae _,lD _ z.o (Ae _)⟩
 case rest=>
 obtain⟨w2,rfl,rfl,rfl,rfl,bA,rfl,b7,b8,u⟩:=hcut;clear c0 O S x1 x2 x3;replace d:=Hd (d.o.pure u);replace H:=Hd (H.o.pure u);have y:=Hd b7;have dm:=Hd (Am HB.o.size b8);replace HB:=Hd (Ba HB.o u C.o);clear b7 b8 u;have c0:=d.o.i.m.c0;have O:_=some (Adm E.bw):=d.o.i.x.cell 0;have S:=Be d.o.i.r;have x1:=Bc d.o.i.r;have x2:=Bb d.o.i.r;have x3:=Bf d.o.i.r;go_wp2_with fail;go_region_held3 (fun w'=>w'.cell? ⟨V,0,none⟩=some (Adm E.bw)∧w'.cell? ⟨E.bw,0,none⟩=some (.slice E.A E.n E.c)∧(w'.cell? ⟨bR,0,none⟩=some (Aa Ab p)∧w'.cell? ⟨bR,1,none⟩=some (Aa Ab q)∧w'.cell? ⟨bR,2,none⟩=some (Aa Ab t)∧w'.cell? ⟨bR,3,none⟩=some (Aa Ab v))) (first|with_reducible exact⟨O,c0,S,x1,x2,x3⟩|with_reducible exact⟨Bi O,Bi c0,Bi S,Bi x1,Bi x2,Bi x3⟩) (first|(go_at_call 153;(with_reducible refine(Yt E.A E.n E.c p q t v N er E.l _ d.o.i.m.drew.b av (by omega) bg.o ao.o).mono ?_);rintro e w3 ⟨rfl,u⟩;have au:=B4 (Co w2) u;replace d:=Hd (d.o.pure au);replace H:=Hd (H.o.pure au);replace y:=Hd (y.o.pure au);replace HB:=Hd (Ba HB.o au C.o);clear c0 O S x1 x2 x3;clear u au;have c0:=d.o.i.m.c0;have O:_=some (Adm E.bw):=d.o.i.x.cell 0;have S:=Be d.o.i.r;have x1:=Bc d.o.i.r;have x2:=Bb d.o.i.r;have x3:=Bf d.o.i.r));have a0:_=some (Aa Ab fr):=y.o.cell 0;obtain⟨ah,bn⟩:∃x:Int,Jo E.l ⟨p,q,t,v⟩=x:=⟨_,rfl⟩;have a3:0≤fr∧fr≤a∧a≤4294967296∧N≤4294967296:=by
  have h1:=L.o;have h2:=HA.o;have h3:=HN.o;have h4:=Qw E.l p q t v;have h5:=d.o.i.m.b.1;by_cases h:Cm E.l p q t v=0
  ·obtain⟨_,_,h6,h7⟩:=Kl h;omega
  ·unfold lsFrom at h1;unfold lsAt at h2;rw [if_neg h] at h1 h2;omega
 obtain⟨dv,dw,dt,ds⟩:=a3;have P:(a-fr)/v=ah:=by rw [←bn];unfold Jo;simp only [HA.o,L.o]
 have df:0≤ah:=by rw [←P];exact Int.ediv_nonneg (by omega) (by omega)
 have dg:ah≤4294967296:=by
  rw [←P];exact Int.le_trans (Int.ediv_le_self _ (by omega)) (by omega)
 have br:wrap64 (a-fr)=a-fr:=Cg _ (by omega);have bs:wrap64 ((a-fr).tdiv v)=ah:=by
  rw [Int.tdiv_eq_ediv_of_nonneg (by omega),P];exact Cg _ (by omega)
 have al:=Hd bn;clear bn;go_upto_region 4 with fail
 rw [P];clear br bs a0 P;have F:=Hd (Bh.new w3 3 #[Aa Ab ah]);have b6:=Hd (show n0≤w3.heap.size from Am C.o HB.o.size);replace d:=Hd (d.o.pure ((Af _ _).alloc (Ae _) (.cells #[Aa Ab ah] 3)));replace H:=Hd (H.o.pure ((Af _ _).alloc (Ae _) (.cells #[Aa Ab ah] 3)));replace y:=Hd (y.o.pure ((Af _ _).alloc (Ae _) (.cells #[Aa Ab ah] 3)));replace HB:=Hd (HB.o.alloc b6.o (.cells #[Aa Ab ah] 3));clear c0 O S x1 x2 x3;generalize w3.alloc (.cells #[Aa Ab ah] 3)=w4 at d H y F HB⊢;generalize w3.heap.size=bH at F b6⊢;obtain⟨k,hk⟩:∃k,Fq N=k:=⟨_,rfl⟩;have aq:=Hd hk;have d2:IntKind.u64.wrap (N:Int)=N:=by rw [IntKind.wrap_u64];omega
 clear hk;go_cut [52] from 18 to 86 (fun u52 wx=>∃wy,wy=wx∧u52= .bool (decide (0<ah∧f<k))∧Below w4.heap.size w4 wx)
 case first=>
  have h0:w4.cell? ⟨bH,0,none⟩=some (Aa Ab ah):=F.o.cell 0;have f0:w4.cell? ⟨bF,0,none⟩=some (Aa Ab f):=d.o.f.cell 0;clear d H y F HB;by_cases hp:0<ah
  ·have dl:=Hd hp;obtain⟨cc,b9⟩:∃x,decide (f<k)=x:=⟨_,rfl⟩;have HD:=Hd (show decide (0<ah∧f<k)=cc by rw [←b9];apply decide_eq_decide.2;exact⟨fun h=>h.2,fun h=>⟨hp,h⟩⟩);go_region_held3 (fun w'=>w'.cell? ⟨bH,0,none⟩=some (Aa Ab ah)∧w'.cell? ⟨bF,0,none⟩=some (Aa Ab f)) (first|with_reducible exact⟨h0,f0⟩|with_reducible exact⟨Bi h0,Bi f0⟩)
    (first|(go_at_call 33;(with_reducible refine(Hm N k _ (by omega) aq.o).mono ?_);rintro e M ⟨rfl,u⟩;have co:=Hd (show Below w4.heap.size w4 M by rw [←u];exact Co w4);replace h0:M.cell? ⟨bH,0,none⟩=some (Aa Ab ah):=by rw [←u];exact Bi h0);replace f0:M.cell? ⟨bF,0,none⟩=some (Aa Ab f):=by rw [←u];exact Bi f0)
   go_wp2_with fail;go_meet;rw [HD.o];exact⟨_,rfl,rfl,co.o⟩
  ·have HD:=Hd (show decide (0<ah∧f<k)=false from decide_eq_false fun h=>hp h.1);have du:decide (0<ah)=false:=decide_eq_false hp;clear hp;go_quiet (fail);go_wp2_with fail;go_meet;rw [HD.o];exact⟨_,rfl,rfl,below_drewN (Af _ _) _⟩
 case rest=>
 obtain⟨M,rfl,rfl,u⟩:=hcut;replace d:=Hd (d.o.pure u);replace H:=Hd (H.o.pure u);replace y:=Hd (y.o.pure u);replace F:=Hd (F.o.pure u);replace HB:=Hd (Ba HB.o u C.o);clear u;by_cases hc:0<ah∧f<k
 ·have R:r=false:=by
   rw [←HR.o];unfold K3;simp only [al.o,HN.o,aq.o];rw [if_pos hc]
  subst R;have hd:decide (0<ah∧f<k)=true:=decide_eq_true hc;rw [hd];have s0:M.cell? ⟨bS,0,none⟩=some (.bool false):=H.o.cell 0;have s1:=H.o.frozen 0;have s2:(M.setCell ⟨bS,0,none⟩ (.bool false)).cell? ⟨bS,0,none⟩=some (.bool false):=(H.o.set_ 0 (.bool false)).cell 0;clear hc hd;go_wp2_with fail;refine⟨.bool false,?_,rfl,?_⟩
  ·simp [results,Tryz.f172,go_sem,s2]
  ·rw [ay.o];exact HB.o.setCell (p:=⟨bS,0,none⟩) T.o (.bool false)
 ·have hd:decide (0<ah∧f<k)=false:=decide_eq_false hc;rw [hd];have an:=Hd hc;clear hd hc;obtain⟨kp,Z⟩:∃a,Sp E.l p q t v=a:=⟨_,rfl⟩;obtain⟨kq,aa⟩:∃a,Sq E.l p q t v=a:=⟨_,rfl⟩;obtain⟨kt,ab⟩:∃a,Ps E.l p q t v=a:=⟨_,rfl⟩;obtain⟨kv,ad⟩:∃a,Sr E.l p q t v=a:=⟨_,rfl⟩;obtain⟨ke,cf⟩:∃a,Hf E.l p q t v=a:=⟨_,rfl⟩;have HP:=Hd Z;have Q:=Hd aa;have HT:=Hd ab;have HV:=Hd ad;have ax:=Hd cf;clear Z aa ab ad cf;obtain⟨st,ci⟩:∃x,Cy E.l kp kq kt kv fr f=x:=⟨_,rfl⟩;have U:=Hd ci;clear ci;have h0:M.cell? ⟨bH,0,none⟩=some (Aa Ab ah):=F.o.cell 0;go_upto_if 54 with fail
  go_cut [14,15] from 18 to 86 (fun _ _ wx=>∃wy,wy=wx∧¬(ah=3∧st=false)∧Below M.heap.size M wx)
  case first=>
   by_cases h3:ah=3
   ·subst h3;go_upto_region 7 with fail
    go_cut [14,15] from 18 to 86 (fun u7 u8 wx=>∃wy,wy=wx∧u8= Aa Ab ke∧∃g,u7= Adm g∧Bh wx g 70 (Adl kp kq kt kv)∧M.heap.size≤g∧Below M.heap.size M wx)
    case first=>
     have z:=Hd (Af M.heap.size M);have G:=Hd d.o;have bb:=Hd (show M.cell? ⟨V,0,none⟩=some (Adm E.bw) from d.o.i.x.cell 0);have cy:E.bw≠M.heap.size:=by have:=Bl d.o.i.m.c0;simp only at this;omega
     have cz:bR≠M.heap.size:=by have:=d.o.i.r.lt;omega
     have c1:V≠M.heap.size:=by have:=d.o.i.x.lt;omega
     have c0:=d.o.i.m.c0;have O:_=some (Adm E.bw):=d.o.i.x.cell 0;have S:=Be d.o.i.r;have x1:=Bc d.o.i.r;have x2:=Bb d.o.i.r;have x3:=Bf d.o.i.r;clear d HB H y F h0;go_region_held3 (fun w'=>w'.cell? ⟨V,0,none⟩=some (Adm E.bw)∧w'.cell? ⟨E.bw,0,none⟩=some (.slice E.A E.n E.c)∧(w'.cell? ⟨bR,0,none⟩=some (Aa Ab p)∧w'.cell? ⟨bR,1,none⟩=some (Aa Ab q)∧w'.cell? ⟨bR,2,none⟩=some (Aa Ab t)∧w'.cell? ⟨bR,3,none⟩=some (Aa Ab v))) ((with_reducible refine⟨?_,?_,?_,?_,?_,?_⟩) <;>(repeat (first|with_reducible assumption|with_reducible refine B3 ?_|with_reducible refine C4 _ ?_|with_reducible refine J1 ?_ ?_)))
      (first|(go_at_call 93;(first|(with_reducible refine(Lj E.A E.n E.c p q t v kp kq kt kv ke E.l _ (G.o.i.m.b.pure z.o.drew) av (by omega) HP.o Q.o HT.o HV.o ax.o).mono ?_)|(with_reducible refine(Lj E.A E.n E.c p q t v kp kq kt kv ke E.l _ (G.o.i.m.b.pure (z.o.alloc z.o.size _).drew) av (by omega) HP.o Q.o HT.o HV.o ax.o).mono ?_));rintro e w7 ⟨rfl,u⟩;(first|(with_reducible replace z:=Hd (Ba z.o.drew u))|((with_reducible have HK:=Hd ((Bh.new M 70 (Adl 0 0 0 0)).drew.pure u));(with_reducible replace z:=Hd (Ba (z.o.alloc z.o.size _).drew u));obtain ⟨q0,q1,q2,q3⟩:=HK.o.c4;obtain ⟨p0,p1,p2⟩:=HK.o.f3;have p3:=HK.o.frozen 3));replace O:=Bg z.o bb.o;replace c0:=Bg z.o G.o.i.m.c0;replace S:=Bg z.o (Be G.o.i.r);replace x1:=Bg z.o (Bc G.o.i.r);replace x2:=Bg z.o (Bb G.o.i.r);replace x3:=Bg z.o (Bf G.o.i.r);have c2:E.bw≠w7.heap.size:=(by have:=Bl c0;simp only at this;omega);have c3:bR≠w7.heap.size:=(by have:=Bl S;simp only at this;omega);have c5:V≠w7.heap.size:=(by have:=Bl O;simp only at this;omega);clear u))
     all_goals
      go_wp2_with fail;go_meet
      first
       |with_reducible exact⟨_,rfl,rfl,_,rfl,Bh.new _ _ _,z.o.size,z.o.alloc z.o.size _⟩
       |exact⟨_,rfl,rfl,_,rfl,(((HK.o.set_ 0 _).set_ 1 _).set_ 2 _).set_ 3 _,Ae _,B6 _ z.o (Ae _) _ _ _ _⟩
    case rest=>
    obtain⟨w7,rfl,rfl,g,rfl,hK,hg,u⟩:=hcut;obtain ⟨k0,k1,k2,k3⟩:=hK.c4;have bf:=Hd (d.o.pure u);have ap:=Hd (H.o.pure u);have bd:=Hd (Ba HB.o u C.o);have be:=Hd u;have a0:w7.cell? ⟨bA,0,none⟩=some (Aa Ab fr):=(y.o.pure u).cell 0;have f0:w7.cell? ⟨bF,0,none⟩=some (Aa Ab f):=(bf.o.f).cell 0;have O:w7.cell? ⟨V,0,none⟩=some (Adm E.bw):=bf.o.i.x.cell 0;clear hK hg u h0;go_wp2_with fail;go_at_call 60;refine(S7 E kp kq kt kv fr f st _ bf.o.i.m (by omega) U.o).mono ?_;rintro e w8 ⟨rfl,u⟩;replace ap:=Hd (ap.o.pure u);replace bd:=Hd (Ba bd.o u C.o);replace be:=Hd (Ba be.o u);clear u k0 k1 k2 k3 a0 f0 O;cases st with
    |true=>
     go_wp2_with fail;go_meet;exact⟨_,rfl,(by simp),be.o⟩
    |false=>
     have R:r=false:=by
      rw [←HR.o];unfold K3;simp only [al.o,HN.o,aq.o];rw [if_neg an.o,if_pos];refine⟨trivial,?_⟩;unfold Ck;simp only [HP.o,Q.o,HT.o,HV.o,L.o];exact U.o
     subst R;have s0:w8.cell? ⟨bS,0,none⟩=some (.bool false):=ap.o.cell 0;have s1:=ap.o.frozen 0;have s2:(w8.setCell ⟨bS,0,none⟩ (.bool false)).cell? ⟨bS,0,none⟩=some (.bool false):=(ap.o.set_ 0 (.bool false)).cell 0;go_wp2_with fail;refine⟨.bool false,?_,rfl,?_⟩
     ·simp [results,Tryz.f172,go_sem,s2]
     ·rw [ay.o];exact bd.o.setCell (p:=⟨bS,0,none⟩) T.o (.bool false)
   ·have e3:(ah==3)=false:=beq_eq_false_iff_ne.mpr h3;have HH:=Hd h3;clear h3;go_wp2_with fail;go_meet;exact⟨_,rfl,fun h=>HH.o h.1,Af _ _⟩
  case rest=>
  obtain⟨w6,rfl,cg,u⟩:=hcut;replace d:=Hd (d.o.pure u);replace H:=Hd (H.o.pure u);replace y:=Hd (y.o.pure u);replace F:=Hd (F.o.pure u);replace HB:=Hd (Ba HB.o u C.o);have az:=Hd cg;clear cg u h0;have O:w6.cell? ⟨V,0,none⟩=some (Adm E.bw):=d.o.i.x.cell 0;have S:=Be d.o.i.r;have x1:=Bc d.o.i.r;have x2:=Bb d.o.i.r;have x3:=Bf d.o.i.r;go_wp2_with (go_at_call 94;(with_reducible refine(Wk E p q t v _).mono ?_);rintro e w7 ⟨rfl,rfl⟩);have bk:∀o,Below w6.heap.size w6 (w6.alloc o):=fun o=>(Af _ _).alloc (Ae _) o
  have X:Below w6.heap.size w6 ((w6.alloc (.cells #[Adm E.bw] 89)).alloc (.cells (Adl p q t v) 70)):=(bk _).alloc (bk _).size _;replace d:=Hd (d.o.pure X);replace H:=Hd (H.o.pure X);replace y:=Hd (y.o.pure X);replace F:=Hd (F.o.pure X);replace HB:=Hd (Ba HB.o X C.o);have HIT:=Hd (show Pj E p q t v w6.heap.size (w6.heap.size+1) ((w6.alloc (.cells #[Adm E.bw] 89)).alloc (.cells (Adl p q t v) 70)) from
   ⟨d.o.i.m,(Bh.new w6 _ _).alloc _,Bh.new_ (by simp) _ _⟩)
  clear bk X O S x1 x2 x3;generalize w6.heap.size=bx at HIT⊢;generalize (w6.alloc (.cells #[Adm E.bw] 89)).alloc (.cells (Adl p q t v) 70)=w8 at d H y F HB HIT⊢;refine(wpIn_wide (n:=6)).1 ?_;refine fY fun a0 ha0=>?_
  refine wpIn_rangeFunc_ownH rfl (by omega) (gf:=173) (lb:=#[Adm bx,.pointer (some ⟨bx+1,0,none⟩)]) (by rw [ha0];rfl) trivial (enters_of func173 (by kernel_rfl) rfl)
   (Se E p q t v bx (bx+1) N w8 HN.o HIT.o (6-1) (by omega)) wZ wY (Af _ _) (fun _=>rfl)
   (fun pre W=>(Zf E p q t v f V bR bF W∧Bh W bS 4 #[.bool false]∧Bh W bA 3 #[Aa Ab fr]∧Bh W bH 3 #[Aa Ab ah]∧∀i∈pre,N2 E.l ⟨p,q,t,v⟩ f i.val=true)∧Below n0 w W)
   (fun c pre W=>(c= .ret∧Bh W bS 4 #[.bool false]∧∃i∈pre,N2 E.l ⟨p,q,t,v⟩ f i.val=false)∧Below n0 w W)
   (OwnFrom.and (fun s A B row hs hg hr=>⟨hs.1.kept hg fun r e=>(hr r e).2,Dk hg (fun r e=>(hr r e).2) hs.2.1,Dk hg (fun r e=>(hr r e).2) hs.2.2.1,Dk hg (fun r e=>(hr r e).2) hs.2.2.2.1,hs.2.2.2.2⟩) (ownFrom_below C.o (Am C.o HB.o.size)))
   (fun c=>OwnFrom.and (fun s A B row hs hg hr=>⟨hs.1,Dk hg (fun r e=>(hr r e).2) hs.2.1,hs.2.2⟩) (ownFrom_below C.o (Am C.o HB.o.size)))
   ⟨⟨d.o,H.o,y.o,F.o,fun i h=>by cases h⟩,HB.o⟩
   (fun x a' W=>∃Bx,Bh W Bx 70 #[Aa Ab (Cq E.l ⟨p,q,t,v⟩ x.val).p,Aa Ab (Cq E.l ⟨p,q,t,v⟩ x.val).q,Aa Ab (Cq E.l ⟨p,q,t,v⟩ x.val).t,Aa Ab (Cq E.l ⟨p,q,t,v⟩ x.val).v]∧
    a'={ tmps:=(((a0.tmps.setIfInBounds 73 (Aa Ab (x.val:Int))).setIfInBounds 74 (.agg #[Aa Ab (Cq E.l ⟨p,q,t,v⟩ x.val).p,Aa Ab (Cq E.l ⟨p,q,t,v⟩ x.val).q,Aa Ab (Cq E.l ⟨p,q,t,v⟩ x.val).t,Aa Ab (Cq E.l ⟨p,q,t,v⟩ x.val).v])).setIfInBounds 16 (Aa Ab (x.val:Int))).setIfInBounds 17 (Adm Bx),defers:=[]})
   (fun x a' _ A B row hs hg hr=>by obtain⟨Bx,u,e⟩:=hs;exact⟨Bx,Dk hg (fun r e=>(hr r e).2) u,e⟩)
   ?assign ?body ?done ?stop
  case assign=>
   rintro l pre x W K ⟨⟨hI,hS,hA,hH,J⟩,hB⟩ hK;have z:=Hd hK;have am:=Hd J;clear hK J HR bg ao L HA HO an U HP Q HT HV ax az d H y F HB HIT;subst ha0;simp only [cQ]
   gi_wp2
   refine z.o _ _ ((KeepsOthers.alloc _ _).from _) (fun h=>h.pure ((Af _ _).alloc (Ae _) _)) ⟨⟨hI.pure ((Af _ _).alloc (Ae _) _),hS.alloc _,hA.alloc _,hH.alloc _,am.o⟩,hB.alloc (Am C.o hB.size) _⟩ ⟨W.heap.size,Bh.new _ _ _,?_⟩;rfl
  case body=>
   rintro l pre x a' W hl ⟨rr,d1⟩ ⟨⟨hI,hS,hA,hH,J⟩,hB⟩ ⟨Bx,Y,rfl⟩ dx;have b4:=Hd hI;have a1:=Hd hS;have cp:=Hd hB;have cn:=Hd hA;have cr:=Hd hH;have am:=Hd J;have O:W.cell? ⟨V,0,none⟩=some (Adm E.bw):=hI.i.x.cell 0;have a0:W.cell? ⟨bA,0,none⟩=some (Aa Ab fr):=hA.cell 0;have h0:W.cell? ⟨bH,0,none⟩=some (Aa Ab ah):=hH.cell 0;have f0:W.cell? ⟨bF,0,none⟩=some (Aa Ab f):=hI.f.cell 0;obtain⟨i,hi⟩:=x;obtain⟨kp,Z⟩:∃a,(Cq E.l ⟨p,q,t,v⟩ i).p=a:=⟨_,rfl⟩;obtain⟨kq,aa⟩:∃a,(Cq E.l ⟨p,q,t,v⟩ i).q=a:=⟨_,rfl⟩;obtain⟨kt,ab⟩:∃a,(Cq E.l ⟨p,q,t,v⟩ i).t=a:=⟨_,rfl⟩;obtain⟨kv,ad⟩:∃a,(Cq E.l ⟨p,q,t,v⟩ i).v=a:=⟨_,rfl⟩;simp only [Z,aa,ab,ad] at Y⊢;obtain ⟨k0,k1,k2,k3⟩:=Y.c4;have br:wrap64 (ah+i)=ah+i:=Cg _ (by omega);have dy:0≤(ah+i)*f:=Int.mul_nonneg (by omega) (by omega);have dz:(ah+i)*f≤8589934592*8:=Int.mul_le_mul (by omega) hf.2 (by omega) (by omega);have bs:wrap64 ((ah+i)*f)=(ah+i)*f:=Cg _ (by omega);have c6:wrap64 (fr+(ah+i)*f)=fr+(ah+i)*f:=Cg _ (by omega);obtain⟨se,bq⟩:∃b,Cy E.l kp kq kt kv (fr+(ah+i)*f) f=b:=⟨_,rfl⟩;have cs:=Hd bq;have b3:=Hd (show N2 E.l ⟨p,q,t,v⟩ f i=se by
    unfold N2;rw [Z,aa,ab,ad,al.o,L.o];exact bq)
   clear bq hI hS hA hH J hB Y Z aa ab ad;clear HR bg ao HA HO an U HP Q HT HV ax az d H y F HB HIT;subst ha0
   gi_wp2
   refine⟨trivial,(CallsIn.inRound l (callsIn_wide.2 (S7 E kp kq kt kv (fr+(ah+i)*f) f se _ b4.o.i.m (by omega) cs.o))).mono ?_⟩;rintro e W3 ⟨rfl,u⟩;have I:=Hd u;clear u;have s0:W3.cell? ⟨bS,0,none⟩=some (.bool false):=(a1.o.pure I.o).cell 0;have s1:=(a1.o.pure I.o).frozen 0;have cu:=cn.o.pure I.o;have cv:=cr.o.pure I.o;have b2:=Hd (Ba cp.o I.o C.o);clear O a0 h0 f0 k0 k1 k2 k3 br bs c6;cases se with
   |true=>
    gi_wp2
    refine⟨Pq I.o,fun h=>h.pure I.o,⟨b4.o.pure I.o,a1.o.pure I.o,cu,cv,?_⟩,b2.o⟩;intro j hj;rcases List.mem_append.1 hj with hj|hj
    ·exact am.o j hj
    ·rw [List.mem_singleton.1 hj];exact b3.o
   |false=>
    gi_wp2
    exact⟨(Pq I.o).trans ((KeepsOthers.setCell _ _ _).from _),⟨rfl,(a1.o.pure I.o).set_ 0 _,⟨i,hi⟩,List.mem_append.2 (.inr (List.mem_singleton.2 rfl)),b3.o⟩,b2.o.setCell (p:=⟨bS,0,none⟩) T.o _⟩
  case done=>
   rintro D ys W hD rfl ⟨⟨hI,hS,hA,hH,J⟩,hB⟩ hK;subst ha0;have R:r=true:=by
    rw [←HR.o];unfold K3;simp only [al.o,HN.o,aq.o];rw [if_neg an.o,if_neg,List.all_eq_true]
    ·intro i hi;exact J ⟨i,List.mem_range.1 hi⟩ (List.mem_finRange _)
    ·unfold Ck;simp only [HP.o,Q.o,HT.o,HV.o,L.o];rw [U.o];exact az.o
   subst R;have s0:W.cell? ⟨bS,0,none⟩=some (.bool false):=hS.cell 0;have s1:=hS.frozen 0;have s2:=hS.set_ 0 (.bool true);have bm:=(KeepsOthers.setCell W ⟨bS,0,none⟩ (.bool true)).same D _ hK rfl;go_wp2_with fail;refine⟨by simp,.inl ⟨_,_,rfl,run_takeDeferred bm,?_⟩⟩;have bo:=Dk (grownBy_putObj' _ D (.deferred none)) (fun r e=>by cases e;exact⟨_,bm,rfl⟩) s2;have bp:_=some (Value.bool true):=bo.cell 0;refine⟨.bool true,?_,rfl,?_⟩
   ·simp [results,Tryz.f172,go_sem,bp]
   ·rw [ay.o];have dq:n0≤w8.heap.size:=Am C.o HB.o.size;exact(hB.setCell (p:=⟨bS,0,none⟩) T.o _).trans (belowK_b (w:=w) C.o _ D _ _ (by have:=HB.o.size;omega) bm rfl rfl)
  case stop=>
   rintro D c pre W hD _ ⟨⟨rfl,hS,cx⟩,hB⟩ hK;have R:r=false:=by
    obtain⟨i,_,hi⟩:=cx;rw [←HR.o];unfold K3;simp only [al.o,HN.o,aq.o];rw [if_neg an.o,if_neg]
    ·apply Bool.eq_false_iff.2;intro h;have h1:=List.all_eq_true.1 h i.val (List.mem_range.2 i.isLt);rw [hi] at h1;cases h1
    ·unfold Ck;simp only [HP.o,Q.o,HT.o,HV.o,L.o];rw [U.o];exact az.o
   subst R;subst ha0
   gi_wp2
   refine⟨by simp,.inl ⟨_,_,rfl,run_takeDeferred hK,?_⟩⟩;have bo:=Dk (grownBy_putObj' W D (.deferred none)) (fun r e=>by cases e;exact⟨_,hK,rfl⟩) hS;have bp:_=some (Value.bool false):=bo.cell 0;refine⟨.bool false,?_,rfl,?_⟩
   ·simp [results,Tryz.f172,go_sem,bp]
   ·rw [ay.o];exact hB.trans (belowK_b (w:=w) C.o _ D _ _ (by have:=HB.o.size;omega) hK rfl rfl)
def Vf(bw:Nat):Array MapEntry:=#[⟨Aa Ab 5,.func (.func 169) #[Adm bw] #[],0⟩,⟨Aa Ab 25,.func (.func 169) #[Adm bw] #[],1⟩,⟨Aa Ab 6,.func (.func 170) #[Adm bw] #[],2⟩,⟨Aa Ab 7,.func (.func 171) #[Adm bw] #[],3⟩]
def xD(bw:Nat)(t:Int):Option Value:=if t=5∨t=25 then some (.func (.func 169) #[Adm bw] #[]) else if t=6 then some (.func (.func 170) #[Adm bw] #[]) else if t=7 then some (.func (.func 171) #[Adm bw] #[]) else none
def Xp(t:Int):Bool:=decide (t=5∨t=25∨t=6∨t=7)
def Qx(t:Int):Nat:=if t=5∨t=25 then 169 else if t=6 then 170 else if t=7 then 171 else 172
theorem yS(bw:Nat)(t:Int):∃r,Instr.findNow (.int .i64) (Aa Ab t) (Vf bw).toList 0=some r∧r.map (·.2)=xD bw t∧r.isSome=Xp t:=by
 by_cases h0:t=5
 ·subst h0;exact⟨_,rfl,rfl,rfl⟩
 by_cases h1:t=25
 ·subst h1;exact⟨_,rfl,rfl,rfl⟩
 by_cases h2:t=6
 ·subst h2;exact⟨_,rfl,rfl,rfl⟩
 by_cases h3:t=7
 ·subst h3;exact⟨_,rfl,rfl,rfl⟩
 refine⟨none,?_,?_,?_⟩
 ·have a:(t==5)=false:=by simpa using h0
  have b:(t==25)=false:=by simpa using h1
  have c:(t==6)=false:=by simpa using h2
  have d:(t==7)=false:=by simpa using h3
  simp only [Vf,Instr.findNow,Instr.sameNow,if_true,a,b,c,d]
 ·simp [xD,h0,h1,h2,h3]
 ·simp [Xp,h0,h1,h2,h3]
theorem uW(W:World):(zeroValue 127).run Ad W= .ok .nilFunc W:=by
 revert W;intro W
 kernel_rfl
theorem yT(bw:Nat)(t:Int)(W:World)(g:Nat)(hb:W.heap[g]?=some (.map (Vf bw) 4)):
  (Instr.lookup 204 (.map (some g)) (Aa Ab t) true).run Ad W= .ok (.tuple #[(xD bw t).getD .nilFunc,.bool (Xp t)]) W:=by
 obtain⟨r,h1,h2,h3⟩:=yS bw t;rw [Rh underlying204 underlying3 .nilFunc uW W (Vf bw) 4 g t true r hb h1,h2,h3];rfl
theorem Ti(E:Fe)(t:Int)(w:World):Calls Ad 92 #[Adm E.bw,Aa Ab t] w (Adh (.func (.func (Qx t)) #[Adm E.bw] #[]) w):=by
 obtain⟨bw,a⟩:∃b,E.bw=b:=⟨_,rfl⟩;rw [a];clear a;have h0:=run_makeMap (P:=Ad) 204;have h1:∀(W:World) (es:Array MapEntry) (c:Nat) (x:Int) (v:Value),Instr.findNow (.int .i64) (.int .i64 x) es.toList 0=some none→(Instr.mapUpdate 204 (.map (some W.heap.size)) (.int .i64 x) v).run Ad (W.alloc (.map es c))= .ok () (W.alloc (.map (es.push { key:= .int .i64 x,val:=v,born:=c}) (c+1))):=
  fun W es c x v h=>Tw underlying204 underlying3 W es c _ x v rfl h
 have j:∀W:World,(Instr.mapUpdate 204 (.map (some W.heap.size)) (.int .i64 5) (.func (.func 169) #[Adm bw] #[])).run Ad (W.alloc (.map #[] 0))= .ok () (W.alloc (.map #[⟨.int .i64 5,.func (.func 169) #[Adm bw] #[],0⟩] 1)):=fun W=>h1 W #[] 0 5 _ rfl
 have k:∀W:World,(Instr.mapUpdate 204 (.map (some W.heap.size)) (.int .i64 25) (.func (.func 169) #[Adm bw] #[])).run Ad (W.alloc (.map #[⟨.int .i64 5,.func (.func 169) #[Adm bw] #[],0⟩] 1))= .ok () (W.alloc (.map #[⟨.int .i64 5,.func (.func 169) #[Adm bw] #[],0⟩,⟨.int .i64 25,.func (.func 169) #[Adm bw] #[],1⟩] 2)):=fun W=>h1 W #[⟨.int .i64 5,.func (.func 169) #[Adm bw] #[],0⟩] 1 25 _ rfl
 have l:∀W:World,(Instr.mapUpdate 204 (.map (some W.heap.size)) (.int .i64 6) (.func (.func 170) #[Adm bw] #[])).run Ad (W.alloc (.map #[⟨.int .i64 5,.func (.func 169) #[Adm bw] #[],0⟩,⟨.int .i64 25,.func (.func 169) #[Adm bw] #[],1⟩] 2))= .ok () (W.alloc (.map #[⟨.int .i64 5,.func (.func 169) #[Adm bw] #[],0⟩,⟨.int .i64 25,.func (.func 169) #[Adm bw] #[],1⟩,⟨.int .i64 6,.func (.func 170) #[Adm bw] #[],2⟩] 3)):=fun W=>h1 W #[⟨.int .i64 5,.func (.func 169) #[Adm bw] #[],0⟩,⟨.int .i64 25,.func (.func 169) #[Adm bw] #[],1⟩] 2 6 _ rfl
 have m:∀W:World,(Instr.mapUpdate 204 (.map (some W.heap.size)) (.int .i64 7) (.func (.func 171) #[Adm bw] #[])).run Ad (W.alloc (.map #[⟨.int .i64 5,.func (.func 169) #[Adm bw] #[],0⟩,⟨.int .i64 25,.func (.func 169) #[Adm bw] #[],1⟩,⟨.int .i64 6,.func (.func 170) #[Adm bw] #[],2⟩] 3))= .ok () (W.alloc (.map #[⟨.int .i64 5,.func (.func 169) #[Adm bw] #[],0⟩,⟨.int .i64 25,.func (.func 169) #[Adm bw] #[],1⟩,⟨.int .i64 6,.func (.func 170) #[Adm bw] #[],2⟩,⟨.int .i64 7,.func (.func 171) #[Adm bw] #[],3⟩] 4)):=fun W=>h1 W #[⟨.int .i64 5,.func (.func 169) #[Adm bw] #[],0⟩,⟨.int .i64 25,.func (.func 169) #[Adm bw] #[],1⟩,⟨.int .i64 6,.func (.func 170) #[Adm bw] #[],2⟩] 3 7 _ rfl
 have f:=yT bw t (w.alloc (.map (Vf bw) 4)) w.heap.size (heap_alloc_new w _);have e:=Hd (show Below w.heap.size w (w.alloc (.map (Vf bw) 4)) from(Af _ _).alloc (Ae _) _);unfold Vf at f e;clear h1;by_cases h:t=5∨t=25∨t=6∨t=7
 ·have d:Xp t=true:=decide_eq_true h;have i:(xD bw t).getD .nilFunc= .func (.func (Qx t)) #[Adm bw] #[]:=by
   rcases h with rfl|rfl|rfl|rfl <;>rfl
  rw [d,i] at f;clear h d i;go_enter func92,ntmps92;go_wp2;go_ret;exact⟨rfl,e.o⟩
 ·have d:Xp t=false:=decide_eq_false h;have g:Qx t=172:=by unfold Qx;rw [if_neg (by omega),if_neg (by omega),if_neg (by omega)]
  rw [d] at f;rw [g];clear h d g;go_enter func92,ntmps92;go_wp2;go_ret;exact⟨rfl,e.o⟩
def K2(l:List UInt8)(r:Rq)(f:Int):Bool:=
 if r.t=5∨r.t=25 then Sw l r.p r.q r.t r.v f else if r.t=6 then bK l r.p r.q r.t r.v f else if r.t=7 then Xq l r.p r.q r.t r.v f else K3 l r f
def Ek(go:Rq→List P3→Option (Except Int (List P3)))(l:List UInt8)(r:Rq):List Nat→List P3→Option (Except Int (List P3))
 | [],had=>some (.ok had)
 |i::is,had=>
  match go (Cq l r i) had with
  |none=>none
  |some (.error a)=>some (.error a)
  |some (.ok h)=>Ek go l r is h
def Md(go:Rq→List P3→Option (Except Int (List P3)))(l:List UInt8)(r:Rq)(had:List P3):Option (Except Int (List P3)):=
 if r.t=9 then
  match go (Ck l r) had with
  |none=>none
  |some (.error a)=>some (.error a)
  |some (.ok h)=>Ek go l r (List.range (lsLen l r.p r.q r.t r.v)) h
 else Ek go l r (List.range (lsLen l r.p r.q r.t r.v)) had
def Hh(l:List UInt8)(r:Rq):P3:=(By l r.p r.q r.t r.v,r.t,r.v)
def Dt(l:List UInt8):Nat→Rq→List P3→Option (Except Int (List P3))
 |0,_,_=>none
 |d+1,r,had=>
  if Bs r.t=true then some (.ok had)
  else if Hh l r∈had∨r.t=4 then some (.ok had)
  else if 1<r.v∧K2 l r (r.v/2)=true then some (.error (By l r.p r.q r.t r.v))
  else Md (Dt l d) l r (had++ [Hh l r])
def H8(r:Rq):Prop:=Bs r.t=true∨(Bt r.v=true∧0≤r.t∧r.t<64)
theorem Sk(h:Bt x=true):1≤x∧x≤8:=by
 have:=Bz.1 h;omega
theorem Vg(l:List UInt8)(r:Rq):H8 (Ck l r):=by
 unfold H8 Ck;by_cases h:Hf l r.p r.q r.t r.v=0
 ·refine .inr ⟨?_,by simp only;unfold Ps;rw [if_pos h];decide⟩;simp only;unfold Sr;rw [if_pos h];unfold Hf at h;cases hw:Bt (kyU l r.p r.q r.t r.v:Int) with
  |true=>rfl
  |false=>
   exfalso;rw [hw] at h;split at h
   ·omega
   ·split at h
    ·cases h
    ·split at h
     ·omega
     ·simp at h
 ·refine .inl ?_;simp only;unfold Ps;rw [if_neg h];rfl
theorem tR(t:Int):0≤Gh t∧Gh t<64:=by
 cases e:Im t with
 |false=>simp [Gh,Lr e]
 |true=>exact Lq (p:=fun t=>0≤Gh t∧Gh t<64) (by decide) e
theorem Aar(t:Int)(c:UInt8):0≤(if Fv t=true then Ix c else Gh t)∧(if Fv t=true then Ix c else Gh t)<64:=by
 by_cases h:Fv t=true
 ·rw [if_pos h];unfold Ix;have:=c.toNat_lt;split <;>omega
 ·rw [if_neg h];exact tR t
theorem Yu(l:List UInt8)(r:Rq)(hv:Bt r.v=true)(i:Nat):H8 (Cq l r i):=by
 unfold H8 Cq;by_cases h:Eu l r.p r.q r.t r.v i=0
 ·refine .inr ⟨?_,by simp only;unfold Pk;rw [if_pos h];exact Aar _ _⟩;simp only;unfold Ro;rw [if_pos h];by_cases h2:Fv r.t=true
  ·rw [if_pos h2];unfold Jr;unfold Eu at h;split at h
   ·contradiction
   ·split at h
    ·cases h
    ·unfold Fh at h;split at h
     ·rename_i hl;rw [if_pos hl];have a:(Oc l r.p r.q r.t r.v i).toNat % 4<4:=Nat.mod_lt _ (by decide);generalize (Oc l r.p r.q r.t r.v i).toNat % 4=y at a⊢;have:y=0∨y=1∨y=2∨y=3:=by omega
      rcases this with rfl|rfl|rfl|rfl <;>decide
     ·cases h
  ·rw [if_neg h2];exact hv
 ·refine .inl ?_;simp only;unfold Pk;rw [if_neg h];rfl
structure Eb(E:Fe)(m:Nat)(had:List P3)(x:Int)(w:World):Prop where
 hc:E.n≤E.c
 hn:E.n≤4294967296
 b:Ca w E.A E.n E.l
 k:Bh w E.bw 92 #[.slice E.A E.n E.c,.map (some m),Aa Ab x]
 h:Js w m had
 la:∀ad,E.A=some ad→ad.block<w.heap.size
theorem Eb.m{m:Nat}(h:Eb E m had x w):Jp E w:=⟨h.hc,h.hn,h.b,h.k.cell 0⟩
theorem Eb.pure{m:Nat}(h:Eb E m had x w)(hb:Below w.heap.size w w'):Eb E m had x w':=⟨h.hc,h.hn,h.b.pure hb,h.k.pure hb,h.h.pure hb,fun ad e=>As (h.la ad e) hb.size⟩
theorem Eb.grown{m:Nat}(h:Eb E m had x W)(hm:m<B)(hg:W.grownBy W' row)(hr:∀r,row=some r→B≤r∧∃o:Obj,W.heap[r]?=some o∧o.isCells=false):Eb E m had x W':=by
 obtain⟨c,k,a,r⟩:=h.h;refine⟨h.hc,h.hn,⟨h.b.1,h.b.2.keep fun _ _ hc _=>cell_kept hc hg fun r e=>(hr r e).2⟩,Dk hg (fun r e=>(hr r e).2) h.k,⟨c,k,?_,r⟩,fun ad e=>As (h.la ad e) hg.size⟩;rw [hg.block m (Array.getElem?_eq_some_iff.1 a).1 (fun e=>by have:=(hr m e.symm).1;omega)];exact a
end Go.Proofs.YtejpbijeifjdeaaGreat
