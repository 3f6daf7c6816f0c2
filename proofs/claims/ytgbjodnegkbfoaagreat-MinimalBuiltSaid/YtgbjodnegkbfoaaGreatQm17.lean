/- Parts of the proof. -/
import Derived.Test.YtgbjodnegkbfoaaGreatQm16
set_option maxHeartbeats 4000000
set_option maxRecDepth 100000
open Go.Value renaming int→Aa
open Go.IntKind renaming i64→Ab
open Nat renaming le_refl→Asp
open List renaming length_append→Ass
namespace Go.Proofs.YtgbjodnegkbfoaaGreat
open Go.RowKit Go.Acc
attribute [local go_sem] Oper.semAt_some
def Je(l:List UInt8)(r:Rq):Int:=((lsAt l r.p r.q r.t r.v:Int)-lsFrom l r.p r.q r.t r.v)/r.v
def Nz(l:List UInt8)(r:Rq)(f:Int)(i:Nat):Bool:=C0 l (Bw l r i).p (Bw l r i).q (Bw l r i).t (Bw l r i).v (lsFrom l r.p r.q r.t r.v+(Je l r+i)*f) f
def Ip(l:List UInt8)(r:Rq)(f:Int):Bool:=
 if 0<Je l r∧f<Kc (lsLen l r.p r.q r.t r.v) then false
 else if Je l r=3∧C0 l (Cl l r).p (Cl l r).q (Cl l r).t (Cl l r).v (lsFrom l r.p r.q r.t r.v) f=false then false
 else(List.range (lsLen l r.p r.q r.t r.v)).all (Nz l r f)
structure Xd(E:E0)(p q t v f:Int)(bX bR bF:Nat)(w:World):Prop where
 i:Nr E p q t v bX bR w
 f:Ag w bF 3 #[Aa Ab f]
theorem Xd.pure{E:E0}{p q t v f:Int}{bX bR bF:Nat}{w w':World}(h:Xd E p q t v f bX bR bF w)(hb:Below w.heap.size w w'):Xd E p q t v f bX bR bF w':=⟨h.i.pure hb,h.f.pure hb⟩
theorem Cw{W W':World}{row:Option Nat}(hg:W.grownBy W' row)(hr:∀r,row=some r→∃o:Obj,W.heap[r]?=some o∧o.isCells=false){g:Nat}{t:TypeId}{cs:Array Value}(h:Ag W g t cs):Ag W' g t cs:=(grownBy_keeps_cells hg hr h rfl).trans h
theorem Ie.kept{E:E0}{W W':World}{row:Option Nat}(h:Ie E W)(hg:W.grownBy W' row)(hr:∀r,row=some r→∃o:Obj,W.heap[r]?=some o∧o.isCells=false):Ie E W':=⟨h.hc,h.hn,⟨h.b.1,h.b.2.keep fun _ _ hc _=>cell_kept hc hg hr⟩,cell_kept h.c0 hg hr⟩
theorem Nr.kept{E:E0}{p q t v:Int}{bx br:Nat}{W W':World}{row:Option Nat}(h:Nr E p q t v bx br W)(hg:W.grownBy W' row)(hr:∀r,row=some r→∃o:Obj,W.heap[r]?=some o∧o.isCells=false):Nr E p q t v bx br W':=⟨h.m.kept hg hr,Cw hg hr h.x,Cw hg hr h.r⟩
theorem Anr{E:E0}{p q t v:Int}{bx br:Nat}{A B C:World}(h:ItK E p q t v bx br A B)(k:ItK E p q t v bx br B C):ItK E p q t v bx br A C:=fun x=>k (h x)
theorem Anq{E:E0}{p q t v:Int}{bx br B:Nat}(W:World)(l:Nat)(o o':Obj)(_:B≤l)(hl:W.heap[l]?=some o)(hc:o.isCells=false)(_:o.isWalk=false):ItK E p q t v bx br W (W.putObj l o'):=fun h=>h.kept (grownBy_putObj' W l o') (fun r e=>by cases e;exact⟨o,hl,hc⟩)
theorem Xd.kept{E:E0}{p q t v f:Int}{bX bR bF:Nat}{W W':World}{row:Option Nat}(h:Xd E p q t v f bX bR bF W)(hg:W.grownBy W' row)(hr:∀r,row=some r→∃o:Obj,W.heap[r]?=some o∧o.isCells=false):Xd E p q t v f bX bR bF W':=⟨h.i.kept hg hr,Cw hg hr h.f⟩
theorem Nw{B:Nat}{W W':World}(hb:Below W.heap.size W W'):KeepsFrom B W W':=⟨hb.size,fun k _ _ hk _=>(hb.block k (Array.getElem?_eq_some_iff.1 hk).1).trans hk⟩
theorem Acb{F:Fence}{n:Nat}{P:Program}{c:Code}{Q:Exit→Act→World→Prop}{a:Act}{w:World}(h:∀a0,a0=a→c.wpIn F n P Q a0 w):c.wpIn F n P Q a w:=h a rfl
theorem Afg{n:Nat}{w w':World}{g:Nat}(u:Value)(h:Below n w w')(hg:n≤g):Below n w (w'.setCell ⟨g,0,none⟩ u):=h.setCell (p:=⟨g,0,none⟩) hg u
theorem Al8(E:E0)(p q t v f:Int)(r:Bool)(w:World)(h:Ie E w)(hv:1≤v∧v≤8)(hf:1≤f∧f≤8)(hr:Ip E.l ⟨p,q,t,v⟩ f=r):
  Calls Tryz.prog 172 #[.pointer (some ⟨E.bw,0,none⟩),.agg #[Aa Ab p,Aa Ab q,Aa Ab t,Aa Ab v],Aa Ab f] w fun e w'=>e= .returned (.bool r)∧Below w.heap.size w w':=by
 have hnn:=h.hn;have hcc:=h.hc;have HM0:=Hd h;clear h;refine callsIn_wide.1 (callsIn_of_wp_marks (n:=6) Tryz.func172 rfl trivial (wpIn_wide.2 ?_));simp only [Tryz.ntmps172,List.size_toArray,List.length_cons,List.length_nil,Nat.reduceAdd,Nat.reduceSub,Array.replicate_succ,Array.replicate_zero,List.push_toArray,List.append_toArray,List.nil_append,List.cons_append];obtain⟨fr,hfr⟩:∃x:Int,(lsFrom E.l p q t v:Int)=x:=⟨_,rfl⟩;obtain⟨a,ha⟩:∃x:Int,(lsAt E.l p q t v:Int)=x:=⟨_,rfl⟩;obtain⟨o,ho⟩:∃x:Int,(lsTo E.l p q t v:Int)=x:=⟨_,rfl⟩;obtain⟨N,hN⟩:∃N:Nat,lsLen E.l p q t v=N:=⟨_,rfl⟩;obtain⟨er,he⟩:∃x,Bs E.l p q t v=x:=⟨_,rfl⟩;have HFR:=Hd hfr;have HA:=Hd ha;have HO:=Hd ho;have HN:=Hd hN;have HNI:=Hd (show(lsLen E.l p q t v:Int)=(N:Int) by rw [hN]);have HEE:=Hd he;have HR:=Hd hr;clear hfr ha ho hN he hr;have HI:=Hd (show Xd E p q t v f w.heap.size (w.heap.size+1) (w.heap.size+1+1) ((((w.alloc (.cells #[.pointer (some ⟨E.bw,0,none⟩)] 78)).alloc (.cells #[Aa Ab p,Aa Ab q,Aa Ab t,Aa Ab v] 75)).alloc (.cells #[Aa Ab f] 3)).alloc (.cells #[.bool false] 4)) from
  ⟨⟨(((HM0.o.alloc _).alloc _).alloc _).alloc _,(((Ag.new w _ _).alloc _).alloc _).alloc _,((Ag.new_ (by simp) _ _).alloc _).alloc _⟩,(Ag.new_ (by simp) _ _).alloc _⟩)
 have HS:=Hd (Ag.new_ (w:=(((w.alloc (.cells #[.pointer (some ⟨E.bw,0,none⟩)] 78)).alloc (.cells #[Aa Ab p,Aa Ab q,Aa Ab t,Aa Ab v] 75)).alloc (.cells #[Aa Ab f] 3))) (g:=w.heap.size+1+1+1) (by simp) 4 #[.bool false]);have HB:=Hd (show Below w.heap.size w ((((w.alloc (.cells #[.pointer (some ⟨E.bw,0,none⟩)] 78)).alloc (.cells #[Aa Ab p,Aa Ab q,Aa Ab t,Aa Ab v] 75)).alloc (.cells #[Aa Ab f] 3)).alloc (.cells #[.bool false] 4)) from
  ((((Below.refl _ _).alloc (Asp _) _).alloc (by simp) _).alloc (by simp <;>omega) _).alloc (by simp <;>omega) _)
 clear HM0;go_upto_region 1 with fail
 generalize (((w.alloc (.cells #[.pointer (some ⟨E.bw,0,none⟩)] 78)).alloc (.cells #[Aa Ab p,Aa Ab q,Aa Ab t,Aa Ab v] 75)).alloc (.cells #[Aa Ab f] 3)).alloc (.cells #[.bool false] 4)=w1 at HI HS HB⊢;have HSL:=Hd (show w.heap.size≤w.heap.size+1+1+1 by omega);obtain⟨n0,hn0⟩:∃n0,w.heap.size=n0:=⟨_,rfl⟩;generalize w.heap.size+1+1+1=bS at HS HSL⊢;generalize w.heap.size+1+1=bF at HI⊢;generalize w.heap.size+1=bR at HI⊢;rw [hn0] at HB HSL;have HN0:=Hd (Nat.le_of_eq hn0.symm);have HN1:=Hd hn0;clear hn0;obtain⟨bX,hbx⟩:∃x,w.heap.size=x:=⟨_,rfl⟩;rw [hbx] at HI⊢;clear hbx;have c0:=HI.o.i.m.c0;have b0:_=some (Value.pointer (some ⟨E.bw,0,none⟩)):=HI.o.i.x.cell 0;have x0:=Al HI.o.i.r;have x1:=Ak HI.o.i.r;have x2:=Aj HI.o.i.r;have x3:=Am HI.o.i.r;go_cut [7,8,9,10] from 18 to 86 (fun u7 u8 u9 u10 wx=>∃wy,wy=wx∧u8= Aa Ab a∧u9= Aa Ab o∧u10= Aa Ab er∧∃g,u7= .pointer (some ⟨g,0,none⟩)∧Ag wx g 3 #[Aa Ab fr]∧w1.heap.size≤g∧Below w1.heap.size w1 wx)
 case first=>
  have HQ:=Hd (Below.refl w1.heap.size w1);have HX0:=Hd HI.o;have HB0:=Hd (show w1.cell? ⟨bX,0,none⟩=some (.pointer (some ⟨E.bw,0,none⟩)) from HI.o.i.x.cell 0);have hn1:E.bw≠w1.heap.size:=by have:=Ao HI.o.i.m.c0;simp only at this;omega
  have hn2:bR≠w1.heap.size:=by have:=HI.o.i.r.lt;omega
  have hn3:bX≠w1.heap.size:=by have:=HI.o.i.x.lt;omega
  clear HI HB HS;go_region_held3 (fun w'=>w'.cell? ⟨bX,0,none⟩=some (.pointer (some ⟨E.bw,0,none⟩))∧w'.cell? ⟨E.bw,0,none⟩=some (.slice E.A E.n E.c)∧(w'.cell? ⟨bR,0,none⟩=some (Aa Ab p)∧w'.cell? ⟨bR,1,none⟩=some (Aa Ab q)∧w'.cell? ⟨bR,2,none⟩=some (Aa Ab t)∧w'.cell? ⟨bR,3,none⟩=some (Aa Ab v))) ((with_reducible refine⟨?_,?_,?_,?_,?_,?_⟩) <;>(repeat (first|with_reducible assumption|with_reducible refine Bq ?_|with_reducible refine Fz _ ?_|with_reducible refine Oz ?_ ?_)))
   (first|(go_at_call 173;(first|(with_reducible refine(S9 E.A E.n E.c p q t v fr a o er E.l _ (HX0.o.i.m.b.pure HQ.o.drew) hcc (by omega) HFR.o HA.o HO.o HEE.o).mono ?_)|(with_reducible refine(S9 E.A E.n E.c p q t v fr a o er E.l _ (HX0.o.i.m.b.pure (HQ.o.alloc HQ.o.size _).drew) hcc (by omega) HFR.o HA.o HO.o HEE.o).mono ?_));rintro e w7 ⟨rfl,hb⟩;(first|(with_reducible replace HQ:=Hd (Ad HQ.o.drew hb))|((with_reducible have HK:=Hd ((Ag.new w1 3 #[Aa Ab 0]).drew.pure hb));(with_reducible replace HQ:=Hd (Ad (HQ.o.alloc HQ.o.size _).drew hb));have q0:_=some (Aa Ab 0):=HK.o.cell 0;have p0:=HK.o.frozen 0));replace b0:=Ae HQ.o HB0.o;replace c0:=Ae HQ.o HX0.o.i.m.c0;replace x0:=Ae HQ.o (Al HX0.o.i.r);replace x1:=Ae HQ.o (Ak HX0.o.i.r);replace x2:=Ae HQ.o (Aj HX0.o.i.r);replace x3:=Ae HQ.o (Am HX0.o.i.r);have hn4:E.bw≠w7.heap.size:=(by have:=Ao c0;simp only at this;omega);have hn5:bR≠w7.heap.size:=(by have:=Ao x0;simp only at this;omega);have hn6:bX≠w7.heap.size:=(by have:=Ao b0;simp only at this;omega);clear hb))
  all_goals
   go_wp2_with fail;go_meet
   first
    |with_reducible exact⟨_,rfl,rfl,rfl,rfl,_,rfl,Ag.new _ _ _,HQ.o.size,HQ.o.alloc HQ.o.size _⟩
    |exact⟨_,rfl,rfl,rfl,rfl,_,rfl,HK.o.set_ 0 _,Asp _,Afg _ HQ.o (Asp _)⟩
 case rest=>
 obtain⟨w2,rfl,rfl,rfl,rfl,bA,rfl,hKA,hbA,hb⟩:=hcut;clear c0 b0 x0 x1 x2 x3;replace HI:=Hd (HI.o.pure hb);replace HS:=Hd (HS.o.pure hb);have HKA:=Hd hKA;have HSA:=Hd (Nat.le_trans HB.o.size hbA);replace HB:=Hd (Ad HB.o hb HN0.o);clear hKA hbA hb;have c0:=HI.o.i.m.c0;have b0:_=some (Value.pointer (some ⟨E.bw,0,none⟩)):=HI.o.i.x.cell 0;have x0:=Al HI.o.i.r;have x1:=Ak HI.o.i.r;have x2:=Aj HI.o.i.r;have x3:=Am HI.o.i.r;go_wp2_with fail;go_region_held3 (fun w'=>w'.cell? ⟨bX,0,none⟩=some (.pointer (some ⟨E.bw,0,none⟩))∧w'.cell? ⟨E.bw,0,none⟩=some (.slice E.A E.n E.c)∧(w'.cell? ⟨bR,0,none⟩=some (Aa Ab p)∧w'.cell? ⟨bR,1,none⟩=some (Aa Ab q)∧w'.cell? ⟨bR,2,none⟩=some (Aa Ab t)∧w'.cell? ⟨bR,3,none⟩=some (Aa Ab v))) (first|with_reducible exact⟨b0,c0,x0,x1,x2,x3⟩|with_reducible exact⟨Ah b0,Ah c0,Ah x0,Ah x1,Ah x2,Ah x3⟩) (first|(go_at_call 175;(with_reducible refine(Wg E.A E.n E.c p q t v N er E.l _ HI.o.i.m.drew.b hcc (by omega) HNI.o HEE.o).mono ?_);rintro e w3 ⟨rfl,hb⟩;have hb2:=Be (Cm w2) hb;replace HI:=Hd (HI.o.pure hb2);replace HS:=Hd (HS.o.pure hb2);replace HKA:=Hd (HKA.o.pure hb2);replace HB:=Hd (Ad HB.o hb2 HN0.o);clear c0 b0 x0 x1 x2 x3;clear hb hb2;have c0:=HI.o.i.m.c0;have b0:_=some (Value.pointer (some ⟨E.bw,0,none⟩)):=HI.o.i.x.cell 0;have x0:=Al HI.o.i.r;have x1:=Ak HI.o.i.r;have x2:=Aj HI.o.i.r;have x3:=Am HI.o.i.r));have a0:_=some (Aa Ab fr):=HKA.o.cell 0;obtain⟨ah,hah⟩:∃x:Int,Je E.l ⟨p,q,t,v⟩=x:=⟨_,rfl⟩;have hfacts:0≤fr∧fr≤a∧a≤4294967296∧N≤4294967296:=by
  have h1:=HFR.o;have h2:=HA.o;have h3:=HN.o;have h4:=Aa2 E.l p q t v;have h5:=HI.o.i.m.b.1;by_cases h:Bs E.l p q t v=0
  ·obtain⟨_,_,h6,h7⟩:=Kn h;omega
  ·unfold lsFrom at h1;unfold lsAt at h2;rw [if_neg h] at h1 h2;omega
 obtain⟨hf0,hfa,ha1,hN1⟩:=hfacts;have hah2:(a-fr)/v=ah:=by rw [←hah];unfold Je;simp only [HA.o,HFR.o]
 have hah0:0≤ah:=by rw [←hah2];exact Int.ediv_nonneg (by omega) (by omega)
 have hah1:ah≤4294967296:=by
  rw [←hah2];exact Int.le_trans (Int.ediv_le_self _ (by omega)) (by omega)
 have hw1:wrap64 (a-fr)=a-fr:=Cj _ (by omega);have hw2:wrap64 ((a-fr).tdiv v)=ah:=by
  rw [Int.tdiv_eq_ediv_of_nonneg (by omega),hah2];exact Cj _ (by omega)
 have HAH:=Hd hah;clear hah;go_upto_region 4 with fail
 rw [hah2];clear hw1 hw2 a0 hah2;have HKH:=Hd (Ag.new w3 3 #[Aa Ab ah]);have HSH:=Hd (show n0≤w3.heap.size from Nat.le_trans HN0.o HB.o.size);replace HI:=Hd (HI.o.pure ((Below.refl _ _).alloc (Asp _) (.cells #[Aa Ab ah] 3)));replace HS:=Hd (HS.o.pure ((Below.refl _ _).alloc (Asp _) (.cells #[Aa Ab ah] 3)));replace HKA:=Hd (HKA.o.pure ((Below.refl _ _).alloc (Asp _) (.cells #[Aa Ab ah] 3)));replace HB:=Hd (HB.o.alloc HSH.o (.cells #[Aa Ab ah] 3));clear c0 b0 x0 x1 x2 x3;generalize w3.alloc (.cells #[Aa Ab ah] 3)=w4 at HI HS HKA HKH HB⊢;generalize w3.heap.size=bH at HKH HSH⊢;obtain⟨k,hk⟩:∃k,Kc N=k:=⟨_,rfl⟩;have HWK:=Hd hk;have hwN:IntKind.u64.wrap (N:Int)=N:=by rw [IntKind.wrap_u64];omega
 clear hk;go_cut [52] from 18 to 86 (fun u52 wx=>∃wy,wy=wx∧u52= .bool (decide (0<ah∧f<k))∧Below w4.heap.size w4 wx)
 case first=>
  have h0:w4.cell? ⟨bH,0,none⟩=some (Aa Ab ah):=HKH.o.cell 0;have f0:w4.cell? ⟨bF,0,none⟩=some (Aa Ab f):=HI.o.f.cell 0;clear HI HS HKA HKH HB;by_cases hp:0<ah
  ·have HPP:=Hd hp;obtain⟨cc,hcc2⟩:∃x,decide (f<k)=x:=⟨_,rfl⟩;have HD:=Hd (show decide (0<ah∧f<k)=cc by rw [←hcc2];apply decide_eq_decide.2;exact⟨fun h=>h.2,fun h=>⟨hp,h⟩⟩);go_region_held3 (fun w'=>w'.cell? ⟨bH,0,none⟩=some (Aa Ab ah)∧w'.cell? ⟨bF,0,none⟩=some (Aa Ab f)) (first|with_reducible exact⟨h0,f0⟩|with_reducible exact⟨Ah h0,Ah f0⟩)
    (first|(go_at_call 54;(with_reducible refine(Hc N k _ (by omega) HWK.o).mono ?_);rintro e w5 ⟨rfl,hb⟩;have HB5:=Hd (show Below w4.heap.size w4 w5 by rw [←hb];exact Cm w4);replace h0:w5.cell? ⟨bH,0,none⟩=some (Aa Ab ah):=by rw [←hb];exact Ah h0);replace f0:w5.cell? ⟨bF,0,none⟩=some (Aa Ab f):=by rw [←hb];exact Ah f0)
   go_wp2_with fail;go_meet;rw [HD.o];exact⟨_,rfl,rfl,HB5.o⟩
  ·have HD:=Hd (show decide (0<ah∧f<k)=false from decide_eq_false fun h=>hp h.1);have hd0:decide (0<ah)=false:=decide_eq_false hp;clear hp;go_quiet (fail);go_wp2_with fail;go_meet;rw [HD.o];exact⟨_,rfl,rfl,below_drewN (Below.refl _ _) _⟩
 case rest=>
 obtain⟨w5,rfl,rfl,hb⟩:=hcut;replace HI:=Hd (HI.o.pure hb);replace HS:=Hd (HS.o.pure hb);replace HKA:=Hd (HKA.o.pure hb);replace HKH:=Hd (HKH.o.pure hb);replace HB:=Hd (Ad HB.o hb HN0.o);clear hb;by_cases hc:0<ah∧f<k
 ·have hre:r=false:=by
   rw [←HR.o];unfold Ip;simp only [HAH.o,HN.o,HWK.o];rw [if_pos hc]
  subst hre;have hd:decide (0<ah∧f<k)=true:=decide_eq_true hc;rw [hd];have s0:w5.cell? ⟨bS,0,none⟩=some (.bool false):=HS.o.cell 0;have s1:=HS.o.frozen 0;have s2:(w5.setCell ⟨bS,0,none⟩ (.bool false)).cell? ⟨bS,0,none⟩=some (.bool false):=(HS.o.set_ 0 (.bool false)).cell 0;clear hc hd;go_wp2_with fail;refine⟨.bool false,?_,rfl,?_⟩
  ·simp [results,Tryz.f172,go_sem,s2]
  ·rw [HN1.o];exact HB.o.setCell (p:=⟨bS,0,none⟩) HSL.o (.bool false)
 ·have hd:decide (0<ah∧f<k)=false:=decide_eq_false hc;rw [hd];have HC1:=Hd hc;clear hd hc;obtain⟨kp,hk1⟩:∃a,Et E.l p q t v=a:=⟨_,rfl⟩;obtain⟨kq,hk2⟩:∃a,Eu E.l p q t v=a:=⟨_,rfl⟩;obtain⟨kt,hk3⟩:∃a,J0 E.l p q t v=a:=⟨_,rfl⟩;obtain⟨kv,hk4⟩:∃a,Ev E.l p q t v=a:=⟨_,rfl⟩;obtain⟨ke,hk5⟩:∃a,Gh E.l p q t v=a:=⟨_,rfl⟩;have HP:=Hd hk1;have HQQ:=Hd hk2;have HT:=Hd hk3;have HV:=Hd hk4;have HKE:=Hd hk5;clear hk1 hk2 hk3 hk4 hk5;obtain⟨st,hst⟩:∃x,C0 E.l kp kq kt kv fr f=x:=⟨_,rfl⟩;have HST:=Hd hst;clear hst;have h0:w5.cell? ⟨bH,0,none⟩=some (Aa Ab ah):=HKH.o.cell 0;go_upto_if 54 with fail
  go_cut [14,15] from 18 to 86 (fun _ _ wx=>∃wy,wy=wx∧¬(ah=3∧st=false)∧Below w5.heap.size w5 wx)
  case first=>
   by_cases h3:ah=3
   ·subst h3;go_upto_region 7 with fail
    go_cut [14,15] from 18 to 86 (fun u7 u8 wx=>∃wy,wy=wx∧u8= Aa Ab ke∧∃g,u7= .pointer (some ⟨g,0,none⟩)∧Ag wx g 75 #[Aa Ab kp,Aa Ab kq,Aa Ab kt,Aa Ab kv]∧w5.heap.size≤g∧Below w5.heap.size w5 wx)
    case first=>
     have HQ:=Hd (Below.refl w5.heap.size w5);have HX0:=Hd HI.o;have HB0:=Hd (show w5.cell? ⟨bX,0,none⟩=some (.pointer (some ⟨E.bw,0,none⟩)) from HI.o.i.x.cell 0);have hn1:E.bw≠w5.heap.size:=by have:=Ao HI.o.i.m.c0;simp only at this;omega
     have hn2:bR≠w5.heap.size:=by have:=HI.o.i.r.lt;omega
     have hn3:bX≠w5.heap.size:=by have:=HI.o.i.x.lt;omega
     have c0:=HI.o.i.m.c0;have b0:_=some (Value.pointer (some ⟨E.bw,0,none⟩)):=HI.o.i.x.cell 0;have x0:=Al HI.o.i.r;have x1:=Ak HI.o.i.r;have x2:=Aj HI.o.i.r;have x3:=Am HI.o.i.r;clear HI HB HS HKA HKH h0;go_region_held3 (fun w'=>w'.cell? ⟨bX,0,none⟩=some (.pointer (some ⟨E.bw,0,none⟩))∧w'.cell? ⟨E.bw,0,none⟩=some (.slice E.A E.n E.c)∧(w'.cell? ⟨bR,0,none⟩=some (Aa Ab p)∧w'.cell? ⟨bR,1,none⟩=some (Aa Ab q)∧w'.cell? ⟨bR,2,none⟩=some (Aa Ab t)∧w'.cell? ⟨bR,3,none⟩=some (Aa Ab v))) ((with_reducible refine⟨?_,?_,?_,?_,?_,?_⟩) <;>(repeat (first|with_reducible assumption|with_reducible refine Bq ?_|with_reducible refine Fz _ ?_|with_reducible refine Oz ?_ ?_)))
      (first|(go_at_call 93;(first|(with_reducible refine(Kk E.A E.n E.c p q t v kp kq kt kv ke E.l _ (HX0.o.i.m.b.pure HQ.o.drew) hcc (by omega) HP.o HQQ.o HT.o HV.o HKE.o).mono ?_)|(with_reducible refine(Kk E.A E.n E.c p q t v kp kq kt kv ke E.l _ (HX0.o.i.m.b.pure (HQ.o.alloc HQ.o.size _).drew) hcc (by omega) HP.o HQQ.o HT.o HV.o HKE.o).mono ?_));rintro e w7 ⟨rfl,hb⟩;(first|(with_reducible replace HQ:=Hd (Ad HQ.o.drew hb))|((with_reducible have HK:=Hd ((Ag.new w5 75 #[Aa Ab 0,Aa Ab 0,Aa Ab 0,Aa Ab 0]).drew.pure hb));(with_reducible replace HQ:=Hd (Ad (HQ.o.alloc HQ.o.size _).drew hb));have q0:=Al HK.o;have q1:=Ak HK.o;have q2:=Aj HK.o;have q3:=Am HK.o;have p0:=HK.o.frozen 0;have p1:=HK.o.frozen 1;have p2:=HK.o.frozen 2;have p3:=HK.o.frozen 3));replace b0:=Ae HQ.o HB0.o;replace c0:=Ae HQ.o HX0.o.i.m.c0;replace x0:=Ae HQ.o (Al HX0.o.i.r);replace x1:=Ae HQ.o (Ak HX0.o.i.r);replace x2:=Ae HQ.o (Aj HX0.o.i.r);replace x3:=Ae HQ.o (Am HX0.o.i.r);have hn4:E.bw≠w7.heap.size:=(by have:=Ao c0;simp only at this;omega);have hn5:bR≠w7.heap.size:=(by have:=Ao x0;simp only at this;omega);have hn6:bX≠w7.heap.size:=(by have:=Ao b0;simp only at this;omega);clear hb))
     all_goals
      go_wp2_with fail;go_meet
      first
       |with_reducible exact⟨_,rfl,rfl,_,rfl,Ag.new _ _ _,HQ.o.size,HQ.o.alloc HQ.o.size _⟩
       |exact⟨_,rfl,rfl,_,rfl,(((HK.o.set_ 0 _).set_ 1 _).set_ 2 _).set_ 3 _,Asp _,Cn _ HQ.o (Asp _) _ _ _ _⟩
    case rest=>
    obtain⟨w7,rfl,rfl,g,rfl,hK,hg,hb⟩:=hcut;have k0:=Al hK;have k1:=Ak hK;have k2:=Aj hK;have k3:=Am hK;have HI7:=Hd (HI.o.pure hb);have HS7:=Hd (HS.o.pure hb);have HB7:=Hd (Ad HB.o hb HN0.o);have HBQ:=Hd hb;have a0:w7.cell? ⟨bA,0,none⟩=some (Aa Ab fr):=(HKA.o.pure hb).cell 0;have f0:w7.cell? ⟨bF,0,none⟩=some (Aa Ab f):=(HI7.o.f).cell 0;have b0:w7.cell? ⟨bX,0,none⟩=some (.pointer (some ⟨E.bw,0,none⟩)):=HI7.o.i.x.cell 0;clear hK hg hb h0;go_wp2_with fail;go_at_call 45;refine(Q4 E kp kq kt kv fr f st _ HI7.o.i.m (by omega) HST.o).mono ?_;rintro e w8 ⟨rfl,hb⟩;replace HS7:=Hd (HS7.o.pure hb);replace HB7:=Hd (Ad HB7.o hb HN0.o);replace HBQ:=Hd (Ad HBQ.o hb);clear hb k0 k1 k2 k3 a0 f0 b0;cases st with
    |true=>
     go_wp2_with fail;go_meet;exact⟨_,rfl,(by simp),HBQ.o⟩
    |false=>
     have hre:r=false:=by
      rw [←HR.o];unfold Ip;simp only [HAH.o,HN.o,HWK.o];rw [if_neg HC1.o,if_pos];refine⟨trivial,?_⟩;unfold Cl;simp only [HP.o,HQQ.o,HT.o,HV.o,HFR.o];exact HST.o
     subst hre;have s0:w8.cell? ⟨bS,0,none⟩=some (.bool false):=HS7.o.cell 0;have s1:=HS7.o.frozen 0;have s2:(w8.setCell ⟨bS,0,none⟩ (.bool false)).cell? ⟨bS,0,none⟩=some (.bool false):=(HS7.o.set_ 0 (.bool false)).cell 0;go_wp2_with fail;refine⟨.bool false,?_,rfl,?_⟩
     ·simp [results,Tryz.f172,go_sem,s2]
     ·rw [HN1.o];exact HB7.o.setCell (p:=⟨bS,0,none⟩) HSL.o (.bool false)
   ·have e3:(ah==3)=false:=beq_eq_false_iff_ne.mpr h3;have HH:=Hd h3;clear h3;go_wp2_with fail;go_meet;exact⟨_,rfl,fun h=>HH.o h.1,Below.refl _ _⟩
  case rest=>
  obtain⟨w6,rfl,hno,hb⟩:=hcut;replace HI:=Hd (HI.o.pure hb);replace HS:=Hd (HS.o.pure hb);replace HKA:=Hd (HKA.o.pure hb);replace HKH:=Hd (HKH.o.pure hb);replace HB:=Hd (Ad HB.o hb HN0.o);have HNO:=Hd hno;clear hno hb h0;have b0:w6.cell? ⟨bX,0,none⟩=some (.pointer (some ⟨E.bw,0,none⟩)):=HI.o.i.x.cell 0;have x0:=Al HI.o.i.r;have x1:=Ak HI.o.i.r;have x2:=Aj HI.o.i.r;have x3:=Am HI.o.i.r;go_wp2_with (go_at_call 94;(with_reducible refine(Uk E p q t v _).mono ?_);rintro e w7 ⟨rfl,rfl⟩);have hBA:∀o,Below w6.heap.size w6 (w6.alloc o):=fun o=>(Below.refl _ _).alloc (Asp _) o
  have hb8:Below w6.heap.size w6 ((w6.alloc (.cells #[.pointer (some ⟨E.bw,0,none⟩)] 78)).alloc (.cells #[Aa Ab p,Aa Ab q,Aa Ab t,Aa Ab v] 75)):=(hBA _).alloc (hBA _).size _;replace HI:=Hd (HI.o.pure hb8);replace HS:=Hd (HS.o.pure hb8);replace HKA:=Hd (HKA.o.pure hb8);replace HKH:=Hd (HKH.o.pure hb8);replace HB:=Hd (Ad HB.o hb8 HN0.o);have HIT:=Hd (show Nr E p q t v w6.heap.size (w6.heap.size+1) ((w6.alloc (.cells #[.pointer (some ⟨E.bw,0,none⟩)] 78)).alloc (.cells #[Aa Ab p,Aa Ab q,Aa Ab t,Aa Ab v] 75)) from
   ⟨HI.o.i.m,(Ag.new w6 _ _).alloc _,Ag.new_ (by simp) _ _⟩)
  clear hBA hb8 b0 x0 x1 x2 x3;generalize w6.heap.size=bx at HIT⊢;generalize (w6.alloc (.cells #[.pointer (some ⟨E.bw,0,none⟩)] 78)).alloc (.cells #[Aa Ab p,Aa Ab q,Aa Ab t,Aa Ab v] 75)=w8 at HI HS HKA HKH HB HIT⊢;refine(wpIn_wide (n:=6)).1 ?_;refine Acb fun a0 ha0=>?_
  refine wpIn_rangeFunc_ownH rfl (by omega) (gf:=174) (lb:=#[.pointer (some ⟨bx,0,none⟩),.pointer (some ⟨bx+1,0,none⟩)]) (by rw [ha0];rfl) trivial (enters_of Tryz.func174 (by kernel_rfl) rfl)
   (P9 E p q t v bx (bx+1) N w8 HN.o HIT.o (6-1) (by omega)) Anr Anq (Below.refl _ _) (fun _=>rfl)
   (fun pre W=>(Xd E p q t v f bX bR bF W∧Ag W bS 4 #[.bool false]∧Ag W bA 3 #[Aa Ab fr]∧Ag W bH 3 #[Aa Ab ah]∧∀i∈pre,Nz E.l ⟨p,q,t,v⟩ f i.val=true)∧Below n0 w W)
   (fun c pre W=>(c= .ret∧Ag W bS 4 #[.bool false]∧∃i∈pre,Nz E.l ⟨p,q,t,v⟩ f i.val=false)∧Below n0 w W)
   (OwnFrom.and (fun s A B row hs hg hr=>⟨hs.1.kept hg fun r e=>(hr r e).2,Cw hg (fun r e=>(hr r e).2) hs.2.1,Cw hg (fun r e=>(hr r e).2) hs.2.2.1,Cw hg (fun r e=>(hr r e).2) hs.2.2.2.1,hs.2.2.2.2⟩) (ownFrom_below HN0.o (Nat.le_trans HN0.o HB.o.size)))
   (fun c=>OwnFrom.and (fun s A B row hs hg hr=>⟨hs.1,Cw hg (fun r e=>(hr r e).2) hs.2.1,hs.2.2⟩) (ownFrom_below HN0.o (Nat.le_trans HN0.o HB.o.size)))
   ⟨⟨HI.o,HS.o,HKA.o,HKH.o,fun i h=>by cases h⟩,HB.o⟩
   (fun x a' W=>∃Bx,Ag W Bx 75 #[Aa Ab (Bw E.l ⟨p,q,t,v⟩ x.val).p,Aa Ab (Bw E.l ⟨p,q,t,v⟩ x.val).q,Aa Ab (Bw E.l ⟨p,q,t,v⟩ x.val).t,Aa Ab (Bw E.l ⟨p,q,t,v⟩ x.val).v]∧
    a'={ tmps:=(((a0.tmps.setIfInBounds 73 (Aa Ab (x.val:Int))).setIfInBounds 74 (.agg #[Aa Ab (Bw E.l ⟨p,q,t,v⟩ x.val).p,Aa Ab (Bw E.l ⟨p,q,t,v⟩ x.val).q,Aa Ab (Bw E.l ⟨p,q,t,v⟩ x.val).t,Aa Ab (Bw E.l ⟨p,q,t,v⟩ x.val).v])).setIfInBounds 16 (Aa Ab (x.val:Int))).setIfInBounds 17 (.pointer (some ⟨Bx,0,none⟩)),defers:=[]})
   (fun x a' _ A B row hs hg hr=>by obtain⟨Bx,hb,e⟩:=hs;exact⟨Bx,Cw hg (fun r e=>(hr r e).2) hb,e⟩)
   ?assign ?body ?done ?stop
  case assign=>
   rintro l pre x W K ⟨⟨hI,hS,hA,hH,hall⟩,hB⟩ hK;have HQ:=Hd hK;have HALL:=Hd hall;clear hK hall HR HNI HEE HFR HA HO HC1 HST HP HQQ HT HV HKE HNO HI HS HKA HKH HB HIT;subst ha0;simp only [Z6]
   gi_wp2
   refine HQ.o _ _ ((KeepsOthers.alloc _ _).from _) (fun h=>h.pure ((Below.refl _ _).alloc (Asp _) _)) ⟨⟨hI.pure ((Below.refl _ _).alloc (Asp _) _),hS.alloc _,hA.alloc _,hH.alloc _,HALL.o⟩,hB.alloc (Nat.le_trans HN0.o hB.size) _⟩ ⟨W.heap.size,Ag.new _ _ _,?_⟩;rfl
  case body=>
   rintro l pre x a' W hl ⟨rr,hrr⟩ ⟨⟨hI,hS,hA,hH,hall⟩,hB⟩ ⟨Bx,hbx,rfl⟩ hlt;have HII:=Hd hI;have HSS:=Hd hS;have HBB:=Hd hB;have HAA:=Hd hA;have HHH:=Hd hH;have HALL:=Hd hall;have b0:W.cell? ⟨bX,0,none⟩=some (.pointer (some ⟨E.bw,0,none⟩)):=hI.i.x.cell 0;have a0:W.cell? ⟨bA,0,none⟩=some (Aa Ab fr):=hA.cell 0;have h0:W.cell? ⟨bH,0,none⟩=some (Aa Ab ah):=hH.cell 0;have f0:W.cell? ⟨bF,0,none⟩=some (Aa Ab f):=hI.f.cell 0;obtain⟨i,hi⟩:=x;obtain⟨kp,hk1⟩:∃a,(Bw E.l ⟨p,q,t,v⟩ i).p=a:=⟨_,rfl⟩;obtain⟨kq,hk2⟩:∃a,(Bw E.l ⟨p,q,t,v⟩ i).q=a:=⟨_,rfl⟩;obtain⟨kt,hk3⟩:∃a,(Bw E.l ⟨p,q,t,v⟩ i).t=a:=⟨_,rfl⟩;obtain⟨kv,hk4⟩:∃a,(Bw E.l ⟨p,q,t,v⟩ i).v=a:=⟨_,rfl⟩;simp only [hk1,hk2,hk3,hk4] at hbx⊢;have k0:=Al hbx;have k1:=Ak hbx;have k2:=Aj hbx;have k3:=Am hbx;have hw1:wrap64 (ah+i)=ah+i:=Cj _ (by omega);have hm0:0≤(ah+i)*f:=Int.mul_nonneg (by omega) (by omega);have hm1:(ah+i)*f≤8589934592*8:=Int.mul_le_mul (by omega) hf.2 (by omega) (by omega);have hw2:wrap64 ((ah+i)*f)=(ah+i)*f:=Cj _ (by omega);have hw3:wrap64 (fr+(ah+i)*f)=fr+(ah+i)*f:=Cj _ (by omega);obtain⟨se,hse⟩:∃b,C0 E.l kp kq kt kv (fr+(ah+i)*f) f=b:=⟨_,rfl⟩;have HSE:=Hd hse;have HEL:=Hd (show Nz E.l ⟨p,q,t,v⟩ f i=se by
    unfold Nz;rw [hk1,hk2,hk3,hk4,HAH.o,HFR.o];exact hse)
   clear hse hI hS hA hH hall hB hbx hk1 hk2 hk3 hk4;clear HR HNI HEE HA HO HC1 HST HP HQQ HT HV HKE HNO HI HS HKA HKH HB HIT;subst ha0
   gi_wp2
   refine⟨trivial,(CallsIn.inRound l (callsIn_wide.2 (Q4 E kp kq kt kv (fr+(ah+i)*f) f se _ HII.o.i.m (by omega) HSE.o))).mono ?_⟩;rintro e W3 ⟨rfl,hb⟩;have HB3:=Hd hb;clear hb;have s0:W3.cell? ⟨bS,0,none⟩=some (.bool false):=(HSS.o.pure HB3.o).cell 0;have s1:=(HSS.o.pure HB3.o).frozen 0;have hA3:=HAA.o.pure HB3.o;have hH3:=HHH.o.pure HB3.o;have HB4:=Hd (Ad HBB.o HB3.o HN0.o);clear b0 a0 h0 f0 k0 k1 k2 k3 hw1 hw2 hw3;cases se with
   |true=>
    gi_wp2
    refine⟨Nw HB3.o,fun h=>h.pure HB3.o,⟨HII.o.pure HB3.o,HSS.o.pure HB3.o,hA3,hH3,?_⟩,HB4.o⟩;intro j hj;rcases List.mem_append.1 hj with hj|hj
    ·exact HALL.o j hj
    ·rw [List.mem_singleton.1 hj];exact HEL.o
   |false=>
    gi_wp2
    exact⟨(Nw HB3.o).trans ((KeepsOthers.setCell _ _ _).from _),⟨rfl,(HSS.o.pure HB3.o).set_ 0 _,⟨i,hi⟩,List.mem_append.2 (.inr (List.mem_singleton.2 rfl)),HEL.o⟩,HB4.o.setCell (p:=⟨bS,0,none⟩) HSL.o _⟩
  case done=>
   rintro D ys W hD rfl ⟨⟨hI,hS,hA,hH,hall⟩,hB⟩ hK;subst ha0;have hre:r=true:=by
    rw [←HR.o];unfold Ip;simp only [HAH.o,HN.o,HWK.o];rw [if_neg HC1.o,if_neg,List.all_eq_true]
    ·intro i hi;exact hall ⟨i,List.mem_range.1 hi⟩ (List.mem_finRange _)
    ·unfold Cl;simp only [HP.o,HQQ.o,HT.o,HV.o,HFR.o];rw [HST.o];exact HNO.o
   subst hre;have s0:W.cell? ⟨bS,0,none⟩=some (.bool false):=hS.cell 0;have s1:=hS.frozen 0;have s2:=hS.set_ 0 (.bool true);have hK':=(KeepsOthers.setCell W ⟨bS,0,none⟩ (.bool true)).same D _ hK rfl;go_wp2_with fail;refine⟨by simp,.inl ⟨_,_,rfl,run_takeDeferred hK',?_⟩⟩;have hc5:=Cw (grownBy_putObj' _ D (.deferred none)) (fun r e=>by cases e;exact⟨_,hK',rfl⟩) s2;have hc6:_=some (Value.bool true):=hc5.cell 0;refine⟨.bool true,?_,rfl,?_⟩
   ·simp [results,Tryz.f172,go_sem,hc6]
   ·rw [HN1.o];have hB8:n0≤w8.heap.size:=Nat.le_trans HN0.o HB.o.size;exact(hB.setCell (p:=⟨bS,0,none⟩) HSL.o _).trans (belowK_b (w:=w) HN0.o _ D _ _ (by have:=HB.o.size;omega) hK' rfl rfl)
  case stop=>
   rintro D c pre W hD _ ⟨⟨rfl,hS,hex⟩,hB⟩ hK;have hre:r=false:=by
    obtain⟨i,_,hi⟩:=hex;rw [←HR.o];unfold Ip;simp only [HAH.o,HN.o,HWK.o];rw [if_neg HC1.o,if_neg]
    ·apply Bool.eq_false_iff.2;intro h;have h1:=List.all_eq_true.1 h i.val (List.mem_range.2 i.isLt);rw [hi] at h1;cases h1
    ·unfold Cl;simp only [HP.o,HQQ.o,HT.o,HV.o,HFR.o];rw [HST.o];exact HNO.o
   subst hre;subst ha0
   gi_wp2
   refine⟨by simp,.inl ⟨_,_,rfl,run_takeDeferred hK,?_⟩⟩;have hc5:=Cw (grownBy_putObj' W D (.deferred none)) (fun r e=>by cases e;exact⟨_,hK,rfl⟩) hS;have hc6:_=some (Value.bool false):=hc5.cell 0;refine⟨.bool false,?_,rfl,?_⟩
   ·simp [results,Tryz.f172,go_sem,hc6]
   ·rw [HN1.o];exact hB.trans (belowK_b (w:=w) HN0.o _ D _ _ (by have:=HB.o.size;omega) hK rfl rfl)
def Tc(bw:Nat):Array MapEntry:=#[⟨Aa Ab 5,.func (.func 169) #[.pointer (some ⟨bw,0,none⟩)] #[],0⟩,⟨Aa Ab 25,.func (.func 169) #[.pointer (some ⟨bw,0,none⟩)] #[],1⟩,⟨Aa Ab 6,.func (.func 170) #[.pointer (some ⟨bw,0,none⟩)] #[],2⟩,⟨Aa Ab 7,.func (.func 171) #[.pointer (some ⟨bw,0,none⟩)] #[],3⟩]
def mnG(bw:Nat)(t:Int):Option Value:=if t=5∨t=25 then some (.func (.func 169) #[.pointer (some ⟨bw,0,none⟩)] #[]) else if t=6 then some (.func (.func 170) #[.pointer (some ⟨bw,0,none⟩)] #[]) else if t=7 then some (.func (.func 171) #[.pointer (some ⟨bw,0,none⟩)] #[]) else none
def Vf(t:Int):Bool:=decide (t=5∨t=25∨t=6∨t=7)
def O3(t:Int):Nat:=if t=5∨t=25 then 169 else if t=6 then 170 else if t=7 then 171 else 172
theorem Ao0(bw:Nat)(t:Int):∃r,Instr.findNow (.int .i64) (Aa Ab t) (Tc bw).toList 0=some r∧r.map (·.2)=mnG bw t∧r.isSome=Vf t:=by
 by_cases h0:t=5
 ·subst h0;exact⟨_,rfl,rfl,rfl⟩
 by_cases h1:t=25
 ·subst h1;exact⟨_,rfl,rfl,rfl⟩
 by_cases h2:t=6
 ·subst h2;exact⟨_,rfl,rfl,rfl⟩
 by_cases h3:t=7
 ·subst h3;exact⟨_,rfl,rfl,rfl⟩
 refine⟨none,?_,?_,?_⟩
 ·have e0:(t==5)=false:=by simpa using h0
  have e1:(t==25)=false:=by simpa using h1
  have e2:(t==6)=false:=by simpa using h2
  have e3:(t==7)=false:=by simpa using h3
  simp only [Tc,Instr.findNow,Instr.sameNow,if_true,e0,e1,e2,e3]
 ·simp [mnG,h0,h1,h2,h3]
 ·simp [Vf,h0,h1,h2,h3]
theorem Amb(W:World):(zeroValue 131).run Tryz.prog W= .ok .nilFunc W:=by
 revert W;intro W
 kernel_rfl
theorem Ao1(bw:Nat)(t:Int)(W:World)(g:Nat)(hb:W.heap[g]?=some (.map (Tc bw) 4)):
  (Instr.lookup 223 (.map (some g)) (Aa Ab t) true).run Tryz.prog W= .ok (.tuple #[(mnG bw t).getD .nilFunc,.bool (Vf t)]) W:=by
 obtain⟨r,h1,h2,h3⟩:=Ao0 bw t;rw [Ph Tryz.underlying223 Tryz.underlying3 .nilFunc Amb W (Tc bw) 4 g t true r hb h1,h2,h3];rfl
theorem Rj(E:E0)(t:Int)(w:World):Calls Tryz.prog 92 #[.pointer (some ⟨E.bw,0,none⟩),Aa Ab t] w fun e w'=>e= .returned (.func (.func (O3 t)) #[.pointer (some ⟨E.bw,0,none⟩)] #[])∧Below w.heap.size w w':=by
 obtain⟨bw,hbw⟩:∃b,E.bw=b:=⟨_,rfl⟩;rw [hbw];clear hbw;have h0:=run_makeMap (P:=Tryz.prog) 223;have h1:∀(W:World) (es:Array MapEntry) (c:Nat) (x:Int) (v:Value),Instr.findNow (.int .i64) (.int .i64 x) es.toList 0=some none→(Instr.mapUpdate 223 (.map (some W.heap.size)) (.int .i64 x) v).run Tryz.prog (W.alloc (.map es c))= .ok () (W.alloc (.map (es.push { key:= .int .i64 x,val:=v,born:=c}) (c+1))):=
  fun W es c x v h=>Rx Tryz.underlying223 Tryz.underlying3 W es c _ x v rfl h
 have i0:∀W:World,(Instr.mapUpdate 223 (.map (some W.heap.size)) (.int .i64 5) (.func (.func 169) #[.pointer (some ⟨bw,0,none⟩)] #[])).run Tryz.prog (W.alloc (.map #[] 0))= .ok () (W.alloc (.map #[⟨.int .i64 5,.func (.func 169) #[.pointer (some ⟨bw,0,none⟩)] #[],0⟩] 1)):=fun W=>h1 W #[] 0 5 _ rfl
 have i1:∀W:World,(Instr.mapUpdate 223 (.map (some W.heap.size)) (.int .i64 25) (.func (.func 169) #[.pointer (some ⟨bw,0,none⟩)] #[])).run Tryz.prog (W.alloc (.map #[⟨.int .i64 5,.func (.func 169) #[.pointer (some ⟨bw,0,none⟩)] #[],0⟩] 1))= .ok () (W.alloc (.map #[⟨.int .i64 5,.func (.func 169) #[.pointer (some ⟨bw,0,none⟩)] #[],0⟩,⟨.int .i64 25,.func (.func 169) #[.pointer (some ⟨bw,0,none⟩)] #[],1⟩] 2)):=fun W=>h1 W #[⟨.int .i64 5,.func (.func 169) #[.pointer (some ⟨bw,0,none⟩)] #[],0⟩] 1 25 _ rfl
 have i2:∀W:World,(Instr.mapUpdate 223 (.map (some W.heap.size)) (.int .i64 6) (.func (.func 170) #[.pointer (some ⟨bw,0,none⟩)] #[])).run Tryz.prog (W.alloc (.map #[⟨.int .i64 5,.func (.func 169) #[.pointer (some ⟨bw,0,none⟩)] #[],0⟩,⟨.int .i64 25,.func (.func 169) #[.pointer (some ⟨bw,0,none⟩)] #[],1⟩] 2))= .ok () (W.alloc (.map #[⟨.int .i64 5,.func (.func 169) #[.pointer (some ⟨bw,0,none⟩)] #[],0⟩,⟨.int .i64 25,.func (.func 169) #[.pointer (some ⟨bw,0,none⟩)] #[],1⟩,⟨.int .i64 6,.func (.func 170) #[.pointer (some ⟨bw,0,none⟩)] #[],2⟩] 3)):=fun W=>h1 W #[⟨.int .i64 5,.func (.func 169) #[.pointer (some ⟨bw,0,none⟩)] #[],0⟩,⟨.int .i64 25,.func (.func 169) #[.pointer (some ⟨bw,0,none⟩)] #[],1⟩] 2 6 _ rfl
 have i3:∀W:World,(Instr.mapUpdate 223 (.map (some W.heap.size)) (.int .i64 7) (.func (.func 171) #[.pointer (some ⟨bw,0,none⟩)] #[])).run Tryz.prog (W.alloc (.map #[⟨.int .i64 5,.func (.func 169) #[.pointer (some ⟨bw,0,none⟩)] #[],0⟩,⟨.int .i64 25,.func (.func 169) #[.pointer (some ⟨bw,0,none⟩)] #[],1⟩,⟨.int .i64 6,.func (.func 170) #[.pointer (some ⟨bw,0,none⟩)] #[],2⟩] 3))= .ok () (W.alloc (.map #[⟨.int .i64 5,.func (.func 169) #[.pointer (some ⟨bw,0,none⟩)] #[],0⟩,⟨.int .i64 25,.func (.func 169) #[.pointer (some ⟨bw,0,none⟩)] #[],1⟩,⟨.int .i64 6,.func (.func 170) #[.pointer (some ⟨bw,0,none⟩)] #[],2⟩,⟨.int .i64 7,.func (.func 171) #[.pointer (some ⟨bw,0,none⟩)] #[],3⟩] 4)):=fun W=>h1 W #[⟨.int .i64 5,.func (.func 169) #[.pointer (some ⟨bw,0,none⟩)] #[],0⟩,⟨.int .i64 25,.func (.func 169) #[.pointer (some ⟨bw,0,none⟩)] #[],1⟩,⟨.int .i64 6,.func (.func 170) #[.pointer (some ⟨bw,0,none⟩)] #[],2⟩] 3 7 _ rfl
 have hl:=Ao1 bw t (w.alloc (.map (Tc bw) 4)) w.heap.size (heap_alloc_new w _);have HB:=Hd (show Below w.heap.size w (w.alloc (.map (Tc bw) 4)) from(Below.refl _ _).alloc (Asp _) _);unfold Tc at hl HB;clear h1;by_cases h:t=5∨t=25∨t=6∨t=7
 ·have hm:Vf t=true:=decide_eq_true h;have hg:(mnG bw t).getD .nilFunc= .func (.func (O3 t)) #[.pointer (some ⟨bw,0,none⟩)] #[]:=by
   rcases h with rfl|rfl|rfl|rfl <;>rfl
  rw [hm,hg] at hl;clear h hm hg;go_enter Tryz.func92,Tryz.ntmps92;go_wp2;go_ret;exact⟨rfl,HB.o⟩
 ·have hm:Vf t=false:=decide_eq_false h;have hf:O3 t=172:=by unfold O3;rw [if_neg (by omega),if_neg (by omega),if_neg (by omega)]
  rw [hm] at hl;rw [hf];clear h hm hf;go_enter Tryz.func92,Tryz.ntmps92;go_wp2;go_ret;exact⟨rfl,HB.o⟩
def Im(l:List UInt8)(r:Rq)(f:Int):Bool:=
 if r.t=5∨r.t=25 then Vh l r.p r.q r.t r.v f else if r.t=6 then Y5 l r.p r.q r.t r.v f else if r.t=7 then Vi l r.p r.q r.t r.v f else Ip l r f
theorem Acg{a b:Nat}(h:a≤b):bWidth a≤bWidth b:=by
 unfold bWidth
 (repeat' split) <;>omega
theorem Uv{f:Nat→Bool}{w:Nat}(hw:Av (w:Int)=true)(h:leastW f=w)(h1:1<w):f (w/2)=false:=by
 unfold leastW at h;rcases B5.1 hw with rfl|rfl|rfl|rfl
 ·omega
 ·show f 1=false;cases e:f 1 with
  |false=>rfl
  |true=>simp [e] at h
 ·show f 2=false;cases e:f 2 with
  |false=>rfl
  |true=>cases e1:f 1 <;>simp [e1,e] at h
 ·show f 4=false;cases e:f 4 with
  |false=>rfl
  |true=>cases e1:f 1 <;>cases e2:f 2 <;>simp [e1,e2,e] at h
theorem Wz{w:Nat}(hw:Av (w:Int)=true)(a:Nat)(h1:1<w):upN a (w/2)≤upN a w:=by
 rcases B5.1 hw with rfl|rfl|rfl|rfl
 ·omega
 ·show upN a 1≤upN a 2;unfold upN;omega
 ·show upN a 2≤upN a 4;unfold upN;omega
 ·show upN a 4≤upN a 8;unfold upN;omega
theorem Nn{L:List UInt8}{z w f pos a i:Nat}{y:Bv}{t x:Int}(h:Cr L z w y)(hp:Prp y)(hl:Bc (y.t:Int)=true)(hx:Av x=true)(ht:t=(y.t:Int))(hF:Ej a y)(h1:1≤f)(hpos:upN a f+i*f≤pos)(hs:C0 L z w t x (pos:Int) (f:Int)=true):Cb y a i f=true:=by
 subst ht;rcases hp with rfl|⟨n,rfl⟩|⟨n,hn,rfl⟩|⟨u,hu,rfl⟩|hi
 ·exact decide_eq_true h1
 ·exact decide_eq_true h1
 ·refine decide_eq_true ?_;show bWidthI n≤f;obtain⟨e1,e2⟩:=h.num (show inl 1=true by decide);have e2:bWidthI n≤w:=e2;have hI:=Ow h.sw e2 hn e1 (by omega) (by have:=h.le;omega);have hs:C0 L z w 1 x (pos:Int) (f:Int)=true:=hs;unfold C0 at hs;rw [if_pos rfl] at hs;unfold mnS at hs;rw [hI,Ag6] at hs;have:=of_decide_eq_true hs;omega
 ·refine decide_eq_true ?_;show bWidth u≤f;obtain⟨e1,e2⟩:=h.num (show inl 2=true by decide);have e2:bWidth u≤w:=e2;have e1:loadU L (z:Int) (w:Int)=u % 2^(8*w):=e1;have hI:loadU L (z:Int) (w:Int)=u:=by rw [e1];exact U3 h.sw e2 hu
  have hs:C0 L z w 2 x (pos:Int) (f:Int)=true:=hs;unfold C0 at hs;rw [if_neg (by decide),if_pos rfl] at hs;unfold mnP at hs;rw [hI,Ky] at hs;have:=of_decide_eq_true hs;omega
 ·have n1:¬(y.t:Int)=1:=fun e=>by
   have hi:Aw (y.t:Int)=false:=hi;rw [e] at hi;exact absurd hi (by decide)
  have n2:¬(y.t:Int)=2:=fun e=>by
   have hi:Aw (y.t:Int)=false:=hi;rw [e] at hi;exact absurd hi (by decide)
  obtain⟨g1,g2⟩:=h.goes hi hl hx hi;unfold C0 at hs;rw [if_neg n1,if_neg n2,if_neg (by rw [show Aw (y.t:Int)=false from hi];decide),g2,Bool.and_eq_true,decide_eq_true_eq,decide_eq_true_eq,Ky] at hs;unfold Cb;rw [if_neg (by rw [hi];decide)];refine decide_eq_true ⟨hF.2 hi,?_⟩;have:=Acg (a:=upN a f+i*f-y.n) (b:=((pos:Int)-(y.n:Int)).toNat) (by omega);omega
theorem Aae{a w:Nat}:∀(vs:List Bv) (i:Nat),(∀(j:Nat) y,vs[j]?=some y→Cb y a (i+j) w=true)→Dc a w i vs=true
 | [],_,_=>rfl
 |v::r,i,h=>by
  rw [Dc,Bool.and_eq_true];refine⟨h 0 v rfl,Aae r (i+1) fun j y hy=>?_⟩;have:=h (j+1) y (by simpa using hy)
  rwa [show i+(j+1)=i+1+j by omega] at this
theorem X0{L:List UInt8}{z w a:Nat}{v:Bv}{vs:List Bv}{k:Option Bv}(ld:Lf L 0 v z w)(li:H0 L 0 vs v)(he:Re v.t vs)(h1:1<v.w)(hw:Bl a (aheadT (v.t:Int)) k vs=v.w)(hn:v.n=upN a v.w+aheadT (v.t:Int)*v.w)(hf:∀x∈vs,Ej a x)
  (hk:lsFrom L z w v.t v.w=upN a v.w→Je L ⟨z,w,v.t,v.w⟩=(aheadT (v.t:Int):Int)→¬(Je L ⟨z,w,v.t,v.w⟩=3∧C0 L (Cl L ⟨z,w,v.t,v.w⟩).p (Cl L ⟨z,w,v.t,v.w⟩).q (Cl L ⟨z,w,v.t,v.w⟩).t (Cl L ⟨z,w,v.t,v.w⟩).v (lsFrom L z w v.t v.w) ((v.w/2:Nat):Int)=false)→Wb a (v.w/2) k=true):
  Ip L ⟨z,w,v.t,v.w⟩ ((v.w/2:Nat):Int)=false:=by
 obtain⟨e1,e2,e3⟩:=Lr li ld;rw [Nat.zero_add] at e3;have hF:lsFrom L z w (v.t:Int) (v.w:Int)=upN a v.w:=by
  unfold lsFrom;rw [if_pos e1,ld.tg,Nat.zero_add];show v.n-aheadT (v.t:Int)*v.w=_;omega
 have hA:Je L ⟨z,w,v.t,v.w⟩=(aheadT (v.t:Int):Int):=by
  show((lsAt L z w (v.t:Int) (v.w:Int):Int)-lsFrom L z w (v.t:Int) (v.w:Int))/(v.w:Int)=_;rw [e3,hF,hn];have:((upN a v.w+aheadT (v.t:Int)*v.w:Nat):Int)-(upN a v.w:Int)=(aheadT (v.t:Int):Int)*(v.w:Int):=by
   rw [Int.natCast_add,Int.natCast_mul];omega
  rw [this];exact Int.mul_ediv_cancel _ (by omega)
 have hhalf:=Uv li.w hw h1;have h0:1≤v.w/2:=by omega
 cases hm:Ip L ⟨z,w,v.t,v.w⟩ ((v.w/2:Nat):Int) with
 |false=>rfl
 |true=>
  exfalso;unfold Ip at hm;split at hm
  ·cases hm
  ·rename_i c1;split at hm
   ·cases hm
   ·rename_i c2;have hkk:=hk hF hA c2;rw [hA] at c1;have c1:¬(0<((aheadT (v.t:Int):Nat):Int)∧((v.w/2:Nat):Int)<Kc (lsLen L z w v.t v.w)):=c1;rw [e2,Ky] at c1;have hel:Dc a (v.w/2) (aheadT (v.t:Int)) vs=true:=by
     refine Aae vs _ fun j y hy=>?_
     obtain⟨p1,p2,p3,p4⟩:=he y (List.mem_of_getElem? hy);obtain⟨a1,a2,a3,a4,a5⟩:=Aa3 li ld hy (fun _=>⟨p2,p3⟩);rw [Nat.zero_add] at a2;have hj:j<lsLen L z w v.t v.w:=by rw [e2];exact(List.getElem?_eq_some_iff.1 hy).1
     have hE:=List.all_eq_true.1 hm j (List.mem_range.2 hj);unfold Nz Bw at hE;simp only [] at hE;rw [a2,a3,a4,a5,hA,hF] at hE;have ht:(if Ce (v.t:Int)=true then(y.t:Int) else D4 (v.t:Int))=(y.t:Int):=by
      split
      ·rfl
      ·rename_i hh;exact p4 (by simpa using hh)
     have hx:Av (if Ce (v.t:Int)=true then(ownW v.w y:Int) else(v.w:Int))=true:=by
      split
      ·unfold ownW;split
       ·exact li.w
       ·exact p3
      ·exact li.w
     have ep:((upN a v.w:Nat):Int)+(((aheadT (v.t:Int):Nat):Int)+(j:Int))*((v.w/2:Nat):Int)=((upN a v.w+(aheadT (v.t:Int)+j)*(v.w/2):Nat):Int):=by
      rw [Int.natCast_add,Int.natCast_mul,Int.natCast_add]
     rw [ep] at hE;exact Nn (li.slot hy) p1 p2 hx ht (hf y (List.mem_of_getElem? hy)) h0 (Nat.add_le_add_right (Wz li.w a h1) _) hE
    have:Hh a (aheadT (v.t:Int)) k vs (v.w/2)=true:=by
     unfold Hh;rw [hel,hkk,Bool.and_true,Bool.and_true,Bool.or_eq_true,decide_eq_true_eq,decide_eq_true_eq];omega
    rw [this] at hhalf;cases hhalf
theorem Aoy{L:List UInt8}{z w:Nat}{v kv:Bv}{vs kvs:List Bv}(hL:L.length<2^32)(hld:Lf L 0 v z w)(hLi:H0 L 0 vs v)(hv:Dp L 14 true false kvs kv)(h:Gq L kv vs v)(ht:(v.t:Int)=9):
  ∃cc,v.n=cc+3*v.w∧lsFrom L z w (v.t:Int) (v.w:Int)=cc∧Cl L ⟨z,w,v.t,v.w⟩=⟨(cc:Int),(v.w:Int),14,(kv.w:Int)⟩∧Cr L cc v.w kv:=by
 obtain⟨hkt,hkw⟩:=hv.width;have hw:=hLi.w;have hki:inl kv.t=false:=by rw [hkt];decide
 have hM:=h.facts hki hL [];simp only [List.nil_append,List.length_nil] at hM;obtain⟨e1,e2,e3⟩:=Lr hLi hld;obtain⟨cc,hc,g1,g2,g3,g4,_,_⟩:=hM.head;rw [Nat.zero_add] at g1 g4 e3;have ha:aheadT (v.t:Int)=3:=by rw [ht];decide
 have hF:lsFrom L z w (v.t:Int) (v.w:Int)=cc:=by
  unfold lsFrom;rw [if_pos e1,hld.tg,ha];omega
 have hU:kyU L z w (v.t:Int) (v.w:Int)=kv.w:=by
  unfold kyU;rw [hF];have e:((cc:Int)+(v.w:Int))=((cc+v.w:Nat):Int):=by omega
  rw [e];refine Ox hw g4 ?_;have h8:kv.w≤8:=by rcases B5.1 hkw with h|h|h|h <;>omega
  rcases B5.1 hw with h|h|h|h <;>rw [h] <;>omega
 have hkE:Gh L z w (v.t:Int) (v.w:Int)=0:=by
  unfold Gh;rw [hld.may,if_neg (by decide),if_neg (by rw [ht];decide),e1,if_neg (by decide),hU,if_neg (by rw [hkw];decide)]
 have hkP:Et L z w (v.t:Int) (v.w:Int)=(cc:Int):=by unfold Et;rw [if_pos hkE,hF]
 have hkQ:Eu L z w (v.t:Int) (v.w:Int)=(v.w:Int):=by unfold Eu;rw [if_pos hkE]
 have hkT:J0 L z w (v.t:Int) (v.w:Int)=14:=by unfold J0;rw [if_pos hkE]
 have hkV:Ev L z w (v.t:Int) (v.w:Int)=(kv.w:Int):=by unfold Ev;rw [if_pos hkE,hU]
 refine⟨cc,hc,hF,?_,⟨hw,by unfold Ca;rw [if_neg (by rw [hki];decide)];exact g1,(⟨fun e=>(by rw [hki] at e;cases e),fun _=>⟨g2,g3⟩⟩:_∧_)⟩⟩;show(⟨Et L z w (v.t:Int) (v.w:Int),Eu L z w (v.t:Int) (v.w:Int),J0 L z w (v.t:Int) (v.w:Int),Ev L z w (v.t:Int) (v.w:Int)⟩:Rq)=_;rw [hkP,hkQ,hkT,hkV]
def Ae6(L:List UInt8)(p q t v:Int):Prop:=1<v→t≠4→Im L ⟨p,q,t,v⟩ (v/2)=false
theorem Aoi{t:Int}(h:K4 t=true):¬(t=5∨t=25)∧¬t=6∧¬t=7:=by
 refine⟨?_,?_,?_⟩
 ·rintro(rfl|rfl) <;>exact absurd h (by decide)
 ·rintro rfl;exact absurd h (by decide)
 ·rintro rfl;exact absurd h (by decide)
theorem Xv{L:List UInt8}{r:Rq}(h:K4 r.t=true)(f:Int):Im L r f=Ip L r f:=by
 obtain⟨h1,h2,h3⟩:=Aoi h;unfold Im;rw [if_neg h1,if_neg h2,if_neg h3]
theorem S2(v:Nat):(v:Int)/2=((v/2:Nat):Int):=by omega
theorem Aju{L:List UInt8}(hL:L.length<2^32):Ae7 L (Ae6 L):=by
 refine⟨fun _ _ _ _ _ h4=>absurd rfl h4,?_,?_,?_,?_⟩
 ·intro z w v s hs ht h1 _;have hp:=B5.1 (show Av (v.w:Int)=true from by rcases ht with ht|ht <;>rw [ht.2.1] <;>exact D1 _);have hT:(v.t:Int)=5∨(v.t:Int)=25:=by
   rcases ht with ht|ht
   ·exact .inl (by rw [ht.1];rfl)
   ·exact .inr (by rw [ht.1];rfl)
  obtain⟨_,_,_,hf⟩:=Q8 (k:=if v.t=5 then 6 else 7) hs (by
   rcases ht with ht|ht
   ·exact .inl ⟨if_pos ht.1,ht⟩
   ·exact .inr ⟨if_neg (by rw [ht.1];decide),ht⟩) hL
  obtain⟨_,hfl,_⟩:=hf [4,5,25] (by rcases hT with e|e <;>rw [e] <;>decide);unfold Im;simp only [];rw [if_pos hT];unfold Vh;rw [hfl,Ky];have hw:v.w=bWidth s.length:=by rcases ht with ht|ht <;>exact ht.2.1
  rw [←hw];refine decide_eq_false ?_;omega
 ·intro z w v n u hs hv hn hu h1 _;obtain⟨x,y,hx,hwx,hat,ht⟩:∃x y:Nat,Av (x:Int)=true∧v.w=x∧At L v.n (Ai x (y % 2^(8*x)))∧((v.t=6∧x=bWidthI n∧y=bits n)∨(v.t=7∧x=bWidth u∧y=u)):=by
   rcases hv with⟨h1,h2,h3,h4⟩|⟨h1,h2,h3,h4⟩
   ·exact⟨_,_,G4 n,h2,h3,.inl ⟨h1,rfl,rfl⟩⟩
   ·exact⟨_,_,D1 u,h2,h3,.inr ⟨h1,rfl,rfl⟩⟩
  have hT:(v.t=6∨v.t=7):=by rcases ht with⟨h,_⟩|⟨h,_⟩ <;>omega
  have hi:inl v.t=false:=by rcases hT with e|e <;>rw [e] <;>decide
  have hl:Bc (v.t:Int)=true:=by rcases hT with e|e <;>rw [e] <;>decide
  have hs':M0 (v.t:Int)=true:=by rcases hT with e|e <;>rw [e] <;>decide
  have hle:=hat.le;rw [Au] at hle;have hlo:loadU L (v.n:Int) (x:Int)=y % 2^(8*x):=by rw [hat.load hx,F9,Nat.mod_mod]
  have hm:=hs.may (t:=v.t) (y:=x) hl hx;obtain⟨g1,g2⟩:=hs.goes hi hl hx hi;have hmd:v.n % x=0:=by
   rcases hv with⟨h1,h2,h3,h4⟩|⟨h1,h2,h3,h4⟩
   ·rcases ht with⟨_,rfl,_⟩|⟨h5,_⟩
    ·exact h4
    ·omega
   ·rcases ht with⟨h5,_⟩|⟨_,rfl,_⟩
    ·omega
    ·exact h4
  have hp:Dk L z w v.t x=0:=by
   unfold Dk;rw [if_neg (by rw [hm];decide),if_neg (by rw [hs'];decide),if_neg (by rw [show Aw (v.t:Int)=false from hi];decide),if_neg (by rw [g1];decide),g2,if_neg (by omega),if_neg (by rw [De.2 ⟨by omega,by omega,by omega⟩];decide)]
  have hA:E8 L z w v.t x=v.n:=by unfold E8;rw [if_pos hp,if_neg (by rw [show Aw (v.t:Int)=false from hi];decide),g2]
  have hW:Fg L z w v.t x=x:=by unfold Fg;rw [if_pos hp,if_neg (by rw [show Aw (v.t:Int)=false from hi];decide)]
  rw [hwx] at h1⊢;unfold Im;simp only [];rcases ht with⟨e,e1,e2⟩|⟨e,e1,e2⟩
  ·rw [e] at hA hW⊢;rw [if_neg (by decide),if_pos (by rfl)];unfold Y5 mnS;have hI:=Ow (n:=n) hx (by omega) hn (by rw [hlo,e2]) (by omega) (by omega);rw [hA,hW,hI,Ag6,←e1];refine decide_eq_false ?_;omega
  ·rw [e] at hA hW⊢;rw [if_neg (by decide),if_neg (by decide),if_pos (by rfl)];unfold Vi mnP;have hI:loadU L (v.n:Int) (x:Int)=u:=by rw [hlo,e2];exact U3 hx (by omega) hu
   rw [hA,hW,hI,Ky,←e1];refine decide_eq_false ?_;omega
 ·intro z w v len tags vs hs ld li hv h9 ha he h1 _;rw [Xv (r:=⟨z,w,v.t,v.w⟩) li.typ,S2];have hw0:=li.w;obtain⟨b,m,eL,ev,hf⟩:=hv;have ew:Bl b.length (if len=true then 1 else 0) none vs=v.w:=by rw [ev];rfl
  have en:v.n=upN b.length v.w+(if len=true then 1 else 0)*v.w:=by
   have e0:v.n=(An v.w b++(if len=true then Ai v.w vs.length else [])).length:=by
    have:(Bk v.t len tags vs b).2.n=(An (Bl b.length (if len=true then 1 else 0) none vs) b++(if len=true then Ai (Bl b.length (if len=true then 1 else 0) none vs) vs.length else [])).length:=rfl;rw [ew,←ev] at this;exact this
   obtain⟨a1,_,_⟩:=Fc hw0 b;rw [e0,Ass,a1];cases len <;>simp [Au]
  exact X0 ld li he (by omega) (by rw [ha];exact ew) (by rw [ha];exact en) hf (fun _ _ _=>rfl)
 ·intro z w v kv vs kvs hs ld li hv h h9 he h1 _;rw [Xv (r:=⟨z,w,v.t,v.w⟩) li.typ,S2];obtain⟨hkt,hkw⟩:=hv.width;have hki:inl kv.t=false:=by rw [hkt];decide
  obtain⟨cc,hc,hF,hK,hsl⟩:=Aoy hL ld li hv h h9;have hw0:=li.w;have ha:aheadT (v.t:Int)=3:=by rw [h9];decide
  obtain⟨b,m,eL,ev,hfk,hf⟩:=h;have ew:Bl b.length 3 (some kv) vs=v.w:=by rw [ev];rfl
  have en:v.n=upN b.length v.w+3*v.w:=by
   have e0:v.n=(An v.w b++Ai v.w ((An v.w b).length-kv.n)++Ai v.w kv.w++Ai v.w vs.length).length:=by
    have:(E7 kv vs b).2.n=(An (Bl b.length 3 (some kv) vs) b++Ai (Bl b.length 3 (some kv) vs) ((An (Bl b.length 3 (some kv) vs) b).length-kv.n)++Ai (Bl b.length 3 (some kv) vs) kv.w++Ai (Bl b.length 3 (some kv) vs) vs.length).length:=rfl;rw [ew,←ev] at this;exact this
   obtain⟨a1,_,_⟩:=Fc hw0 b;rw [e0];simp only [Ass,Au];omega
  refine X0 ld li he (by omega) (by rw [ha];exact ew) (by rw [ha];exact en) hf (fun hf1 hf2 hf3=>?_);rw [hK,hf1,hf2,ha] at hf3;have hst:C0 L (cc:Int) (v.w:Int) 14 (kv.w:Int) ((upN b.length v.w:Nat):Int) ((v.w/2:Nat):Int)=true:=by
   cases e:C0 L (cc:Int) (v.w:Int) 14 (kv.w:Int) ((upN b.length v.w:Nat):Int) ((v.w/2:Nat):Int) with
   |true=>rfl
   |false=>exact absurd ⟨rfl,e⟩ hf3
  refine Nn (i:=0) hsl (.inr (.inr (.inr (.inr hki)))) (by rw [hkt];decide) hkw (by rw [hkt];rfl) hfk (by omega) ?_ hst;rw [Nat.zero_mul,Nat.add_zero];exact Wz hw0 _ (by omega)
end Go.Proofs.YtgbjodnegkbfoaaGreat
