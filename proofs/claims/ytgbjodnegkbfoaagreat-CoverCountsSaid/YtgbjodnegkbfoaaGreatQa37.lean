/- Parts of the proof. -/
import Derived.Test.YtgbjodnegkbfoaaGreatQa36
set_option maxHeartbeats 2000000
set_option maxRecDepth 100000
open Go.Value renaming int→Aa
open Go.IntKind renaming i64→Ab
open Nat renaming le_refl→Ath
open List renaming getElem?_eq_getElem→Ati,length_append→Atj,append_assoc→Ato,length_cons→Atp
namespace Go.Proofs.YtgbjodnegkbfoaaGreat
open Go.RowKit Go.Acc
theorem Aki(B g n c:Nat)(l:List P3)(w:World)(h:Jf w B (some ⟨g,0,none⟩) n c l)(hn:n≤2147483648):
  Calls Tryz.prog 62 #[.slice (some ⟨g,0,none⟩) n c,.func (.func 63) #[] #[]] w fun e w'=>∃k,e= .returned (.slice (some ⟨g,0,none⟩) k c)∧Jf w' B (some ⟨g,0,none⟩) k c (Ik l)∧Fr (fun k=>k=g) w w':=by
 have HO:=Hd h;clear h;go_enter Tryz.func62,Tryz.ntmps62;go_wp2_with fail;go_at_call 108;refine(Ahc B g n c l _ HO.o hn).mono ?_;rintro e w1 ⟨rfl,m,hp,hr,ho,hf⟩;have HP:=Hd hp;have HR:=Hd hr;have HM:=Hd ho;have HF:=Hd hf;clear hp hr ho hf;go_wp2_with fail;go_at_call 109;refine(Z2 B g n c m.toArray _ HM.o hn).mono ?_;rintro e w2 ⟨k,hk,rfl,ho,hf⟩;have e1:=V4 l m HP.o HR.o;rw [e1] at ho;have HM:=Hd ho;have HF:=Hd (HF.o.trans hf (fun _ _ h=>h));clear hk ho hf e1;go_wp2_with fail;go_ret;exact⟨k,rfl,HM.o,HF.o⟩
theorem Ajf{w:World}{g:Nat}(h:w.heap.size=g)(o:Obj):(w.alloc o).heap[g]?=some o:=by subst h;exact heap_alloc_new w o
theorem Aqe{l:List UInt8}(h:El l=0):Nw l.length ⟨(Er l).1,(Er l).2.1,(Er l).2.2.1,(Er l).2.2.2⟩∧3≤l.length:=by
 obtain⟨x,hx⟩:∃x,l.getD (l.length-1) 0=x:=⟨_,rfl⟩;obtain⟨y,hy⟩:∃x,l.getD (l.length-2) 0=x:=⟨_,rfl⟩;have h3:¬l.length<3:=fun h3=>by rw [Wm h3] at h;cases h
 have hw:Av (x.toNat:Int)=true:=by
  cases hw:Av (x.toNat:Int) with
  |true=>rfl
  |false=>rw [Wn hx hw] at h;cases h
 have hu:Hl y=0:=by
  refine Decidable.byContradiction fun hu=>?_
  rw [Aex h3 hx hy hw hu] at h;exact hu h
 have h4:=Aey h3 hx hy hw hu;rw [h] at h4;have hr:=Ab4 hx hy h;rw [hr];have hW:=Ck.1 hw;refine⟨⟨?_,?_,?_,?_⟩,by omega⟩
 ·simp only;split at h4
  ·cases h4
  ·omega
 ·simp only;omega
 ·simp only;omega
 ·simp only;omega
def Hx(l:List UInt8):Rq:=⟨(Er l).1,(Er l).2.1,(Er l).2.2.1,(Er l).2.2.2⟩
def Ew(l:List UInt8)(fuel:Int):Ao:=(Ao.tell ⟨fuel,[],[]⟩ ((l.length:Int)-1) l.length 14).tell ((l.length:Int)-2) ((l.length:Int)-1) 8
def G9(l:List UInt8)(fuel:Int):Ao×Int:=Bl l (fuel.toNat+1) (Hx l) (Ew l fuel)
def Cb(l:List UInt8)(fuel:Int):Int:=if El l≠0 then El l else(G9 l fuel).2
def Dh(l:List UInt8)(fuel:Int):List P3:=if Cb l fuel≠0 then [] else Ik (G9 l fuel).1.o
theorem Ma(A:Option Addr)(n c:Nat)(fuel:Int)(l:List UInt8)(w:World)(hl:Cw w A n l)(hc:n≤c)(hn:n≤4294967296)(hf:fuel≤100000000):
  Calls Tryz.prog 23 #[.slice A n c,Aa Ab fuel] w fun e w'=>∃A' k c',e= .returned (.tuple #[.slice A' k c',Aa Ab (Cb l fuel)])∧Jf w' w.heap.size A' k c' (Dh l fuel)∧Below w.heap.size w w':=by
 have hlen:=hl.1;have HI:=Hd hl;clear hl;by_cases hr:El l=0
 ·obtain⟨hok,h3⟩:=Aqe hr;have HOK:=Hd hok;have HR:=Hd hr;clear hok hr;go_enter Tryz.func23,Tryz.ntmps23;go_wp2_with fail;go_at_call 44;refine(Yi A n c l _ HI.o (by omega)).mono ?_;rintro e w1 ⟨rfl,hb⟩;rw [HR.o];obtain⟨a,ha⟩:∃a,(Er l).1=a:=⟨_,rfl⟩;obtain⟨b,hb'⟩:∃a,(Er l).2.1=a:=⟨_,rfl⟩;obtain⟨d,hd⟩:∃a,(Er l).2.2.1=a:=⟨_,rfl⟩;obtain⟨f,hf'⟩:∃a,(Er l).2.2.2=a:=⟨_,rfl⟩;rw [ha,hb',hd,hf'];replace HI:=Hd (HI.o.pure hb);have HB:=Hd hb;have hrt:Hx l=⟨a,b,d,f⟩:=by unfold Hx;rw [ha,hb',hd,hf']
  rw [ha,hb',hd,hf'] at HOK;have HRT:=Hd hrt;clear hb ha hb' hd hf' hrt;have h0:=run_makeMap (P:=Tryz.prog) 95;go_upto_region 7 with fail
  obtain⟨E,hE⟩:∃E:Ie,E=⟨w1.heap.size,w1.heap.size+1+1+1+1,w1.heap.size+1+1+1,w1.heap.size+1+1,w1.heap.size+1,A,n,c,l⟩:=⟨_,rfl⟩;have hok:E.Ok:=by
   subst hE;refine⟨?_,?_,?_,?_,?_,?_,?_,?_,?_,?_,hc,hn⟩ <;>(try (simp only;omega))
   intro ad had;obtain⟨b',off,e,hlt⟩:=HI.o.some_ Dk (by omega) (by omega);simp only at had;rw [e] at had;injection had with had
   subst had;exact hlt
  obtain⟨W,hW⟩:∃W,W=(((w1.alloc (.cells #[Aa Ab a,Aa Ab b,Aa Ab d,Aa Ab f] 75)).alloc (.cells #[.slice none 0 0] 45)).alloc (.map #[] 0)).alloc (.cells #[.slice A n c,Aa Ab fuel,.map (some (w1.heap.size+1+1)),.func (.func 60) #[] #[.pointer (some ⟨w1.heap.size+1,0,none⟩)]] 98):=⟨_,rfl⟩;have hsz:W.heap.size=w1.heap.size+1+1+1+1:=by subst hW;simp
  have hbW:Below w1.heap.size w1 W:=by
   subst hW;exact((((Below.refl _ _).alloc (Ath _) _).alloc (by simp <;>omega) _).alloc (by simp <;>omega) _).alloc (by simp <;>omega) _
  have hX:Ig E none W w1.heap.size 75 #[Aa Ab a,Aa Ab b,Aa Ab d,Aa Ab f]:=by
   refine⟨?_,?_⟩
   ·subst hW;exact(((Af.new w1 _ _).alloc _).alloc _).alloc _
   ·subst hE;refine⟨?_,?_,?_,?_⟩ <;>(try (simp only;omega))
    simp
  have hC:E9 E none ⟨fuel,[],[]⟩ W:=by
   refine⟨hok,?_,?_,?_,?_,?_⟩
   ·subst hE;exact HI.o.pure hbW
   ·subst hE hW;exact Af.new_ (by simp) _ _
   ·subst hE hW;exact⟨#[],0,(Below.heap_alloc _ _ _ (by simp)).trans (Ajf (by simp) _),rfl,by simp⟩
   ·subst hE;refine⟨none,0,0,?_,Own.nil _ _,rfl⟩;subst hW;exact((Af.new_ (by simp) _ _).alloc _).alloc _
   ·subst hE;rw [hsz];exact Ath _
  have hbl:E.bl=w1.heap.size+1:=by rw [hE]
  have hbw:E.bw=w1.heap.size+1+1+1:=by rw [hE]
  have hEl:E.l=l:=by rw [hE]
  have hB0:E.B0=w1.heap.size:=by rw [hE]
  have hbm:E.bm=w1.heap.size+1+1:=by rw [hE]
  have hEA:E.A=A:=by rw [hE]
  have hEn:E.n=n:=by rw [hE]
  have hEc:E.c=c:=by rw [hE]
  rw [←hW,←hbw,←hbm,←hbl];rw [←hEA,←hEn,←hEc];have hpos:E.B0≤W.heap.size:=by rw [hsz,hB0];omega
  have HLE:=Hd (show w.heap.size≤E.B0 by rw [hB0];exact HB.o.size);have HLE2:=Hd (show w.heap.size≤E.B2 by have:=HB.o.size;rw [hE];simp only;omega);have HW0:=Hd (HB.o.trans (hbW.mono HB.o.size));have HC:=Hd hC;have HC0:=Hd hC;have HX:=Hd hX;have HB0:=Hd hB0;have HE:=Hd hE;have HS0:=Hd (show Ew l fuel=((Ao.mk fuel [] []).tell ((l.length:Int)-1) l.length 14).tell ((l.length:Int)-2) ((l.length:Int)-1) 8 from rfl);have HBW:=Hd hbW;have HBB:=Hd (Dw.refl E none W);have HPO:=Hd hpos;clear hW hsz hbW hX hC hbl hbw hbm hB0 hE hpos h0;have hwr1:IntKind.i64.wrap ((n:Int)-1)=(n:Int)-1:=IntWalk.i64_in _ (by omega);have hwr2:IntKind.i64.wrap ((n:Int)-2)=(n:Int)-2:=IntWalk.i64_in _ (by omega);generalize w1.heap.size=br at HX⊢;obtain⟨c0,c1,c2,c3⟩:=HC.o.cells;have x0:=Az HX.o.1;have x1:=Ax HX.o.1;have x2:=Aw HX.o.1;have x3:=A6 HX.o.1;obtain⟨W0,rfl⟩:∃W0:World,W0=W:=⟨_,rfl⟩;have HB:=HBB;clear HBB;have HBW0:=Hd HB0.o;go_wp2_with fail;go_at_call 60
  with_reducible refine(Gl ((n:Int)-1) n 14 HC.o (by simp)).mono ?_
  rintro e w2 ⟨rfl,g2,hC2,hT2⟩;replace HB:=Hd (HB.o.trans hT2);replace HX:=Hd (HX.o.to hT2);replace HC:=Hd hC2;clear c0 c1 c2 c3 x0 x1 x2 x3;clear hC2 hT2;obtain⟨c0,c1,c2,c3⟩:=HC.o.cells;have x0:=Az HX.o.1;have x1:=Ax HX.o.1;have x2:=Aw HX.o.1;have x3:=A6 HX.o.1;go_wp2_with fail;go_at_call 60
  with_reducible refine(Gl ((n:Int)-2) ((n:Int)-1) 8 HC.o (by unfold Ao.tell;split <;>simp)).mono ?_
  rintro e w3 ⟨rfl,g3,hC3,hT3⟩;replace HB:=Hd (HB.o.trans hT3);replace HX:=Hd (HX.o.to hT3);replace HC:=Hd hC3;clear c0 c1 c2 c3 x0 x1 x2 x3;clear hC3 hT3;obtain⟨c0,c1,c2,c3⟩:=HC.o.cells;have x0:=Az HX.o.1;have x1:=Ax HX.o.1;have x2:=Aw HX.o.1;have x3:=A6 HX.o.1;have hs1:((Ao.mk fuel [] []).tell ((n:Int)-1) n 14).tell ((n:Int)-2) ((n:Int)-1) 8=Ew l fuel:=by rw [HS0.o,hlen]
  have hsl:(Ew l fuel).left=fuel:=by unfold Ew;rw [Hj,Hj]
  have hso:(Ew l fuel).o=[((n:Int)-1,(n:Int),14),((n:Int)-2,(n:Int)-1,8)]:=by
   rw [←hs1];unfold Ao.tell;rw [if_pos (by omega),if_pos (by omega)];rfl
  have hsz:(Ew l fuel).size≤900000000:=by
   unfold Ao.size;rw [hso,hsl];simp only [Atp,List.length_nil];omega
  rw [hs1] at HC;obtain⟨y,hy⟩:∃y,G9 l fuel=y:=⟨_,rfl⟩;have hcome:Bl E.l (fuel.toNat+1) ⟨a,b,d,f⟩ (Ew l fuel)=y:=by rw [hEl,←HRT.o];exact hy
  have hadd:=Aeb l (fuel.toNat+1) (Hx l) (Ew l fuel) (by rw [HRT.o];exact HOK.o);rw [show(Bl l (fuel.toNat+1) (Hx l) (Ew l fuel))=y from hy] at hadd;have hcs:=Ui E (fuel.toNat+1) g3 (Ew l fuel) a b d f w3 HC.o (by rw [hsl];omega) hsz (by rw [hEl];exact HOK.o);rw [hcome] at hcs;have hpe:Cb l fuel=y.2:=by unfold Cb;rw [if_neg (by simp [HR.o]),hy]
  have hps:Dh l fuel=if y.2≠0 then [] else Ik y.1.o:=by unfold Dh;rw [hpe,hy]
  have HCS:=Hd hcs;have HY:=Hd (show(Bl l (fuel.toNat+1) (Hx l) (Ew l fuel)).1=y.1 by rw [←hy];rfl);have HPE:=Hd hpe;have HPS:=Hd hps;have HAD:=Hd hadd;have HSO:=Hd hso;have HSZ:=Hd hsz;clear hs1 hsl hso hsz hcome hadd hcs hpe hps hy HS0;go_wp2_with fail;go_at_call 61;refine HCS.o.mono ?_;rintro e w4 ⟨rfl,g4,hC4,hT4⟩;obtain⟨s4,er⟩:=y;simp only at hC4 HPS HAD HPE HY⊢;replace HB:=Hd (HB.o.trans hT4);replace HX:=Hd (HX.o.to hT4);replace HC:=Hd hC4;clear c0 c1 c2 c3 x0 x1 x2 x3;clear hC4 hT4;obtain⟨c0,c1,c2,c3⟩:=HC.o.cells;have x0:=Az HX.o.1;have x1:=Ax HX.o.1;have x2:=Aw HX.o.1;have x3:=A6 HX.o.1;have hbf:Below w.heap.size w w4:=by
   exact HW0.o.trans ((HB.o.belowB HC0.o).mono HLE.o)
  have HBF:=Hd hbf;clear hbf;by_cases her:er=0
  ·subst her;have hps:Dh l fuel=Ik s4.o:=by rw [HPS.o];rfl
   have HPS2:=Hd hps;obtain⟨A',n',c',hblk,hown,hg⟩:=HC.o.O;obtain⟨t,ht,_⟩:=HAD.o;rw [HSO.o] at ht;have hlen':s4.o.length=n':=hown.1;have hn1:1≤n':=by rw [←hlen',ht];simp
   have hn2:n'≤2147483648:=by
    have h1:=((Qn l (fuel.toNat+1)) (Hx l) (Ew l fuel)).1.2;have h2:=G1 s4;have h3:(Bl l (fuel.toNat+1) (Hx l) (Ew l fuel)).1=s4:=HY.o;rw [h3] at h1;have:=HSZ.o;omega
   have hA:∃g,A'=some ⟨g,0,none⟩∧E.B2≤g:=by
    cases A' with
    |none=>exact absurd (hown.is.none_ Jb (by omega)).2 (by omega)
    |some ad=>
     obtain⟨h1,h2,_⟩:=hown.addr ad rfl;exact⟨ad.block,by rw [h1],h2⟩
   obtain⟨g,rfl,hg2⟩:=hA;have v0:_=some (Value.slice (some ⟨g,0,none⟩) n' c'):=hblk.cell 0;have HOW:=Hd hown;have HG:=Hd hg2;clear hps ht hlen' hn1 hg hg2 hown hblk;go_wp2_with fail;go_at_call 62;refine(Aki E.B2 g n' c' s4.o _ HOW.o hn2).mono ?_;rintro e w5 ⟨k,rfl,hO5,hF5⟩;have HO5:=Hd hO5;have hbf:Below w.heap.size w w5:=by
    refine HBF.o.trans (hF5.belowB ?_ HBF.o.size);rintro k hk rfl;have:=HLE2.o;have:=HG.o;omega
   have HBF2:=Hd hbf;clear hO5 hF5 hbf;go_wp2_with fail;go_ret2;rw [HPE.o,HPS2.o];exact⟨_,k,c',rfl,HO5.o.rebase HLE2.o,HBF2.o⟩
  ·have hne:(er != 0)=true:=by simpa using her
   have hps:Dh l fuel=[]:=by rw [HPS.o,if_pos her]
   have HPS2:=Hd hps;clear hps her;go_wp2_with fail;go_ret2;rw [HPE.o,HPS2.o];exact⟨none,0,0,rfl,Own.nil _ _,HBF.o⟩
 ·have hne:(El l != 0)=true:=by simpa using hr
  have hpe:Cb l fuel=El l:=by unfold Cb;rw [if_pos hr]
  have hps:Dh l fuel=[]:=by unfold Dh;rw [hpe,if_pos hr]
  have HPE:=Hd hpe;have HPS:=Hd hps;clear hpe hps hr;go_enter Tryz.func23,Tryz.ntmps23;go_wp2_with fail;go_at_call 44;refine(Yi A n c l _ HI.o (by omega)).mono ?_;rintro e w1 ⟨rfl,hb⟩;have HB:=Hd (hb.alloc hb.size (.cells #[Aa Ab (Er l).1,Aa Ab (Er l).2.1,Aa Ab (Er l).2.2.1,Aa Ab (Er l).2.2.2] 75));clear hb;go_wp2_with fail;go_ret2;rw [HPE.o,HPS.o];exact⟨none,0,0,rfl,Own.nil _ _,HB.o⟩
theorem Ain{a b:List Tr}(h:a.Perm b):Tr.cntL a=Tr.cntL b:=by
 induction h with
 |nil=>rfl
 |cons x _ ih=>rw [Tr.cntL,Tr.cntL,ih]
 |swap x y l=>rw [Tr.cntL,Tr.cntL,Tr.cntL,Tr.cntL];omega
 |trans _ _ h1 h2=>exact h1.trans h2
mutual
theorem Mo:∀(t:Tr),Ff t→(Aq t).cnt=t.cnt
 | .mk k n u s ks l,h=>by
  cases h with
  |mk h1 h2 h3 h4 hl=>
   have ih:=Xi l hl;simp only [Dv,Bool.and_eq_true,decide_eq_true_eq] at h1;obtain⟨⟨⟨_,glen⟩,_⟩,_⟩:=h1;rw [Aq];by_cases hk:k=17
   ·rw [if_pos hk];have glen:ks.length=l.length:=glen hk;have hll:(Bz l).length=l.length:=by rw [Ca,List.length_map]
    have hp:=D8 (ks.zip (Bz l));have e1:=(hp.map (·.1)).length_eq;have e2:=Ain (hp.map (·.2));rw [List.map_fst_zip (by omega)] at e1;rw [List.map_snd_zip (by omega)] at e2;rw [Tr.cnt,Tr.cnt,e1,e2,ih]
   ·rw [if_neg hk,Tr.cnt,Tr.cnt,ih]
theorem Xi:∀(l:List Tr),(∀t∈l,Ff t)→Tr.cntL (Bz l)=Tr.cntL l
 | [],_=>rfl
 |t::r,h=>by
  rw [Bz,Tr.cntL,Tr.cntL,Mo t (h t (by simp)),Xi r (fun x hx=>h x (by simp [hx]))]
end
mutual
theorem V1:∀(t:Tr) (d:Nat),Ff t→t.cnt+1≤3*(Tr.pre d t).length
 | .mk k n u s ks l,d,h=>by
  cases h with
  |mk h1 h2 h3 h4 hl=>
   have ih:=Zz l (d+1) hl;simp only [Dv,Bool.and_eq_true,decide_eq_true_eq] at h1;obtain⟨⟨⟨_,glen⟩,_⟩,_⟩:=h1;have glen:k=17→ks.length=l.length:=glen;rw [Tr.pre,Tr.cnt,Atp];split
   ·rename_i hk;have:=glen hk;omega
   ·omega
theorem Zz:∀(l:List Tr) (d:Nat),(∀t∈l,Ff t)→Tr.cntL l+l.length≤3*(Tr.pre.Tr.preL d l).length
 | [],_,_=>by simp [Tr.cntL]
 |t::r,d,h=>by
  have h1:=V1 t d (h t (by simp));have h2:=Zz r d (fun x hx=>h x (by simp [hx]));simp only [Tr.cntL,Tr.pre.Tr.preL,Atj,Atp];omega
end
theorem Ov.more{go:Rq→Ao→Ao×Int}{d n m:Nat}{r:Rq}(h:Ov go d n r)(hm:n≤m):Ov go d m r:=by
 intro s h1 h2;obtain⟨a,b,c⟩:=h s (by omega) h2;exact⟨a,by omega,c⟩
theorem Wt:∀(c:List Tr) (b:Nat) (g:Nat→Nat),(∀i x,c[i]?=some x→g (b+i)=x.cnt)→((List.range' b c.length).map g).sum=Tr.cntL c
 | [],_,_,_=>rfl
 |x::r,b,g,h=>by
  rw [Atp,List.range'_succ,List.map_cons,List.sum_cons,Tr.cntL,Wt r (b+1) g (fun i y hy=>by
   have:=h (i+1) y (by simpa using hy)
   rwa [show b+(i+1)=b+1+i by omega] at this)]
  have:=h 0 x rfl;rw [Nat.add_zero] at this;rw [this]
theorem Ace:∀(n b:Nat),((List.range' b n).map fun _=>1).sum=n
 |0,_=>rfl
 |n+1,b=>by rw [List.range'_succ,List.map_cons,List.sum_cons,Ace n (b+1)];omega
theorem Agx{t:Int}(hl:Be t=true)(h:10≤Cg t):Fw [4,5,25] t=false∧¬(t=6∨t=7)∧(Cg t≤16→t≠9):=by
 have:=Gv hl;revert h;refine K6 (p:=fun t=>10≤Cg t→Fw [4,5,25] t=false∧¬(t=6∨t=7)∧(Cg t≤16→t≠9)) ?_ this;decide
theorem Akf{t:Int}(hl:Be t=true)(h:Cg t=8∨Cg t=9):Fw [4,5,25] t=false∧(t=6∨t=7):=by
 have:=Gv hl;revert h;refine K6 (p:=fun t=>Cg t=8∨Cg t=9→Fw [4,5,25] t=false∧(t=6∨t=7)) ?_ this;decide
theorem As6(L:List UInt8)(r:Rq)(s:Ao):(Gp L r s).left=s.left:=by unfold Gp;split;rw [Ft];rfl
theorem Rb{L:List UInt8}{go:Rq→Ao→Ao×Int}{r:Rq}{d n:Nat}(hl:Bw L r.p r.q r.t r.v=0)(f:Nat→Nat)(hE:∀i:Nat,i<lsLen L r.p r.q r.t r.v→Ez L r.p r.q r.t r.v i=0∧Ov go d (f i) (Ed L r i))
  (hh:∀s:Ao,(n:Int)≤s.left→s.left.toNat<d→Qd n s (Cs L go r s)):∀s:Ao,((n+((List.range' 0 (lsLen L r.p r.q r.t r.v)).map f).sum:Nat):Int)≤s.left→s.left.toNat<d→Qd (n+((List.range' 0 (lsLen L r.p r.q r.t r.v)).map f).sum) s (Dy L go r s):=by
 intro s h1 h2;obtain⟨g1,g2,g3⟩:=hh s (by omega) h2;unfold Dy;rw [if_neg (by rw [hl];decide),if_neg (by rw [g1];decide)];have e:=As6 L r (Cs L go r s).1;obtain⟨k1,k2,k3⟩:=Un f hE (lsLen L r.p r.q r.t r.v) 0 (Gp L r (Cs L go r s).1) (by omega) (by rw [e];omega) (by rw [e];omega);rw [e] at k2 k3;exact⟨k1,by omega,by omega⟩
theorem Aip{L:List UInt8}{P:Int→Int→Int→Int→Prop}{p q t v:Int}{T:Tr}(h:I6 L P p q t v T):∀d,Ov (Bl L d) d T.cnt ⟨p,q,t,v⟩:=by
 induction h with
 | @inl p q t v k n u s ks c hm hi hk h4 hv=>
  intro d st h1 h2;have hc:1≤Tr.cnt (.mk k n u s ks c):=by rw [Tr.cnt];split <;>omega
  cases d with
  |zero=>omega
  |succ d=>
   unfold Bl;rw [if_neg (by omega),if_pos hi];exact⟨rfl,by show _≤(Bq _ st).left;rw [Oq];omega,by show(Bq _ st).left≤_;rw [Oq];omega⟩
 | @txt p q t v k s a n u ks c hr hP=>
  intro d;have hc:1≤Tr.cnt (.mk k n u s ks c):=by rw [Tr.cnt];split <;>omega
  cases d with
  |zero=>intro st h1 h2;omega
  |succ d=>exact(Z1 hr d).more hc
 | @num p q t v k n u s ks c hm hi hk h8 htg hv hP=>
  intro d;have hc:1≤Tr.cnt (.mk k n u s ks c):=by rw [Tr.cnt];split <;>omega
  cases d with
  |zero=>intro st h1 h2;omega
  |succ d=>
   have hl:=(Cv.1 (D7.1 hm).1).1;obtain⟨n1,n2⟩:=Akf hl (by rw [hk];exact h8);refine(Lm (n:=0) (r:=⟨p,q,t,v⟩) htg hi (fun st h1 h2=>?_)).more hc;unfold Cy C6;rw [if_neg (by rw [n1];decide),if_pos n2,if_pos hv.plc];exact⟨rfl,by show _≤(Ao.tell _ _ _ _).left;rw [Ft];omega,by show(Ao.tell _ _ _ _).left≤_;rw [Ft];omega⟩
 | @list p q t v k c n u s ks hm hi hk h10 htg hl hP ha he ih=>
  intro d;cases d with
  |zero=>
   intro st h1 h2;omega
  |succ d=>
   have hlg:=(Cv.1 (D7.1 hm).1).1;obtain⟨n1,n2,n3⟩:=Agx hlg (by rw [hk];exact h10.1);have hc:Tr.cnt (.mk k n u s ks c)=Tr.cntL c+1:=by rw [Tr.cnt,if_neg (by omega)];omega
   rw [hc];refine Lm (n:=Tr.cntL c) (r:=⟨p,q,t,v⟩) htg hi (fun st h1 h2=>?_);unfold Cy;rw [if_neg (by rw [n1];decide),if_neg n2];have hs:((List.range' 0 (lsLen L p q t v)).map fun i=>((c[i]?).map Tr.cnt).getD 0).sum=Tr.cntL c:=by
    rw [hl.2];exact Wt c 0 _ (fun i x hx=>by rw [Nat.zero_add,hx];rfl)
   have:=Rb (go:=Bl L d) (d:=d) (n:=0) (r:=⟨p,q,t,v⟩) hl.1 (fun i=>((c[i]?).map Tr.cnt).getD 0) (fun i hi=>by
    have hi:i<c.length:=by rw [←hl.2];exact hi
    have hx:c[i]?=some c[i]:=Ati hi;refine⟨ha i hi,?_⟩;rw [hx];exact ih i c[i] hx d) (fun st _ _=>by
    unfold Cs;rw [if_neg (n3 (by rw [hk];exact h10.2))];exact⟨rfl,(by omega:st.left-((0:Nat):Int)≤st.left),Int.le_refl _⟩) st
   rw [Nat.zero_add] at this;have hs':((List.range' 0 (lsLen L (Rq.mk p q t v).p (Rq.mk p q t v).q (Rq.mk p q t v).t (Rq.mk p q t v).v)).map fun i=>((c[i]?).map Tr.cnt).getD 0).sum=Tr.cntL c:=hs;rw [hs'] at this;exact this h1 h2
 | @map p q v c ks n u s hm htg hl hks hy ho hkl hP hke ha he ih=>
  intro d;cases d with
  |zero=>
   intro st h1 h2;omega
  |succ d=>
   have hc:Tr.cnt (.mk 17 n u s ks c)=(1+ks.length+Tr.cntL c)+1:=by rw [Tr.cnt,if_pos rfl];omega
   rw [hc];refine Lm (n:=1+ks.length+Tr.cntL c) (r:=⟨p,q,9,v⟩) htg (by decide:An 9=false) (fun st h1 h2=>?_);unfold Cy;rw [if_neg (by decide:¬Fw [4,5,25] 9=true),if_neg (by decide:¬((9:Int)=6∨(9:Int)=7))];have hs:((List.range' 0 (lsLen L p q 9 v)).map fun i=>((c[i]?).map Tr.cnt).getD 0).sum=Tr.cntL c:=by
    rw [hl.2];exact Wt c 0 _ (fun i x hx=>by rw [Nat.zero_add,hx];rfl)
   have hkey:Ov (Bl L d) d (ks.length+1) (C9 L ⟨p,q,9,v⟩):=by
    cases d with
    |zero=>intro st h1 h2;omega
    |succ d=>
     have er:C9 L ⟨p,q,9,v⟩=⟨Fi L p q 9 v,Fj L p q 9 v,14,Fp L p q 9 v⟩:=by unfold C9;rw [hkl.1]
     rw [er];refine Lm (n:=ks.length) (r:=⟨Fi L p q 9 v,Fj L p q 9 v,14,Fp L p q 9 v⟩) hkl.2.1 (by decide:An 14=false) (fun st h1 h2=>?_);unfold Cy;rw [if_neg (by decide:¬Fw [4,5,25] 14=true),if_neg (by decide:¬((14:Int)=6∨(14:Int)=7))];have hkn:lsLen L (Fi L p q 9 v) (Fj L p q 9 v) 14 (Fp L p q 9 v)=ks.length:=by rw [hkl.2.2.2,hks]
     have:=Rb (go:=Bl L d) (d:=d) (n:=0) (r:=⟨Fi L p q 9 v,Fj L p q 9 v,14,Fp L p q 9 v⟩) hkl.2.2.1 (fun _=>1) (fun i hi=>by
      have hi:i<ks.length:=by rw [←hkn];exact hi
      obtain⟨k1,a,k2,_⟩:=hke i ks[i] (Ati hi);refine⟨k1,?_⟩;cases d with
      |zero=>intro st h1 h2;omega
      |succ d=>exact Z1 k2 d) (fun st _ _=>by
      unfold Cs;rw [if_neg (by decide:¬(14:Int)=9)];exact⟨rfl,(by omega:st.left-((0:Nat):Int)≤st.left),Int.le_refl _⟩) st
     rw [Nat.zero_add,Ace] at this;have hkn':lsLen L (Rq.mk (Fi L p q 9 v) (Fj L p q 9 v) 14 (Fp L p q 9 v)).p (Rq.mk (Fi L p q 9 v) (Fj L p q 9 v) 14 (Fp L p q 9 v)).q (Rq.mk (Fi L p q 9 v) (Fj L p q 9 v) 14 (Fp L p q 9 v)).t (Rq.mk (Fi L p q 9 v) (Fj L p q 9 v) 14 (Fp L p q 9 v)).v=ks.length:=hkn;rw [hkn'] at this;exact this h1 h2
   have:=Rb (go:=Bl L d) (d:=d) (n:=ks.length+1) (r:=⟨p,q,9,v⟩) hl.1 (fun i=>((c[i]?).map Tr.cnt).getD 0) (fun i hi=>by
    have hi:i<c.length:=by rw [←hl.2];exact hi
    have hx:c[i]?=some c[i]:=Ati hi;refine⟨ha i hi,?_⟩;rw [hx];exact ih i c[i] hx d) (fun st h1 h2=>by
    obtain⟨k1,k2,k3⟩:=hkey st h1 h2;unfold Cs Fc;rw [if_pos rfl,if_neg (by rw [hy];decide),if_neg (by rw [k1];decide)];exact⟨rfl,by show _≤(Ao.tell _ _ _ _).left;rw [Ft];exact k2,by show(Ao.tell _ _ _ _).left≤_;rw [Ft];exact k3⟩) st
   have hs':((List.range' 0 (lsLen L (Rq.mk p q 9 v).p (Rq.mk p q 9 v).q (Rq.mk p q 9 v).t (Rq.mk p q 9 v).v)).map fun i=>((c[i]?).map Tr.cnt).getD 0).sum=Tr.cntL c:=hs;rw [hs'] at this;rw [show 1+ks.length+Tr.cntL c=ks.length+1+Tr.cntL c by omega] at h1⊢;exact this h1 h2
theorem C4(a b c:Int)(w:World):Calls Tryz.prog 59 #[Aa Ab a,Aa Ab b,Aa Ab c] w fun e w'=>e= .returned (.agg #[Aa Ab a,Aa Ab b,Aa Ab c])∧Below w.heap.size w w':=by
 go_enter Tryz.func59,Tryz.ntmps59;go_wp2;refine bodyPost_ret (v:= .agg #[Aa Ab a,Aa Ab b,Aa Ab c]) (by simp [results,Tryz.results59,go_sem]) rfl ⟨rfl,?_⟩;exact(Below.refl _ _).alloc (Ath _) _
theorem Ak4(s:ByteArray)(w:World):∃c w',(convert 9 28 (.string s)).run Tryz.prog w= .ok (.slice (some ⟨w.heap.size,0,none⟩) s.size c) w'∧s.size≤c∧Cw w' (some ⟨w.heap.size,0,none⟩) s.size s.data.toList∧Below w.heap.size w w':=by
 refine⟨_,_,run_bytes_of_string w 9 28 5 s Tryz.underlying9 Tryz.underlying28 Tryz.underlying5,?_,?_,(Below.refl _ _).drew.alloc (Ath _) _⟩
 ·exact grownCap_ge _ _ _ _
 ·refine⟨Array.length_toList,fun j u hu=>⟨_,_,rfl,?_⟩⟩;have hj:j<s.data.size:=by
   have:=(List.getElem?_eq_some_iff.1 hu).1;rw [Bj Dk] at this;simpa using this
  have hg:=heap_alloc_new w.drew (.cells (bytesRow s (grownCap w s.size 0 5)) 5 ((bytesRow s (grownCap w s.size 0 5)).size,(bytesRow s (grownCap w s.size 0 5)).size+1));change _[w.heap.size]?=_ at hg;rw [cell_of_row _ _ _ _ _ _ hg,Nat.zero_add,bytesRow_at s _ j hj,←hu];have h1:=G7 Dk s.data.toList j 0 (by simpa using hj) (by omega);rw [Nat.mul_one,Nat.add_zero] at h1;rw [h1];rfl
theorem Ux{w:World}{A:Option Addr}{n k:Nat}{L:List P3}(h:Xb w A n L)(hk:k<n):∃b off,A=some ⟨b,off,none⟩∧∀x y z,L[k]?=some (x,y,z)→w.cell? ⟨b,off+k*3,none⟩=some (Aa Ab x)∧w.cell? ⟨b,off+k*3+1,none⟩=some (Aa Ab y)∧w.cell? ⟨b,off+k*3+2,none⟩=some (Aa Ab z):=by
 obtain⟨b,off,e1,hk',h1⟩:=h.at_ Jb (by omega) hk;refine⟨b,off,e1,fun x y z hx=>?_⟩;rw [Ati hk'] at hx;injection hx with hx
 rw [hx] at h1;have h0:=h1 0 (by omega);have h2:=h1 1 (by omega);have h3:=h1 2 (by omega);exact⟨h0,h2,h3⟩
theorem K8(s:ByteArray)(fuel er:Int)(A2:Option Addr)(m c2:Nat)(L:List P3)(w:World)(h:Xb w A2 m L)(hm:m≤2147483648)(hf:fuel≤100000000)(hs:s.size≤1000)(h1:Cb s.data.toList fuel=er)(h2:Dh s.data.toList fuel=L):
  Calls Tryz.prog 58 #[.string s,Aa Ab fuel,Aa Ab er,.slice A2 m c2] w fun e w'=>e= .returned (.bool true)∧Below w.heap.size w w':=by
 have HL:=Hd h;have H1:=Hd h1;have H2:=Hd h2;have hLm:L.length=m:=h.1;obtain⟨c,w1,hcv,hc,hi,hb⟩:=Ak4 s w;have HI:=Hd hi;have HB:=Hd hb;replace HL:=Hd (h.pure hb);have HLM:=Hd hLm;clear h h1 h2 hi hb hLm;go_enter Tryz.func58,Tryz.ntmps58;go_wp2_with fail;go_at_call 23;refine(Ma _ s.size c fuel s.data.toList _ HI.o hc (by omega) hf).mono ?_;rw [H1.o,H2.o];rintro e w2 ⟨A1,k,c1,rfl,ho,hb⟩;replace HL:=Hd (HL.o.pure hb);replace HB:=Hd (Ad HB.o hb);obtain rfl:m=k:=by rw [←HLM.o];exact ho.1
 have HO:=Hd ho.is;clear ho hb hcv HI;go_wp2_with fail;go_loopw [11] (fun i wr=>∃k:Nat,k≤m∧i= Aa Ab k∧Below w.heap.size w wr∧Xb wr A1 m L∧Xb wr A2 m L) (fun i _=>m-(intOf i).toNat)
 case atStart=>exact⟨0,by omega,rfl,HB.o,HO.o,HL.o⟩
 case round=>
  clear HB HO HL;obtain⟨k,hk,rfl,hb,h1,h2⟩:=hrel;have HB:=Hd hb;have I1:=Hd h1;have I2:=Hd h2;have hLn:L.length=m:=h1.1;clear hb h1 h2;by_cases hkn:k<m
  ·obtain⟨b1,o1,e1,h1⟩:=Ux I1.o hkn;obtain⟨b2,o2,e2,h2⟩:=Ux I2.o hkn;obtain⟨⟨x,y,z⟩,hx⟩:∃x,L[k]?=some x:=⟨_,Ati (by omega)⟩;obtain⟨a0,a1,a2⟩:=h1 x y z hx;obtain⟨c0,c1,c2⟩:=h2 x y z hx;have heq:=Tn (x,y,z) (x,y,z) false (by simp);have hk0:(0:Int)≤k:=by omega
   have hkI:(k:Int)<m:=by omega
   have hwk:IntKind.i64.wrap ((k:Int)+1)=(k:Int)+1:=IntWalk.i64_in _ (by omega);subst e1 e2;clear h1 h2 hx hLn;go_wp2_with fail;go_quiet (fail);go_wp2_with fail;go_roundw
   case rel=>exact⟨k+1,by omega,by go_num,below_drewN HB.o _,I1.o.drewN _,I2.o.drewN _⟩
   case measure=>simp [intOf];omega
  ·obtain rfl:k=m:=by omega
   clear hLn;go_wp2;go_ret;exact⟨rfl,HB.o⟩
theorem Aox:Cb [5,4,1] 1=0∧Dh [5,4,1] 1=[(0,1,2),(1,2,8),(2,3,14)]:=by decide
theorem Aoy:Cb [2,104,105,0,3,20,1] 9=0∧Dh [2,104,105,0,3,20,1] 9=[(0,1,6),(1,4,10),(4,5,5),(5,6,8),(6,7,14)]:=by decide
theorem Aoz:Cb [97,0,2,3,4,2,56,1] 9=0∧Dh [97,0,2,3,4,2,56,1] 9=[(0,2,9),(2,3,6),(3,4,5),(4,5,5),(5,6,5),(6,7,8),(7,8,14)]:=by decide
theorem Ao0:Cb [5,4,1] 0=260∧Dh [5,4,1] 0=[]:=by decide
theorem Ao1:Cb [4,1] 9=210∧Dh [4,1] 9=[]:=by decide
theorem Ao2:Cb [2,104,105,1,3,20,1] 9=213∧Dh [2,104,105,1,3,20,1] 9=[]:=by decide
theorem Aaz(W:World)(vs:Array Value)(n:Nat)(L:List P3)(hn:L.length=n)(h:vs.toList=L.flatMap pc):Xb (W.alloc (.cells vs 49)) (some ⟨W.heap.size,0,none⟩) n L:=
 ⟨hn,fun j u hj=>⟨_,_,rfl,by rw [(Af.new W 49 vs).cell,Nat.zero_add,←Array.getElem?_toList,h];exact hj⟩⟩
theorem Kf(w:World):Calls Tryz.prog 21 #[] w fun e w'=>e= .returned (.bool true)∧Below w.heap.size w w':=by
 have HB:=Hd (Below.refl w.heap.size w);go_enter Tryz.func21,Tryz.ntmps21;go_wp2_with fail;go_at_call 59;refine(C4 0 1 2 _).mono ?_;rintro e wn ⟨rfl,hb⟩;replace HB:=Hd (Ad HB.o hb);clear hb;go_wp2_with fail;go_at_call 59;refine(C4 1 2 8 _).mono ?_;rintro e wn ⟨rfl,hb⟩;replace HB:=Hd (Ad HB.o hb);clear hb;go_wp2_with fail;go_at_call 59;refine(C4 2 3 14 _).mono ?_;rintro e wn ⟨rfl,hb⟩;replace HB:=Hd (Ad HB.o hb);clear hb;go_wp2_with fail;have HX:=Hd (Aaz wn #[Aa Ab 0,Aa Ab 1,Aa Ab 2,Aa Ab 1,Aa Ab 2,Aa Ab 8,Aa Ab 2,Aa Ab 3,Aa Ab 14] 3 [(0,1,2),(1,2,8),(2,3,14)] (by rfl) (by rfl));replace HB:=Hd (HB.o.alloc HB.o.size (.cells #[Aa Ab 0,Aa Ab 1,Aa Ab 2,Aa Ab 1,Aa Ab 2,Aa Ab 8,Aa Ab 2,Aa Ab 3,Aa Ab 14] 49));go_at_call 58;refine(K8 _ 1 0 _ 3 3 [(0,1,2),(1,2,8),(2,3,14)] _ HX.o (by decide) (by decide) (by decide) Aox.1 Aox.2).mono ?_;rintro e wn ⟨rfl,hb⟩;replace HB:=Hd (Ad HB.o hb);clear hb HX;go_wp2_with fail;go_at_call 59;refine(C4 0 1 6 _).mono ?_;rintro e wn ⟨rfl,hb⟩;replace HB:=Hd (Ad HB.o hb);clear hb;go_wp2_with fail;go_at_call 59;refine(C4 1 4 10 _).mono ?_;rintro e wn ⟨rfl,hb⟩;replace HB:=Hd (Ad HB.o hb);clear hb;go_wp2_with fail;go_at_call 59;refine(C4 4 5 5 _).mono ?_;rintro e wn ⟨rfl,hb⟩;replace HB:=Hd (Ad HB.o hb);clear hb;go_wp2_with fail;go_at_call 59;refine(C4 5 6 8 _).mono ?_;rintro e wn ⟨rfl,hb⟩;replace HB:=Hd (Ad HB.o hb);clear hb;go_wp2_with fail;go_at_call 59;refine(C4 6 7 14 _).mono ?_;rintro e wn ⟨rfl,hb⟩;replace HB:=Hd (Ad HB.o hb);clear hb;go_wp2_with fail;have HX:=Hd (Aaz wn #[Aa Ab 0,Aa Ab 1,Aa Ab 6,Aa Ab 1,Aa Ab 4,Aa Ab 10,Aa Ab 4,Aa Ab 5,Aa Ab 5,Aa Ab 5,Aa Ab 6,Aa Ab 8,Aa Ab 6,Aa Ab 7,Aa Ab 14] 5 [(0,1,6),(1,4,10),(4,5,5),(5,6,8),(6,7,14)] (by rfl) (by rfl));replace HB:=Hd (HB.o.alloc HB.o.size (.cells #[Aa Ab 0,Aa Ab 1,Aa Ab 6,Aa Ab 1,Aa Ab 4,Aa Ab 10,Aa Ab 4,Aa Ab 5,Aa Ab 5,Aa Ab 5,Aa Ab 6,Aa Ab 8,Aa Ab 6,Aa Ab 7,Aa Ab 14] 49));go_at_call 58;refine(K8 _ 9 0 _ 5 5 [(0,1,6),(1,4,10),(4,5,5),(5,6,8),(6,7,14)] _ HX.o (by decide) (by decide) (by decide) Aoy.1 Aoy.2).mono ?_;rintro e wn ⟨rfl,hb⟩;replace HB:=Hd (Ad HB.o hb);clear hb HX;go_wp2_with fail;go_at_call 59;refine(C4 0 2 9 _).mono ?_;rintro e wn ⟨rfl,hb⟩;replace HB:=Hd (Ad HB.o hb);clear hb;go_wp2_with fail;go_at_call 59;refine(C4 2 3 6 _).mono ?_;rintro e wn ⟨rfl,hb⟩;replace HB:=Hd (Ad HB.o hb);clear hb;go_wp2_with fail;go_at_call 59;refine(C4 3 4 5 _).mono ?_;rintro e wn ⟨rfl,hb⟩;replace HB:=Hd (Ad HB.o hb);clear hb;go_wp2_with fail;go_at_call 59;refine(C4 4 5 5 _).mono ?_;rintro e wn ⟨rfl,hb⟩;replace HB:=Hd (Ad HB.o hb);clear hb;go_wp2_with fail;go_at_call 59;refine(C4 5 6 5 _).mono ?_;rintro e wn ⟨rfl,hb⟩;replace HB:=Hd (Ad HB.o hb);clear hb;go_wp2_with fail;go_at_call 59;refine(C4 6 7 8 _).mono ?_;rintro e wn ⟨rfl,hb⟩;replace HB:=Hd (Ad HB.o hb);clear hb;go_wp2_with fail;go_at_call 59;refine(C4 7 8 14 _).mono ?_;rintro e wn ⟨rfl,hb⟩;replace HB:=Hd (Ad HB.o hb);clear hb;go_wp2_with fail;have HX:=Hd (Aaz wn #[Aa Ab 0,Aa Ab 2,Aa Ab 9,Aa Ab 2,Aa Ab 3,Aa Ab 6,Aa Ab 3,Aa Ab 4,Aa Ab 5,Aa Ab 4,Aa Ab 5,Aa Ab 5,Aa Ab 5,Aa Ab 6,Aa Ab 5,Aa Ab 6,Aa Ab 7,Aa Ab 8,Aa Ab 7,Aa Ab 8,Aa Ab 14] 7 [(0,2,9),(2,3,6),(3,4,5),(4,5,5),(5,6,5),(6,7,8),(7,8,14)] (by rfl) (by rfl));replace HB:=Hd (HB.o.alloc HB.o.size (.cells #[Aa Ab 0,Aa Ab 2,Aa Ab 9,Aa Ab 2,Aa Ab 3,Aa Ab 6,Aa Ab 3,Aa Ab 4,Aa Ab 5,Aa Ab 4,Aa Ab 5,Aa Ab 5,Aa Ab 5,Aa Ab 6,Aa Ab 5,Aa Ab 6,Aa Ab 7,Aa Ab 8,Aa Ab 7,Aa Ab 8,Aa Ab 14] 49));go_at_call 58;refine(K8 _ 9 0 _ 7 7 [(0,2,9),(2,3,6),(3,4,5),(4,5,5),(5,6,5),(6,7,8),(7,8,14)] _ HX.o (by decide) (by decide) (by decide) Aoz.1 Aoz.2).mono ?_;rintro e wn ⟨rfl,hb⟩;replace HB:=Hd (Ad HB.o hb);clear hb HX;go_wp2_with fail;go_at_call 58;refine(K8 _ 0 260 _ 0 0 [] _ (Is.nil _ _) (by decide) (by decide) (by decide) Ao0.1 Ao0.2).mono ?_;rintro e wn ⟨rfl,hb⟩;replace HB:=Hd (Ad HB.o hb);clear hb;go_wp2_with fail;go_at_call 58;refine(K8 _ 9 210 _ 0 0 [] _ (Is.nil _ _) (by decide) (by decide) (by decide) Ao1.1 Ao1.2).mono ?_;rintro e wn ⟨rfl,hb⟩;replace HB:=Hd (Ad HB.o hb);clear hb;go_wp2_with fail;go_at_call 58;refine(K8 _ 9 213 _ 0 0 [] _ (Is.nil _ _) (by decide) (by decide) (by decide) Ao2.1 Ao2.2).mono ?_;rintro e wn ⟨rfl,hb⟩;replace HB:=Hd (Ad HB.o hb);clear hb;go_wp2;go_ret;exact⟨rfl,HB.o⟩
def Ao.more(s:Ao)(k:Nat):Ao:={ s with left:=s.left+k}
theorem Hk(s:Ao)(k:Nat)(a b c:Int):(s.more k).tell a b c=(s.tell a b c).more k:=by unfold Ao.tell;split <;>rfl
def Rw(k:Nat)(go go':Rq→Ao→Ao×Int):Prop:=∀r s,(go r s).2≠260→go' r (s.more k)=((go r s).1.more k,(go r s).2)
section
variable {l:List UInt8} {go go':Rq→Ao→Ao×Int} (r:Rq) {k:Nat}
theorem Ala(s:Ao):C7 l r (s.more k)=((C7 l r s).1.more k,(C7 l r s).2):=by
 unfold C7
 (repeat' split) <;>simp only [Hk]
theorem Aft(s:Ao):C6 l r (s.more k)=((C6 l r s).1.more k,(C6 l r s).2):=by
 unfold C6
 (repeat' split) <;>simp only [Hk]
theorem An4(i:Nat)(s:Ao):Dl l r i (s.more k)=(Dl l r i s).more k:=by unfold Dl;split <;>simp only [Hk]
theorem Amx(s:Ao):Gp l r (s.more k)=(Gp l r s).more k:=by unfold Gp;split <;>simp only [Hk]
theorem Ajp(hg:Rw k go go')(s:Ao)(h:(Fc l go r s).2≠260):Fc l go' r (s.more k)=((Fc l go r s).1.more k,(Fc l go r s).2):=by
 unfold Fc at h⊢;split
 ·rfl
 ·rename_i h1;rw [if_neg h1] at h;have hne:(go (C9 l r) s).2≠260:=by
   by_cases h2:(go (C9 l r) s).2≠0
   ·rw [if_pos h2] at h;exact h
   ·have:=Decidable.of_not_not h2;omega
  have e:=hg (C9 l r) s hne;rw [e];split
  ·rfl
  ·simp only [Hk]
theorem Aje(hg:Rw k go go')(s:Ao)(h:(Cs l go r s).2≠260):Cs l go' r (s.more k)=((Cs l go r s).1.more k,(Cs l go r s).2):=by
 unfold Cs at h⊢;split
 ·rename_i ht;rw [if_pos ht] at h;exact Ajp r hg s h
 ·rfl
theorem Up(hg:Rw k go go'):∀(n i:Nat) (s:Ao),(Cj l go r n i s).2≠260→Cj l go' r n i (s.more k)=((Cj l go r n i s).1.more k,(Cj l go r n i s).2)
 |0,i,s,_=>rfl
 |n+1,i,s,h=>by
  unfold Cj at h⊢;rw [An4];split
  ·rfl
  ·rename_i h1;rw [if_neg h1] at h;have hne:(go (Ed l r i) (Dl l r i s)).2≠260:=by
    by_cases h2:(go (Ed l r i) (Dl l r i s)).2≠0
    ·rw [if_pos h2] at h;exact h
    ·have:=Decidable.of_not_not h2;omega
   have e:=hg (Ed l r i) (Dl l r i s) hne;rw [e];split
   ·rfl
   ·rename_i h2;rw [if_neg h2] at h;exact Up hg n (i+1) _ h
theorem Aj0(hg:Rw k go go')(s:Ao)(h:(Dy l go r s).2≠260):Dy l go' r (s.more k)=((Dy l go r s).1.more k,(Dy l go r s).2):=by
 unfold Dy at h⊢;split
 ·rfl
 ·rename_i h1;rw [if_neg h1] at h;have hne:(Cs l go r s).2≠260:=by
   by_cases h2:(Cs l go r s).2≠0
   ·rw [if_pos h2] at h;exact h
   ·have:=Decidable.of_not_not h2;omega
  have e:=Aje r hg s hne;rw [e];split
  ·rfl
  ·rename_i h2;rw [if_neg h2] at h;simp only [Amx];exact Up r hg _ _ _ h
theorem Aix(hg:Rw k go go')(s:Ao)(h:(Cy l go r s).2≠260):Cy l go' r (s.more k)=((Cy l go r s).1.more k,(Cy l go r s).2):=by
 unfold Cy at h⊢;split
 ·exact Ala r s
 ·rename_i h1;rw [if_neg h1] at h;split
  ·exact Aft r s
  ·rename_i h2;rw [if_neg h2] at h;exact Aj0 r hg s h
end
theorem Ahd(r:Rq)(s:Ao)(k:Nat):Bq r (s.more k)=(Bq r s).more k:=by
 unfold Bq;rw [←Hk]
 congr 1
 unfold Ao.burn Ao.more;simp only
 congr 1
 omega
theorem Xl(l:List UInt8)(k:Nat):∀d d',d≤d'→Rw k (Bl l d) (Bl l d')
 |0,_,_,r,s,h=>absurd rfl h
 |d+1,0,h,_,_,_=>by omega
 |d+1,d'+1,hd,r,s,h=>by
  unfold Bl at h⊢;by_cases h1:s.left<1
  ·rw [if_pos h1] at h;exact absurd rfl h
  ·rw [if_neg h1] at h;rw [if_neg h1,if_neg (show ¬(s.more k).left<1 by unfold Ao.more;simp only;omega),Ahd];split
   ·rfl
   ·rename_i h2;rw [if_neg h2] at h;have eh:(s.more k).had=s.had:=rfl;rw [eh];split
    ·rfl
    ·rename_i h3;rw [if_neg h3] at h;have es:((Bq r s).more k).see (Ea l r)=((Bq r s).see (Ea l r)).more k:=rfl;rw [es];exact Aix r (Xl l k d d' (by omega)) _ h
theorem Aja(l:List UInt8)(n m:Int)(h:n≤m)(he:Cb l n≠260):Cb l m=Cb l n∧Dh l m=Dh l n:=by
 obtain⟨k,rfl⟩:∃k:Nat,m=n+k:=⟨(m-n).toNat,by omega⟩;have hE:Cb l (n+k)=Cb l n∧(El l=0→(G9 l (n+k)).1.o=(G9 l n).1.o):=by
  unfold Cb at he⊢;by_cases hr:El l≠0
  ·rw [if_pos hr,if_pos hr];exact⟨rfl,fun h=>absurd h hr⟩
  ·rw [if_neg hr] at he;rw [if_neg hr,if_neg hr];have h1:=Xl l k (n.toNat+1) ((n+k).toNat+1) (by omega) (Hx l) (Ew l n) he;have h2:(Ew l n).more k=Ew l (n+k):=by unfold Ew;rw [←Hk,←Hk];rfl
   rw [h2] at h1;unfold G9;rw [h1];exact⟨rfl,fun _=>rfl⟩
 refine⟨hE.1,?_⟩;unfold Dh;rw [hE.1];split
 ·rfl
 ·rename_i h0;have h0:=Decidable.of_not_not h0;have hr:El l=0:=by
   refine Decidable.byContradiction fun hr=>?_
   unfold Cb at h0;rw [if_pos hr] at h0;exact hr h0
  rw [hE.2 hr]
theorem X7(x:P3):∀m:List P3,nslot (It x m)≤nslot m+nslot [x]
 | []=>by simp [It,nslot]
 |y::l=>by
  have h:=X7 x l;unfold It;have e:∀a (b:List P3),nslot (a::b)=nslot [a]+nslot b:=fun a b=>by rw [←Ej];rfl
  split
  ·rw [e y (It x l),e y l];omega
  ·split
   ·omega
   ·rw [e x (y::l)];omega
theorem Ag3(l:List P3):nslot (Ik l)≤nslot l:=by
 have:∀(l m:List P3),nslot (l.foldl (fun m x=>It x m) m)≤nslot m+nslot l:=by
  intro l
  induction l with
  |nil=>intro m;simp
  |cons x r ih=>
   intro m;have h1:=ih (It x m);have h2:=X7 x m;have e:nslot (x::r)=nslot [x]+nslot r:=by rw [←Ej];rfl
   rw [List.foldl_cons,e];omega
 have h:=this l [];have h0:nslot []=0:=rfl;unfold Ik;omega
theorem Adu{l:List UInt8}{log:List P3}(h:Y9 l log):Iy log:=by
 refine List.Pairwise.imp_of_mem (fun {a b} ha _ hab=>?_) h.asc;have:=h.rg a ha;unfold Ih;omega
theorem An6{b:List UInt8}{log:List P3}(h:E8 b log)(v:Bv){w:Nat}(hw:Av (w:Int)=true):E8 (Cp b v w) (log++ [(((Ah w b).length:Int),(((Ah w b).length+w:Nat):Int),E6 v.t),((((Ah w b).length+w:Nat):Int),(((Ah w b).length+w+1:Nat):Int),8),((((Ah w b).length+w+1:Nat):Int),(((Ah w b).length+w+2:Nat):Int),14)]):=by
 have h0:0<w:=by rcases Cc.1 hw with h|h|h|h <;>omega
 have ha:E8 (Ah w b) log:=h.pad _;have h1:=((ha.part _ (M1 h0 (u:=B9 w (Ah w b).length v)) (E6 v.t)).part [C3 w v] (by simp) 8).part [UInt8.ofNat w] (by simp) 14;simp only [Atj,Aj,Atp,List.length_nil,Ato,List.cons_append,List.nil_append] at h1;unfold Cp;simp only [Ato];exact h1
theorem Xr{T:Tr}(hv:Ff T)(hN:Fb T)(hc:T.cost≤65000)(f:Nat)(hfl:Ek f 4=true→Ek f 1=true):
  ∃log,Y9 (E0 f (Aq T)) log∧(E0 f (Aq T)).length≤65100∧(∃n:Nat,(E0 f (Aq T)).length=n+1∧log.getLast?=some ((n:Int),((n+1:Nat):Int),14))∧(f=0→nslot log=(Aq T).refs)∧(∀fuel:Int,((Aq T).cnt:Int)≤fuel→Cb (E0 f (Aq T)) fuel=0)∧
   ∀fuel:Int,Cb (E0 f (Aq T)) fuel=0→Dh (E0 f (Aq T)) fuel=log∧(nslot log:Int)≤fuel:=by
 have hok:=Aev hv hN;obtain⟨v,ps,lg,es,hrp,htl,hmem,hns⟩:=Ao7 f hfl (Aq T) (Vp hv);have hr:=hrp.rep;have hsz:=I0 f (Aq T) (Vp hv) Bd.new Mu;rw [Ij T hv] at hsz;have hz:Bd.new.size=0:=rfl;have hb:(Bd.calls f (Aq T) Bd.new).b.length≤65000:=by
  have:(Bd.calls f (Aq T) Bd.new).b.length≤(Bd.calls f (Aq T) Bd.new).size:=by unfold Bd.size;omega
  omega
 obtain⟨hw',hf⟩:=Nn (Cu v (Bd.calls f (Aq T) Bd.new).b.length 0) (Qz hr.fit 0);have hw:Av ((leastW (Cu v (Bd.calls f (Aq T) Bd.new).b.length 0):Nat):Int)=true:=Cc.2 hw';have ed:E0 f (Aq T)=Cp (Bd.calls f (Aq T) Bd.new).b v (leastW (Cu v (Bd.calls f (Aq T) Bd.new).b.length 0)):=by simp only [E0,Bd.finish,es,Cp]
 rw [ed];generalize leastW (Cu v (Bd.calls f (Aq T) Bd.new).b.length 0)=w at*;generalize (Bd.calls f (Aq T) Bd.new).b=b at*;clear ed hsz hz hw';obtain⟨hl1,hl2,_⟩:=hr.legal hok.fix;have hlen:=Zn [] b v w;have h8:=L7 b hw;have h9:w≤8:=by rcases Cc.1 hw with h|h|h|h <;>omega
 have h0:0<w:=by rcases Cc.1 hw with h|h|h|h <;>omega
 simp only [List.nil_append,List.length_nil,Nat.zero_add] at hlen;have htd:=An6 htl v hw;have hL:(Cp b v w).length<2^32:=by omega
 have hs:=Aae (v:=v) hw (by omega) hf;obtain⟨m,em⟩:∃m,Cp b v w=b++m:=⟨_,by unfold Cp Ah;rw [Ato,Ato]⟩;have hrd:Rp (Cp b v w) v (Aq T) ps:=by rw [em];exact hrp.app m
 have hun:=Aob hrd hL hok _ _ hs;obtain⟨r1,r2⟩:=Ano (x:=[]) (b:=b) (v:=v) (w:=w) rfl hw hl1 hl2;simp only [List.nil_append,List.length_nil,Nat.zero_add] at r1 r2;have hroot:Hx (Cp b v w)=⟨((Ah w b).length:Int),(w:Int),(v.t:Int),(ownW w v:Int)⟩:=by
  unfold Hx;rw [r2]
 have hsn:=Ame hv hN hr hw hb hf (T5.any _);refine⟨_,htd.facts,by omega,⟨(Ah w b).length+w+1,by omega,?_⟩,fun hz=>?_,fun fuel hfu=>?_,fun fuel he=>?_⟩
 ·simp;omega
 ·rw [Ej,←hns hz]
  congr 1
  unfold nslot;rw [List.countP_cons_of_pos (by simpa using Aad v.t),List.countP_cons_of_neg (by simp),List.countP_cons_of_neg (by simp)];rfl
 ·have hleft:(Ew (Cp b v w) fuel).left=fuel:=by unfold Ew;rw [Ft,Ft]
  have:=Aip hsn (fuel.toNat+1) (Ew (Cp b v w) fuel) (by rw [hleft];exact hfu) (by rw [hleft];omega);unfold Cb;rw [if_neg (by rw [r1];decide)];unfold G9;rw [hroot];exact this.1
 ·have he0:=he;unfold Cb at he;rw [if_neg (by rw [r1];decide)] at he;have hhad:(Ew (Cp b v w) fuel).had=[]:=by unfold Ew;rw [Jm,Jm]
  have hleft:(Ew (Cp b v w) fuel).left=fuel:=by unfold Ew;rw [Ft,Ft]
  have hout:(Ew (Cp b v w) fuel).o=[(((Cp b v w).length:Int)-1,((Cp b v w).length:Int),14),(((Cp b v w).length:Int)-2,((Cp b v w).length:Int)-1,8)]:=by
   unfold Ew;rw [Jn,Jn,Gy (by omega),Gy (by omega)];rfl
  have hall:=Al9 hhad he;obtain⟨hv1,hv2⟩:=V2 _ _ _ _ he;have heq:Dh (Cp b v w) fuel=lg++ [(((Ah w b).length:Int),(((Ah w b).length+w:Nat):Int),E6 v.t),((((Ah w b).length+w:Nat):Int),(((Ah w b).length+w+1:Nat):Int),8),((((Ah w b).length+w+1:Nat):Int),(((Ah w b).length+w+2:Nat):Int),14)]:=by
   unfold Dh;rw [if_neg (by rw [he0];decide)];refine Py _ _ (Qa _) (Adu htd.facts) fun x=>?_
   rw [U9];show x∈(Bl _ _ _ _).1.o↔_;rw [hall,hout,hroot];have esl:Gj ⟨((Ah w b).length:Int),(w:Int),(v.t:Int),(ownW w v:Int)⟩=[(((Ah w b).length:Int),((Ah w b).length:Int)+(w:Int),E6 v.t)]:=Gy (show((Ah w b).length:Int)<((Ah w b).length:Int)+(w:Int) by omega) _;rw [esl];simp only [List.mem_append,List.mem_cons,List.not_mem_nil,or_false];have e1:((Cp b v w).length:Int)-1=(((Ah w b).length+w+1:Nat):Int):=by omega
   have e2:((Cp b v w).length:Int)=(((Ah w b).length+w+2:Nat):Int):=by omega
   have e3:((Cp b v w).length:Int)-2=(((Ah w b).length+w:Nat):Int):=by omega
   have e4:((Ah w b).length:Int)+(w:Int)=(((Ah w b).length+w:Nat):Int):=by omega
   rw [e1,e3,e2,e4];have hu:(An (v.t:Int)=false∧Ct (Cp b v w) ⟨((Ah w b).length:Int),(w:Int),(v.t:Int),(ownW w v:Int)⟩ x)↔x∈lg:=by
    rw [hmem,←hun x];exact⟨fun h=>h.2,fun h=>⟨(J5.1 h).1,h⟩⟩
   rw [hu];constructor
   ·rintro((h|h)|h|h)
    ·exact .inr (.inr (.inr h))
    ·exact .inr (.inr (.inl h))
    ·exact .inr (.inl h)
    ·exact .inl h
   ·rintro(h|h|h|h)
    ·exact .inr (.inr h)
    ·exact .inr (.inl h)
    ·exact .inl (.inr h)
    ·exact .inl (.inl h)
  refine⟨heq,?_⟩;have h1:=Ag3 (G9 (Cp b v w) fuel).1.o;have h2:Dh (Cp b v w) fuel=Ik (G9 (Cp b v w) fuel).1.o:=by
   unfold Dh;rw [if_neg (by rw [he0];decide)]
  rw [heq] at h2;rw [←h2] at h1;have h3:=hv1.cnt;have h4:nslot (Ew (Cp b v w) fuel).o=0:=by rw [hout];rfl
  rw [h4,hleft] at h3;have h5:0≤(Ew (Cp b v w) fuel).left:=by
   rw [hleft];have:¬(Ew (Cp b v w) fuel).left<1:=by
    intro hlt;unfold G9 at he;unfold Bl at he;rw [if_pos hlt] at he;cases he
   omega
  have h6:=hv1.nn h5;have h7:nslot (G9 (Cp b v w) fuel).1.o=nslot (Bl (Cp b v w) (fuel.toNat+1) (Hx (Cp b v w)) (Ew (Cp b v w) fuel)).1.o:=rfl;omega
mutual
theorem Tq:∀(t:Tr),Ff t→t.refs=t.cnt
 | .mk k n u s ks l,h=>by
  cases h with
  |mk h1 h2 h3 h4 hl=>
   have ih:=Yg l hl;simp only [Dv,Bool.and_eq_true,decide_eq_true_eq] at h1;obtain⟨⟨⟨⟨⟨⟨⟨⟨⟨g1,g2⟩,_⟩,_⟩,_⟩,_⟩,_⟩,_⟩,_⟩,hp⟩:=h1;have hp:∀x∈l,As k=0∨x.k=As k:=fun x hx=>of_decide_eq_true (List.all_eq_true.1 hp x hx)
   have hk1:∀x∈l,1≤x.k:=fun x hx=>by
    cases hl x hx with
    |mk h1 _ _ _ _=>
     simp only [Dv,Bool.and_eq_true,decide_eq_true_eq] at h1;exact h1.1.1.1.1.1.1.1.1.1
   rw [Tr.refs,Tr.cnt];by_cases h10:k=10
   ·rw [if_pos h10,if_neg (by omega),ih]
   rw [if_neg h10];by_cases h17:k=17
   ·rw [if_pos h17,if_pos h17,ih]
   rw [if_neg h17,if_neg h17];by_cases h9:k≤9
   ·rw [if_pos h9];have hl0:l=[]:=by
     cases l with
     |nil=>rfl
     |cons x r=>
      exfalso;have a:=hp x (by simp);have c:=hk1 x (by simp);have e:As k= -1:=by
       unfold As;rw [if_neg (by omega),if_neg (by omega),if_neg (by omega),if_neg (by omega),if_neg (by omega)]
      rw [e] at a;omega
    rw [hl0];rfl
   ·rw [if_neg h9];have g1:1≤k∧k≤17:=⟨g1,g2⟩;have e:2≤As k∧As k≤5:=by
     unfold As
     (repeat' split) <;>omega
    have hc:Tr.cntL l=l.length:=Vg l hl fun x hx=>by have:=hp x hx;omega
    rw [hc]
theorem Yg:∀(l:List Tr),(∀t∈l,Ff t)→Tr.refsL l=Tr.cntL l
 | [],_=>rfl
 |t::r,h=>by
  rw [Tr.refsL,Tr.cntL,Tq t (h t (by simp)),Yg r (fun x hx=>h x (by simp [hx]))]
theorem Vg:∀(l:List Tr),(∀t∈l,Ff t)→(∀t∈l,t.k≤9)→Tr.cntL l=l.length
 | [],_,_=>rfl
 |t::r,h,hk=>by
  have h1:t.refs=1:=by
   have:=hk t (by simp);obtain⟨k,n,u,s,ks,l⟩:=t;have this:k≤9:=this;rw [Tr.refs,if_neg (by omega),if_neg (by omega),if_pos this]
  rw [Tr.cntL,←Tq t (h t (by simp)),h1,Vg r (fun x hx=>h x (by simp [hx])) (fun x hx=>hk x (by simp [hx])),Atp];omega
end
theorem Ahb{a b:List Tr}(h:a.Perm b):Tr.refsL a=Tr.refsL b:=by
 induction h with
 |nil=>rfl
 |cons x _ ih=>rw [Tr.refsL,Tr.refsL,ih]
 |swap x y l=>rw [Tr.refsL,Tr.refsL,Tr.refsL,Tr.refsL];omega
 |trans _ _ h1 h2=>exact h1.trans h2
mutual
theorem Yh:∀(t:Tr),Ff t→(Aq t).refs=t.refs
 | .mk k n u s ks l,h=>by
  cases h with
  |mk h1 h2 h3 h4 hl=>
   have ih:=Vh l hl;have hll:(Bz l).length=l.length:=by rw [Ca,List.length_map]
   simp only [Dv,Bool.and_eq_true,decide_eq_true_eq] at h1;obtain⟨⟨⟨_,glen⟩,_⟩,_⟩:=h1;rw [Aq];by_cases hk:k=17
   ·rw [if_pos hk];have glen:ks.length=l.length:=glen hk;have hp:=D8 (ks.zip (Bz l));have e1:=(hp.map (·.1)).length_eq;have e2:=Ahb (hp.map (·.2));rw [List.map_fst_zip (by omega)] at e1;rw [List.map_snd_zip (by omega)] at e2;rw [Tr.refs,Tr.refs,if_neg (by omega),if_pos hk,if_neg (by omega),if_pos hk,e1,e2,ih]
   ·rw [if_neg hk,Tr.refs,Tr.refs,ih,hll]
theorem Vh:∀(l:List Tr),(∀t∈l,Ff t)→Tr.refsL (Bz l)=Tr.refsL l
 | [],_=>rfl
 |t::r,h=>by
  rw [Bz,Tr.refsL,Tr.refsL,Yh t (h t (by simp)),Vh r (fun x hx=>h x (by simp [hx]))]
end
end Go.Proofs.YtgbjodnegkbfoaaGreat
