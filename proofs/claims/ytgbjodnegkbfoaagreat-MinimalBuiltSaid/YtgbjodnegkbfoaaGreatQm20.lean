/- Parts of the proof. -/
import Derived.Test.YtgbjodnegkbfoaaGreatQm19
set_option maxHeartbeats 1000000
set_option maxRecDepth 100000
open Go.Value renaming int→Aa
open Go.IntKind renaming i64→Ab
open Nat renaming le_refl→Asp
open List renaming getElem?_eq_getElem→Asq,length_cons→Asw
namespace Go.Proofs.YtgbjodnegkbfoaaGreat
open Go.RowKit Go.Acc
theorem Ajp(B g n c:Nat)(l:List P3)(w:World)(h:I0 w B (some ⟨g,0,none⟩) n c l)(hn:n≤2147483648):
  Calls Tryz.prog 62 #[.slice (some ⟨g,0,none⟩) n c,.func (.func 63) #[] #[]] w fun e w'=>∃k,e= .returned (.slice (some ⟨g,0,none⟩) k c)∧I0 w' B (some ⟨g,0,none⟩) k c (K3 l)∧Fr (fun k=>k=g) w w':=by
 have HO:=Hd h;clear h;go_enter Tryz.func62,Tryz.ntmps62;go_wp2_with fail;go_at_call 108;refine(Agt B g n c l _ HO.o hn).mono ?_;rintro e w1 ⟨rfl,m,hp,hr,ho,hf⟩;have HP:=Hd hp;have HR:=Hd hr;have HM:=Hd ho;have HF:=Hd hf;clear hp hr ho hf;go_wp2_with fail;go_at_call 109;refine(Zp B g n c m.toArray _ HM.o hn).mono ?_;rintro e w2 ⟨k,hk,rfl,ho,hf⟩;have e1:=V7 l m HP.o HR.o;rw [e1] at ho;have HM:=Hd ho;have HF:=Hd (HF.o.trans hf (fun _ _ h=>h));clear hk ho hf e1;go_wp2_with fail;go_ret;exact⟨k,rfl,HM.o,HF.o⟩
theorem Xy{w:World}{g:Nat}(h:w.heap.size=g)(o:Obj):(w.alloc o).heap[g]?=some o:=by subst h;exact heap_alloc_new w o
theorem Wn{l:List UInt8}(h:Ec l=0):Ly l.length ⟨(Dl l).1,(Dl l).2.1,(Dl l).2.2.1,(Dl l).2.2.2⟩∧3≤l.length:=by
 obtain⟨x,hx⟩:∃x,l.getD (l.length-1) 0=x:=⟨_,rfl⟩;obtain⟨y,hy⟩:∃x,l.getD (l.length-2) 0=x:=⟨_,rfl⟩;have h3:¬l.length<3:=fun h3=>by rw [Rv h3] at h;cases h
 have hw:Av (x.toNat:Int)=true:=by
  cases hw:Av (x.toNat:Int) with
  |true=>rfl
  |false=>rw [Rw hx hw] at h;cases h
 have hu:Gk y=0:=by
  refine Decidable.byContradiction fun hu=>?_
  rw [Wm h3 hx hy hw hu] at h;exact hu h
 have h4:=Aei h3 hx hy hw hu;rw [h] at h4;have hr:=Tm hx hy h;rw [hr];have hW:=By.1 hw;refine⟨⟨?_,?_,?_,?_⟩,by omega⟩
 ·simp only;split at h4
  ·cases h4
  ·omega
 ·simp only;omega
 ·simp only;omega
 ·simp only;omega
def Ch(l:List UInt8):Rq:=⟨(Dl l).1,(Dl l).2.1,(Dl l).2.2.1,(Dl l).2.2.2⟩
def Hs(l:List UInt8)(fuel:Int):Ay:=(Ay.tell ⟨fuel,[],[]⟩ ((l.length:Int)-1) l.length 14).tell ((l.length:Int)-2) ((l.length:Int)-1) 8
def Ri(l:List UInt8)(fuel:Int):Ay×Int:=Bz l (fuel.toNat+1) (Ch l) (Hs l fuel)
def Eh(l:List UInt8)(fuel:Int):Int:=if Ec l≠0 then Ec l else(Ri l fuel).2
def Kj(l:List UInt8)(fuel:Int):List P3:=if Eh l fuel≠0 then [] else K3 (Ri l fuel).1.o
theorem Ago(A:Option Addr)(n c:Nat)(fuel:Int)(l:List UInt8)(w:World)(hl:Cd w A n l)(hc:n≤c)(hn:n≤4294967296)(hf:fuel≤100000000):
  Calls Tryz.prog 23 #[.slice A n c,Aa Ab fuel] w fun e w'=>∃A' k c',e= .returned (.tuple #[.slice A' k c',Aa Ab (Eh l fuel)])∧I0 w' w.heap.size A' k c' (Kj l fuel)∧Below w.heap.size w w':=by
 have hlen:=hl.1;have HI:=Hd hl;clear hl;by_cases hr:Ec l=0
 ·obtain⟨hok,h3⟩:=Wn hr;have HOK:=Hd hok;have HR:=Hd hr;clear hok hr;go_enter Tryz.func23,Tryz.ntmps23;go_wp2_with fail;go_at_call 44;refine(Q1 A n c l _ HI.o (by omega)).mono ?_;rintro e w1 ⟨rfl,hb⟩;rw [HR.o];obtain⟨a,ha⟩:∃a,(Dl l).1=a:=⟨_,rfl⟩;obtain⟨b,hb'⟩:∃a,(Dl l).2.1=a:=⟨_,rfl⟩;obtain⟨d,hd⟩:∃a,(Dl l).2.2.1=a:=⟨_,rfl⟩;obtain⟨f,hf'⟩:∃a,(Dl l).2.2.2=a:=⟨_,rfl⟩;rw [ha,hb',hd,hf'];replace HI:=Hd (HI.o.pure hb);have HB:=Hd hb;have hrt:Ch l=⟨a,b,d,f⟩:=by unfold Ch;rw [ha,hb',hd,hf']
  rw [ha,hb',hd,hf'] at HOK;have HRT:=Hd hrt;clear hb ha hb' hd hf' hrt;have h0:=run_makeMap (P:=Tryz.prog) 95;go_upto_region 7 with fail
  obtain⟨E,hE⟩:∃E:Hm,E=⟨w1.heap.size,w1.heap.size+1+1+1+1,w1.heap.size+1+1+1,w1.heap.size+1+1,w1.heap.size+1,A,n,c,l⟩:=⟨_,rfl⟩;have hok:E.Ok:=by
   subst hE;refine⟨?_,?_,?_,?_,?_,?_,?_,?_,?_,?_,hc,hn⟩ <;>(try (simp only;omega))
   intro ad had;obtain⟨b',off,e,hlt⟩:=HI.o.some_ C6 (by omega) (by omega);simp only at had;rw [e] at had;injection had with had
   subst had;exact hlt
  obtain⟨W,hW⟩:∃W,W=(((w1.alloc (.cells #[Aa Ab a,Aa Ab b,Aa Ab d,Aa Ab f] 75)).alloc (.cells #[.slice none 0 0] 45)).alloc (.map #[] 0)).alloc (.cells #[.slice A n c,Aa Ab fuel,.map (some (w1.heap.size+1+1)),.func (.func 60) #[] #[.pointer (some ⟨w1.heap.size+1,0,none⟩)]] 98):=⟨_,rfl⟩;have hsz:W.heap.size=w1.heap.size+1+1+1+1:=by subst hW;simp
  have hbW:Below w1.heap.size w1 W:=by
   subst hW;exact((((Below.refl _ _).alloc (Asp _) _).alloc (by simp <;>omega) _).alloc (by simp <;>omega) _).alloc (by simp <;>omega) _
  have hX:Hn E none W w1.heap.size 75 #[Aa Ab a,Aa Ab b,Aa Ab d,Aa Ab f]:=by
   refine⟨?_,?_⟩
   ·subst hW;exact(((Ag.new w1 _ _).alloc _).alloc _).alloc _
   ·subst hE;refine⟨?_,?_,?_,?_⟩ <;>(try (simp only;omega))
    simp
  have hC:Er E none ⟨fuel,[],[]⟩ W:=by
   refine⟨hok,?_,?_,?_,?_,?_⟩
   ·subst hE;exact HI.o.pure hbW
   ·subst hE hW;exact Ag.new_ (by simp) _ _
   ·subst hE hW;exact⟨#[],0,(Below.heap_alloc _ _ _ (by simp)).trans (Xy (by simp) _),rfl,by simp⟩
   ·subst hE;refine⟨none,0,0,?_,Own.nil _ _,rfl⟩;subst hW;exact((Ag.new_ (by simp) _ _).alloc _).alloc _
   ·subst hE;rw [hsz];exact Asp _
  have hbl:E.bl=w1.heap.size+1:=by rw [hE]
  have hbw:E.bw=w1.heap.size+1+1+1:=by rw [hE]
  have hEl:E.l=l:=by rw [hE]
  have hB0:E.B0=w1.heap.size:=by rw [hE]
  have hbm:E.bm=w1.heap.size+1+1:=by rw [hE]
  have hEA:E.A=A:=by rw [hE]
  have hEn:E.n=n:=by rw [hE]
  have hEc:E.c=c:=by rw [hE]
  rw [←hW,←hbw,←hbm,←hbl];rw [←hEA,←hEn,←hEc];have hpos:E.B0≤W.heap.size:=by rw [hsz,hB0];omega
  have HLE:=Hd (show w.heap.size≤E.B0 by rw [hB0];exact HB.o.size);have HLE2:=Hd (show w.heap.size≤E.B2 by have:=HB.o.size;rw [hE];simp only;omega);have HW0:=Hd (HB.o.trans (hbW.mono HB.o.size));have HC:=Hd hC;have HC0:=Hd hC;have HX:=Hd hX;have HB0:=Hd hB0;have HE:=Hd hE;have HS0:=Hd (show Hs l fuel=((Ay.mk fuel [] []).tell ((l.length:Int)-1) l.length 14).tell ((l.length:Int)-2) ((l.length:Int)-1) 8 from rfl);have HBW:=Hd hbW;have HBB:=Hd (Dq.refl E none W);have HPO:=Hd hpos;clear hW hsz hbW hX hC hbl hbw hbm hB0 hE hpos h0;have hwr1:IntKind.i64.wrap ((n:Int)-1)=(n:Int)-1:=IntWalk.i64_in _ (by omega);have hwr2:IntKind.i64.wrap ((n:Int)-2)=(n:Int)-2:=IntWalk.i64_in _ (by omega);generalize w1.heap.size=br at HX⊢;obtain⟨c0,c1,c2,c3⟩:=HC.o.cells;have x0:=Al HX.o.1;have x1:=Ak HX.o.1;have x2:=Aj HX.o.1;have x3:=Am HX.o.1;obtain⟨W0,rfl⟩:∃W0:World,W0=W:=⟨_,rfl⟩;have HB:=HBB;clear HBB;have HBW0:=Hd HB0.o;go_wp2_with fail;go_at_call 60
  with_reducible refine(Gb ((n:Int)-1) n 14 HC.o (by simp)).mono ?_
  rintro e w2 ⟨rfl,g2,hC2,hT2⟩;replace HB:=Hd (HB.o.trans hT2);replace HX:=Hd (HX.o.to hT2);replace HC:=Hd hC2;clear c0 c1 c2 c3 x0 x1 x2 x3;clear hC2 hT2;obtain⟨c0,c1,c2,c3⟩:=HC.o.cells;have x0:=Al HX.o.1;have x1:=Ak HX.o.1;have x2:=Aj HX.o.1;have x3:=Am HX.o.1;go_wp2_with fail;go_at_call 60
  with_reducible refine(Gb ((n:Int)-2) ((n:Int)-1) 8 HC.o (by unfold Ay.tell;split <;>simp)).mono ?_
  rintro e w3 ⟨rfl,g3,hC3,hT3⟩;replace HB:=Hd (HB.o.trans hT3);replace HX:=Hd (HX.o.to hT3);replace HC:=Hd hC3;clear c0 c1 c2 c3 x0 x1 x2 x3;clear hC3 hT3;obtain⟨c0,c1,c2,c3⟩:=HC.o.cells;have x0:=Al HX.o.1;have x1:=Ak HX.o.1;have x2:=Aj HX.o.1;have x3:=Am HX.o.1;have hs1:((Ay.mk fuel [] []).tell ((n:Int)-1) n 14).tell ((n:Int)-2) ((n:Int)-1) 8=Hs l fuel:=by rw [HS0.o,hlen]
  have hsl:(Hs l fuel).left=fuel:=by unfold Hs;rw [Jj,Jj]
  have hso:(Hs l fuel).o=[((n:Int)-1,(n:Int),14),((n:Int)-2,(n:Int)-1,8)]:=by
   rw [←hs1];unfold Ay.tell;rw [if_pos (by omega),if_pos (by omega)];rfl
  have hsz:(Hs l fuel).size≤900000000:=by
   unfold Ay.size;rw [hso,hsl];simp only [Asw,List.length_nil];omega
  rw [hs1] at HC;obtain⟨y,hy⟩:∃y,Ri l fuel=y:=⟨_,rfl⟩;have hcome:Bz E.l (fuel.toNat+1) ⟨a,b,d,f⟩ (Hs l fuel)=y:=by rw [hEl,←HRT.o];exact hy
  have hadd:=Adp l (fuel.toNat+1) (Ch l) (Hs l fuel) (by rw [HRT.o];exact HOK.o);rw [show(Bz l (fuel.toNat+1) (Ch l) (Hs l fuel))=y from hy] at hadd;have hcs:=Ud E (fuel.toNat+1) g3 (Hs l fuel) a b d f w3 HC.o (by rw [hsl];omega) hsz (by rw [hEl];exact HOK.o);rw [hcome] at hcs;have hpe:Eh l fuel=y.2:=by unfold Eh;rw [if_neg (by simp [HR.o]),hy]
  have hps:Kj l fuel=if y.2≠0 then [] else K3 y.1.o:=by unfold Kj;rw [hpe,hy]
  have HCS:=Hd hcs;have HY:=Hd (show(Bz l (fuel.toNat+1) (Ch l) (Hs l fuel)).1=y.1 by rw [←hy];rfl);have HPE:=Hd hpe;have HPS:=Hd hps;have HAD:=Hd hadd;have HSO:=Hd hso;have HSZ:=Hd hsz;clear hs1 hsl hso hsz hcome hadd hcs hpe hps hy HS0;go_wp2_with fail;go_at_call 61;refine HCS.o.mono ?_;rintro e w4 ⟨rfl,g4,hC4,hT4⟩;obtain⟨s4,er⟩:=y;simp only at hC4 HPS HAD HPE HY⊢;replace HB:=Hd (HB.o.trans hT4);replace HX:=Hd (HX.o.to hT4);replace HC:=Hd hC4;clear c0 c1 c2 c3 x0 x1 x2 x3;clear hC4 hT4;obtain⟨c0,c1,c2,c3⟩:=HC.o.cells;have x0:=Al HX.o.1;have x1:=Ak HX.o.1;have x2:=Aj HX.o.1;have x3:=Am HX.o.1;have hbf:Below w.heap.size w w4:=by
   exact HW0.o.trans ((HB.o.belowB HC0.o).mono HLE.o)
  have HBF:=Hd hbf;clear hbf;by_cases her:er=0
  ·subst her;have hps:Kj l fuel=K3 s4.o:=by rw [HPS.o];rfl
   have HPS2:=Hd hps;obtain⟨A',n',c',hblk,hown,hg⟩:=HC.o.O;obtain⟨t,ht,_⟩:=HAD.o;rw [HSO.o] at ht;have hlen':s4.o.length=n':=hown.1;have hn1:1≤n':=by rw [←hlen',ht];simp
   have hn2:n'≤2147483648:=by
    have h1:=((P1 l (fuel.toNat+1)) (Ch l) (Hs l fuel)).1.2;have h2:=Gp s4;have h3:(Bz l (fuel.toNat+1) (Ch l) (Hs l fuel)).1=s4:=HY.o;rw [h3] at h1;have:=HSZ.o;omega
   have hA:∃g,A'=some ⟨g,0,none⟩∧E.B2≤g:=by
    cases A' with
    |none=>exact absurd (hown.is.none_ J3 (by omega)).2 (by omega)
    |some ad=>
     obtain⟨h1,h2,_⟩:=hown.addr ad rfl;exact⟨ad.block,by rw [h1],h2⟩
   obtain⟨g,rfl,hg2⟩:=hA;have v0:_=some (Value.slice (some ⟨g,0,none⟩) n' c'):=hblk.cell 0;have HOW:=Hd hown;have HG:=Hd hg2;clear hps ht hlen' hn1 hg hg2 hown hblk;go_wp2_with fail;go_at_call 62;refine(Ajp E.B2 g n' c' s4.o _ HOW.o hn2).mono ?_;rintro e w5 ⟨k,rfl,hO5,hF5⟩;have HO5:=Hd hO5;have hbf:Below w.heap.size w w5:=by
    refine HBF.o.trans (hF5.belowB ?_ HBF.o.size);rintro k hk rfl;have:=HLE2.o;have:=HG.o;omega
   have HBF2:=Hd hbf;clear hO5 hF5 hbf;go_wp2_with fail;go_ret2;rw [HPE.o,HPS2.o];exact⟨_,k,c',rfl,HO5.o.rebase HLE2.o,HBF2.o⟩
  ·have hne:(er != 0)=true:=by simpa using her
   have hps:Kj l fuel=[]:=by rw [HPS.o,if_pos her]
   have HPS2:=Hd hps;clear hps her;go_wp2_with fail;go_ret2;rw [HPE.o,HPS2.o];exact⟨none,0,0,rfl,Own.nil _ _,HBF.o⟩
 ·have hne:(Ec l != 0)=true:=by simpa using hr
  have hpe:Eh l fuel=Ec l:=by unfold Eh;rw [if_pos hr]
  have hps:Kj l fuel=[]:=by unfold Kj;rw [hpe,if_pos hr]
  have HPE:=Hd hpe;have HPS:=Hd hps;clear hpe hps hr;go_enter Tryz.func23,Tryz.ntmps23;go_wp2_with fail;go_at_call 44;refine(Q1 A n c l _ HI.o (by omega)).mono ?_;rintro e w1 ⟨rfl,hb⟩;have HB:=Hd (hb.alloc hb.size (.cells #[Aa Ab (Dl l).1,Aa Ab (Dl l).2.1,Aa Ab (Dl l).2.2.1,Aa Ab (Dl l).2.2.2] 75));clear hb;go_wp2_with fail;go_ret2;rw [HPE.o,HPS.o];exact⟨none,0,0,rfl,Own.nil _ _,HB.o⟩
attribute [local go_sem] Oper.semAt_some
def Anv:Except Int (List P3)→Int×Int
 | .error a=>(a,10)
 | .ok _=>(0,0)
def Da(l:List UInt8)(fuel:Int):Int×Int:=
 if Eh l fuel≠0 then(0,Eh l fuel)
 else if 1<(Ch l).q∧C0 l (Ch l).p (Ch l).q (Ch l).t (Ch l).v (Ch l).p ((Ch l).q/2)=true then((Ch l).p,10)
 else Anv (O4 l (Ch l))
theorem Yu{l:List UInt8}{fuel:Int}(h:Eh l fuel=0):Ec l=0:=by
 refine Decidable.byContradiction fun hr=>?_
 unfold Eh at h;rw [if_pos hr] at h;exact hr h
theorem X4{l:List UInt8}(h:Ec l=0):Iz (Ch l)∧Ly l.length (Ch l):=by
 refine⟨.inr ?_,(Wn h).1⟩;obtain⟨x,hx⟩:∃x,l.getD (l.length-1) 0=x:=⟨_,rfl⟩;obtain⟨y,hy⟩:∃x,l.getD (l.length-2) 0=x:=⟨_,rfl⟩;have h3:¬l.length<3:=fun h3=>by rw [Rv h3] at h;cases h
 have hw:Av (x.toNat:Int)=true:=by
  cases hw:Av (x.toNat:Int) with
  |true=>rfl
  |false=>rw [Rw hx hw] at h;cases h
 have hu:Gk y=0:=by
  refine Decidable.byContradiction fun hu=>?_
  rw [Wm h3 hx hy hw hu] at h;exact hu h
 have hl:Bc ((y.toNat:Int)/4)=true:=by
  unfold Gk at hu;split at hu
  ·assumption
  ·cases hu
 have hr:=Tm hx hy h;unfold Ch;rw [hr];unfold Jl Kb;rw [if_pos hl,if_pos hl];have:=y.toNat_lt;refine⟨?_,by simp only;omega,by simp only;omega⟩;simp only;have hm:y.toNat % 4<4:=Nat.mod_lt _ (by decide);generalize y.toNat % 4=z at hm⊢;have:z=0∨z=1∨z=2∨z=3:=by omega
 rcases this with rfl|rfl|rfl|rfl <;>decide
theorem Akc(bw:Nat)(A:Option Addr)(n c:Nat)(p q t v pos f:Int)(r:Bool)(l:List UInt8)(w:World)(h:Ie ⟨bw,A,n,c,l⟩ w)(hp:pos≤1099511627776)(hr:C0 l p q t v pos f=r):
  Calls Tryz.prog 45 #[.pointer (some ⟨bw,0,none⟩),.agg #[Aa Ab p,Aa Ab q,Aa Ab t,Aa Ab v],Aa Ab pos,Aa Ab f] w fun e w'=>e= .returned (.bool r)∧Below w.heap.size w w':=
 Q4 ⟨bw,A,n,c,l⟩ p q t v pos f r w h hp hr
theorem Agj(bw:Nat)(A:Option Addr)(n c:Nat)(l:List UInt8)(m:Nat)(hA:Zc ⟨bw,A,n,c,l⟩ m)(x p q t v:Int)(res:Except Int (List P3))(w:World)(h:Dn ⟨bw,A,n,c,l⟩ m [] x w)(hok:Iz ⟨p,q,t,v⟩)(hr:O4 l ⟨p,q,t,v⟩=res):
  Calls Tryz.prog 46 #[.pointer (some ⟨bw,0,none⟩),.agg #[Aa Ab p,Aa Ab q,Aa Ab t,Aa Ab v]] w fun e w'=>Aku ⟨bw,A,n,c,l⟩ m x w e w' res:=
 Agk ⟨bw,A,n,c,l⟩ m hA x p q t v res w h hok hr
theorem M8{l:List UInt8}{fuel a e:Int}(h:Da l fuel=(a,e)):Ending.returned (.tuple #[Aa Ab a,Aa Ab e])=Ending.returned (.tuple #[Aa Ab (Da l fuel).1,Aa Ab (Da l fuel).2]):=by rw [h]
theorem Pq(A:Option Addr)(n c:Nat)(fuel:Int)(l:List UInt8)(w:World)(hl:Cd w A n l)(hc:n≤c)(hn:n≤4294967296)(hf:fuel≤100000000):
  Calls Tryz.prog 14 #[.slice A n c,Aa Ab fuel] w fun e w'=>e= .returned (.tuple #[Aa Ab (Da l fuel).1,Aa Ab (Da l fuel).2])∧Below w.heap.size w w':=by
 have hlen:=hl.1;have HI:=Hd hl;have hP:=Ago A n c fuel l w hl hc hn hf;clear hl;by_cases he:Eh l fuel=0
 ·have hr:=Yu he;obtain⟨hok,hrq⟩:=X4 hr;obtain⟨⟨p,q,t,v⟩,hrt⟩:∃r,Ch l=r:=⟨_,rfl⟩;rw [hrt] at hok hrq;obtain⟨res,hres⟩:∃res,O4 l ⟨p,q,t,v⟩=res:=⟨_,rfl⟩;obtain⟨st,hst⟩:∃b,C0 l p q t v p (q/2)=b:=⟨_,rfl⟩;have hck:Da l fuel=if 1<q∧st=true then(p,10) else Anv res:=by
   unfold Da;rw [if_neg (by rw [he];decide),hrt,hres];simp only [hst]
  have HCK:=Hd hck;have HOK:=Hd hok;have HRES:=Hd hres;have HST:=Hd hst;have hq:1≤q∧q≤8:=⟨hrq.2.1,hrq.2.2.1⟩;have h3:3≤n:=by have:=(Wn hr).2;omega
  have hp:0≤p∧p≤n:=by have h1:=hrq.1;have h2:=hrq.2.2.2;simp only at h1 h2;omega
  have hR:=fun W (h:Cd W A n l)=>Q1 A n c l W h (by omega)
  have hrr:(Dl l).1=p∧(Dl l).2.1=q∧(Dl l).2.2.1=t∧(Dl l).2.2.2=v:=by
   unfold Ch at hrt;injection hrt with h1 h2 h3 h4
   exact⟨h1,h2,h3,h4⟩
  rw [hr,hrr.1,hrr.2.1,hrr.2.2.1,hrr.2.2.2] at hR;rw [he] at hP;have HRT:=Hd hR;have HP:=Hd hP;clear he hr hok hrq hrt hres hst hck hR hP hrr;go_enter Tryz.func14,Tryz.ntmps14;go_wp2_with fail;go_at_call 23;refine HP.o.mono ?_;rintro e w1 ⟨A',k,c',rfl,hO,hb⟩;have HB:=Hd hb;replace HI:=Hd (HI.o.pure hb);clear hO hb HP;go_wp2_with fail;go_at_call 44;refine(HRT.o _ HI.o).mono ?_;rintro e w2 ⟨rfl,hb⟩;replace HB:=Hd (Ad HB.o hb);replace HI:=Hd (HI.o.pure hb);clear hb HRT;have h0:=run_makeMap (P:=Tryz.prog) 79;go_upto_region 6 with fail
  obtain⟨W,hW⟩:∃W,W=((w2.alloc (.cells #[Aa Ab p,Aa Ab q,Aa Ab t,Aa Ab v] 75)).alloc (.map #[] 0)).alloc (.cells #[.slice A n c,.map (some (w2.heap.size+1)),Aa Ab 0] 81):=⟨_,rfl⟩;rw [←hW];have hbW:Below w2.heap.size w2 W:=by
   subst hW;exact(((Below.refl _ _).alloc (Asp _) _).alloc (by simp) _).alloc (by simp <;>omega) _
  have hX:Ag W w2.heap.size 75 #[Aa Ab p,Aa Ab q,Aa Ab t,Aa Ab v]:=by
   subst hW;exact((Ag.new w2 _ _).alloc _).alloc _
  have hA:∀ad,A=some ad→ad.block<w2.heap.size:=by
   intro ad had;obtain⟨b',off,e,hlt⟩:=HI.o.some_ C6 (by omega) (by omega);rw [e] at had;injection had with had
   subst had;exact hlt
  have hLk:Dn ⟨w2.heap.size+1+1,A,n,c,l⟩ (w2.heap.size+1) [] 0 W:=by
   refine⟨hc,hn,HI.o.pure hbW,?_,?_,fun ad had=>Nat.lt_of_lt_of_le (hA ad had) hbW.size⟩
   ·subst hW;exact Ag.new_ (by simp) _ _
   ·subst hW;exact⟨#[],0,(Below.heap_alloc _ _ _ (by simp)).trans (Xy (by simp) _),rfl,by simp⟩
  have hMA:Zc ⟨w2.heap.size+1+1,A,n,c,l⟩ (w2.heap.size+1):=by
   refine⟨fun ad had hs=>?_,by simp only;omega⟩;have:=hA ad had;unfold Ig at hs;simp only at hs;omega
  have HWS:=Hd HB.o.size;replace HB:=Hd (Ad HB.o hbW);have HX:=Hd hX;have HLK:=Hd hLk;have HMA:=Hd hMA;clear hW hbW hX hA hLk hMA h0 HI;have HBW:=Hd (show w.heap.size≤w2.heap.size+1+1 by have:=HWS.o;omega);have HBM:=Hd (show w.heap.size≤w2.heap.size+1 by have:=HWS.o;omega);generalize w2.heap.size+1+1=bw at HLK HMA HBW⊢;generalize w2.heap.size+1=m at HLK HMA HBM⊢;generalize w2.heap.size=bR at HX⊢;have x0:=Al HX.o;have x1:=Ak HX.o;have x2:=Aj HX.o;have x3:=Am HX.o;go_cut [29] from 11 to 53 (fun u29 wx=>∃wy,wy=wx∧u29= .bool (decide (1<q∧st=true))∧Below W.heap.size W wx)
  case first=>
   by_cases hq1:1<q
   ·have hd1:decide (1<q)=true:=decide_eq_true hq1;have hdv:IntKind.i64.wrap (q.tdiv 2)=q/2:=by rw [Int.tdiv_eq_ediv_of_nonneg (by omega)];exact IntWalk.i64_in _ (by omega)
    have HSF:=Hd (show decide (1<q∧st=true)=st by cases st <;>simp [hq1]);have HQ:=Hd (Below.refl W.heap.size W);clear HB;go_wp2_with (go_at_call 45;(with_reducible refine(Akc bw A n c p q t v p (q/2) st l _ HLK.o.m (by omega) HST.o).mono ?_);rintro e w8 ⟨rfl,hb⟩;replace HQ:=Hd hb;clear x0 x1 x2 x3;clear hb);go_meet;rw [HSF.o];exact⟨_,rfl,rfl,HQ.o⟩
   ·have hd1:decide (1<q)=false:=decide_eq_false hq1;have HSF:=Hd (show decide (1<q∧st=true)=false from decide_eq_false fun h=>hq1 h.1);go_wp2_with fail;go_meet;rw [HSF.o];exact⟨_,rfl,rfl,Below.refl _ _⟩
  case rest=>
  obtain⟨w8,rfl,rfl,hb⟩:=hcut;replace HB:=Hd (Ad HB.o hb);replace HX:=Hd (HX.o.pure hb);replace HLK:=Hd (HLK.o.pure hb);clear x0 x1 x2 x3;clear hb;have x0:=Al HX.o;have x1:=Ak HX.o;have x2:=Aj HX.o;have x3:=Am HX.o;by_cases hc1:1<q∧st=true
  ·have hd:decide (1<q∧st=true)=true:=decide_eq_true hc1;rw [hd];have hr:=HCK.o;rw [if_pos hc1] at hr;have HR:=Hd hr;clear hr hc1 hd;go_wp2_with fail;go_ret2;exact⟨M8 HR.o,HB.o⟩
  ·have hd:decide (1<q∧st=true)=false:=decide_eq_false hc1;rw [hd];have hr:=HCK.o;rw [if_neg hc1] at hr;have HR:=Hd hr;have HCM:=Hd (Agj bw A n c l m HMA.o 0 p q t v res w8 HLK.o HOK.o HRES.o);clear hr hc1 hd;go_wp2_with fail;go_at_call 46;refine HCM.o.mono ?_;cases res with
   |error a=>
    rintro e w9 ⟨rfl,⟨had,hL⟩,hF⟩;have HL:=Hd hL;have hb:Below w.heap.size w w9:=HB.o.trans (hF.belowB (fun i hi hs=>by have h1:=HBW.o;have h2:=HBM.o;unfold Ig at hs;simp only at hs;omega) HB.o.size);replace HB:=Hd hb;clear hb hL hF x0 x1 x2 x3;have v0:_=some (Aa Ab a):=HL.o.k.cell 2;go_wp2_with fail;go_ret2;exact⟨M8 HR.o,HB.o⟩
   |ok had=>
    rintro e w9 ⟨rfl,hL,hF⟩;have hb:Below w.heap.size w w9:=HB.o.trans (hF.belowB (fun i hi hs=>by have h1:=HBW.o;have h2:=HBM.o;unfold Ig at hs;simp only at hs;omega) HB.o.size);replace HB:=Hd hb;clear hb hL hF x0 x1 x2 x3;go_wp2_with fail;go_ret2;exact⟨M8 HR.o,HB.o⟩
 ·have hne:(Eh l fuel != 0)=true:=by simpa using he
  have hck:Da l fuel=(0,Eh l fuel):=by unfold Da;rw [if_pos he]
  have HCK:=Hd hck;have HP:=Hd hP;clear hck he hP;go_enter Tryz.func14,Tryz.ntmps14;go_wp2_with fail;go_at_call 23;refine HP.o.mono ?_;rintro e w1 ⟨A',k,c',rfl,hO,hb⟩;have HB:=Hd hb;clear hb hO;go_wp2_with fail;go_ret2;exact⟨M8 HCK.o,HB.o⟩
mutual
def Tr.cnt:Tr→Nat
 | .mk k _ _ _ ks l=>(if k=17 then 2+ks.length else 1)+Tr.cntL l
def Tr.cntL:List Tr→Nat
 | []=>0
 |t::r=>t.cnt+Tr.cntL r
end
theorem Fm(s:Ay)(a b c:Int):(s.tell a b c).left=s.left:=by unfold Ay.tell;split <;>rfl
theorem Q5(r:Rq)(s:Ay):(Cz r s).left=s.left-1:=by unfold Cz;rw [Fm];rfl
def Pt(n:Nat)(s:Ay)(x:Ay×Int):Prop:=x.2=0∧s.left-n≤x.1.left∧x.1.left≤s.left
def N8(go:Rq→Ay→Ay×Int)(d:Nat)(n:Nat)(r:Rq):Prop:=∀s:Ay,(n:Int)≤s.left→s.left.toNat<d→Pt n s (go r s)
theorem K2{L:List UInt8}{d n:Nat}{r:Rq}(ht:Bh L r.p r.q r.t r.v=0)(hi:Aw r.t=false)(h:∀s:Ay,(n:Int)≤s.left→s.left.toNat<d→Pt n s (Eo L (Bz L d) r s)):N8 (Bz L (d+1)) (d+1) (n+1) r:=by
 intro s h1 h2;unfold Bz;rw [if_neg (by omega),if_neg (by rw [hi];decide)];by_cases hh:Ht L r∈s.had
 ·rw [if_pos (.inr hh),ht];refine⟨rfl,?_,?_⟩
  ·show s.left-_≤(Cz r s).left;rw [Q5];omega
  ·show(Cz r s).left≤_;rw [Q5];omega
 ·rw [if_neg (by rw [ht];intro h;rcases h with h|h;exact h rfl;exact hh h)];have hl:((Cz r s).see (Ht L r)).left=s.left-1:=Q5 r s;obtain⟨g1,g2,g3⟩:=h ((Cz r s).see (Ht L r)) (by rw [hl];omega) (by rw [hl];omega);rw [hl] at g2 g3;exact⟨g1,by omega,by omega⟩
theorem Zo{L:List UInt8}{p q t v k:Int}{s:List UInt8}{a:Nat}(h:Sq L p q t v k s a)(d:Nat):N8 (Bz L (d+1)) (d+1) 1 ⟨p,q,t,v⟩:=by
 have ht:t=4∨t=5∨t=25:=by rcases h.ty with⟨_,h⟩|⟨_,h⟩|⟨_,h⟩ <;>omega
 have hi:Aw t=false:=by rcases ht with rfl|rfl|rfl <;>decide
 have hin:Hi [4,5,25] t=true:=by rcases ht with rfl|rfl|rfl <;>decide
 refine K2 (n:=0) (r:=⟨p,q,t,v⟩) h.tg.1 hi (fun st h1 h2=>?_);unfold Eo D9;rw [if_pos hin,if_neg (by rw [(h.fnd _ hin).1];decide)];split
 ·exact⟨rfl,by show _≤(Ay.tell _ _ _ _).left;rw [Fm];omega,by show(Ay.tell _ _ _ _).left≤_;rw [Fm];omega⟩
 ·split
  ·exact⟨rfl,by show _≤(Ay.tell _ _ _ _).left;rw [Fm,Fm];omega,by show(Ay.tell _ _ _ _).left≤_;rw [Fm,Fm];omega⟩
  ·exact⟨rfl,by show _≤(Ay.tell _ _ _ _).left;rw [Fm,Fm];omega,by show(Ay.tell _ _ _ _).left≤_;rw [Fm,Fm];omega⟩
theorem Ash(L:List UInt8)(r:Rq)(i:Nat)(s:Ay):(Fh L r i s).left=s.left:=by unfold Fh;split;rw [Fm];rfl
theorem Ui{N:Nat}{L:List UInt8}{go:Rq→Ay→Ay×Int}{r:Rq}{d:Nat}(f:Nat→Nat)(hE:∀i:Nat,i<N→Es L r.p r.q r.t r.v i=0∧N8 go d (f i) (Bw L r i)):∀(k i:Nat) (s:Ay),i+k≤N→(((List.range' i k).map f).sum:Int)≤s.left→s.left.toNat<d→Pt ((List.range' i k).map f).sum s (Ep L go r k i s)
 |0,i,s,_,_,_=>⟨rfl,by simp [Ep],by simp [Ep]⟩
 |k+1,i,s,h1,h2,h3=>by
  obtain⟨e1,e2⟩:=hE i (by omega);rw [List.range'_succ,List.map_cons,List.sum_cons] at h2⊢;have ht:=Ash L r i s;obtain⟨g1,g2,g3⟩:=e2 (Fh L r i s) (by rw [ht];omega) (by rw [ht];omega);rw [ht] at g2 g3;unfold Ep;rw [if_neg (by rw [e1];decide),if_neg (by rw [g1];decide)];obtain⟨k1,k2,k3⟩:=Ui f hE k (i+1) (go (Bw L r i) (Fh L r i s)).1 (by omega) (by omega) (by omega);exact⟨k1,by omega,by omega⟩
theorem N8.more{go:Rq→Ay→Ay×Int}{d n m:Nat}{r:Rq}(h:N8 go d n r)(hm:n≤m):N8 go d m r:=by
 intro s h1 h2;obtain⟨a,b,c⟩:=h s (by omega) h2;exact⟨a,by omega,c⟩
theorem Wt:∀(c:List Tr) (b:Nat) (g:Nat→Nat),(∀i x,c[i]?=some x→g (b+i)=x.cnt)→((List.range' b c.length).map g).sum=Tr.cntL c
 | [],_,_,_=>rfl
 |x::r,b,g,h=>by
  rw [Asw,List.range'_succ,List.map_cons,List.sum_cons,Tr.cntL,Wt r (b+1) g (fun i y hy=>by
   have:=h (i+1) y (by simpa using hy)
   rwa [show b+(i+1)=b+1+i by omega] at this)]
  have:=h 0 x rfl;rw [Nat.add_zero] at this;rw [this]
theorem Ab0:∀(n b:Nat),((List.range' b n).map fun _=>1).sum=n
 |0,_=>rfl
 |n+1,b=>by rw [List.range'_succ,List.map_cons,List.sum_cons,Ab0 n (b+1)];omega
theorem U1{t:Int}(hl:Bc t=true)(h:10≤B9 t):Hi [4,5,25] t=false∧¬(t=6∨t=7)∧(B9 t≤16→t≠9):=by
 have:=Gz hl;revert h;refine Kq (p:=fun t=>10≤B9 t→Hi [4,5,25] t=false∧¬(t=6∨t=7)∧(B9 t≤16→t≠9)) ?_ this;decide
theorem X8{t:Int}(hl:Bc t=true)(h:B9 t=8∨B9 t=9):Hi [4,5,25] t=false∧(t=6∨t=7):=by
 have:=Gz hl;revert h;refine Kq (p:=fun t=>B9 t=8∨B9 t=9→Hi [4,5,25] t=false∧(t=6∨t=7)) ?_ this;decide
theorem Asc(L:List UInt8)(r:Rq)(s:Ay):(Js L r s).left=s.left:=by unfold Js;split;rw [Fm];rfl
theorem Qr{L:List UInt8}{go:Rq→Ay→Ay×Int}{r:Rq}{d n:Nat}(hl:Bs L r.p r.q r.t r.v=0)(f:Nat→Nat)(hE:∀i:Nat,i<lsLen L r.p r.q r.t r.v→Es L r.p r.q r.t r.v i=0∧N8 go d (f i) (Bw L r i))
  (hh:∀s:Ay,(n:Int)≤s.left→s.left.toNat<d→Pt n s (Fk L go r s)):∀s:Ay,((n+((List.range' 0 (lsLen L r.p r.q r.t r.v)).map f).sum:Nat):Int)≤s.left→s.left.toNat<d→Pt (n+((List.range' 0 (lsLen L r.p r.q r.t r.v)).map f).sum) s (Fx L go r s):=by
 intro s h1 h2;obtain⟨g1,g2,g3⟩:=hh s (by omega) h2;unfold Fx;rw [if_neg (by rw [hl];decide),if_neg (by rw [g1];decide)];have e:=Asc L r (Fk L go r s).1;obtain⟨k1,k2,k3⟩:=Ui f hE (lsLen L r.p r.q r.t r.v) 0 (Js L r (Fk L go r s).1) (by omega) (by rw [e];omega) (by rw [e];omega);rw [e] at k2 k3;exact⟨k1,by omega,by omega⟩
theorem Ah4{L:List UInt8}{P:Int→Int→Int→Int→Prop}{p q t v:Int}{T:Tr}(h:Hp L P p q t v T):∀d,N8 (Bz L d) d T.cnt ⟨p,q,t,v⟩:=by
 induction h with
 | @inl p q t v k n u s ks c hm hi hk h4 hv=>
  intro d st h1 h2;have hc:1≤Tr.cnt (.mk k n u s ks c):=by rw [Tr.cnt];split <;>omega
  cases d with
  |zero=>omega
  |succ d=>
   unfold Bz;rw [if_neg (by omega),if_pos hi];exact⟨rfl,by show _≤(Cz _ st).left;rw [Q5];omega,by show(Cz _ st).left≤_;rw [Q5];omega⟩
 | @txt p q t v k s a n u ks c hr hP=>
  intro d;have hc:1≤Tr.cnt (.mk k n u s ks c):=by rw [Tr.cnt];split <;>omega
  cases d with
  |zero=>intro st h1 h2;omega
  |succ d=>exact(Zo hr d).more hc
 | @num p q t v k n u s ks c hm hi hk h8 htg hv hP=>
  intro d;have hc:1≤Tr.cnt (.mk k n u s ks c):=by rw [Tr.cnt];split <;>omega
  cases d with
  |zero=>intro st h1 h2;omega
  |succ d=>
   have hl:=(Cc.1 (Df.1 hm).1).1;obtain⟨n1,n2⟩:=X8 hl (by rw [hk];exact h8);refine(K2 (n:=0) (r:=⟨p,q,t,v⟩) htg hi (fun st h1 h2=>?_)).more hc;unfold Eo En;rw [if_neg (by rw [n1];decide),if_pos n2,if_pos hv.plc];exact⟨rfl,by show _≤(Ay.tell _ _ _ _).left;rw [Fm];omega,by show(Ay.tell _ _ _ _).left≤_;rw [Fm];omega⟩
 | @list p q t v k c n u s ks hm hi hk h10 htg hl hP ha he ih=>
  intro d;cases d with
  |zero=>
   intro st h1 h2;omega
  |succ d=>
   have hlg:=(Cc.1 (Df.1 hm).1).1;obtain⟨n1,n2,n3⟩:=U1 hlg (by rw [hk];exact h10.1);have hc:Tr.cnt (.mk k n u s ks c)=Tr.cntL c+1:=by rw [Tr.cnt,if_neg (by omega)];omega
   rw [hc];refine K2 (n:=Tr.cntL c) (r:=⟨p,q,t,v⟩) htg hi (fun st h1 h2=>?_);unfold Eo;rw [if_neg (by rw [n1];decide),if_neg n2];have hs:((List.range' 0 (lsLen L p q t v)).map fun i=>((c[i]?).map Tr.cnt).getD 0).sum=Tr.cntL c:=by
    rw [hl.2];exact Wt c 0 _ (fun i x hx=>by rw [Nat.zero_add,hx];rfl)
   have:=Qr (go:=Bz L d) (d:=d) (n:=0) (r:=⟨p,q,t,v⟩) hl.1 (fun i=>((c[i]?).map Tr.cnt).getD 0) (fun i hi=>by
    have hi:i<c.length:=by rw [←hl.2];exact hi
    have hx:c[i]?=some c[i]:=Asq hi;refine⟨ha i hi,?_⟩;rw [hx];exact ih i c[i] hx d) (fun st _ _=>by
    unfold Fk;rw [if_neg (n3 (by rw [hk];exact h10.2))];exact⟨rfl,(by omega:st.left-((0:Nat):Int)≤st.left),Int.le_refl _⟩) st
   rw [Nat.zero_add] at this;have hs':((List.range' 0 (lsLen L (Rq.mk p q t v).p (Rq.mk p q t v).q (Rq.mk p q t v).t (Rq.mk p q t v).v)).map fun i=>((c[i]?).map Tr.cnt).getD 0).sum=Tr.cntL c:=hs;rw [hs'] at this;exact this h1 h2
 | @map p q v c ks n u s hm htg hl hks hy ho hkl hP hke ha he ih=>
  intro d;cases d with
  |zero=>
   intro st h1 h2;omega
  |succ d=>
   have hc:Tr.cnt (.mk 17 n u s ks c)=(1+ks.length+Tr.cntL c)+1:=by rw [Tr.cnt,if_pos rfl];omega
   rw [hc];refine K2 (n:=1+ks.length+Tr.cntL c) (r:=⟨p,q,9,v⟩) htg (by decide:Aw 9=false) (fun st h1 h2=>?_);unfold Eo;rw [if_neg (by decide:¬Hi [4,5,25] 9=true),if_neg (by decide:¬((9:Int)=6∨(9:Int)=7))];have hs:((List.range' 0 (lsLen L p q 9 v)).map fun i=>((c[i]?).map Tr.cnt).getD 0).sum=Tr.cntL c:=by
    rw [hl.2];exact Wt c 0 _ (fun i x hx=>by rw [Nat.zero_add,hx];rfl)
   have hkey:N8 (Bz L d) d (ks.length+1) (Cl L ⟨p,q,9,v⟩):=by
    cases d with
    |zero=>intro st h1 h2;omega
    |succ d=>
     have er:Cl L ⟨p,q,9,v⟩=⟨Et L p q 9 v,Eu L p q 9 v,14,Ev L p q 9 v⟩:=by unfold Cl;rw [hkl.1]
     rw [er];refine K2 (n:=ks.length) (r:=⟨Et L p q 9 v,Eu L p q 9 v,14,Ev L p q 9 v⟩) hkl.2.1 (by decide:Aw 14=false) (fun st h1 h2=>?_);unfold Eo;rw [if_neg (by decide:¬Hi [4,5,25] 14=true),if_neg (by decide:¬((14:Int)=6∨(14:Int)=7))];have hkn:lsLen L (Et L p q 9 v) (Eu L p q 9 v) 14 (Ev L p q 9 v)=ks.length:=by rw [hkl.2.2.2,hks]
     have:=Qr (go:=Bz L d) (d:=d) (n:=0) (r:=⟨Et L p q 9 v,Eu L p q 9 v,14,Ev L p q 9 v⟩) hkl.2.2.1 (fun _=>1) (fun i hi=>by
      have hi:i<ks.length:=by rw [←hkn];exact hi
      obtain⟨k1,a,k2,_⟩:=hke i ks[i] (Asq hi);refine⟨k1,?_⟩;cases d with
      |zero=>intro st h1 h2;omega
      |succ d=>exact Zo k2 d) (fun st _ _=>by
      unfold Fk;rw [if_neg (by decide:¬(14:Int)=9)];exact⟨rfl,(by omega:st.left-((0:Nat):Int)≤st.left),Int.le_refl _⟩) st
     rw [Nat.zero_add,Ab0] at this;have hkn':lsLen L (Rq.mk (Et L p q 9 v) (Eu L p q 9 v) 14 (Ev L p q 9 v)).p (Rq.mk (Et L p q 9 v) (Eu L p q 9 v) 14 (Ev L p q 9 v)).q (Rq.mk (Et L p q 9 v) (Eu L p q 9 v) 14 (Ev L p q 9 v)).t (Rq.mk (Et L p q 9 v) (Eu L p q 9 v) 14 (Ev L p q 9 v)).v=ks.length:=hkn;rw [hkn'] at this;exact this h1 h2
   have:=Qr (go:=Bz L d) (d:=d) (n:=ks.length+1) (r:=⟨p,q,9,v⟩) hl.1 (fun i=>((c[i]?).map Tr.cnt).getD 0) (fun i hi=>by
    have hi:i<c.length:=by rw [←hl.2];exact hi
    have hx:c[i]?=some c[i]:=Asq hi;refine⟨ha i hi,?_⟩;rw [hx];exact ih i c[i] hx d) (fun st h1 h2=>by
    obtain⟨k1,k2,k3⟩:=hkey st h1 h2;unfold Fk Hr;rw [if_pos rfl,if_neg (by rw [hy];decide),if_neg (by rw [k1];decide)];exact⟨rfl,by show _≤(Ay.tell _ _ _ _).left;rw [Fm];exact k2,by show(Ay.tell _ _ _ _).left≤_;rw [Fm];exact k3⟩) st
   have hs':((List.range' 0 (lsLen L (Rq.mk p q 9 v).p (Rq.mk p q 9 v).q (Rq.mk p q 9 v).t (Rq.mk p q 9 v).v)).map fun i=>((c[i]?).map Tr.cnt).getD 0).sum=Tr.cntL c:=hs;rw [hs'] at this;rw [show 1+ks.length+Tr.cntL c=ks.length+1+Tr.cntL c by omega] at h1⊢;exact this h1 h2
def N9(go:Rq→List P3→Option (Except Int (List P3)))(r:Rq):Prop:=∀had a,go r had≠some (.error a)
theorem Adr{L:List UInt8}{r:Rq}{go:Rq→List P3→Option (Except Int (List P3))}:∀(is:List Nat),(∀i∈is,N9 go (Bw L r i))→∀had a,Dz go L r is had≠some (.error a)
 | [],_,had,a=>by simp [Dz]
 |i::is,h,had,a=>by
  unfold Dz;have h1:=h i (by simp) had;cases e:go (Bw L r i) had with
  |none=>simp
  |some x=>
   cases x with
   |error b=>exact absurd e (h1 b)
   |ok h'=>exact Adr is (fun j hj=>h j (by simp [hj])) h' a
theorem Ape{L:List UInt8}{r:Rq}{go:Rq→List P3→Option (Except Int (List P3))}(hk:r.t=9→N9 go (Cl L r))(h:∀i<lsLen L r.p r.q r.t r.v,N9 go (Bw L r i))(had:List P3)(a:Int):Ml go L r had≠some (.error a):=by
 have he:=Adr (L:=L) (r:=r) (go:=go) (List.range (lsLen L r.p r.q r.t r.v)) (fun i hi=>h i (List.mem_range.1 hi));unfold Ml;split
 ·rename_i h9;cases e:go (Cl L r) had with
  |none=>simp
  |some x=>
   cases x with
   |error b=>exact absurd e (hk h9 had b)
   |ok h'=>exact he h' a
 ·exact he had a
theorem N7{L:List UInt8}{r:Rq}{d:Nat}(hP:Ae6 L r.p r.q r.t r.v)(h:r.t≠4→(r.t=9→N9 (Ei L d) (Cl L r))∧∀i<lsLen L r.p r.q r.t r.v,N9 (Ei L d) (Bw L r i)):N9 (Ei L (d+1)) r:=by
 intro had a;unfold Ei;split
 ·simp
 ·split
  ·simp
  ·rename_i h4;have h4:r.t≠4:=fun e=>h4 (.inr e)
   split
   ·rename_i hw;have:=hP hw.1 h4;rw [this] at hw;exact absurd hw.2 (by decide)
   ·exact Ape (h h4).1 (h h4).2 _ a
theorem Xw{L:List UInt8}{p q t v:Int}(h:K4 t=false):lsLen L p q t v=0:=by
 unfold lsLen;split
 ·rename_i h0;exfalso;unfold Bs at h0;split at h0
  ·rename_i h1;exact h1 h0
  ·cases h0
 ·rfl
theorem Jf(L:List UInt8)(r:Rq):N9 (Ei L 0) r:=fun _ _=>by simp [Ei]
theorem Aet{L:List UInt8}{p q t v k:Int}{s:List UInt8}{a:Nat}(hr:Sq L p q t v k s a)(hP:Ae6 L p q t v):∀d,N9 (Ei L d) ⟨p,q,t,v⟩
 |0=>Jf _ _
 |d+1=>by
  have ht:t=4∨t=5∨t=25:=by rcases hr.ty with⟨_,h⟩|⟨_,h⟩|⟨_,h⟩ <;>omega
  refine N7 (r:=⟨p,q,t,v⟩) hP (fun h4=>⟨fun e=>?_,fun i hi=>?_⟩)
  ·have e:t=9:=e;omega
  ·have hz:=Xw (L:=L) (p:=p) (q:=q) (v:=v) (show K4 t=false by rcases ht with rfl|rfl|rfl <;>decide);have hi:i<lsLen L p q t v:=hi;omega
theorem Ark{L:List UInt8}{p q t v:Int}{T:Tr}(h:Hp L (Ae6 L) p q t v T):∀d,N9 (Ei L d) ⟨p,q,t,v⟩:=by
 induction h with
 | @inl p q t v k n u s ks c hm hi hk h4 hv=>
  intro d;cases d with
  |zero=>exact Jf _ _
  |succ d=>
   intro had a;unfold Ei;rw [if_pos hi];simp
 | @txt p q t v k s a n u ks c hr hP=>exact Aet hr hP
 | @num p q t v k n u s ks c hm hi hk h8 htg hv hP=>
  intro d;cases d with
  |zero=>exact Jf _ _
  |succ d=>
   have hl:=(Cc.1 (Df.1 hm).1).1;obtain⟨_,n2⟩:=X8 hl (by rw [hk];exact h8);refine N7 (r:=⟨p,q,t,v⟩) hP (fun _=>⟨fun e=>?_,fun i hi=>?_⟩)
   ·have e:t=9:=e;omega
   ·have hz:=Xw (L:=L) (p:=p) (q:=q) (v:=v) (show K4 t=false by rcases n2 with rfl|rfl <;>decide);have hi:i<lsLen L p q t v:=hi;omega
 | @list p q t v k c n u s ks hm hi hk h10 htg hl hP ha he ih=>
  intro d;cases d with
  |zero=>exact Jf _ _
  |succ d=>
   have hlg:=(Cc.1 (Df.1 hm).1).1;obtain⟨_,_,n3⟩:=U1 hlg (by rw [hk];exact h10.1);refine N7 (r:=⟨p,q,t,v⟩) hP (fun _=>⟨fun e=>absurd e (n3 (by rw [hk];exact h10.2)),fun i hi=>?_⟩);have hi:i<c.length:=by rw [←hl.2];exact hi
   exact ih i c[i] (Asq hi) d
 | @map p q v c ks n u s hm htg hl hks hy ho hkl hP hke ha he ih=>
  intro d;cases d with
  |zero=>exact Jf _ _
  |succ d=>
   refine N7 (r:=⟨p,q,9,v⟩) hP.1 (fun _=>⟨fun _=>?_,fun i hi=>?_⟩)
   ·have er:Cl L ⟨p,q,9,v⟩=⟨Et L p q 9 v,Eu L p q 9 v,14,Ev L p q 9 v⟩:=by unfold Cl;rw [hkl.1]
    rw [er];cases d with
    |zero=>exact Jf _ _
    |succ d=>
     refine N7 (r:=⟨Et L p q 9 v,Eu L p q 9 v,14,Ev L p q 9 v⟩) hP.2 (fun _=>⟨fun e=>absurd e (show ¬(14:Int)=9 by decide),fun i hi=>?_⟩);have hi:i<ks.length:=by rw [hks,←hkl.2.2.2];exact hi
     obtain⟨_,a,k2,k3⟩:=hke i ks[i] (Asq hi);exact Aet k2 k3 d
   ·have hi:i<c.length:=by rw [←hl.2];exact hi
    exact ih i c[i] (Asq hi) d
theorem Acs{T:Tr}(hv:Gw T)(hN:F8 T){b:List UInt8}{v:Bv}{w:Nat}{fuel:Int}(hr:D8 b v (Bf T))(hw:Av (w:Int)=true)(hb:b.length≤65000)(hf:Cb v b.length 0 w=true)(hle:w=leastW (Cb v b.length 0))(hc:((Bf T).cnt:Int)≤fuel):
  Da (Di b v w) fuel=(0,0):=by
 have hlm:(Di b v w).length<2^32:=by
  have h1:=Ss [] b v w;have h2:=Jm b (B5.2 (B5.1 hw));have h3:w≤8:=by rcases B5.1 hw with h|h|h|h <;>omega
  simp only [List.nil_append,List.length_nil] at h1;omega
 have hok:=Aef hv hN;have hleg:=hr.legal hok.fix;have hsn:=Ali hv hN hr hw hb hf (Aju hlm);obtain⟨r1,r2⟩:=Amw (x:=[]) (b:=b) (v:=v) (w:=w) rfl hw hleg.1 hleg.2.1;simp only [List.nil_append,List.length_nil,Nat.zero_add] at r1 r2;have hroot:Ch (Di b v w)=⟨((An w b).length:Int),(w:Int),(v.t:Int),(ownW w v:Int)⟩:=by
  unfold Ch;rw [r2]
 have hcv:Eh (Di b v w) fuel=0:=by
  have hleft:(Hs (Di b v w) fuel).left=fuel:=by unfold Hs;rw [Fm,Fm]
  have:=Ah4 hsn (fuel.toNat+1) (Hs (Di b v w) fuel) (by rw [hleft];exact hc) (by rw [hleft];omega);unfold Eh;rw [if_neg (by rw [r1];decide)];unfold Ri;rw [hroot];exact this.1
 unfold Da;rw [if_neg (by rw [hcv];decide)];have hns:¬(1<(Ch (Di b v w)).q∧C0 (Di b v w) (Ch (Di b v w)).p (Ch (Di b v w)).q (Ch (Di b v w)).t (Ch (Di b v w)).v (Ch (Di b v w)).p ((Ch (Di b v w)).q/2)=true):=by
  rw [hroot];rintro⟨h1,h2⟩;have h1:(1:Int)<(w:Int):=h1;have h2:C0 (Di b v w) ((An w b).length:Int) (w:Int) (v.t:Int) (ownW w v:Int) ((An w b).length:Int) ((w:Int)/2)=true:=h2;rw [S2] at h2;have hs:=Z1 hw (by omega) hf;have how:Av (ownW w v:Int)=true:=by unfold ownW;split;exact hw;exact hleg.2.1
  obtain⟨a1,_,_⟩:=Fc hw b;have:=Nn (i:=0) hs (Aeg hr hok) hleg.1 how rfl hr.fit (by omega) (by rw [a1,Nat.zero_mul,Nat.add_zero];exact Wz hw _ (by omega)) h2;rw [Uv hw hle.symm (by omega)] at this;cases this
 rw [if_neg hns];have hrun:=Aba (l:=Di b v w) (X4 r1).1;cases e:O4 (Di b v w) (Ch (Di b v w)) with
 |ok x=>rfl
 |error a=>
  rw [e,hroot] at hrun;exact absurd hrun (Ark hsn _ [] a)
theorem Ah2{a b:List Tr}(h:a.Perm b):Tr.cntL a=Tr.cntL b:=by
 induction h with
 |nil=>rfl
 |cons x _ ih=>rw [Tr.cntL,Tr.cntL,ih]
 |swap x y l=>rw [Tr.cntL,Tr.cntL,Tr.cntL,Tr.cntL];omega
 |trans _ _ h1 h2=>exact h1.trans h2
mutual
theorem Zm:∀(t:Tr),Gw t→(Bf t).cnt=t.cnt
 | .mk k n u s ks l,h=>by
  cases h with
  |mk h1 h2 h3 h4 hl=>
   have ih:=Xn l hl;simp only [Fi,Bool.and_eq_true,decide_eq_true_eq] at h1;obtain⟨⟨⟨_,glen⟩,_⟩,_⟩:=h1;rw [Bf];by_cases hk:k=17
   ·rw [if_pos hk];have glen:ks.length=l.length:=glen hk;have hll:(C3 l).length=l.length:=by rw [Cx,List.length_map]
    have hp:=Fl (ks.zip (C3 l));have e1:=(hp.map (·.1)).length_eq;have e2:=Ah2 (hp.map (·.2));rw [List.map_fst_zip (by omega)] at e1;rw [List.map_snd_zip (by omega)] at e2;rw [Tr.cnt,Tr.cnt,e1,e2,ih]
   ·rw [if_neg hk,Tr.cnt,Tr.cnt,ih]
theorem Xn:∀(l:List Tr),(∀t∈l,Gw t)→Tr.cntL (C3 l)=Tr.cntL l
 | [],_=>rfl
 |t::r,h=>by
  rw [C3,Tr.cntL,Tr.cntL,Zm t (h t (by simp)),Xn r (fun x hx=>h x (by simp [hx]))]
end
mutual
theorem Ado:∀(t:Tr) (d:Nat),Gw t→t.cnt+1≤3*(Tr.pre d t).length
 | .mk k n u s ks l,d,h=>by
  cases h with
  |mk h1 h2 h3 h4 hl=>
   have ih:=Zl l (d+1) hl;simp only [Fi,Bool.and_eq_true,decide_eq_true_eq] at h1;obtain⟨⟨⟨_,glen⟩,_⟩,_⟩:=h1;have glen:k=17→ks.length=l.length:=glen;rw [Tr.pre,Tr.cnt,Asw];split
   ·rename_i hk;have:=glen hk;omega
   ·omega
theorem Zl:∀(l:List Tr) (d:Nat),(∀t∈l,Gw t)→Tr.cntL l+l.length≤3*(Tr.pre.Tr.preL d l).length
 | [],_,_=>by simp [Tr.cntL]
 |t::r,d,h=>by
  have h1:=Ado t d (h t (by simp));have h2:=Zl r d (fun x hx=>h x (by simp [hx]));simp only [Tr.cntL,Tr.pre.Tr.preL,List.length_append,Asw];omega
end
end Go.Proofs.YtgbjodnegkbfoaaGreat
