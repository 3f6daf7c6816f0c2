/- Parts of the proof. -/
import Derived.Test.YtgbjodnegkbfoaaGreatQm10
set_option maxHeartbeats 4000000
set_option maxRecDepth 100000
open Go.Value renaming int→Aa
open Go.IntKind renaming i64→Ab,u64→Ac
open Nat renaming le_refl→Asp,le_succ→Asr
open List renaming getElem?_eq_getElem→Asq,length_append→Ass,length_cons→Asw,take_of_length_le→Asy
open Int renaming toNat_natCast→Asv
namespace Go.Proofs.YtgbjodnegkbfoaaGreat
open Go.RowKit Go.Acc
def Hi(ts:List Nat)(t:Int):Bool:=ts.contains t.toNat
def Dj(l:List UInt8)(p q t v:Int)(ts:List Nat):Int:=
 if Bj l.length p q t v≠0 then Bj l.length p q t v
 else if Hi ts t=false then 60
 else if Bh l p q t v≠0 then Bh l p q t v
 else if t=4 then Jy l (Bb l p q t v).toNat
 else Ff l (Bb l p q t v).toNat v.toNat (if t=5 then 1 else 0)
def Dr(l:List UInt8)(p q t v:Int)(ts:List Nat):Int:=if Dj l p q t v ts=0 then Bb l p q t v else 0
def Ea(l:List UInt8)(p q t v:Int)(ts:List Nat):List UInt8:=
 if Dj l p q t v ts=0 then(if t=4 then Mh l (Bb l p q t v).toNat else cntL l (Bb l p q t v).toNat v.toNat) else []
theorem Als{ts:List Nat}{t:Int}(hts:∀x∈ts,x<256)(h0:0≤t)(h1:t<37):(ts.map UInt8.ofNat).contains (UInt8.ofNat t.toNat)=Hi ts t:=by
 unfold Hi
 induction ts with
 |nil=>simp
 |cons x ts ih=>
  rw [List.map_cons,List.contains_cons,List.contains_cons,ih (fun y hy=>hts y (List.mem_cons_of_mem _ hy))]
  congr 1
  have hx:=hts x (List.mem_cons_self ..);rw [Bool.eq_iff_iff];simp only [beq_iff_eq];constructor
  ·intro e;have:=congrArg UInt8.toNat e;rw [UInt8.toNat_ofNat',UInt8.toNat_ofNat'] at this;omega
  ·intro e;rw [e]
theorem R1{l:List UInt8}{p q t v:Int}(h:Bh l p q t v=0):0≤Bb l p q t v∧Bb l p q t v≤l.length:=by
 have hm:Bj l.length p q t v=0:=by
  by_cases e:Bj l.length p q t v=0
  ·exact e
  ·rw [Ms e] at h;exact absurd h e
 obtain⟨_,h2⟩:=Df.1 hm;obtain⟨h1,_⟩:=Df.1 hm;have h2:=De.1 h2;have h1:=Cc.1 h1;have hq:=By.1 h1.2.1;unfold Bh at h;rw [if_pos hm] at h;unfold Bb;have h':Bh l p q t v=0:=by unfold Bh;rw [if_pos hm];exact h
 rw [if_pos h'];split at h
 ·cases h
 ·split at h
  ·cases h
  ·omega
theorem S0{w w':World}{A:Option Addr}{n:Nat}{l:List UInt8}{p q t v er:Int}{ts:List Nat}(h:Dj l p q t v ts=er)(hne:er≠0)(hb:Below w.heap.size w w'):Pu w A n l (Dr l p q t v ts) (Ea l p q t v ts) (Dj l p q t v ts) (.returned (.tuple #[.agg #[Aa Ab 0,.slice none 0 0],Aa Ab er])) w':=by
 unfold Dr Ea;rw [h,if_neg hne,if_neg hne];exact⟨none,0,0,rfl,fun _ _=>Is.nil _ _,Asp _,hb⟩
theorem Po(A:Option Addr)(n c a V K:Nat)(v k:Int)(l:List UInt8)(w:World)(h:Cd w A n l)(hc:n≤c)(ha:a≤n)(hn:n≤1099511627776)(hv:Av (V:Int)=true)(hk:K≤1)(hv2:v=V)(hk2:k=K):
  Calls Tryz.prog 347 #[.slice A n c,Aa Ab a,Aa Ab v,Aa Ab k] w (Pu w A n l (if Ff l a V K=0 then a else 0) (if Ff l a V K=0 then cntL l a V else []) (Ff l a V K)):=by
 subst hv2 hk2;exact Zu A n c a V K l w h hc ha hn hv hk
theorem Aih(A:Option Addr)(n c:Nat)(p q t v:Int)(T:Option Addr)(m d:Nat)(ts:List Nat)(l:List UInt8)(w:World)(h:Cd w A n l)(hT:Is tc w T m ts)(hc:n≤c)(hn:n≤1099511627776)(hm:0<m∧m≤100)(hts:∀x∈ts,x<256):
  Calls Tryz.prog 281 #[.slice A n c,.agg #[Aa Ab p,Aa Ab q,Aa Ab t,Aa Ab v],.slice T m d] w (Pu w A n l (Dr l p q t v ts) (Ea l p q t v ts) (Dj l p q t v ts)):=by
 have hlen:=h.1;subst hlen;have HL:=Hd ((h.alloc (.cells #[Aa Ab p,Aa Ab q,Aa Ab t,Aa Ab v] 75)).alloc (.cells #[Aa Ab 0,.slice none 0 0] 320));have HTY:=Hd ((hT.alloc (.cells #[Aa Ab p,Aa Ab q,Aa Ab t,Aa Ab v] 75)).alloc (.cells #[Aa Ab 0,.slice none 0 0] 320));have HK:=Hd ((Ag.new w 75 #[Aa Ab p,Aa Ab q,Aa Ab t,Aa Ab v]).alloc (.cells #[Aa Ab 0,.slice none 0 0] 320));have HR:=Hd (Ag.new_ (w:=w.alloc (.cells #[Aa Ab p,Aa Ab q,Aa Ab t,Aa Ab v] 75)) (g:=w.heap.size+1) (by simp) 320 #[Aa Ab 0,.slice none 0 0]);have HB:=Hd (((Below.refl w.heap.size w).alloc (Asp _) (.cells #[Aa Ab p,Aa Ab q,Aa Ab t,Aa Ab v] 75)).alloc (by simp) (.cells #[Aa Ab 0,.slice none 0 0] 320));have HTS:=Hd hts;have hn63:l.length≤9223372036854775807:=by omega
 have hm1:=hm.1;have hm2:=hm.2;have HL0:=Hd h;clear h hT hts hm;go_enter Tryz.func281,Tryz.ntmps281;go_wp2_with fail;go_at_call 123;refine(Mk A _ c p q t v _ hn63).mono ?_;rintro e w1 ⟨rfl,hb⟩;by_cases hmay:Bj l.length p q t v=0
 ·rw [hmay];have HB:=Hd (Ad HB.o hb);have HK:=Hd (HK.o.pure hb);have HL:=Hd (HL.o.pure hb);have HTY:=Hd (HTY.o.pure hb);have HR:=Hd (HR.o.pure hb);have c0:=Al HK.o;have c1:=Ak HK.o;have c2:=Aj HK.o;have c3:=Am HK.o;have f0:=HR.o.frozen 0;have f1:=HR.o.frozen 1;obtain ⟨d0,d1⟩:=HR.o.c2;clear hb;have ht37:=Fs.1 (Gz (Cc.1 (Df.1 hmay).1).1);have ht0:=ht37.1;have ht1:=ht37.2;have HIN:=Hd ((Aof (ts.map UInt8.ofNat) (UInt8.ofNat t.toNat)).trans (by rw [Als HTS.o ht0 ht1]));have hwt:IntKind.u8.wrap t=((UInt8.ofNat t.toNat).toNat:Int):=by
   rw [IntKind.wrap_u8,UInt8.toNat_ofNat'];omega
  have HWT:=Hd hwt;clear ht37 hwt;go_wp2_with fail;have HTYD:Hid (Is tc w1.drew T m ts):=Hd (show Is tc w1 T m ts from HTY.o);go_region_held3 (fun w'=>w'.cell? ⟨w.heap.size,2,none⟩=some (Aa Ab t)) (first|assumption|exact Ae HB5.o c2)
   (first
   |(go_at_call 345;refine(Ak0 T m d ts _ HTYD.o hm2 HTS.o).mono ?_;rintro e w5 ⟨AX,nX,cX,rfl,hOX,hb5⟩;have HOX:=Hd hOX;have HB5:=Hd hb5;clear hOX hb5)
   |(go_at_call 344;refine(Ahn AX nX cX _ (UInt8.ofNat t.toNat) _ _ HOX.o.is (by have h1:=HOX.o.1;have h2:=HTYD.o.1;rw [List.length_map] at h1;omega) HWT.o).mono ?_;rintro e w6 ⟨rfl,rfl⟩))
  have hb:=Ad (Below.refl w1.heap.size w1).drew HB5.o;rw [HIN.o];clear c0 c1 c2 c3 f0 f1 d0 d1;have HB:=Hd (Ad HB.o hb);have HK:=Hd (HK.o.pure hb);have HL:=Hd (HL.o.pure hb);have HTY:=Hd (HTY.o.pure hb);have HR:=Hd (HR.o.pure hb);have c0:=Al HK.o;have c1:=Ak HK.o;have c2:=Aj HK.o;have c3:=Am HK.o;have f0:=HR.o.frozen 0;have f1:=HR.o.frozen 1;obtain ⟨d0,d1⟩:=HR.o.c2;clear hb;clear HOX HB5 HTYD HWT HIN;cases hin:Hi ts t with
  |false=>
   have HE:=Hd (show Dj l p q t v ts=60 by unfold Dj;rw [if_neg (by simpa using hmay),if_pos hin]);clear hin hmay;go_wp2;refine bodyPost_ret (v:= .tuple #[.agg #[Aa Ab 0,.slice none 0 0],Aa Ab (60)]) (by simp [results,Tryz.results281,go_sem,d0,d1]) rfl ?_;exact S0 HE.o (by decide) ((HB.o.setCell (Asr _) _).setCell (Asr _) _)
  |true=>
   have HE0:=Hd (show Dj l p q t v ts=if Bh l p q t v≠0 then Bh l p q t v else if t=4 then Jy l (Bb l p q t v).toNat else Ff l (Bb l p q t v).toNat v.toNat (if t=5 then 1 else 0) by unfold Dj;rw [if_neg (by simpa using hmay),if_neg (by simp [hin])]);clear hin;have hv8:=(Cc.1 (Df.1 hmay).1).2.2;obtain⟨V,hV⟩:∃V:Nat,v=V:=⟨v.toNat,by have:=By.1 hv8;omega⟩;have HV:=Hd (show Av (V:Int)=true by rw [←hV];exact hv8);have HVE:=Hd hV;have hvn:v.toNat=V:=by omega
   rw [hvn] at HE0;clear hmay hv8 hV;go_wp2_with fail;go_at_call 91;refine(Fp A _ c p q t v l _ HL.o hc hn63).mono ?_;rintro e w2 ⟨rfl,hb⟩;clear c0 c1 c2 c3 f0 f1 d0 d1;have HB:=Hd (Ad HB.o hb);have HK:=Hd (HK.o.pure hb);have HL:=Hd (HL.o.pure hb);have HTY:=Hd (HTY.o.pure hb);have HR:=Hd (HR.o.pure hb);have c0:=Al HK.o;have c1:=Ak HK.o;have c2:=Aj HK.o;have c3:=Am HK.o;have f0:=HR.o.frozen 0;have f1:=HR.o.frozen 1;obtain ⟨d0,d1⟩:=HR.o.c2;clear hb;by_cases hte:Bh l p q t v=0
   ·rw [hte];have HE1:=Hd (show Dj l p q t v ts=if t=4 then Jy l (Bb l p q t v).toNat else Ff l (Bb l p q t v).toNat V (if t=5 then 1 else 0) by rw [HE0.o,if_neg (by simpa using hte)]);have hr:=R1 hte;have HG:=Hd (show ∀er:Int,Dj l p q t v ts=er→Dr l p q t v ts=(if er=0 then Bb l p q t v else 0)∧Ea l p q t v ts=(if er=0 then(if t=4 then Mh l (Bb l p q t v).toNat else cntL l (Bb l p q t v).toNat V) else []) from fun er h=>⟨by unfold Dr;rw [h],by unfold Ea;rw [h,hvn]⟩);obtain⟨a,ha⟩:∃a:Nat,Bb l p q t v=a:=⟨(Bb l p q t v).toNat,by omega⟩;rw [ha] at HG HE1 hr⊢;have hal:a≤l.length:=by omega
    clear hte hr HE0 ha;by_cases h4:t=4
    ·have HE2:=Hd (HE1.o.trans (if_pos h4));have e4:(t==4)=true:=beq_iff_eq.2 h4;have H4:=Hd h4;clear h4;go_wp2_with fail;obtain⟨ka,hka⟩:∃x,(if Jy l a=0 then(a:Int) else 0)=x:=⟨_,rfl⟩;obtain⟨kl,hkl⟩:∃x,(if Jy l a=0 then Mh l a else [])=x:=⟨_,rfl⟩;obtain⟨ke,hke⟩:∃x,Jy l a=x:=⟨_,rfl⟩;have HP:=Hd (show Dr l p q t v ts=ka∧Ea l p q t v ts=kl∧Dj l p q t v ts=ke from by
      have hg:=HG.o _ HE2.o;rw [Asv,if_pos H4.o] at hg;exact⟨hg.1.trans hka,hg.2.trans hkl,HE2.o.trans hke⟩)
     go_at_call 346;refine(Alw A _ c a l _ HL.o hc hal hn63).mono ?_;rw [hka,hkl,hke];clear hka hkl hke;rintro e w3 ⟨AY,nY,cY,rfl,hY,hcY,hb⟩;clear c0 c1 c2 c3 f0 f1 d0 d1;have HB:=Hd (Ad HB.o hb);have HK:=Hd (HK.o.pure hb);have HL:=Hd (HL.o.pure hb);have HTY:=Hd (HTY.o.pure hb);have HR:=Hd (HR.o.pure hb);have c0:=Al HK.o;have c1:=Ak HK.o;have c2:=Aj HK.o;have c3:=Am HK.o;have f0:=HR.o.frozen 0;have f1:=HR.o.frozen 1;obtain ⟨d0,d1⟩:=HR.o.c2;clear hb;have HY:=Hd hY;clear hY;go_wp2;refine bodyPost_ret (v:= .tuple #[.agg #[Aa Ab ka,.slice AY nY cY],Aa Ab ke]) (by simp [results,Tryz.results281,go_sem,d0,d1]) rfl ?_;rw [HP.o.1,HP.o.2.1,HP.o.2.2];exact⟨AY,nY,cY,rfl,HY.o,hcY,(HB.o.setCell (Asr _) _).setCell (Asr _) _⟩
    ·have e4:(t==4)=false:=beq_eq_false_iff_ne.2 h4;by_cases h5:t=5
     ·have HE2:=Hd ((HE1.o.trans (if_neg h4)).trans (by rw [if_pos h5]));have e5:(t==5)=true:=beq_iff_eq.2 h5;have H4:=Hd h4;clear h4 h5;go_wp2_with fail;obtain⟨ka,hka⟩:∃x,(if Ff l a V 1=0 then(a:Int) else 0)=x:=⟨_,rfl⟩;obtain⟨kl,hkl⟩:∃x,(if Ff l a V 1=0 then cntL l a V else [])=x:=⟨_,rfl⟩;obtain⟨ke,hke⟩:∃x,Ff l a V 1=x:=⟨_,rfl⟩;have HP:=Hd (show Dr l p q t v ts=ka∧Ea l p q t v ts=kl∧Dj l p q t v ts=ke from by
       have hg:=HG.o _ HE2.o;rw [Asv,if_neg H4.o] at hg;rw [Asv] at HE2;exact⟨hg.1.trans hka,hg.2.trans hkl,HE2.o.trans hke⟩)
      go_at_call 347;refine(Po A _ c a V 1 v 1 l _ HL.o hc hal hn HV.o (by omega) HVE.o rfl).mono ?_;rw [hka,hkl,hke];clear hka hkl hke;rintro e w3 ⟨AY,nY,cY,rfl,hY,hcY,hb⟩;clear c0 c1 c2 c3 f0 f1 d0 d1;have HB:=Hd (Ad HB.o hb);have HK:=Hd (HK.o.pure hb);have HL:=Hd (HL.o.pure hb);have HTY:=Hd (HTY.o.pure hb);have HR:=Hd (HR.o.pure hb);have c0:=Al HK.o;have c1:=Ak HK.o;have c2:=Aj HK.o;have c3:=Am HK.o;have f0:=HR.o.frozen 0;have f1:=HR.o.frozen 1;obtain ⟨d0,d1⟩:=HR.o.c2;clear hb;have HY:=Hd hY;clear hY;go_wp2;refine bodyPost_ret (v:= .tuple #[.agg #[Aa Ab ka,.slice AY nY cY],Aa Ab ke]) (by simp [results,Tryz.results281,go_sem,d0,d1]) rfl ?_;rw [HP.o.1,HP.o.2.1,HP.o.2.2];exact⟨AY,nY,cY,rfl,HY.o,hcY,(HB.o.setCell (Asr _) _).setCell (Asr _) _⟩
     ·have HE2:=Hd ((HE1.o.trans (if_neg h4)).trans (by rw [if_neg h5]));have e5:(t==5)=false:=beq_eq_false_iff_ne.2 h5;have H4:=Hd h4;clear h4 h5;go_wp2_with fail;obtain⟨ka,hka⟩:∃x,(if Ff l a V 0=0 then(a:Int) else 0)=x:=⟨_,rfl⟩;obtain⟨kl,hkl⟩:∃x,(if Ff l a V 0=0 then cntL l a V else [])=x:=⟨_,rfl⟩;obtain⟨ke,hke⟩:∃x,Ff l a V 0=x:=⟨_,rfl⟩;have HP:=Hd (show Dr l p q t v ts=ka∧Ea l p q t v ts=kl∧Dj l p q t v ts=ke from by
       have hg:=HG.o _ HE2.o;rw [Asv,if_neg H4.o] at hg;rw [Asv] at HE2;exact⟨hg.1.trans hka,hg.2.trans hkl,HE2.o.trans hke⟩)
      go_at_call 347;refine(Po A _ c a V 0 v 0 l _ HL.o hc hal hn HV.o (by omega) HVE.o rfl).mono ?_;rw [hka,hkl,hke];clear hka hkl hke;rintro e w3 ⟨AY,nY,cY,rfl,hY,hcY,hb⟩;clear c0 c1 c2 c3 f0 f1 d0 d1;have HB:=Hd (Ad HB.o hb);have HK:=Hd (HK.o.pure hb);have HL:=Hd (HL.o.pure hb);have HTY:=Hd (HTY.o.pure hb);have HR:=Hd (HR.o.pure hb);have c0:=Al HK.o;have c1:=Ak HK.o;have c2:=Aj HK.o;have c3:=Am HK.o;have f0:=HR.o.frozen 0;have f1:=HR.o.frozen 1;obtain ⟨d0,d1⟩:=HR.o.c2;clear hb;have HY:=Hd hY;clear hY;go_wp2;refine bodyPost_ret (v:= .tuple #[.agg #[Aa Ab ka,.slice AY nY cY],Aa Ab ke]) (by simp [results,Tryz.results281,go_sem,d0,d1]) rfl ?_;rw [HP.o.1,HP.o.2.1,HP.o.2.2];exact⟨AY,nY,cY,rfl,HY.o,hcY,(HB.o.setCell (Asr _) _).setCell (Asr _) _⟩
   ·have HE:=Hd (show Dj l p q t v ts=Bh l p q t v by rw [HE0.o,if_pos hte]);have HNE:=Hd hte;have hne:(Bh l p q t v != 0)=true:=by simpa using hte
    clear hte;go_wp2;refine bodyPost_ret (v:= .tuple #[.agg #[Aa Ab 0,.slice none 0 0],Aa Ab ((Bh l p q t v))]) (by simp [results,Tryz.results281,go_sem,d0,d1]) rfl ?_;exact S0 HE.o HNE.o ((HB.o.setCell (Asr _) _).setCell (Asr _) _)
 ·have HE:=Hd (show Dj l p q t v ts=Bj l.length p q t v by unfold Dj;rw [if_pos hmay]);have HNE:=Hd hmay;have hne:(Bj l.length p q t v != 0)=true:=by simpa using hmay
  have HB:=Hd (Ad HB.o hb);have HK:=Hd (HK.o.pure hb);have HL:=Hd (HL.o.pure hb);have HTY:=Hd (HTY.o.pure hb);have HR:=Hd (HR.o.pure hb);have c0:=Al HK.o;have c1:=Ak HK.o;have c2:=Aj HK.o;have c3:=Am HK.o;have f0:=HR.o.frozen 0;have f1:=HR.o.frozen 1;obtain ⟨d0,d1⟩:=HR.o.c2;clear hb;clear hmay;go_wp2;refine bodyPost_ret (v:= .tuple #[.agg #[Aa Ab 0,.slice none 0 0],Aa Ab ((Bj l.length p q t v))]) (by simp [results,Tryz.results281,go_sem,d0,d1]) rfl ?_;exact S0 HE.o HNE.o ((HB.o.setCell (Asr _) _).setCell (Asr _) _)
theorem Asa{w:World}{g n:Nat}(ts:List Nat)(vs:Array Value)(hB:Ag w g 3 vs)(hn:ts.length=n)(h:vs.toList=ts.flatMap tc):Is tc w (some ⟨g,0,none⟩) n ts:=by
 refine⟨hn,fun j u hu=>⟨_,_,rfl,?_⟩⟩;rw [Nat.zero_add,hB.cell j];rw [←h] at hu;simpa using hu
theorem Agp(A:Option Addr)(n c:Nat)(p q t v:Int)(l:List UInt8)(w:World)(h:Cd w A n l)(hc:n≤c)(hn:n≤1099511627776):
  Calls Tryz.prog 187 #[.slice A n c,.agg #[Aa Ab p,Aa Ab q,Aa Ab t,Aa Ab v]] w fun e w'=>e= .returned (.tuple #[Aa Ab (Dr l p q t v [4,5,25]),Aa Ab ((Ea l p q t v [4,5,25]).length:Nat),Aa Ab (Dj l p q t v [4,5,25])])∧Below w.heap.size w w':=by
 have HL:=Hd ((h.alloc (.cells #[Aa Ab p,Aa Ab q,Aa Ab t,Aa Ab v] 75)).alloc (.cells #[Aa Ab 4,Aa Ab 5,Aa Ab 25] 3));have HT:=Hd (Asa (w:=(w.alloc (.cells #[Aa Ab p,Aa Ab q,Aa Ab t,Aa Ab v] 75)).alloc (.cells #[Aa Ab 4,Aa Ab 5,Aa Ab 25] 3)) (g:=w.heap.size+1) (n:=3) [4,5,25] _ (Ag.new_ (by simp) _ _) rfl rfl);have HB:=Hd (((Below.refl w.heap.size w).alloc (Asp _) (.cells #[Aa Ab p,Aa Ab q,Aa Ab t,Aa Ab v] 75)).alloc (by simp) (.cells #[Aa Ab 4,Aa Ab 5,Aa Ab 25] 3));have HL0:=Hd h;clear h;go_enter Tryz.func187,Tryz.ntmps187;go_wp2_with fail;go_at_call 281;refine(Aih A n c p q t v _ 3 3 [4,5,25] l _ HL.o HT.o hc hn (by decide) (by decide)).mono ?_;rintro e w1 ⟨AX,nX,cX,rfl,hX,hcX,hb⟩;have HB:=Hd (Ad HB.o hb);have HN:=Hd (hX w HL0.o).1;clear hX hb;go_wp2_with fail;go_quiet (fail);go_wp2;go_ret3;refine⟨?_,?_⟩
 ·rw [HN.o];rfl
 ·exact below_drewN (HB.o.alloc HB.o.size _) _
theorem Jm{w:Nat}(b:List UInt8)(hw:Av (w:Int)=true):(An w b).length≤b.length+8:=by
 simp only [An,Ass,List.length_replicate,Lc];rcases C1 hw with rfl|rfl|rfl|rfl <;>omega
theorem Aii{l:List UInt8}{v:Bv}(ht:Bc v.t=true)(hv:Av (v.w:Int)=true)(hf:Ej l.length v)(hl:l.length+20≤1048576):Ae4 l v (leastW (Cb v l.length 0)):=by
 obtain⟨hw,hfit⟩:=M1 (Cb v l.length 0) (Qe hf 0);have hw:=B5.2 hw;obtain⟨y,hy⟩:∃y,leastW (Cb v l.length 0)=y:=⟨_,rfl⟩;rw [hy] at hw hfit⊢;obtain⟨a1,a2,a3⟩:=Fc hw l;cases hi:inl v.t with
 |true=>
  have he:Ca y (An y l).length v=v.n % 2^(8*y):=by unfold Ca;rw [if_pos hi]
  exact⟨ht,hv,hy,hw,by rw [he];exact I3 _ _,by rw [he];exact Mj _ hw,(fun h=>absurd hi (by rw [h];decide)),hl⟩
 |false=>
  obtain⟨h1,h2⟩:=Ma hi hfit;have he:Ca y (An y l).length v=(An y l).length-v.n:=by unfold Ca;rw [if_neg (by rw [hi];decide)]
  have h8:=Jm l hw;rw [Nat.zero_mul,Nat.add_zero,←a1] at h2;have hlt:=El hw (by omega) h2;exact⟨ht,hv,hy,hw,by rw [he];exact decide_eq_true (.inr hlt),by rw [he];omega,fun _=>by omega,hl⟩
theorem Akt{L s:List UInt8}{a:Nat}(h:At L a (s++ [0]))(h0:(0:UInt8)∉s):zeroAt L a=a+s.length∧a+s.length<L.length:=by
 have hle:=h.le;rw [Ass,List.length_singleton] at hle;refine⟨?_,by omega⟩;obtain⟨p,q,rfl,rfl⟩:=h;unfold zeroAt;rw [show p++(s++ [0])++q=p++(s++([0]++q)) by simp only [List.append_assoc],List.drop_left,List.findIdx_append];have hn:s.findIdx (· ==0)=s.length:=by
  rw [List.findIdx_eq_length];intro c hc;cases hb:(c==0) with
  |false=>rfl
  |true=>exact absurd (by rw [beq_iff_eq] at hb;rw [←hb];exact hc) h0
 rw [hn,if_neg (Nat.lt_irrefl _)];simp [List.findIdx_cons]
theorem Aon{L s:List UInt8}{a:Nat}(h:At L a (s++ [0]))(h0:(0:UInt8)∉s):Jy L a=0∧Mh L a=s:=by
 obtain⟨h1,h2⟩:=Akt h h0;refine⟨Aan (by omega),?_⟩;unfold Mh;rw [h1,show a+s.length-a=s.length by omega];exact(h.left).take
theorem An9{L s z:List UInt8}{c w k:Nat}(hw:Av (w:Int)=true)(hc:c % w=0)(h:At L c (Ai w s.length++s++z))(hs:s.length<2^(8*w))(hz:z=List.replicate k 0):Ff L (c+w) w k=0∧cntL L (c+w) w=s:=by
 have h1:=h.left.left;have h2:=h.left.right;have h3:=h.right;rw [Au] at h2;rw [Ass,Au] at h3;have hl:loadU L (((c+w:Nat):Int)-(w:Int)) w=s.length:=by
  rw [show((c+w:Nat):Int)-(w:Int)=(c:Int) by omega,h1.load hw,F9,Nat.mod_eq_of_lt hs]
 have hle:=h3.le;have ht:=h3.take;have hzl:z.length=k:=by rw [hz];simp
 rw [hzl] at hle ht;have hm:(c+w) % w=0:=by rw [Nat.add_mod_right];exact hc
 refine⟨?_,?_⟩
 ·unfold Ff;rw [if_neg (by omega),if_neg (by omega),hl,if_neg (by omega),if_pos];rw [show c+w+s.length=c+(w+s.length) by omega,ht,hz]
 ·unfold cntL;rw [hl];exact h2.take
theorem Q0(w:World):
  Calls Tryz.prog 133 #[] w fun e w'=>∃b,e= .returned (.pointer (some ⟨b,0,none⟩))∧Ag w' b 265 #[.slice none 0 0,.slice none 0 0,.bool true]∧w.heap.size≤b∧Below w.heap.size w w':=by
 go_enter Tryz.func133,Tryz.ntmps133;go_wp2;go_ret;exact⟨_,rfl,Ag.new w _ _,Asp _,(Below.refl _ _).alloc (Asp _) _⟩
theorem Apk(w:World):
  Calls Tryz.prog 132 #[] w fun e w'=>∃b,e= .returned (.pointer (some ⟨b,0,none⟩))∧Ag w' b 261 #[.slice none 0 0,.bool true]∧w.heap.size≤b∧Below w.heap.size w w':=by
 go_enter Tryz.func132,Tryz.ntmps132;go_wp2;go_ret;exact⟨_,rfl,Ag.new w _ _,Asp _,(Below.refl _ _).alloc (Asp _) _⟩
def G7(o:Nat→Nat)(N bb sb kb tb lb mb β:Nat):Nat→Nat:=fun k=>if k<N then o k else if k=bb then 1 else if k=sb then 3 else if k=kb then 4 else if k=tb then 5 else if k=lb then 6 else if k=mb then 7 else if k=β then 2 else 0
theorem Tk{w:World}{o:Nat→Nat}{i p:Nat}(h:Ag w p 265 #[.slice none 0 0,.slice none 0 0,.bool true])(ho:o p=i):F5 w o i p []:=
 ⟨none,none,0,0,0,[],[],h,Own.nil _ _,Own.nil _ _,Of.none_ _,Of.none_ _,ho,List.Pairwise.nil,fun _=>rfl,Asp _,fun a h=>by cases h⟩
theorem Ah1(fl:Int)(w:World)(o:Nat→Nat):
  Calls Tryz.prog 82 #[Aa Ab fl,Aa Ab 1048576] w fun e w'=>∃M o',e= .returned (.pointer (some ⟨M.β,0,none⟩))∧BM M fl w' o' Bd.new∧To (fun _=>False) w o w' o':=by
 have h0:=run_makeMap (P:=Tryz.prog) 184;go_enter Tryz.func82,Tryz.ntmps82;go_wp2_with fail;go_at_call 131;refine(Ahs _).mono ?_;rintro e w1 ⟨bb,rfl,hb1,hl1,hB⟩;have HB:=Hd hB;have H1:=Hd hb1;have L1:=Hd (And.intro hl1 hb1.lt);clear hB hb1 hl1;go_wp2_with fail;go_at_call 132;refine(Apk _).mono ?_;rintro e w2 ⟨sb,rfl,hb2,hl2,hB⟩;replace HB:=Hd (Ad HB.o hB);have H2:=Hd hb2;replace H1:=Hd (H1.o.pure hB);have L2:=Hd (And.intro hl2 hb2.lt);clear hB hb2 hl2;go_wp2_with fail;go_at_call 133;refine(Q0 _).mono ?_;rintro e w3 ⟨kb,rfl,hb3,hl3,hB⟩;replace HB:=Hd (Ad HB.o hB);have H3:=Hd hb3;replace H1:=Hd (H1.o.pure hB);replace H2:=Hd (H2.o.pure hB);have L3:=Hd (And.intro hl3 hb3.lt);clear hB hb3 hl3;go_wp2_with fail;go_at_call 133;refine(Q0 _).mono ?_;rintro e w4 ⟨tb,rfl,hb4,hl4,hB⟩;replace HB:=Hd (Ad HB.o hB);have H4:=Hd hb4;replace H1:=Hd (H1.o.pure hB);replace H2:=Hd (H2.o.pure hB);replace H3:=Hd (H3.o.pure hB);have L4:=Hd (And.intro hl4 hb4.lt);clear hB hb4 hl4;go_wp2_with fail;go_at_call 133;refine(Q0 _).mono ?_;rintro e w5 ⟨lb,rfl,hb5,hl5,hB⟩;replace HB:=Hd (Ad HB.o hB);have H5:=Hd hb5;replace H1:=Hd (H1.o.pure hB);replace H2:=Hd (H2.o.pure hB);replace H3:=Hd (H3.o.pure hB);replace H4:=Hd (H4.o.pure hB);have L5:=Hd (And.intro hl5 hb5.lt);clear hB hb5 hl5;go_wp2_with fail;go_ret;have hB:=Ba w5 (.map #[] 0) (.cells #[.pointer (some ⟨bb,0,none⟩),.pointer (some ⟨sb,0,none⟩),.int .i64 0,.int .i64 fl,.pointer (some ⟨kb,0,none⟩),.pointer (some ⟨tb,0,none⟩),.pointer (some ⟨lb,0,none⟩),.map (some w5.heap.size),.slice none 0 0,.bool true] 189);have h6:=World.ownsMap_made (H:=Unit) w5 Tryz.prog 22 (plainElem Tryz.prog 9);have h7:=B3 w5 (.map #[] 0) 189 #[.pointer (some ⟨bb,0,none⟩),.pointer (some ⟨sb,0,none⟩),.int .i64 0,.int .i64 fl,.pointer (some ⟨kb,0,none⟩),.pointer (some ⟨tb,0,none⟩),.pointer (some ⟨lb,0,none⟩),.map (some w5.heap.size),.slice none 0 0,.bool true];have l1:=L1.o;have l2:=L2.o;have l3:=L3.o;have l4:=L4.o;have l5:=L5.o;obtain⟨N,hN⟩:∃N,w5.heap.size=N:=⟨_,rfl⟩;have e1:G7 o w.heap.size bb sb kb tb lb N (N+1) bb=1:=by unfold G7;rw [if_neg (by omega),if_pos rfl]
 have e2:G7 o w.heap.size bb sb kb tb lb N (N+1) sb=3:=by unfold G7;rw [if_neg (by omega),if_neg (by omega),if_pos rfl]
 have e3:G7 o w.heap.size bb sb kb tb lb N (N+1) kb=4:=by unfold G7;rw [if_neg (by omega),if_neg (by omega),if_neg (by omega),if_pos rfl]
 have e4:G7 o w.heap.size bb sb kb tb lb N (N+1) tb=5:=by unfold G7;rw [if_neg (by omega),if_neg (by omega),if_neg (by omega),if_neg (by omega),if_pos rfl]
 have e5:G7 o w.heap.size bb sb kb tb lb N (N+1) lb=6:=by unfold G7;rw [if_neg (by omega),if_neg (by omega),if_neg (by omega),if_neg (by omega),if_neg (by omega),if_pos rfl]
 have e6:G7 o w.heap.size bb sb kb tb lb N (N+1) N=7:=by unfold G7;rw [if_neg (by omega),if_neg (by omega),if_neg (by omega),if_neg (by omega),if_neg (by omega),if_neg (by omega),if_pos rfl]
 have e7:G7 o w.heap.size bb sb kb tb lb N (N+1) (N+1)=2:=by unfold G7;rw [if_neg (by omega),if_neg (by omega),if_neg (by omega),if_neg (by omega),if_neg (by omega),if_neg (by omega),if_neg (by omega),if_pos rfl]
 rw [hN] at hB h6 h7⊢;refine⟨⟨N+1,bb,sb,kb,tb,lb,N⟩,G7 o w.heap.size bb sb kb tb lb N (N+1),rfl,⟨⟨none,0,0,h7,Own.nil _ _,Of.none_ _,e7⟩,⟨none,0,0,(H1.o.alloc _).alloc _,Own.nil _ _,Of.none_ _,e1⟩,⟨none,⟨none,0,0,(H2.o.alloc _).alloc _,Own.nil _ _,rfl,by omega,Nat.zero_le _⟩,e2,fun k h=>by cases h⟩,
  Tk ((H3.o.alloc _).alloc _) e3,Tk ((H4.o.alloc _).alloc _) e4,Tk ((H5.o.alloc _).alloc _) e5,e6,0,.map [],h6.alloc _,Asp _,fun a s h=>by cases h⟩,⟨Fr.of_below (Ad HB.o (by rw [hN];exact hB)) _,fun k hk=>if_pos hk⟩⟩
end Go.Proofs.YtgbjodnegkbfoaaGreat
namespace Go.Acc
open Go.RowKit Go.ChangeShapes Go.WideShapes Go.Deep
section
variable {H:Type} {enc:TypeId×Value→H} {P:Program} {W W':World}
theorem Xh{t:TypeId}(hl:laidOutB P=true)(hr:P.readableRec t=true)(hrow:t<P.types.size){v:Value}{d:DataW H}{ps:List MemPlace}
  (h:DataW.Trod enc P W 0 (fun _=>true) true t v d ps) (hb:Below W.heap.size W W'):DataW.Trod enc P W' 0 (fun b=>decide (b<W.heap.size)) true t v d ps:=
 Below.trod hl hr hrow h hb (by obtain⟨m,hm⟩:=h;exact DataW.trod_lt m _ _ _ hm)
theorem Aiq{n:Int}(h:(Lit.int .i64 n).wf=true): -9223372036854775808≤n∧n≤9223372036854775807:=by
 simp [Lit.wf,IntKind.min,IntKind.max,IntKind.signed,IntKind.bits] at h;exact⟨by omega,by omega⟩
theorem Aq8{n:Int}(h:(Lit.int .u64 n).wf=true):0≤n∧n≤18446744073709551615:=by
 simp [Lit.wf,IntKind.min,IntKind.max,IntKind.signed,IntKind.bits] at h;exact⟨by omega,by omega⟩
theorem Wf{α:Type}(p:Nat→α→Prop)(n:Nat)(h:∀i,i<n→∃x,p i x):∃l:List α,l.length=n∧∀i (hi:i<l.length),p i l[i]:=by
 induction n with
 |zero=>exact⟨[],rfl,fun i hi=>by simp at hi⟩
 |succ n ih=>
  obtain⟨l,hl,hp⟩:=ih fun i hi=>h i (by omega)
  obtain⟨x,hx⟩:=h n (by omega);refine⟨l++ [x],by simp [hl],fun i hi=>?_⟩;by_cases hin:i<l.length
  ·rw [List.getElem_append_left hin];exact hp i hin
  ·have:i=n:=by simp at hi;omega
   subst this;rw [List.getElem_append_right (by omega)];simpa [hl] using hx
theorem Zf{w:World}{a:Addr}{u:Value}(h:w.cell? a=some u):a=⟨a.block,a.off,none⟩:=by
 have:=Abz h;cases a
 simp_all
theorem R8{α:Type}{f:α→List Value}{sz:Nat}(hf:∀x,(f x).length=sz)(hz:0<sz){w:World}{a:Addr}{n:Nat}(q:α→Prop)
  (h:∀i,i<n→∃x,q x∧∀j,j<sz→w.cell? (a.add (i*sz+j))=(f x)[j]?):∃l,Is f w (some a) n l∧∀x∈l,q x:=by
 obtain⟨l,hl,hp⟩:=Wf _ n h;refine⟨l,⟨hl,fun t u hu=>?_⟩,fun x hx=>?_⟩
 ·have ht:t<n*sz:=by
   have:=(List.getElem?_eq_some_iff.1 hu).1;rw [Bi hf,hl] at this;exact this
  have hpos:0<n:=by
   rcases Nat.eq_zero_or_pos n with h0|h0
   ·subst h0;simp at ht
   ·exact h0
  have h0:=(hp 0 (by omega)).2 0 hz;rw [Asq (by rw [hf];exact hz)] at h0;have ha:a=⟨a.block,a.off,none⟩:=by
   have:=Zf h0;simpa [Addr.add] using Zf (w:=w) (a:=a) (by simpa [Addr.add] using h0)
  have hi:t/sz<l.length:=by rw [hl];exact Nat.div_lt_of_lt_mul (by rw [Nat.mul_comm];exact ht)
  have hj:t % sz<sz:=Nat.mod_lt _ hz;have e:t/sz*sz+t % sz=t:=by rw [Nat.mul_comm];exact Nat.div_add_mod t sz
  have hc:=(hp _ hi).2 _ hj;have hu':=Gr hf l (t/sz) (t % sz) hi hj;rw [e,hu] at hu';rw [e,←hu'] at hc;refine⟨a.block,a.off,by rw [←ha],?_⟩;rw [ha,G3] at hc;exact hc
 ·obtain⟨i,hi,rfl⟩:=List.mem_iff_getElem.1 hx;exact(hp i hi).1
variable {w:World} {base:Nat} {spare:Nat→Bool} {held:Bool}
end
end Go.Acc
namespace Go.Proofs.YtgbjodnegkbfoaaGreat
open Go.RowKit Go.Acc
structure Nv where
 k:Int
 n:Int
 u:Nat
 s:List UInt8
 A:Option Addr
 an:Nat
 ac:Nat
 B:Option Addr
 bn:Nat
 bc:Nat
def Hl(x:Nv):List Value:=[Aa Ab x.k,Aa Ab x.n,Aa Ac (x.u:Int),.string ⟨x.s.toArray⟩,.slice x.A x.an x.ac,.slice x.B x.bn x.bc]
theorem Ib(x:Nv):(Hl x).length=6:=rfl
theorem Ad5(x:Nv):∀u∈Hl x,u.oneCell'=true:=by
 intro u hu;simp [Hl] at hu;rcases hu with rfl|rfl|rfl|rfl|rfl|rfl <;>rfl
abbrev Fb:=Is Hl
abbrev I1:=Go.Acc.Own Hl 6 26
theorem Gt{w:World}{A:Option Addr}{n:Nat}{l:List Nv}(h:Fb w A n l){k:Nat}{x:Nv}(hx:l[k]?=some x):
  ∃b off,A=some ⟨b,off,none⟩∧w.cell? ⟨b,off+k*6,none⟩=some (Aa Ab x.k)∧w.cell? ⟨b,off+k*6+1,none⟩=some (Aa Ab x.n)∧w.cell? ⟨b,off+k*6+2,none⟩=some (Aa Ac (x.u:Int))∧
   w.cell? ⟨b,off+k*6+3,none⟩=some (.string ⟨x.s.toArray⟩)∧w.cell? ⟨b,off+k*6+4,none⟩=some (.slice x.A x.an x.ac)∧w.cell? ⟨b,off+k*6+5,none⟩=some (.slice x.B x.bn x.bc):=by
 have hk:k<n:=by rw [←h.1];exact(List.getElem?_eq_some_iff.1 hx).1
 obtain⟨b,off,e,hk',hc⟩:=h.at_ Ib (by omega) hk;have ex:l[k]=x:=(List.getElem?_eq_some_iff.1 hx).2;rw [ex] at hc;exact⟨b,off,e,hc 0 (by omega),hc 1 (by omega),hc 2 (by omega),hc 3 (by omega),hc 4 (by omega),hc 5 (by omega)⟩
inductive Bm(w:World)(p:Nat→Prop):Nv→Tr→Prop
 |mk {x:Nv} {ks:List (List UInt8)} {l:List Tr} {vs:List Nv} (h1:Ek w x.A x.an ks) (ha:∀ad,x.A=some ad→p ad.block) (hac:x.an≤x.ac) (hx:x.an≤1099511627776)
   (h2:Fb w x.B x.bn vs) (hb:∀ad,x.B=some ad→p ad.block) (hbc:x.bn≤x.bc) (hy:x.bn≤1099511627776) (hl:vs.length=l.length)
   (hc:∀(i:Nat) v t,vs[i]?=some v→l[i]?=some t→Bm w p v t):Bm w p x (.mk x.k x.n x.u x.s ks l)
inductive F4(w:World)(p:Nat→Prop):Nat→Nv→Tr→List (Nat×Nv)→Prop
 |mk {d:Nat} {x:Nv} {ks:List (List UInt8)} {l:List Tr} {vs:List Nv} {yss:List (List (Nat×Nv))} (h1:Ek w x.A x.an ks) (ha:∀ad,x.A=some ad→p ad.block) (hac:x.an≤x.ac) (hx:x.an≤1099511627776)
   (h2:Fb w x.B x.bn vs) (hb:∀ad,x.B=some ad→p ad.block) (hbc:x.bn≤x.bc) (hy:x.bn≤1099511627776) (hl:vs.length=l.length) (hyl:yss.length=l.length)
   (hc:∀(i:Nat) v t ys,vs[i]?=some v→l[i]?=some t→yss[i]?=some ys→F4 w p (d+1) v t ys):F4 w p d x (.mk x.k x.n x.u x.s ks l) ((d,x)::yss.flatten)
theorem Bm.ord{w:World}{p:Nat→Prop}{x:Nv}{t:Tr}(h:Bm w p x t):∀d,∃ys,F4 w p d x t ys:=by
 induction h with
 | @mk x ks l vs h1 ha hac hx h2 hb hbc hy hl hc ih=>
  intro d;have hex:∀i,i<l.length→∃ys,∀v t,vs[i]?=some v→l[i]?=some t→F4 w p (d+1) v t ys:=by
   intro i hi;obtain⟨ys,hys⟩:=ih i (vs[i]'(by omega)) l[i] (Asq _) (Asq _) (d+1);refine⟨ys,fun v t hv ht=>?_⟩;rw [Asq (by omega)] at hv ht;injection hv with hv
   injection ht with ht
   rw [←hv,←ht];exact hys
  obtain⟨yss,hyl,hp⟩:=Wf _ l.length hex;exact⟨_,.mk h1 ha hac hx h2 hb hbc hy hl hyl (fun i v t ys hv ht hys=>by
   obtain⟨hi,e⟩:=List.getElem?_eq_some_iff.1 hys;rw [←e];exact hp i hi v t hv ht)⟩
theorem M7{w w':World}{p:Nat→Prop}{A:Option Addr}{xs:List Value}(h:Rd w A xs)(ha:∀ad,A=some ad→p ad.block)(hk:∀a u,w.cell? a=some u→p a.block→w'.cell? a=some u):Rd w' A xs:=by
 intro j u hu;obtain⟨b,off,rfl,hc⟩:=h j u hu;exact⟨b,off,rfl,hk _ _ hc (ha ⟨b,off,none⟩ rfl)⟩
theorem Bm.keep{w w':World}{p:Nat→Prop}{x:Nv}{t:Tr}(h:Bm w p x t)(hk:∀a u,w.cell? a=some u→p a.block→w'.cell? a=some u):Bm w' p x t:=by
 induction h with
 |mk h1 ha hac hx h2 hb hbc hy hl hc ih=>exact .mk ⟨h1.1,M7 h1.2 ha hk⟩ ha hac hx ⟨h2.1,M7 h2.2 hb hk⟩ hb hbc hy hl ih
theorem Bm.pure{w w':World}{p:Nat→Prop}{x:Nv}{t:Tr}(h:Bm w p x t)(hb:Below w.heap.size w w'):Bm w' p x t:=h.keep fun _ _ hc _=>Ae hb hc
theorem Bm.mono{w:World}{p q:Nat→Prop}{x:Nv}{t:Tr}(h:Bm w p x t)(hq:∀k,p k→q k):Bm w q x t:=by
 induction h with
 |mk h1 ha hac hx h2 hb hbc hy hl hc ih=>exact .mk h1 (fun ad h=>hq _ (ha ad h)) hac hx h2 (fun ad h=>hq _ (hb ad h)) hbc hy hl ih
theorem Bm.to_{I:Nat→Prop}{w w':World}{o o':Nat→Nat}{p:Nat→Prop}{x:Nv}{t:Tr}(h:Bm w p x t)(ht:To I w o w' o')(hp:∀k,p k→¬I (o k)):Bm w' p x t:=
 h.keep fun _ _ hc hpa=>ht.cell hc (hp _ hpa)
theorem Bm.fields{w:World}{p:Nat→Prop}{x:Nv}{t:Tr}(h:Bm w p x t):t.k=x.k∧t.n=x.n∧t.u=x.u∧t.s=x.s∧t.ks.length=x.an∧t.l.length=x.bn:=by
 cases h with
 |mk h1 ha hac hx h2 hb hbc hy hl hc=>exact⟨rfl,rfl,rfl,rfl,h1.1,by rw [←h2.1,hl];rfl⟩
theorem F4.keep{w w':World}{p:Nat→Prop}{d:Nat}{x:Nv}{t:Tr}{ys:List (Nat×Nv)}(h:F4 w p d x t ys)(hk:∀a u,w.cell? a=some u→p a.block→w'.cell? a=some u):F4 w' p d x t ys:=by
 induction h with
 |mk h1 ha hac hx h2 hb hbc hy hl hyl hc ih=>exact .mk ⟨h1.1,M7 h1.2 ha hk⟩ ha hac hx ⟨h2.1,M7 h2.2 hb hk⟩ hb hbc hy hl hyl ih
theorem F4.pure{w w':World}{p:Nat→Prop}{d:Nat}{x:Nv}{t:Tr}{ys:List (Nat×Nv)}(h:F4 w p d x t ys)(hb:Below w.heap.size w w'):F4 w' p d x t ys:=h.keep fun _ _ hc _=>Ae hb hc
def Tr.pre(d:Nat):Tr→List (Nat×Tr)
 | .mk k n u s ks l=>(d,.mk k n u s ks l)::Tr.preL (d+1) l
where Tr.preL (d:Nat):List Tr→List (Nat×Tr)
 | []=>[]
 |t::r=>Tr.pre d t++Tr.preL d r
theorem Acd(k n:Int)(u:Nat)(s:List UInt8)(A:Option Addr)(an ac:Nat)(B:Option Addr)(bn bc:Nat)(w:World):
  Calls Tryz.prog 142 #[.agg #[Aa Ab k,Aa Ab n,Aa Ac (u:Int),.string ⟨s.toArray⟩,.slice A an ac,.slice B bn bc]] w fun e w'=>e= .returned (.bool (decide (n=1)))∧Below w.heap.size w w':=by
 go_enter Tryz.func142,Tryz.ntmps142;go_wp2_with fail;go_ret;exact⟨rfl,(Below.refl _ _).alloc (Asp _) _⟩
theorem Agb(M:Bp)(fl:Int)(f:Nat)(b:Bd)(k n:Int)(u:Nat)(s:List UInt8)(A:Option Addr)(an ac:Nat)(B:Option Addr)(bn bc:Nat)(w:World)(o:Nat→Nat)(h:BM M fl w o b)(hs:b.s.length<65536)(hm:b.b.length+15≤1048576)
  (hn: -9223372036854775808≤n∧n≤9223372036854775807) (hu:u<18446744073709551616) (hk:k=1∨k=2∨k=3∨k=4∨k=8∨k=9):
  Calls Tryz.prog 154 #[.pointer (some ⟨M.β,0,none⟩),.agg #[Aa Ab k,Aa Ab n,Aa Ac (u:Int),.string ⟨s.toArray⟩,.slice A an ac,.slice B bn bc]] w (Ck M fl (b.leaf f k n u s) w o):=by
 have HB:=Hd (show Below w.heap.size w (w.alloc (.cells #[Aa Ab k,Aa Ab n,Aa Ac (u:Int),.string ⟨s.toArray⟩,.slice A an ac,.slice B bn bc] 26)) from(Below.refl _ _).alloc (Asp _) _);have HM:=Hd (h.pure HB.o);have HS:=Hd hs;have HL:=Hd hm;have HN:=Hd hn;have HU:=Hd hu;clear h hs hm hn hu;rcases hk with rfl|rfl|rfl|rfl|rfl|rfl
 ·go_enter Tryz.func154,Tryz.ntmps154;go_wp2_with fail;go_at_call 242;refine(Aft M fl b _ o HM.o HS.o).mono ?_;rintro e w2 hR;obtain rfl:=hR.1;have HR:=Hd (hR.from_pure HB.o);clear hR;go_wp2_with fail;go_end0;have h:=HR.o;unfold Bd.leaf;simpa using h
 ·go_enter Tryz.func154,Tryz.ntmps154;go_wp2_with fail;go_at_call 142;refine(Acd 2 n u s A an ac B bn bc _).mono ?_;rintro e w1 ⟨rfl,hb⟩;have HM1:=Hd (HM.o.pure hb);have HB1:=Hd (Ad HB.o hb);clear hb;generalize htt:decide (n=1)=tt at*;have HT:=Hd htt;clear htt;go_wp2_with fail;go_at_call 243;refine(Afm M fl b n tt _ o HM1.o HS.o HT.o).mono ?_;rintro e w2 hR;obtain rfl:=hR.1;have HR:=Hd (hR.from_pure HB1.o);clear hR;go_wp2_with fail;go_end0;have h:=HR.o;unfold Bd.leaf;simpa using h
 ·go_enter Tryz.func154,Tryz.ntmps154;go_wp2_with fail;go_at_call 244;refine(Ahz M fl b n _ o HM.o HS.o HN.o).mono ?_;rintro e w2 hR;obtain rfl:=hR.1;have HR:=Hd (hR.from_pure HB.o);clear hR;go_wp2_with fail;go_end0;have h:=HR.o;unfold Bd.leaf;simpa using h
 ·go_enter Tryz.func154,Tryz.ntmps154;go_wp2_with fail;go_at_call 245;refine(Afy M fl b u _ o HM.o HS.o HU.o).mono ?_;rintro e w2 hR;obtain rfl:=hR.1;have HR:=Hd (hR.from_pure HB.o);clear hR;go_wp2_with fail;go_end0;have h:=HR.o;unfold Bd.leaf;simpa using h
 ·go_enter Tryz.func154,Tryz.ntmps154;go_wp2_with fail;go_at_call 246;refine(Afo M fl b n _ o HM.o HS.o HL.o HN.o).mono ?_;rintro e w2 hR;obtain rfl:=hR.1;have HR:=Hd (hR.from_pure HB.o);clear hR;go_wp2_with fail;go_end0;have h:=HR.o;unfold Bd.leaf;simpa using h
 ·go_enter Tryz.func154,Tryz.ntmps154;go_wp2_with fail;go_at_call 247;refine(Ack M fl b u _ o HM.o HS.o HL.o HU.o).mono ?_;rintro e w2 hR;obtain rfl:=hR.1;have HR:=Hd (hR.from_pure HB.o);clear hR;go_wp2_with fail;go_end0;have h:=HR.o;unfold Bd.leaf;simpa using h
theorem V6(M:Bp)(fl:Int)(b':Bd)(k n:Int)(u:Nat)(s:List UInt8)(A:Option Addr)(an ac:Nat)(B:Option Addr)(bn bc:Nat)(w:World)(o:Nat→Nat)(hk:1≤k∧k≤9)
  (hL:∀W,Below w.heap.size w W→Calls Tryz.prog 154 #[.pointer (some ⟨M.β,0,none⟩),.agg #[Aa Ab k,Aa Ab n,Aa Ac (u:Int),.string ⟨s.toArray⟩,.slice A an ac,.slice B bn bc]] W (Ck M fl b' W o)):
  Calls Tryz.prog 83 #[.pointer (some ⟨M.β,0,none⟩),.agg #[Aa Ab k,Aa Ab n,Aa Ac (u:Int),.string ⟨s.toArray⟩,.slice A an ac,.slice B bn bc]] w (Ck M fl b' w o):=by
 have hB:=Ba w (.cells #[.pointer (some ⟨M.β,0,none⟩)] 120) (.cells #[Aa Ab k,Aa Ab n,Aa Ac (u:Int),.string ⟨s.toArray⟩,.slice A an ac,.slice B bn bc] 26);have HB:=Hd hB;have HL:=Hd (hL _ hB);have e10:(k==10)=false:=by simp;omega
 have e11:(k==11)=false:=by simp;omega
 have e12:(k==12)=false:=by simp;omega
 have e13:(k==13)=false:=by simp;omega
 have e14:(k==14)=false:=by simp;omega
 have e15:(k==15)=false:=by simp;omega
 have e16:(k==16)=false:=by simp;omega
 have e17:(k==17)=false:=by simp;omega
 clear hB hL hk;go_enter Tryz.func83,Tryz.ntmps83;go_wp2_with fail;go_at_call 154;refine HL.o.mono ?_;rintro e w2 hR;obtain rfl:=hR.1;have HR:=Hd (hR.from_pure HB.o);clear hR e10 e11 e12 e13 e14 e15 e16 e17;go_wp2_with fail;go_end0;exact HR.o
attribute [local go_sem] Oper.semAt_some
def Fu(V:Nat→Prop)(W W':World):Prop:=∀a u,W.cell? a=some u→¬V a.block→W'.cell? a=some u
theorem Fu.refl(V:Nat→Prop)(W:World):Fu V W W:=fun _ _ h _=>h
theorem Fu.trans{V:Nat→Prop}{A B C:World}(h:Fu V A B)(k:Fu V B C):Fu V A C:=fun a u hc hv=>k a u (h a u hc hv) hv
theorem Fu.pure{V:Nat→Prop}{W W':World}(h:Below W.heap.size W W'):Fu V W W':=fun _ _ hc _=>Ae h hc
theorem Arl{V:Nat→Prop}(W:World)(l:Nat)(o o':Obj)(h:W.heap[l]?=some o)(hc:o.isCells=false):Fu V W (W.putObj l o'):=by
 intro a u ha _;have hg:=grownBy_putObj' W l o';exact cell_kept ha hg (fun r e=>by cases e;exact⟨o,h,hc⟩)
def Af0(y:Nat×Nv):Array Value:=#[Aa Ab (y.1:Int),.agg #[Aa Ab y.2.k,Aa Ab y.2.n,Aa Ac (y.2.u:Int),.string ⟨y.2.s.toArray⟩,.slice y.2.A y.2.an y.2.ac,.slice y.2.B y.2.bn y.2.bc]]
def Ar9(n l:Nat)(V:Nat→Prop)(Y:List (Nat×Nv))(J Jx:Nat→World→Prop):Prop:=
 ∀i y W1,Y[i]?=some y→J i W1→YieldAt Fence.wide (n-1) Tryz.prog l (Af0 y) W1 fun e W'=>
  (e= .returned (.bool true)∧J (i+1) W'∧Fu V W1 W'∧W1.heap.size≤W'.heap.size)∨(e= .returned (.bool false)∧Jx (i+1) W')
def Are(W:World)(V:Nat→Prop)(J Jx:Nat→World→Prop)(i m:Nat)(e:Ending)(W':World):Prop:=
 (e= .returned (.bool true)∧J (i+m) W'∧Fu V W W'∧W.heap.size≤W'.heap.size)∨(e= .returned (.bool false)∧∃j,j≤i+m∧Jx j W')
def Ar8(Y:List (Nat×Nv))(i:Nat)(ys:List (Nat×Nv)):Prop:=∃a b,Y=a++ys++b∧a.length=i
theorem Akn(n l:Nat)(hn:1≤n)(V:Nat→Prop)(Y:List (Nat×Nv))(J Jx:Nat→World→Prop)(w0:World)(p:Nat→Prop)(hp:∀k,p k→¬V k)(hV:∀k,V k→k<w0.heap.size)(hY:Ar9 n l V Y J Jx)
  (hJ:∀s W W',J s W→Below W.heap.size W W'→J s W') {d:Nat} {x:Nv} {t:Tr} {ys:List (Nat×Nv)} (h:F4 w0 p d x t ys):
  ∀(i:Nat) (W:World),Fu V w0 W→w0.heap.size≤W.heap.size→J i W→Ar8 Y i ys→d+ys.length≤1099511627776→
   Calls Tryz.prog 116 #[.agg #[Aa Ab x.k,Aa Ab x.n,Aa Ac (x.u:Int),.string ⟨x.s.toArray⟩,.slice x.A x.an x.ac,.slice x.B x.bn x.bc],Aa Ab (d:Int),.func (.yield l) #[] #[]] W (Are W V J Jx i ys.length):=by
 have HY:=Hd hY;have HJ0:=Hd hJ;clear hY hJ
 induction h with
 | @mk d x ks l' vs yss h1 ha hac hx h2 hb hbc hy hl hyl hc ih=>
  intro i W hK hs hJp hN hd;have HIH:=Hd ih;have HI2:=Hd (show Fb W x.B x.bn vs from⟨h2.1,M7 h2.2 hb fun a u hc hpa=>hK a u hc (hp _ hpa)⟩);have HPB:=Hd hb;have hbn:x.bn≤1099511627776:=by omega
  have hvn:vs.length=x.bn:=h2.1;have hB:=(Below.refl W.heap.size W).alloc (Asp _) (.cells #[Aa Ab x.k,Aa Ab x.n,Aa Ac (x.u:Int),.string ⟨x.s.toArray⟩,.slice x.A x.an x.ac,.slice x.B x.bn x.bc] 26);have HB:=Hd hB;have HX:=Hd (Ag.new W 26 #[Aa Ab x.k,Aa Ab x.n,Aa Ac (x.u:Int),.string ⟨x.s.toArray⟩,.slice x.A x.an x.ac,.slice x.B x.bn x.bc]);have HJ:=Hd (HJ0.o _ _ _ hJp hB);have HNV:=Hd (show ¬V W.heap.size from fun hv=>by have:=hV _ hv;omega);obtain⟨fn,tmps,assign,body,hy',hR⟩:=HY.o i (d,x) _ (by obtain⟨a,b,e1,e2⟩:=hN;rw [e1,←e2];simp) HJ.o;have HKK:=Hd hK;have HLL:=Hd (show i+1≤i+((d,x)::yss.flatten).length by simp only [Asw];omega);have HN:=Hd hN;have HD:=Hd hd;have hd0:(d:Int)≤1099511627776:=by omega
  rw [show Af0 (d,x)=#[Aa Ab (d:Int),.agg #[Aa Ab x.k,Aa Ab x.n,Aa Ac (x.u:Int),.string ⟨x.s.toArray⟩,.slice x.A x.an x.ac,.slice x.B x.bn x.bc]] from rfl] at hy';clear ih h1 ha hac hx h2 hb hbc hy hc hK hJp hN hB;go_enter Tryz.func116,Tryz.ntmps116;go_upto_region 1 with fail
  refine(wpIn_wide (n:=n)).1 ?_
  gi_wp2
  refine hR.mono ?_;rintro e W9 (⟨rfl,hJ9,hk9,hs9⟩|⟨rfl,hJ9⟩)
  ·have HK9:=Hd (show Fu V w0 W9 from(HKK.o.trans (Fu.pure HB.o)).trans hk9);have HKW:=Hd (show Fu V W W9 from(Fu.pure HB.o).trans hk9);have HS9:=Hd (show W.heap.size≤W9.heap.size from Nat.le_trans HB.o.size hs9);have HJ9:=Hd (show J (i+1+(yss.take 0).flatten.length) W9 from hJ9);have HC5:=Hd (show Fu V (W.alloc (.cells #[Aa Ab x.k,Aa Ab x.n,Aa Ac (x.u:Int),.string ⟨x.s.toArray⟩,.slice x.A x.an x.ac,.slice x.B x.bn x.bc] 26)) W9 from hk9);have c5:W9.cell? ⟨W.heap.size,5,none⟩=some (.slice x.B x.bn x.bc):=hk9 _ _ (HX.o.cell 5) HNV.o;clear hJ9 hk9 hs9 hR hy' HJ
   gi_wp2
   go_wp2_with fail;go_loopw [17] (fun u wr=>∃k:Nat,k≤x.bn∧u= Aa Ab k∧J (i+1+(yss.take k).flatten.length) wr∧Fu V w0 wr∧Fu V W wr∧W.heap.size≤wr.heap.size) (fun u _=>x.bn-(intOf u).toNat)
   case atStart=>exact⟨0,Nat.zero_le _,rfl,HJ9.o,HK9.o,HKW.o,HS9.o⟩
   case round=>
    obtain⟨k,hk,rfl,hj,hk0,hkw,hsz⟩:=hrel;have HJR:=Hd hj;have HK0:=Hd hk0;have HKR:=Hd hkw;have HSR:=Hd hsz;clear hj hk0 hkw hsz HJ9 HK9 HKW HS9 c5;by_cases hlt:k<x.bn
    ·obtain⟨v,hv⟩:∃v,vs[k]?=some v:=⟨_,Asq (by omega)⟩;obtain⟨t',ht'⟩:∃t',l'[k]?=some t':=⟨_,Asq (by omega)⟩;obtain⟨ys',hys⟩:∃ys',yss[k]?=some ys':=⟨_,Asq (by omega)⟩;have hIr:Fb wr x.B x.bn vs:=⟨HI2.o.1,M7 HI2.o.2 HPB.o fun a u hc hpa=>HKR.o a u hc (hp _ hpa)⟩;obtain⟨g,off,e,v0,v1,v2,v3,v4,v5⟩:=Gt hIr hv;have ht:(yss.take (k+1)).flatten=(yss.take k).flatten++ys':=by
      obtain⟨h1,h2⟩:=List.getElem?_eq_some_iff.1 hys;rw [List.take_succ_eq_append_getElem h1,List.flatten_append,h2];simp
     have hle:(yss.take k).flatten.length+ys'.length≤yss.flatten.length:=by
      rw [←Ass,←ht]
      conv=>rhs;rw [←List.take_append_drop (k+1) yss]
      rw [List.flatten_append,Ass];omega
     have HT:=Hd ht;have HLE:=Hd hle;have hB2:=(Below.refl wr.heap.size wr).alloc (Asp _) (.cells #[Aa Ab v.k,Aa Ab v.n,Aa Ac (v.u:Int),.string ⟨v.s.toArray⟩,.slice v.A v.an v.ac,.slice v.B v.bn v.bc] 26);have HB2:=Hd hB2;have HCAL:=Hd (HIH.o k v t' ys' hv ht' hys (i+1+(yss.take k).flatten.length) _ (HK0.o.trans (Fu.pure hB2)) (Nat.le_trans hs (Nat.le_trans HSR.o hB2.size)) (HJ0.o _ _ _ HJR.o hB2)
      (by
       obtain⟨a,b,e1,e2⟩:=HN.o;refine⟨a++(d,x)::(yss.take k).flatten,(yss.drop (k+1)).flatten++b,?_,by simp only [Ass,Asw];omega⟩;rw [e1]
       conv=>lhs;rw [←List.take_append_drop (k+1) yss,List.flatten_append,ht]
       simp) (by have h1:=HD.o;simp only [Asw] at h1;omega))
     have e1:((d+1:Nat):Int)=(d:Int)+1:=by omega
     rw [e1] at HCAL;have hk0':(0:Int)≤(k:Int):=by omega
     have hkl:(k:Int)<(x.bn:Int):=by omega
     rw [e];clear ht hle hB2 hIr hv ht' hys e1;go_wp2_with fail;go_at_call 116;refine HCAL.o.mono ?_;rintro e W3 (⟨rfl,hj3,hk3,hs3⟩|⟨rfl,q,hq,hjx⟩)
     ·have HJ3:=Hd (show J (i+1+(yss.take (k+1)).flatten.length) W3 by rw [HT.o,Ass,←Nat.add_assoc];exact hj3);have HK3:=Hd (show Fu V wr W3 from(Fu.pure HB2.o).trans hk3);have HS3:=Hd (Nat.le_trans HB2.o.size hs3);clear hj3 hk3 hs3 v0 v1 v2 v3 v4 v5 e;go_wp2_with fail;go_roundw
      case rel=>exact⟨k+1,by omega,by go_num,HJ3.o,HK0.o.trans HK3.o,HKR.o.trans HK3.o,Nat.le_trans HSR.o HS3.o⟩
      case measure=>simp [intOf];omega
     ·have HQ:=Hd (show ∃j,j≤i+((d,x)::yss.flatten).length∧Jx j W3 from⟨q,by
       have h1:(yss.take k).flatten.length+ys'.length≤yss.flatten.length:=HLE.o;simp only [Asw];omega,hjx⟩)
      clear hq hjx v0 v1 v2 v3 v4 v5 e;go_wp2_with fail;go_ret;exact .inr ⟨rfl,HQ.o⟩
    ·have hkk:k=x.bn:=by omega
     have HE:=Hd (show(yss.take k).flatten=yss.flatten by rw [Asy (by omega)]);have hd1:decide ((k:Int)<(x.bn:Int))=false:=decide_eq_false (by omega);have hd2:decide (k<x.bn)=false:=decide_eq_false (by omega);clear hkk;go_wp2_with fail;go_ret;exact .inl ⟨rfl,by have h:=HJR.o;rw [HE.o,Nat.add_assoc,Nat.add_comm 1] at h;exact h,HKR.o,HSR.o⟩
  ·have HJ9:=Hd hJ9;clear hJ9 hR hy' HJ
   gi_wp2
   go_wp2_with fail;go_ret;exact .inr ⟨rfl,i+1,HLL.o,HJ9.o⟩
theorem Adc(x:Nv)(w:World):Calls Tryz.prog 73 #[.agg #[Aa Ab x.k,Aa Ab x.n,Aa Ac (x.u:Int),.string ⟨x.s.toArray⟩,.slice x.A x.an x.ac,.slice x.B x.bn x.bc]] w fun e w'=>e= .returned (.func (.func 115) #[] #[.pointer (some ⟨w.heap.size,0,none⟩)])∧w'=w.alloc (.cells #[Aa Ab x.k,Aa Ab x.n,Aa Ac (x.u:Int),.string ⟨x.s.toArray⟩,.slice x.A x.an x.ac,.slice x.B x.bn x.bc] 26):=by
 go_enter Tryz.func73,Tryz.ntmps73;go_wp2;go_ret;exact⟨rfl,rfl⟩
def KpW(V:Nat→Prop)(W W':World):Prop:=Fu V W W'∧W.heap.size≤W'.heap.size
theorem Yy(x:Nv)(t:Tr)(Y:List (Nat×Nv))(V p:Nat→Prop)(b:Nat)(w:World)(n:Nat)(hn:1≤n)(h:F4 w p 0 x t Y)(hb:Ag w b 26 #[Aa Ab x.k,Aa Ab x.n,Aa Ac (x.u:Int),.string ⟨x.s.toArray⟩,.slice x.A x.an x.ac,.slice x.B x.bn x.bc])(hp:∀k,p k→¬V k)(hV:∀k,V k→k<w.heap.size)(hm:Y.length≤1099511627776):
  SeqStopsK Fence.wide n Tryz.prog 115 #[.pointer (some ⟨b,0,none⟩)] (fun i:Fin Y.length=>Af0 Y[i]) (KpW V) (fun xs=>xs=List.finRange Y.length) (fun pre=>pre<+:List.finRange Y.length) Y.length w:=by
 intro l J Jx W hW hJ hJx hY h0;have hbW:=hb.pure hW;obtain ⟨c0,c1,c2,c3,c4,c5⟩:=hbW.c6;have htk:∀i (hi:i<Y.length),(List.finRange Y.length).take (i+1)=(List.finRange Y.length).take i++ [⟨i,hi⟩]:=by
  intro i hi;rw [←List.take_append_getElem (by rw [List.length_finRange];exact hi)];simp
 have HWK:=Hd (Akn n l hn V Y (fun i W=>J ((List.finRange Y.length).take i) W) (fun i W=>Jx ((List.finRange Y.length).take i) W) w p hp hV
  (fun i y W1 hy hj=>by
   obtain⟨hi,rfl⟩:=List.getElem?_eq_some_iff.1 hy;have h1:=hY ((List.finRange Y.length).take i) ⟨i,hi⟩ W1 hj (by rw [List.length_take,List.length_finRange];omega);simp only [htk i hi];exact h1)
  (fun s W W' h hb=>hJ _ W W' none h ⟨hb.os,hb.tape,hb.output,hb.size,fun k hk _=>hb.block k hk⟩ (fun r e=>by cases e)) h 0 W (Fu.pure hW) hW.size (by rw [List.take_zero];exact h0) ⟨[],[],by simp,rfl⟩ (by omega))
 clear hb hbW h hW hJ hJx hY h0;refine callsIn_wide.2 ?_;go_enter Tryz.func115,Tryz.ntmps115;go_wp2_with fail;go_at_call 116;refine HWK.o.mono ?_;rintro e W3 (⟨rfl,hj3,hk3,hs3⟩|⟨rfl,q,hq,hjx⟩)
 ·have HJ3:=Hd (show J (List.finRange Y.length) W3 by
   have h:J ((List.finRange Y.length).take (0+Y.length)) W3:=hj3;rw [Asy (by rw [List.length_finRange];omega)] at h;exact h)
  clear hj3 hk3 hs3 HWK c0 c1 c2 c3 c4 c5;go_wp2_with fail;go_end0;exact⟨⟨_,rfl⟩,.inl ⟨_,rfl,HJ3.o⟩⟩
 ·have HJX:=Hd (show Jx ((List.finRange Y.length).take q) W3 from hjx);clear hq hjx HWK c0 c1 c2 c3 c4 c5;go_wp2_with fail;go_end0;exact⟨⟨_,rfl⟩,.inr ⟨_,List.take_prefix _ _,HJX.o⟩⟩
end Go.Proofs.YtgbjodnegkbfoaaGreat
