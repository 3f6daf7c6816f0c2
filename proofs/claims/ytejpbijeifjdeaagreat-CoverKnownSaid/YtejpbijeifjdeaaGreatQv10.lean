/- Parts of the proof. -/
import Derived.Test.YtejpbijeifjdeaaGreatQv09
import Derived.StillTailTactics
import Derived.Deep.RegionLaw
import Derived.Laws.CopyOwn
set_option maxHeartbeats 4000000
set_option maxRecDepth 100000
open Go.Value renaming int→Aa
open Go.IntKind renaming i64→Ab,u64→Ac
open Nat renaming le_refl→Ae,zero_le→Am,lt_of_lt_of_le→Ar
open Go.RowKit.Below renaming refl→Af
open List renaming getElem?_eq_getElem→Ai,length_append→Ak,length_take→Au,take_of_length_le→Aw,append_assoc→Ax
open Go.Proofs.Tryz
open Go.Proofs.Tryz renaming prog→Ad
namespace Go.Proofs.YtejpbijeifjdeaaGreat
open Go.RowKit Go.Acc
variable {w:World}{ops:Array Oper}{o:Oper}{a:Act}{K:Act→World→Prop}{Q:Exit→Act→World→Prop}{E:Prop}
def yH(w:World)(e T:Nat)(z:Bool)(x:Ending)(w':World):Prop:=
 ∃g,x= .returned (.tuple #[.agg #[Aa Ab (T:Int),.bool z,.func (.func 354) #[] #[Aca g],.func (.func 355) #[] #[]],Aa Ab 0])∧Bb w' g 3 #[Aa Ab (e:Int)]∧w.heap.size≤g∧Below w.heap.size w w'
theorem pO(e T:Nat)(w:World)(h:Q1 e 0)(ht:vecTy e 0=T):Calls Ad 323 #[Aa Ab (e:Int),Aa Ab 0] w (yH w e T true):=by
 have:=Yw e 0 w h;unfold yG at this;rw [ht] at this;exact this
theorem pP(e m T:Nat)(w:World)(h:Q1 e m)(hm:0<m)(ht:vecTy e m=T):Calls Ad 323 #[Aa Ab (e:Int),Aa Ab (m:Int)] w (yH w e T false):=by
 have:=Yw e m w h;unfold yG at this;rw [ht,decide_eq_false (show ¬m=0 by omega)] at this;exact this
theorem xR(b e n c:Nat)(A:Option Addr)(vs:List Bv)(l:List UInt8)(w:World)(o:Nat→Nat)(h:C2 w o b l)(hv:Ef w A n (vs.map vv))(ho:∀ad,A=some ad→ad.block<w.heap.size∧o ad.block≠1)(hok:E5 vs l)(hty:Q1 e 0)(hel:∀v∈vs,v.t=e):
  Calls Ad 277 #[Aca b,Aa Ab (e:Int),Aa Ab 0,.slice A n c] w (R9 w o b (Cu (vecTy e 0) true false vs l)):=by
 obtain⟨T,j⟩:∃T,vecTy e 0=T:=⟨_,rfl⟩;rw [j];have aw:=Hd j;have ax:=Hd hty;have ar:=Hd hel;clear j hty hel;obtain⟨y,R⟩:∃y,C5 l.length 1 none vs=y:=⟨_,rfl⟩;obtain⟨Q,al,ak⟩:=Mv hok R;have aa:=Hd R;have E:=Hd Q;have az:=Hd al;have ay:=Hd ak;have aj:1≤y∧y≤8:=by have:=Dl Q;omega
 have be:((y:Int)==0)=false:=by rw [beq_eq_false_iff_ne];omega
 have z:=Hd hok.len;obtain⟨a,ha⟩:∃a,l.length=a:=⟨_,rfl⟩;have HA:=Hd ha;have a0:a≤1048576:=by have:=hok.len;omega
 have ao:=Hd a0;clear R Q al ak ha;have HBF:=Hd h;have HVV:=Hd hv;have HOV:=Hd ho;have Y:=Hd hok;have I:=Hd (Hq hv);have M:=(Af w.heap.size w).alloc (Ae _) (.cells #[Aa Ab 0,Aa Ab 0,Aa Ac 0] 169);have HB0:=Hd M;have HM0:=Hd (h.fresh M 0);have HR0:=Hd (Bb.new w 169 #[Aa Ab 0,Aa Ab 0,Aa Ac 0]);have ag:n≤1000000:=by
  have h1:=hok.len;have h2:=Hq hv;omega
 clear h hv ho hok M;go_enter func277,ntmps277;go_wp2_with fail;go_at_call 230;refine(Gm HM0.o).mono ?_;rintro e w' ⟨rfl,rfl⟩;go_wp2_with fail;go_at_call 323;refine(pO e T _ ax.o aw.o).mono ?_;rintro x w1 ⟨g,rfl,hg,hge,hb⟩;have hA1:=(Af w1.heap.size w1).alloc (Ae _) (.cells #[Aa Ab (T:Int),.bool true,(.func (.func 354) #[] #[Aca g]),(.func (.func 355) #[] #[])] 340);have B:=Hd (show Qp b w.heap.size w1.heap.size n A vs #[Aa Ab (T:Int),.bool true,(.func (.func 354) #[] #[Aca g]),(.func (.func 355) #[] #[])] l (w1.alloc (.cells #[Aa Ab (T:Int),.bool true,(.func (.func 354) #[] #[Aca g]),(.func (.func 355) #[] #[])] 340)) (Bl (Bl o w.heap.size 0) w1.heap.size 0) by
  have P:=(HR0.o.pure hb).lt;have a4:w.heap.size≤w1.heap.size:=by omega
  refine⟨(HM0.o.pure hb).fresh hA1 0,(HR0.o.pure hb).alloc _,?_,Bb.new _ _ _,Bo (Ae _),(HVV.o.pure (A6 HB0.o hb)).pure hA1,fun ad e=>?_⟩
  ·rw [Bs P];exact Bo (Ae _)
  ·have h1:=HOV.o ad e;rw [Bs (Ar h1.1 a4),Bs h1.1];exact⟨by have:=hA1.size;omega,h1.2⟩)
 have f:=Hd (show To (fun i=>i=1) w o (w1.alloc (.cells #[Aa Ab (T:Int),.bool true,(.func (.func 354) #[] #[Aca g]),(.func (.func 355) #[] #[])] 340)) (Bl (Bl o w.heap.size 0) w1.heap.size 0) from(To.fresh _ HB0.o o 0).trans ((To.pure _ hb _).trans (To.fresh _ hA1 _ 0)));have HG:=Hd (hg.alloc (.cells #[Aa Ab (T:Int),.bool true,(.func (.func 354) #[] #[Aca g]),(.func (.func 355) #[] #[])] 340));clear hA1 hb hg hge HM0 HR0 HB0 HBF HVV HOV;go_wp2_with fail;generalize w1.alloc (.cells #[Aa Ab (T:Int),.bool true,(.func (.func 354) #[] #[Aca g]),(.func (.func 355) #[] #[])] 340)=w2 at B f HG⊢;generalize Bl (Bl o w.heap.size 0) w1.heap.size 0=o2 at B f;have F:=Hd (show w.heap.size≤w.heap.size from Ae _);obtain⟨b8,N⟩:∃b8,w.heap.size=b8:=⟨_,rfl⟩;rw [N] at B⊢;replace F:=Hd (show w.heap.size≤b8 from Nat.le_of_eq N);clear N;generalize w1.heap.size=b11 at B⊢;go_loopw [12,13] (fun u i wr=>∃k:Nat,k≤n∧u= Aa Ab 0∧i= Aa Ab k∧Below w2.heap.size w2 wr) (fun _ i _=>n-(intOf i).toNat)
 case atStart=>exact⟨0,Am _,rfl,rfl,Af _ _⟩
 case round=>
  obtain⟨k,hk,rfl,rfl,O⟩:=hrel;have G:=Hd O;have H:=Hd (B.o.pure O);clear O;by_cases P:k<n
  ·obtain⟨g1,S,v,rfl,ah,h0,h1,h2⟩:=Ha H.o.v P;have ai:=List.mem_of_getElem? ah;have L:=Hd ai;have s2:wr.cell? ⟨b11,2,none⟩=some (.func (.func 354) #[] #[Aca g]):=H.o.s.cell 2;have bk:(0:Int)≤(k:Int):=by omega
   have bl:(k:Int)<(n:Int):=by omega
   clear ah ai;go_wp2_with fail;go_region_held3 (fun w'=>w'.cell? ⟨b11,2,none⟩=some (.func (.func 354) #[] #[Aca g])∧w'.cell? ⟨g1,S+k*3,none⟩=some (Aa Ab (v.t:Int))∧w'.cell? ⟨g1,S+k*3+1,none⟩=some (Aa Ab (v.w:Int))∧w'.cell? ⟨g1,S+k*3+2,none⟩=some (Aa Ac (v.n:Int))) (first|with_reducible exact⟨s2,h0,h1,h2⟩|with_reducible exact⟨Bc s2,Bc h0,Bc h1,Bc h2⟩|with_reducible exact⟨t2,t3,t4,t5⟩) (first|(go_at_call 354;(with_reducible refine(Ry g e v _ (HG.o.pure G.o).drew (ar.o v L.o) (Y.o.legal v L.o) (Y.o.own v L.o)).mono ?_);rintro e w5 ⟨rfl,D⟩;have t2:=Ba D (Bc s2);have t3:=Ba D (Bc h0);have t4:=Ba D (Bc h1);have t5:=Ba D (Bc h2);have ap:=Hd (A6 G.o (B5 (Af _ _).drew D));clear D));clear s2 h0 h1 h2;go_wp2_with fail;go_roundw
   case rel=>exact⟨k+1,by omega,rfl,by go_num,ap.o⟩
   case measure=>simp [intOf];omega
  ·have a1:decide ((k:Int)<(n:Int))=false:=decide_eq_false (by omega);have a2:decide (k<n)=false:=decide_eq_false (by omega);have W:=G;have C:=H;clear G H B;replace f:=Hd (f.o.trans (To.pure _ W.o o2));clear W a1 a2;have s0:wr.cell? ⟨b11,0,none⟩=some (Aa Ab (T:Int)):=C.o.s.cell 0;have s1:wr.cell? ⟨b11,1,none⟩=some (.bool true):=C.o.s.cell 1;have d1:decide ((k:Int)<(n:Int))=false:=decide_eq_false (by omega);go_wp2_with fail;go_at_call 133;refine(Dt a C.o.m HA.o).mono ?_;rintro e w' ⟨rfl,rfl⟩;go_wp2_with fail;go_at_call 324;refine(uF vs a n c A _ y C.o.v ao.o ag (by rw [←HA.o];exact aa.o)).mono ?_;rintro e w4 ⟨rfl,hb⟩;have d:=Hd (C.o.pure hb);replace f:=Hd (f.o.trans (To.pure _ hb o2));clear hb s0 s1 C;have s1:w4.cell? ⟨b11,1,none⟩=some (.bool true):=d.o.s.cell 1;have V:=Hd (Di l aj.2);go_wp2_with fail;go_at_call 134;refine(Hh b y l _ o2 d.o.m E.o (by have:=z.o;omega)).mono ?_;rintro e w5 ⟨rfl,o5,K,j⟩;replace d:=Hd (d.o.to_ j K);replace f:=Hd (f.o.trans j);clear K j;clear s1;have s1:w5.cell? ⟨b11,1,none⟩=some (.bool true):=d.o.s.cell 1;have a3:IntKind.u64.wrap (n:Int)=(n:Int):=Ce _ (by omega);have au:=Hd (show Ed y n=true from decide_eq_true (.inr (by
    have h1:=ay.o;rw [I.o] at h1;exact Gk E.o (by omega) (by omega))))
   go_wp2_with fail;go_at_call 137;refine(Eh b y n (Bn y l) _ o5 d.o.m E.o au.o (by omega) (by have h1:=z.o;have h2:=V.o;omega)).mono ?_;rintro e w6 ⟨rfl,o6,K,j⟩;replace d:=Hd (d.o.to_ j K);replace f:=Hd (f.o.trans j);clear K j;clear s1 a3;obtain⟨cc,J⟩:∃cc,Bn y l++Bi y n=cc:=⟨_,rfl⟩;have aq:=Hd J;have X:=Hd (show cc.length=(Bn y l).length+y by rw [←J,Ak,B3]);rw [J] at d;obtain⟨q,hq⟩:∃q,cc.length=q:=⟨_,rfl⟩;have HQ:=Hd hq;have Z:=Hd (show q+16+9*n≤1048576 by
    have h1:=z.o;have h2:=V.o;have h3:=X.o;have h4:=I.o;omega)
   clear J hq;go_wp2_with fail;go_at_call 133;refine(Dt q d.o.m HQ.o).mono ?_;rintro e w' ⟨rfl,rfl⟩;go_wp2_with fail;go_at_call 325;refine(L8 b y n c A vs cc _ o6 d.o.m d.o.v (fun ad e=>(d.o.ov ad e).2) E.o (Nu (k:=1) (by omega) E.o az.o z.o (by rw [X.o,Nat.one_mul])) ?_ ag).mono ?_
   ·rw [I.o,HQ.o];have h1:=Z.o;have h2:n*y≤n*8:=Nat.mul_le_mul_left n aj.2;omega
   rintro e U ⟨rfl,o7,K,j⟩;replace d:=Hd (d.o.to_ j K);replace f:=Hd (f.o.trans j);clear K j;have s3:U.cell? ⟨b11,3,none⟩=some (.func (.func 355) #[] #[]):=d.o.s.cell 3;go_wp2_with fail;go_at_call 355;refine(Rz _ _ A n c _).mono ?_;rintro x w' ⟨rfl,rfl⟩;clear s3;have HX:=Hd (show Cu T true false vs l=(Cy y cc vs,⟨T,y,q⟩) by
    unfold Cu;simp [aa.o,I.o,aq.o,HQ.o])
   have bm:IntKind.u64.wrap (q:Int)=(q:Int):=Ce _ (by have:=Z.o;omega);have s0:U.cell? ⟨b11,0,none⟩=some (Aa Ab (T:Int)):=d.o.s.cell 0;have r0:U.cell? ⟨b8,0,none⟩=some (Aa Ab 0):=d.o.r.cell 0;have r1:U.cell? ⟨b8,1,none⟩=some (Aa Ab 0):=d.o.r.cell 1;have r2:U.cell? ⟨b8,2,none⟩=some (Aa Ac 0):=d.o.r.cell 2;have f0:=d.o.r.frozen 0;have f1:=d.o.r.frozen 1;have f2:=d.o.r.frozen 2;go_wp2_with (go_at_call 230;refine(Gm d.o.m).mono ?_;rintro e w' ⟨rfl,rfl⟩);have ae:=((d.o.r.set_ 0 (Aa Ab (T:Int))).set_ 1 (Aa Ab (y:Int))).set_ 2 (Aa Ac (q:Int));have ab:=Ev (p:=⟨b8,2,none⟩) (Ev (p:=⟨b8,1,none⟩) (Ev (p:=⟨b8,0,none⟩) d.o.m d.o.or_ (Aa Ab (T:Int))) d.o.or_ (Aa Ab (y:Int))) d.o.or_ (Aa Ac (q:Int));have af:=Fy (p:=⟨b8,2,none⟩) (Fy (p:=⟨b8,1,none⟩) (Fy (p:=⟨b8,0,none⟩) f.o F.o (Aa Ab (T:Int))) F.o (Aa Ab (y:Int))) F.o (Aa Ac (q:Int));clear r0 r1 r2 f0 f1 f2 s0;generalize ((U.setCell ⟨b8,0,none⟩ (Aa Ab (T:Int))).setCell ⟨b8,1,none⟩ (Aa Ab (y:Int))).setCell ⟨b8,2,none⟩ (Aa Ac (q:Int))=wF at ae ab af⊢;obtain ⟨r0,r1,r2⟩:=ae.c3;refine bodyPost_ret (v:= .tuple #[.agg #[Aa Ab (T:Int),Aa Ab (y:Int),Aa Ac (q:Int)],Aa Ab 0]) (by simp [results,results277,go_sem,r0,r1,r2]) rfl ?_;rw [HX.o];exact⟨rfl,o7,ab,af⟩
theorem xS(b e n c:Nat)(A:Option Addr)(vs:List Bv)(l:List UInt8)(w:World)(o:Nat→Nat)(h:C2 w o b l)(hv:Ef w A n (vs.map vv))(ho:∀ad,A=some ad→ad.block<w.heap.size∧o ad.block≠1)(hok:E5 vs l)(hty:Q1 e n)(hn0:0<n)(hel:∀v∈vs,v.t=e):
  Calls Ad 277 #[Aca b,Aa Ab (e:Int),Aa Ab (n:Int),.slice A n c] w (R9 w o b (Cu (vecTy e n) false false vs l)):=by
 have a9:decide ((0:Int)<(n:Int))=true:=decide_eq_true (by omega);obtain⟨T,D⟩:∃T,vecTy e n=T:=⟨_,rfl⟩;rw [D];have av:=Hd D;have aw:=Hd hty;have ar:=Hd hel;clear D hty hel;obtain⟨y,P⟩:∃y,C5 l.length 0 none vs=y:=⟨_,rfl⟩;obtain⟨O,ak,aj⟩:=Mv hok P;have Y:=Hd P;have J:=Hd O;have ax:=Hd ak;have bf:=Hd aj;have ai:1≤y∧y≤8:=by have:=Dl O;omega
 have bb:((y:Int)==0)=false:=by rw [beq_eq_false_iff_ne];omega
 have C:=Hd hok.len;obtain⟨a,ha⟩:∃a,l.length=a:=⟨_,rfl⟩;have HA:=Hd ha;have ay:a≤1048576:=by have:=hok.len;omega
 have an:=Hd ay;clear P O ak aj ha;have HBF:=Hd h;have HVV:=Hd hv;have HOV:=Hd ho;have V:=Hd hok;have X:=Hd (Hq hv);have K:=(Af w.heap.size w).alloc (Ae _) (.cells #[Aa Ab 0,Aa Ab 0,Aa Ac 0] 169);have HB0:=Hd K;have HM0:=Hd (h.fresh K 0);have HR0:=Hd (Bb.new w 169 #[Aa Ab 0,Aa Ab 0,Aa Ac 0]);have af:n≤1000000:=by
  have h1:=hok.len;have h2:=Hq hv;omega
 clear h hv ho hok K;go_enter func277,ntmps277;go_wp2_with fail;go_at_call 230;refine(Gm HM0.o).mono ?_;rintro e w' ⟨rfl,rfl⟩;go_wp2_with fail;go_at_call 323;refine(pP e n T _ aw.o hn0 av.o).mono ?_;rintro x w1 ⟨g,rfl,hg,hge,hb⟩;have hA1:=(Af w1.heap.size w1).alloc (Ae _) (.cells #[Aa Ab (T:Int),.bool false,(.func (.func 354) #[] #[Aca g]),(.func (.func 355) #[] #[])] 340);have j:=Hd (show Qp b w.heap.size w1.heap.size n A vs #[Aa Ab (T:Int),.bool false,(.func (.func 354) #[] #[Aca g]),(.func (.func 355) #[] #[])] l (w1.alloc (.cells #[Aa Ab (T:Int),.bool false,(.func (.func 354) #[] #[Aca g]),(.func (.func 355) #[] #[])] 340)) (Bl (Bl o w.heap.size 0) w1.heap.size 0) by
  have N:=(HR0.o.pure hb).lt;have a1:w.heap.size≤w1.heap.size:=by omega
  refine⟨(HM0.o.pure hb).fresh hA1 0,(HR0.o.pure hb).alloc _,?_,Bb.new _ _ _,Bo (Ae _),(HVV.o.pure (A6 HB0.o hb)).pure hA1,fun ad e=>?_⟩
  ·rw [Bs N];exact Bo (Ae _)
  ·have h1:=HOV.o ad e;rw [Bs (Ar h1.1 a1),Bs h1.1];exact⟨by have:=hA1.size;omega,h1.2⟩)
 have f:=Hd (show To (fun i=>i=1) w o (w1.alloc (.cells #[Aa Ab (T:Int),.bool false,(.func (.func 354) #[] #[Aca g]),(.func (.func 355) #[] #[])] 340)) (Bl (Bl o w.heap.size 0) w1.heap.size 0) from(To.fresh _ HB0.o o 0).trans ((To.pure _ hb _).trans (To.fresh _ hA1 _ 0)));have HG:=Hd (hg.alloc (.cells #[Aa Ab (T:Int),.bool false,(.func (.func 354) #[] #[Aca g]),(.func (.func 355) #[] #[])] 340));clear hA1 hb hg hge HM0 HR0 HB0 HBF HVV HOV;go_wp2_with fail;generalize w1.alloc (.cells #[Aa Ab (T:Int),.bool false,(.func (.func 354) #[] #[Aca g]),(.func (.func 355) #[] #[])] 340)=w2 at j f HG⊢;generalize Bl (Bl o w.heap.size 0) w1.heap.size 0=o2 at j f;have E:=Hd (show w.heap.size≤w.heap.size from Ae _);obtain⟨b8,L⟩:∃b8,w.heap.size=b8:=⟨_,rfl⟩;rw [L] at j⊢;replace E:=Hd (show w.heap.size≤b8 from Nat.le_of_eq L);clear L;generalize w1.heap.size=b11 at j⊢;go_loopw [12,13] (fun u i wr=>∃k:Nat,k≤n∧u= Aa Ab 0∧i= Aa Ab k∧Below w2.heap.size w2 wr) (fun _ i _=>n-(intOf i).toNat)
 case atStart=>exact⟨0,Am _,rfl,rfl,Af _ _⟩
 case round=>
  obtain⟨k,hk,rfl,rfl,M⟩:=hrel;have F:=Hd M;have G:=Hd (j.o.pure M);clear M;by_cases N:k<n
  ·obtain⟨g1,Q,v,rfl,ag,h0,h1,h2⟩:=Ha G.o.v N;have ah:=List.mem_of_getElem? ag;have I:=Hd ah;have s2:wr.cell? ⟨b11,2,none⟩=some (.func (.func 354) #[] #[Aca g]):=G.o.s.cell 2;have bj:(0:Int)≤(k:Int):=by omega
   have bk:(k:Int)<(n:Int):=by omega
   clear ag ah;go_wp2_with fail;go_region_held3 (fun w'=>w'.cell? ⟨b11,2,none⟩=some (.func (.func 354) #[] #[Aca g])∧w'.cell? ⟨g1,Q+k*3,none⟩=some (Aa Ab (v.t:Int))∧w'.cell? ⟨g1,Q+k*3+1,none⟩=some (Aa Ab (v.w:Int))∧w'.cell? ⟨g1,Q+k*3+2,none⟩=some (Aa Ac (v.n:Int))) (first|with_reducible exact⟨s2,h0,h1,h2⟩|with_reducible exact⟨Bc s2,Bc h0,Bc h1,Bc h2⟩|with_reducible exact⟨t2,t3,t4,t5⟩) (first|(go_at_call 354;(with_reducible refine(Ry g e v _ (HG.o.pure F.o).drew (ar.o v I.o) (V.o.legal v I.o) (V.o.own v I.o)).mono ?_);rintro e w5 ⟨rfl,B⟩;have t2:=Ba B (Bc s2);have t3:=Ba B (Bc h0);have t4:=Ba B (Bc h1);have t5:=Ba B (Bc h2);have ap:=Hd (A6 F.o (B5 (Af _ _).drew B));clear B));clear s2 h0 h1 h2;go_wp2_with fail;go_roundw
   case rel=>exact⟨k+1,by omega,rfl,by go_num,ap.o⟩
   case measure=>simp [intOf];omega
  ·have az:decide ((k:Int)<(n:Int))=false:=decide_eq_false (by omega);have a0:decide (k<n)=false:=decide_eq_false (by omega);have S:=F;have z:=G;clear F G j;replace f:=Hd (f.o.trans (To.pure _ S.o o2));clear S az a0;have s0:wr.cell? ⟨b11,0,none⟩=some (Aa Ab (T:Int)):=z.o.s.cell 0;have s1:wr.cell? ⟨b11,1,none⟩=some (.bool false):=z.o.s.cell 1;have d1:decide ((k:Int)<(n:Int))=false:=decide_eq_false (by omega);go_wp2_with fail;go_at_call 133;refine(Dt a z.o.m HA.o).mono ?_;rintro e w' ⟨rfl,rfl⟩;go_wp2_with fail;go_at_call 324;refine(Aau vs a n c A _ y z.o.v an.o af (by rw [←HA.o];exact Y.o)).mono ?_;rintro e w4 ⟨rfl,hb⟩;have d:=Hd (z.o.pure hb);replace f:=Hd (f.o.trans (To.pure _ hb o2));clear hb s0 s1 z;have s1:w4.cell? ⟨b11,1,none⟩=some (.bool false):=d.o.s.cell 1;have ao:=Hd (Di l ai.2);go_wp2_with fail;go_at_call 134;refine(Hh b y l _ o2 d.o.m J.o (by have:=C.o;omega)).mono ?_;rintro e w5 ⟨rfl,o5,Z,D⟩;replace d:=Hd (d.o.to_ D Z);replace f:=Hd (f.o.trans D);clear Z D;clear s1;have s1:w5.cell? ⟨b11,1,none⟩=some (.bool false):=d.o.s.cell 1;obtain⟨cc,H⟩:∃cc,Bn y l=cc:=⟨_,rfl⟩;have aq:=Hd H;have U:=Hd (show cc.length=(Bn y l).length by rw [←H]);rw [H] at d;obtain⟨q,hq⟩:∃q,cc.length=q:=⟨_,rfl⟩;have HQ:=Hd hq;have W:=Hd (show q+16+9*n≤1048576 by
    have h1:=C.o;have h2:=ao.o;have h3:=U.o;have h4:=X.o;omega)
   clear H hq;go_wp2_with fail;go_at_call 133;refine(Dt q d.o.m HQ.o).mono ?_;rintro e w' ⟨rfl,rfl⟩;go_wp2_with fail;go_at_call 325;refine(L8 b y n c A vs cc _ o5 d.o.m d.o.v (fun ad e=>(d.o.ov ad e).2) J.o (Nu (k:=0) (by omega) J.o ax.o C.o (by rw [U.o,Nat.zero_mul,Nat.add_zero])) ?_ af).mono ?_
   ·rw [X.o,HQ.o];have h1:=W.o;have h2:n*y≤n*8:=Nat.mul_le_mul_left n ai.2;omega
   rintro e R ⟨rfl,o7,Z,D⟩;replace d:=Hd (d.o.to_ D Z);replace f:=Hd (f.o.trans D);clear Z D;have s3:R.cell? ⟨b11,3,none⟩=some (.func (.func 355) #[] #[]):=d.o.s.cell 3;go_wp2_with fail;go_at_call 355;refine(Rz _ _ A n c _).mono ?_;rintro x w' ⟨rfl,rfl⟩;clear s3;have HX:=Hd (show Cu T false false vs l=(Cy y cc vs,⟨T,y,q⟩) by
    unfold Cu;simp [Y.o,aq.o,HQ.o])
   have bl:IntKind.u64.wrap (q:Int)=(q:Int):=Ce _ (by have:=W.o;omega);have s0:R.cell? ⟨b11,0,none⟩=some (Aa Ab (T:Int)):=d.o.s.cell 0;have r0:R.cell? ⟨b8,0,none⟩=some (Aa Ab 0):=d.o.r.cell 0;have r1:R.cell? ⟨b8,1,none⟩=some (Aa Ab 0):=d.o.r.cell 1;have r2:R.cell? ⟨b8,2,none⟩=some (Aa Ac 0):=d.o.r.cell 2;have f0:=d.o.r.frozen 0;have f1:=d.o.r.frozen 1;have f2:=d.o.r.frozen 2;go_wp2_with (go_at_call 230;refine(Gm d.o.m).mono ?_;rintro e w' ⟨rfl,rfl⟩);have ab:=((d.o.r.set_ 0 (Aa Ab (T:Int))).set_ 1 (Aa Ab (y:Int))).set_ 2 (Aa Ac (q:Int));have aa:=Ev (p:=⟨b8,2,none⟩) (Ev (p:=⟨b8,1,none⟩) (Ev (p:=⟨b8,0,none⟩) d.o.m d.o.or_ (Aa Ab (T:Int))) d.o.or_ (Aa Ab (y:Int))) d.o.or_ (Aa Ac (q:Int));have ae:=Fy (p:=⟨b8,2,none⟩) (Fy (p:=⟨b8,1,none⟩) (Fy (p:=⟨b8,0,none⟩) f.o E.o (Aa Ab (T:Int))) E.o (Aa Ab (y:Int))) E.o (Aa Ac (q:Int));clear r0 r1 r2 f0 f1 f2 s0;generalize ((R.setCell ⟨b8,0,none⟩ (Aa Ab (T:Int))).setCell ⟨b8,1,none⟩ (Aa Ab (y:Int))).setCell ⟨b8,2,none⟩ (Aa Ac (q:Int))=wF at ab aa ae⊢;obtain ⟨r0,r1,r2⟩:=ab.c3;refine bodyPost_ret (v:= .tuple #[.agg #[Aa Ab (T:Int),Aa Ab (y:Int),Aa Ac (q:Int)],Aa Ab 0]) (by simp [results,results277,go_sem,r0,r1,r2]) rfl ?_;rw [HX.o];exact⟨rfl,o7,aa,ae⟩
structure No(b b6 b4 n:Nat)(A:Option Addr)(vs:List Bv)(kv:Bv)(l:List UInt8)(w:World)(o:Nat→Nat):Prop where
 m:C2 w o b l
 r:Bb w b6 169 #[Aa Ab 0,Aa Ab 0,Aa Ac 0]
 or_:o b6=0
 k:Bb w b4 169 #[Aa Ab (kv.t:Int),Aa Ab (kv.w:Int),Aa Ac (kv.n:Int)]
 ok_:o b4=0
 v:Ef w A n (vs.map vv)
 ov:∀ad,A=some ad→ad.block<w.heap.size∧o ad.block≠1
section
variable {b b6 b4 n:Nat} {A:Option Addr} {vs:List Bv} {kv:Bv} {l l':List UInt8} {w w':World} {o o':Nat→Nat}
theorem No.to_(h:No b b6 b4 n A vs kv l w o)(ht:To (fun i=>i=1) w o w' o')(hb:C2 w' o' b l'):No b b6 b4 n A vs kv l' w' o':=
 ⟨hb,h.r.to_ ht (by rw [h.or_];omega),by rw [ht.ow _ h.r.lt];exact h.or_,h.k.to_ ht (by rw [h.ok_];omega),by rw [ht.ow _ h.k.lt];exact h.ok_,
  h.v.fr ht.fr (fun ad e=>(h.ov ad e).2),fun ad e=>⟨Ar (h.ov ad e).1 ht.size,by rw [ht.ow _ (h.ov ad e).1];exact(h.ov ad e).2⟩⟩
theorem No.pure(h:No b b6 b4 n A vs kv l w o)(hb:Below w.heap.size w w'):No b b6 b4 n A vs kv l w' o:=h.to_ (To.pure _ hb o) (h.m.pure hb)
theorem No.fresh(h:No b b6 b4 n A vs kv l w o)(hb:Below w.heap.size w w'):No b b6 b4 n A vs kv l w' (Bl o w.heap.size 0):=h.to_ (To.fresh _ hb o 0) (h.m.fresh hb 0)
theorem No.kc(h:No b b6 b4 n A vs kv l w o):w.cell? ⟨b4,0,none⟩=some (Aa Ab (kv.t:Int))∧w.cell? ⟨b4,1,none⟩=some (Aa Ab (kv.w:Int))∧w.cell? ⟨b4,2,none⟩=some (Aa Ac (kv.n:Int)):=⟨h.k.cell 0,h.k.cell 1,h.k.cell 2⟩
end
theorem Aav(kv:Bv)(vs:List Bv)(a n c:Nat)(A:Option Addr)(w:World)(r:Nat)(hv:Ef w A n (vs.map vv))(ha:a≤1048576)(hn:n≤1000000)(hr:C5 a 3 (some kv) vs=r):
  Calls Ad 324 #[Aa Ab (a:Int),Aa Ab 3,.agg #[Aa Ab (kv.t:Int),Aa Ab (kv.w:Int),Aa Ac (kv.n:Int)],.slice A n c] w (Ab5 (Aa Ab (r:Int)) w):=by
 have h:=Te kv vs a 3 n c A w hv ha hn (.inr (.inr rfl));rw [show Jw 3 kv=some kv from rfl,hr] at h;exact h
theorem kF{vs:List Bv}{kv:Bv}{l:List UInt8}{y:Nat}(hok:E5 vs l)(hkf:E7 l.length kv)(hk:inl kv.t=false)(hy:C5 l.length 3 (some kv) vs=y):
  Br (y:Int)=true∧D7 l.length y 3 vs=true∧bWidth vs.length≤y∧kv.n≤(Bn y l).length∧(Bn y l).length-kv.n<2^(8*y):=by
 have h1:=Mj (a:=l.length) (ahead:=3) (k:=some kv) (vs:=vs) (fun x h=>by injection h with h;subst h;exact hkf) hok.fit;obtain⟨h2,c,h3⟩:=X9 (a:=l.length) (ahead:=3) (k:=some kv) (vs:=vs) (fun x h=>by injection h with h;subst h;exact hkf) hok.fit;rw [hy] at h1 h2 h3 c;obtain⟨m,e⟩:=Tl hk (c kv rfl);obtain⟨f,g,i⟩:=Q3 h1 l;have b:y≤8:=by have:=Dl h1;omega
 have j:=Di l b;have d:=hok.len;rw [Nat.zero_mul,Nat.add_zero,←f] at e;exact⟨h1,h3,h2.resolve_left (by omega),by omega,Gk h1 (by omega) e⟩
theorem Yk(b n c:Nat)(A:Option Addr)(vs:List Bv)(kv:Bv)(l:List UInt8)(w:World)(o:Nat→Nat)(h:C2 w o b l)(hv:Ef w A n (vs.map vv))(ho:∀ad,A=some ad→ad.block<w.heap.size∧o ad.block≠1)(hok:E5 vs l)
  (hkt:kv.t=14) (hkw:Br (kv.w:Int)=true) (hkf:E7 l.length kv):
  Calls Ad 289 #[Aca b,.agg #[Aa Ab (kv.t:Int),Aa Ab (kv.w:Int),Aa Ac (kv.n:Int)],.slice A n c] w (R9 w o b (Gh kv vs l)):=by
 have ag:inl kv.t=false:=by rw [hkt];decide
 obtain⟨y,ak⟩:∃y,C5 l.length 3 (some kv) vs=y:=⟨_,rfl⟩;obtain⟨aj,a8,a7,a1,a2⟩:=kF hok hkf ag ak;have av:=Hd ak;have G:=Hd aj;have br:=Hd a8;have bq:=Hd a7;have ap:=Hd (And.intro a1 a2);have bk:=Hd ag;have bl:=Hd hkt;have W:=Hd hkw;have ai:1≤y∧y≤8:=by have:=Dl aj;omega
 have ca:((y:Int)==0)=false:=by rw [beq_eq_false_iff_ne];omega
 have E:=Hd hok.len;obtain⟨a,ha⟩:∃a,l.length=a:=⟨_,rfl⟩;have HA:=Hd ha;have bu:a≤1048576:=by have:=hok.len;omega
 have bb:=Hd bu;have X:=Hd hok;have I:=Hd (Hq hv);have a4:n≤1000000:=by
  have h1:=hok.len;have h2:=Hq hv;omega
 have P:=Bq w (.cells #[Aa Ab (kv.t:Int),Aa Ab (kv.w:Int),Aa Ac (kv.n:Int)] 169) (.cells #[Aa Ab 0,Aa Ab 0,Aa Ac 0] 169);have D:=Hd (show No b (w.heap.size+1) w.heap.size n A vs kv l ((w.alloc (.cells #[Aa Ab (kv.t:Int),Aa Ab (kv.w:Int),Aa Ac (kv.n:Int)] 169)).alloc (.cells #[Aa Ab 0,Aa Ab 0,Aa Ac 0] 169)) (Bl o w.heap.size 0) from
  ⟨h.fresh P 0,Cv w _ _ _,Bo (by omega),(Bb.new w 169 #[Aa Ab (kv.t:Int),Aa Ab (kv.w:Int),Aa Ac (kv.n:Int)]).alloc _,Bo (Ae _),hv.pure P,fun ad e=>by
   have h1:=ho ad e;exact⟨by have:=P.size;omega,by rw [Bs h1.1];exact h1.2⟩⟩)
 have s:=Hd (To.fresh (fun i=>i=1) P o 0);clear ak aj a8 a7 ha h hv ho hok P ag hkt hkw hkf a1 a2;go_enter func289,ntmps289;go_wp2_with fail;go_at_call 230;have V:=Hd (show w.heap.size≤w.heap.size+1 by omega);generalize (w.alloc (.cells #[Aa Ab (kv.t:Int),Aa Ab (kv.w:Int),Aa Ac (kv.n:Int)] 169)).alloc (.cells #[Aa Ab 0,Aa Ab 0,Aa Ac 0] 169)=w1 at D s⊢;generalize Bl o w.heap.size 0=o1 at D s;generalize w.heap.size+1=b6 at D V⊢;generalize bv:w.heap.size=b4 at D⊢;have ci:=Hd (show w.heap.size≤b4 by omega);clear bv;refine(Gm D.o.m).mono ?_;rintro e w' ⟨rfl,rfl⟩;obtain⟨R,S,T⟩:=D.o.kc;go_wp2_with fail;go_at_call 330;refine(eO kv n c A vs _ D.o.v a4 bl.o W.o (fun v hm=>⟨X.o.legal v hm,X.o.own v hm⟩)).mono ?_;rintro e w2 ⟨rfl,hb⟩;replace D:=Hd (D.o.pure hb);replace s:=Hd (s.o.trans (To.pure _ hb o1));clear hb R S T;obtain⟨R,S,T⟩:=D.o.kc;go_wp2_with fail;go_region_held3 (fun w'=>w'.cell? ⟨b4,0,none⟩=some (Aa Ab (kv.t:Int))∧w'.cell? ⟨b4,1,none⟩=some (Aa Ab (kv.w:Int))∧w'.cell? ⟨b4,2,none⟩=some (Aa Ac (kv.n:Int))) (first|with_reducible exact⟨R,S,T⟩|with_reducible exact⟨Bc R,Bc S,Bc T⟩|with_reducible exact⟨t0,t1,t2⟩) (first|(go_at_call 133;(with_reducible refine(Dt a (D.o.pure (Af _ _).drew).m HA.o).mono ?_);rintro e w' ⟨rfl,rfl⟩)|(go_at_call 324;(with_reducible refine(Aav kv vs a n c A _ y (D.o.pure (Af _ _).drew).v bb.o a4 (by rw [←HA.o];exact av.o)).mono ?_);rintro e w3 ⟨rfl,hb⟩;have M:=B5 (Af _ _).drew hb;have aq:=Hd (D.o.pure M);have t0:=Ba M R;have t1:=Ba M S;have t2:=Ba M T;have ar:=Hd (s.o.trans (To.pure _ M o1));clear hb M));clear R S T;replace s:=ar;clear ar D;have U:=Hd (Di l ai.2);have af:=(Af w3.heap.size w3).alloc (Ae _) (.cells #[Aca b,Aa Ab (y:Int)] 350);have d:=Hd (aq.o.fresh af);have f:=Hd (Bb.new w3 350 #[Aca b,Aa Ab (y:Int)]);have x:=Hd (show Bl o1 w3.heap.size 0 w3.heap.size=0 from Bo (Ae _));replace s:=Hd (s.o.trans (To.fresh _ af o1 0));clear af aq t0 t1 t2;go_wp2_with fail;go_at_call 134;generalize w3.alloc (.cells #[Aca b,Aa Ab (y:Int)] 350)=w4 at d f s⊢;generalize Bl o1 w3.heap.size 0=o2 at d x s;generalize w3.heap.size=g at f x⊢;refine(Hh b y l _ o2 d.o.m G.o (by have:=E.o;omega)).mono ?_;rintro e w5 ⟨rfl,o5,H,B⟩;have C:=f.o.lt;replace f:=Hd (f.o.to_ B (by rw [x.o];omega));replace x:=Hd (show o5 g=0 by rw [B.ow _ C];exact x.o);replace d:=Hd (d.o.to_ B H);replace s:=Hd (s.o.trans B);clear H B C;obtain⟨R,S,T⟩:=d.o.kc;obtain ⟨N,Z⟩:=f.o.c2;go_wp2_with fail;go_at_call 331;refine(Rg b y kv (Bn y l) _ o5 d.o.m G.o (fun _=>ap.o) (by have h1:=E.o;have h2:=U.o;omega)).mono ?_;rintro e w6 ⟨rfl,o6,H,B⟩;have C:=f.o.lt;replace f:=Hd (f.o.to_ B (by rw [x.o];omega));replace x:=Hd (show o6 g=0 by rw [B.ow _ C];exact x.o);replace d:=Hd (d.o.to_ B H);replace s:=Hd (s.o.trans B);clear H B C;clear R S T N Z;obtain⟨R,S,T⟩:=d.o.kc;obtain ⟨N,Z⟩:=f.o.c2;have ah:IntKind.u64.wrap (kv.w:Int)=(kv.w:Int):=Ce _ (by have:=Dl W.o;omega);have bm:=Hd (show Ed y kv.w=true from decide_eq_true (.inr (by
  have h1:=Dl W.o;have h2:2^(8*1)≤2^(8*y):=Nat.pow_le_pow_right (by omega) (by omega);omega)))
 have bi:=Hd (show(kv.w:Int)<18446744073709551616 by have:=Dl W.o;omega);have bj:=Hd (show Dc y (Bn y l).length kv=(Bn y l).length-kv.n by unfold Dc;rw [if_neg (by rw [bk.o];decide)]);rw [bj.o] at d;go_wp2_with fail;go_at_call 137;refine(Eh b y kv.w _ _ o6 d.o.m G.o bm.o bi.o (by have h1:=E.o;have h2:=U.o;rw [Ak,B3];omega)).mono ?_;rintro e w7 ⟨rfl,o7,H,B⟩;have C:=f.o.lt;replace f:=Hd (f.o.to_ B (by rw [x.o];omega));replace x:=Hd (show o7 g=0 by rw [B.ow _ C];exact x.o);replace d:=Hd (d.o.to_ B H);replace s:=Hd (s.o.trans B);clear H B C;clear R S T N Z ah;obtain ⟨N,Z⟩:=f.o.c2;have b0:IntKind.u64.wrap (n:Int)=(n:Int):=Ce _ (by omega);have bn:=Hd (show Ed y n=true from decide_eq_true (.inr (by
  have h1:=bq.o;rw [I.o] at h1;exact Gk G.o (by omega) h1)))
 go_wp2_with fail;go_at_call 137;refine(Eh b y n _ _ o7 d.o.m G.o bn.o (by omega) (by have h1:=E.o;have h2:=U.o;rw [Ak,Ak,B3,B3];omega)).mono ?_;rintro e w8 ⟨rfl,o8,H,B⟩;have C:=f.o.lt;replace f:=Hd (f.o.to_ B (by rw [x.o];omega));replace x:=Hd (show o8 g=0 by rw [B.ow _ C];exact x.o);replace d:=Hd (d.o.to_ B H);replace s:=Hd (s.o.trans B);clear H B C;clear N Z b0;obtain⟨cc,Y⟩:∃cc,Bn y l++Bi y ((Bn y l).length-kv.n)++Bi y kv.w++Bi y n=cc:=⟨_,rfl⟩;have bd:=Hd Y;have an:=Hd (show cc.length=(Bn y l).length+3*y by rw [←Y];simp only [Ak,B3];omega);rw [Y] at d;obtain⟨q,hq⟩:∃q,cc.length=q:=⟨_,rfl⟩;have HQ:=Hd hq;have ae:=Hd (show q+9*n≤1048576 by
  have h1:=E.o;have h2:=U.o;have h3:=an.o;have h4:=I.o;omega)
 have bg:=Hd (Nu (k:=3) (by omega) G.o br.o E.o (c:=cc) an.o);have N:w8.cell? ⟨g,0,none⟩=some (Aca b):=f.o.cell 0;clear Y hq;go_wp2_with fail;go_at_call 133;refine(Dt q d.o.m HQ.o).mono ?_;rintro e w' ⟨rfl,rfl⟩;clear N;go_wp2_with fail;go_loopw [68] (fun u wr=>∃k:Nat,k≤n∧u= Aa Ab k∧∃o',No b b6 b4 n A vs kv (Cy y cc (vs.take k)) wr o'∧Bb wr g 350 #[Aca b,Aa Ab (y:Int)]∧o' g=0∧To (fun i=>i=1) w o wr o') (fun u _=>n-(intOf u).toNat)
 case atStart=>exact⟨0,Am _,rfl,o8,by rw [List.take_zero];exact d.o,f.o,x.o,s.o⟩
 case round=>
  obtain⟨k,hk,rfl,o',hs,hw,Q,ht⟩:=hrel;have z:=Hd hs;have F:=Hd hw;have O:=Hd Q;have L:=Hd ht;clear hs hw Q ht d f x s;by_cases a3:k<n
  ·obtain⟨g1,b1,v,hA,K,h0,h1,h2⟩:=Ha z.o.v a3;subst hA;have HT:=Hd (Oc y vs k v cc K);have ab:=Hd (show(Cy y cc (vs.take k)).length=cc.length+k*y by rw [Lk,Au,I.o,Nat.min_eq_left (by omega)]);have bh:=Hd (show inl v.t=false→v.n≤(Cy y cc (vs.take k)).length∧(Cy y cc (vs.take k)).length-v.n<2^(8*y) by rw [ab.o];exact bg.o k v K);have ao:=Hd (show(Cy y cc (vs.take k)).length+y≤1048576 by
    rw [ab.o,HQ.o];have h3:=ae.o;have h4:(k+1)*y≤n*8:=Nat.mul_le_mul (by omega) ai.2;rw [Nat.succ_mul] at h4;omega)
   have bx:(0:Int)≤(k:Int):=by omega
   have bz:(k:Int)<(n:Int):=by omega
   have J:=(Af wr.heap.size wr).alloc (Ae _) (.cells #[Aa Ab (v.t:Int),Aa Ab (v.w:Int),Aa Ac (v.n:Int)] 169);have d:=Hd (z.o.fresh J);have f:=Hd (F.o.alloc (.cells #[Aa Ab (v.t:Int),Aa Ab (v.w:Int),Aa Ac (v.n:Int)] 169));have x:=Hd (show Bl o' wr.heap.size 0 g=0 by rw [Bs F.o.lt];exact O.o);have s:=Hd (L.o.trans (To.fresh _ J o' 0));obtain ⟨N,Z⟩:=f.o.c2;clear K J;go_wp2_with fail;go_at_call 331;refine(Rg b y v (Cy y cc (vs.take k)) _ _ d.o.m G.o bh.o ao.o).mono ?_;rintro e w9 ⟨rfl,o9,H,B⟩;have C:=f.o.lt;replace f:=Hd (f.o.to_ B (by rw [x.o];omega));replace x:=Hd (show o9 g=0 by rw [B.ow _ C];exact x.o);replace d:=Hd (d.o.to_ B H);replace s:=Hd (s.o.trans B);clear H B C;rw [ab.o,←HT.o] at d;clear N Z h0 h1 h2;go_wp2_with fail;go_roundw
   case rel=>exact⟨k+1,by omega,by go_num,o9,d.o,f.o,x.o,s.o⟩
   case measure=>simp [intOf];omega
  ·have az:decide ((k:Int)<(n:Int))=false:=decide_eq_false (by omega);have a0:decide (k<n)=false:=decide_eq_false (by omega);have be:=Hd (show vs.take k=vs from Aw (by have:=I.o;omega));rw [be.o] at z;go_wp2_with fail;go_loopw [78] (fun u wr=>∃j:Nat,j≤n∧u= Aa Ab j∧∃o',No b b6 b4 n A vs kv (Cy y cc vs++(vs.take j).map (D2 y)) wr o'∧Bb wr g 350 #[Aca b,Aa Ab (y:Int)]∧o' g=0∧To (fun i=>i=1) w o wr o') (fun u _=>n-(intOf u).toNat)
   case atStart=>exact⟨0,Am _,rfl,o',by rw [List.take_zero,List.map_nil,List.append_nil];exact z.o,F.o,O.o,L.o⟩
   case round=>
    clear z F O L az a0 a3;obtain⟨j,hj,rfl,o5,hs,hw,Q,ht⟩:=hrel;have z:=Hd hs;have F:=Hd hw;have O:=Hd Q;have L:=Hd ht;clear hs hw Q ht;by_cases bw:j<n
    ·obtain⟨g1,b1,v,hA,K,h0,h1,h2⟩:=Ha z.o.v bw;subst hA;have bp:=Hd (show Cy y cc vs++(vs.take (j+1)).map (D2 y)=(Cy y cc vs++(vs.take j).map (D2 y))++ [D2 y v] by
      obtain⟨q1,q2⟩:=List.getElem?_eq_some_iff.1 K;rw [List.take_succ_eq_append_getElem q1,q2,List.map_append,←Ax];rfl)
     have au:=Hd (List.mem_of_getElem? K);have bo:=Hd (show(Cy y cc vs++(vs.take j).map (D2 y)).length+1≤1048576 by
      rw [Ak,List.length_map,Au,Lk,I.o,HQ.o];have h3:=ae.o;have h4:n*y≤n*8:=Nat.mul_le_mul_left n ai.2;omega)
     have bx:(0:Int)≤(j:Int):=by omega
     have bz:(j:Int)<(n:Int):=by omega
     have J:=(Af wr.heap.size wr).alloc (Ae _) (.cells #[Aa Ab (v.t:Int),Aa Ab (v.w:Int),Aa Ac (v.n:Int)] 169);have d:=Hd (z.o.fresh J);have f:=Hd (F.o.alloc (.cells #[Aa Ab (v.t:Int),Aa Ab (v.w:Int),Aa Ac (v.n:Int)] 169));have x:=Hd (show Bl o5 wr.heap.size 0 g=0 by rw [Bs F.o.lt];exact O.o);have s:=Hd (L.o.trans (To.fresh _ J o5 0));obtain ⟨N,Z⟩:=f.o.c2;clear K J;go_wp2_with fail;go_at_call 332;refine(oO b y v _ _ _ d.o.m G.o (X.o.legal v au.o) (X.o.own v au.o) bo.o).mono ?_;rintro e w9 ⟨rfl,o9,H,B⟩;have C:=f.o.lt;replace f:=Hd (f.o.to_ B (by rw [x.o];omega));replace x:=Hd (show o9 g=0 by rw [B.ow _ C];exact x.o);replace d:=Hd (d.o.to_ B H);replace s:=Hd (s.o.trans B);clear H B C;rw [←bp.o] at d;clear N Z h0 h1 h2;go_wp2_with fail;go_roundw
     case rel=>exact⟨j+1,by omega,by go_num,o9,d.o,f.o,x.o,s.o⟩
     case measure=>simp [intOf];omega
    ·have az:decide ((j:Int)<(n:Int))=false:=decide_eq_false (by omega);have a0:decide (j<n)=false:=decide_eq_false (by omega);have bf:=Hd (show vs.take j=vs from Aw (by have:=I.o;omega));rw [bf.o] at z;have HX:=Hd (show Gh kv vs l=(Cy y cc vs++vs.map (D2 y),⟨9,y,q⟩) by
      unfold Gh;simp only [av.o,I.o,bd.o,HQ.o])
     have cp:IntKind.u64.wrap (q:Int)=(q:Int):=Ce _ (by have:=ae.o;omega);have N:wr.cell? ⟨g,0,none⟩=some (Aca b):=F.o.cell 0;have r0:wr.cell? ⟨b6,0,none⟩=some (Aa Ab 0):=z.o.r.cell 0;have r1:wr.cell? ⟨b6,1,none⟩=some (Aa Ab 0):=z.o.r.cell 1;have r2:wr.cell? ⟨b6,2,none⟩=some (Aa Ac 0):=z.o.r.cell 2;have f0:=z.o.r.frozen 0;have f1:=z.o.r.frozen 1;have f2:=z.o.r.frozen 2;go_wp2_with (go_at_call 230;refine(Gm z.o.m).mono ?_;rintro e w' ⟨rfl,rfl⟩);have ax:=((z.o.r.set_ 0 (Aa Ab 9)).set_ 1 (Aa Ab (y:Int))).set_ 2 (Aa Ac (q:Int));have aw:=Ev (p:=⟨b6,2,none⟩) (Ev (p:=⟨b6,1,none⟩) (Ev (p:=⟨b6,0,none⟩) z.o.m z.o.or_ (Aa Ab 9)) z.o.or_ (Aa Ab (y:Int))) z.o.or_ (Aa Ac (q:Int));have ay:=Fy (p:=⟨b6,2,none⟩) (Fy (p:=⟨b6,1,none⟩) (Fy (p:=⟨b6,0,none⟩) L.o V.o (Aa Ab 9)) V.o (Aa Ab (y:Int))) V.o (Aa Ac (q:Int));clear r0 r1 r2 f0 f1 f2 N;generalize ((wr.setCell ⟨b6,0,none⟩ (Aa Ab 9)).setCell ⟨b6,1,none⟩ (Aa Ab (y:Int))).setCell ⟨b6,2,none⟩ (Aa Ac (q:Int))=wF at ax aw ay⊢;obtain ⟨r0,r1,r2⟩:=ax.c3;refine bodyPost_ret (v:= .tuple #[.agg #[Aa Ab 9,Aa Ab (y:Int),Aa Ac (q:Int)],Aa Ab 0]) (by simp [results,results289,go_sem,r0,r1,r2]) rfl ?_;rw [HX.o];exact⟨rfl,o5,aw,ay⟩
theorem Vq(b n c:Nat)(A:Option Addr)(vs:List Bv)(l:List UInt8)(w:World)(o:Nat→Nat)(h:C2 w o b l)(hv:Ef w A n (vs.map vv))(ho:∀ad,A=some ad→ad.block<w.heap.size∧o ad.block≠1)(hok:E5 vs l)(hel:∀v∈vs,v.t=4):
  Calls Ad 287 #[Aca b,.slice A n c] w (R9 w o b (Cu 14 true false vs l)):=by
 have a:=(Af w.heap.size w).alloc (Ae _) (.cells #[Aa Ab 0,Aa Ab 0,Aa Ac 0] 169);have u:=Hd (xR b 4 n c A vs l _ _ (h.fresh a 0) (hv.pure a) (fun ad e=>⟨by have h1:=(ho ad e).1;have h2:=a.size;omega,by rw [Bs (ho ad e).1];exact(ho ad e).2⟩) hok (.inl ⟨rfl,.inr (.inr (.inl rfl))⟩) hel);have j:=Hd (Bb.new w 169 #[Aa Ab 0,Aa Ab 0,Aa Ac 0]);have m:=Hd (To.fresh (fun i=>i=1) a o 0);have f:=Hd (show Bl o w.heap.size 0 w.heap.size=0 from Bo (Ae _));obtain⟨x,D⟩:∃x,Cu (vecTy 4 0) true false vs l=x:=⟨_,rfl⟩;have C:=Hd (show Cu 14 true false vs l=x from D);rw [D] at u;obtain⟨N,t',y',q'⟩:=x;clear a h hv ho hok hel D;go_enter func287,ntmps287;go_wp2_with fail;go_at_call 277;generalize w.alloc (.cells #[Aa Ab 0,Aa Ab 0,Aa Ac 0] 169)=w1 at u j m⊢;generalize Bl o w.heap.size 0=o1 at u m f;have d:=Hd (show w.heap.size≤w.heap.size from Ae _);refine u.o.mono ?_;rintro e M ⟨rfl,I,H,y⟩;have z:=Hd H;have k:=Hd (j.o.to_ y (by rw [f.o];omega));have g:=Hd (show I w.heap.size=0 by rw [y.ow _ j.o.lt];exact f.o);have B:=Hd (m.o.trans y);obtain ⟨E,F,G⟩:=k.o.c3;obtain ⟨J,K,L⟩:=k.o.f3;clear H y;go_wp2_with fail;have r:=((k.o.set_ 0 (Aa Ab (t':Int))).set_ 1 (Aa Ab (y':Int))).set_ 2 (Aa Ac (q':Int));have q:=Ev (p:=⟨w.heap.size,2,none⟩) (Ev (p:=⟨w.heap.size,1,none⟩) (Ev (p:=⟨w.heap.size,0,none⟩) z.o g.o (Aa Ab (t':Int))) g.o (Aa Ab (y':Int))) g.o (Aa Ac (q':Int));have s:=Fy (p:=⟨w.heap.size,2,none⟩) (Fy (p:=⟨w.heap.size,1,none⟩) (Fy (p:=⟨w.heap.size,0,none⟩) B.o d.o (Aa Ab (t':Int))) d.o (Aa Ab (y':Int))) d.o (Aa Ac (q':Int));clear E F G J K L;generalize ((M.setCell ⟨w.heap.size,0,none⟩ (Aa Ab (t':Int))).setCell ⟨w.heap.size,1,none⟩ (Aa Ab (y':Int))).setCell ⟨w.heap.size,2,none⟩ (Aa Ac (q':Int))=wF at r q s⊢;obtain ⟨E,F,G⟩:=r.c3;refine bodyPost_ret (v:= .tuple #[.agg #[Aa Ab (t':Int),Aa Ab (y':Int),Aa Ac (q':Int)],Aa Ab 0]) (by simp [results,results287,go_sem,E,F,G]) rfl ?_;rw [C.o];exact⟨rfl,I,q,s⟩
theorem Px(s k:List UInt8)(r:Bool)(w:World)(hr:Op.bytesLess s k=r):Calls Ad 322 #[.string ⟨s.toArray⟩,.string ⟨k.toArray⟩] w (Ab6 (.bool r) w):=by
 have hr':Op.bytesLess (⟨s.toArray⟩:ByteArray).data.toList (⟨k.toArray⟩:ByteArray).data.toList=r:=hr;clear hr;go_enter func322,ntmps322;go_wp2;go_ret;exact⟨by simp,rfl⟩
theorem Tu:∀(x y z:List UInt8),Op.bytesLess x y=true→Op.bytesLess y z=true→Op.bytesLess x z=true
 | [],[],_,h,_=>by cases h
 | [],_::_,[],_,h=>by cases h
 | [],_::_,_::_,_,_=>rfl
 |_::_,[],_,h,_=>by cases h
 |_::_,_::_,[],_,h=>by cases h
 |a::x,b::y,c::z,h1,h2=>by
  have j:(decide (a<b)||(a==b&&Op.bytesLess x y))=true:=h1;have g:(decide (b<c)||(b==c&&Op.bytesLess y z))=true:=h2;show(decide (a<c)||(a==c&&Op.bytesLess x z))=true;rw [Bool.or_eq_true,Bool.and_eq_true,decide_eq_true_eq,beq_iff_eq] at j g⊢;rcases j with e|⟨i,e⟩
  ·rcases g with d|⟨f,d⟩
   ·exact .inl (UInt8.lt_trans e d)
   ·exact .inl (by rw [←f];exact e)
  ·rcases g with d|⟨f,d⟩
   ·exact .inl (by rw [i];exact d)
   ·exact .inr ⟨i.trans f,Tu x y z e d⟩
structure Mq(ks:List (List UInt8))(k:List UInt8)(i:Nat):Prop where
 le:i≤ks.length
 lo:∀j x,j<i→ks[j]?=some x→Op.bytesLess x k=true
 hi:∀j x,i≤j→ks[j]?=some x→Op.bytesLess x k=false
theorem S0(p n c:Nat)(A:Option Addr)(ks:List (List UInt8))(k:List UInt8)(w:World)(hs:w.cell? ⟨p,0,none⟩=some (.slice A n c))(h:Fm w A n ks)(hn:n≤1048576)(hsort:ks.Pairwise (fun x y=>Op.bytesLess x y=true)):
  Calls Ad 327 #[Aca p,.string ⟨k.toArray⟩] w fun e w'=>∃i,Mq ks k i∧e= .returned (.tuple #[Aa Ab (i:Int),.bool (decide (ks[i]?=some k))])∧Below w.heap.size w w':=by
 have H:=Hd h;have aa:ks.length=n:=h.1;have HS:=Hd hsort;clear h hsort;go_enter func327,ntmps327;go_wp2_with fail;go_quiet (fail);go_wp2_with fail;go_loopw [6,7] (fun u v wr=>∃lo hi:Nat,u= Aa Ab lo∧v= Aa Ab hi∧lo≤hi∧hi≤n∧(∀j x,j<lo→ks[j]?=some x→Op.bytesLess x k=true)∧(∀j x,hi≤j→ks[j]?=some x→Op.bytesLess x k=false)∧Below w.heap.size w wr) (fun u v _=>(intOf v).toNat-(intOf u).toNat)
 case atStart=>exact⟨0,n,rfl,rfl,Am _,Ae _,fun j x h=>by omega,fun j x h h'=>absurd (List.getElem?_eq_some_iff.1 h').1 (by omega),below_drewN (Af _ _) _⟩
 case round=>
  obtain⟨lo,hi,rfl,rfl,h1,h2,h3,Z,B⟩:=hrel;have K:=Hd h3;have L:=Hd Z;have C:=Hd B;have Y:=Hd (H.o.pure B);have ai:=Ba B hs;clear h3 Z B hs;by_cases U:lo<hi
  ·obtain⟨mid,m⟩:∃mid,lo+(hi-lo)/2=mid:=⟨_,rfl⟩;have E:lo≤mid:=by omega
   have F:mid<hi:=by omega
   have ht:((hi:Int)-(lo:Int)).tdiv 2=((hi-lo)/2:Nat):=by
    rw [show(hi:Int)-(lo:Int)=((hi-lo:Nat):Int) by omega,Int.tdiv_eq_ediv_of_nonneg (by omega)];rfl
   obtain⟨q,hq⟩:∃q,(hi-lo)/2=q:=⟨_,rfl⟩;rw [hq] at ht m;have ah:q≤1048576:=by omega
   have e1:(lo:Int)+(q:Int)=(mid:Int):=by omega
   obtain⟨g,X,rfl,f,Q⟩:=Gc Y.o (k:=mid) (by omega);obtain⟨x,t⟩:∃x,ks[mid]=x:=⟨_,rfl⟩;rw [t] at Q;have G:ks[mid]?=some x:=by rw [Ai f,t]
   have l:=Hd G;obtain⟨r,J⟩:∃r,Op.bytesLess x k=r:=⟨_,rfl⟩;have z:=Hd J;have W:(mid:Int)<(n:Int):=by omega
   have V:(0:Int)≤(mid:Int):=by omega
   have D:=Hd (show ∀i j a b,i<j→ks[i]?=some a→ks[j]?=some b→Op.bytesLess a b=true from by
    intro i j a b S ha B;obtain⟨M,N⟩:=List.getElem?_eq_some_iff.1 ha;obtain⟨O,P⟩:=List.getElem?_eq_some_iff.1 B;rw [←N,←P];exact List.pairwise_iff_getElem.1 HS.o i j M O S)
   have d:=Hd (And.intro E F);clear t G J hq m f E F;cases r with
   |true=>
    have e2:IntKind.i64.wrap ((mid:Int)+1)=(mid:Int)+1:=IntWalk.i64_in _ (by omega);go_wp2_with (go_at_call 322;(refine(Px x k true _ z.o).mono ?_);rintro e w' ⟨rfl,rfl⟩);go_roundw
    case rel=>
     refine⟨mid+1,hi,by go_num,rfl,by have:=d.o;omega,h2,fun j y hj hy=>?_,L.o,C.o⟩;rcases Nat.lt_or_ge j mid with h|h
     ·exact Tu y x k (D.o j mid y x h hy l.o) z.o
     ·obtain rfl:j=mid:=by omega
      rw [l.o] at hy;injection hy with hy
      rw [←hy];exact z.o
    case measure=>have:=d.o;simp [intOf];omega
   |false=>
    go_wp2_with (go_at_call 322;(refine(Px x k false _ z.o).mono ?_);rintro e w' ⟨rfl,rfl⟩);go_roundw
    case rel=>
     refine⟨lo,mid,rfl,rfl,d.o.1,by have:=d.o;omega,K.o,fun j y hj hy=>?_,C.o⟩;rcases Nat.lt_or_ge mid j with h|h
     ·cases hyk:Op.bytesLess y k with
      |false=>rfl
      |true=>exact absurd (Tu x y k (D.o mid j x y h l.o hy) hyk) (by rw [z.o];decide)
     ·obtain rfl:j=mid:=by omega
      rw [l.o] at hy;injection hy with hy
      rw [←hy];exact z.o
    case measure=>have:=d.o;simp [intOf];omega
  ·have hd:decide ((lo:Int)<(hi:Int))=false:=decide_eq_false (by omega);have af:decide (lo<hi)=false:=decide_eq_false (by omega);obtain rfl:lo=hi:=by omega
   have s:=Hd (Mq.mk (by omega) K.o L.o:Mq ks k lo);clear K L h1 U;by_cases T:lo<n
   ·obtain⟨g,X,rfl,f,Q⟩:=Gc Y.o (k:=lo) T;obtain⟨x,t⟩:∃x,ks[lo]=x:=⟨_,rfl⟩;rw [t] at Q;obtain⟨r,J⟩:∃r,(x==k)=r:=⟨_,rfl⟩;have I:=Hd (show decide (ks[lo]?=some k)=r by
     rw [Ai f,t,←J];rw [Bool.eq_iff_iff];simp)
    have R:decide ((lo:Int)<(n:Int))=true:=decide_eq_true (by omega);have W:(lo:Int)<(n:Int):=by omega
    have V:(0:Int)≤(lo:Int):=by omega
    clear t f;cases r with
    |true=>
     go_wp2_with fail;go_quiet (fail);go_wp2_with fail;go_ret2;exact⟨lo,s.o,by rw [I.o];rfl,below_drewN C.o _⟩
    |false=>
     go_wp2_with fail;go_quiet (fail);go_wp2_with fail;go_ret2;exact⟨lo,s.o,by rw [I.o];rfl,below_drewN C.o _⟩
   ·have I:=Hd (show decide (ks[lo]?=some k)=false by
     rw [List.getElem?_eq_none (by omega)];simp)
    have R:decide ((lo:Int)<(n:Int))=false:=decide_eq_false (by omega);have ag:decide (lo<n)=false:=decide_eq_false (by omega);go_wp2_with fail;go_quiet (fail);go_wp2_with fail;go_ret2;exact⟨lo,s.o,by rw [I.o];rfl,below_drewN C.o _⟩
section
variable {α:Type} {f:α→List Value} {e:TypeId}
theorem bP(hf:∀x,(f x).length=1){B g n c:Nat}{l:List α}(h:Go.Acc.Own f 1 e w B (some ⟨g,0,none⟩) n c l):∃cur,Bb w g e cur∧n≤cur.size∧
  (∀(w':World) (cur':Array Value) (off k:Nat) (m:List α),Bb w' g e cur'→Lq cur off (m.flatMap f) k cur'→m.length=k→off+k≤n→Go.Acc.Own f 1 e w' B (some ⟨g,0,none⟩) n c (l.take off++m++l.drop (off+k))):=by
 obtain⟨u,h1,h2⟩:=h;rcases h2 with⟨hv,_⟩|⟨t,o,cur,hv,q,r,i,d,b,a⟩
 ·cases hv
 ·injection hv with e1 _ e3
  injection e1 with e1
  injection e1 with e1
  subst e1 e3;simp only [Nat.mul_one] at b a h1;refine⟨cur,r,by omega,?_⟩;intro w' cur' off k m p j v s;refine⟨by simp;omega,?_,.inr ⟨g,c,cur',rfl,q,p,i,d,by rw [j.1,Nat.mul_one];exact b,?_⟩⟩
  ·rw [Cd hf];simp;omega
  ·rw [Nat.mul_one,j.take (by rw [Cd hf];omega) s (by omega),a,List.flatMap_append,List.flatMap_append,Mk hf,Oo hf,Nat.mul_one,Nat.mul_one]
theorem oU(cur:Array Value)(off:Nat)(vs:List Value)(h:off+vs.length≤cur.size):Lq cur off vs vs.length (cur.toList.take off++vs++cur.toList.drop (off+vs.length)).toArray:=by
 refine⟨by simp;omega,fun j=>?_⟩;rw [List.getElem?_toArray];by_cases a:j<off
 ·rw [if_neg (by omega),Ax,List.getElem?_append_left (by simp;omega),List.getElem?_take,if_pos a,Array.getElem?_toList]
 ·by_cases b:j<off+vs.length
  ·rw [if_pos (by omega),Ax,List.getElem?_append_right (by simp;omega),List.getElem?_append_left (by simp;omega)]
   congr 1
   simp;omega
  ·rw [if_neg (by omega),List.getElem?_append_right (by simp;omega),List.getElem?_drop,Array.getElem?_toList]
   congr 1
   simp;omega
theorem R0(hgd:o.guard=none)(s x:Operand)(t:TypeId)
  (ho:o.op= .call { callee:= .builtin .append,args:=#[s,x],argTypes:=#[t,t]})
  (z:Value) (bytes:Nat) (ht:Ad.underlying t=some (.slice e)) (hi:(Ad.info? e).map (fun i=>(i.zero,i.size,i.bytes))=some (some z,1,bytes)) (hzs:z.cells.size=1) (hb16:bytes≤16)
  (hf:∀x,(f x).length=1) (h1:∀x,∀u∈f x,u.oneCell'=true)
  (B:Nat) (A:Option Addr) (n c:Nat) (l:List α) (hs:a.eval s= .slice A n c) (hown:Go.Acc.Own f 1 e w B A n c l)
  (A2:Option Addr) (m d:Nat) (l2:List α) (hx:a.eval x= .slice A2 m d) (hr:Is f w A2 m l2)
  (hbytes:n+m≤1099511627776) (hbase:B≤w.heap.size)
  (h:∀A' c' w',Go.Acc.Own f 1 e w' B A' (n+m) c' (l++l2)→Fr (fun k=>∃ad,A=some ad∧k=ad.block) w w'→(A'.map (·.block)=A.map (·.block)∨A'.map (·.block)=some w.heap.size)→K (a.put o.dst (.slice A' (n+m) c')) w'):
  if Region.wanted o (yielded ops a.tmps)=true then Oper.wp Ad o a w K Q else E:=by
 have D:Region.wanted o (yielded ops a.tmps)=true:=by simp [Region.wanted,hgd]
 rw [if_pos D];obtain⟨i,r,F,b,q⟩:=info_parts hi;have v:n+m≤maxLen:=by simp only [maxLen];omega
 have y:(n+m)*bytes≤140737488355328:=Nat.le_trans (Nat.mul_le_mul hbytes hb16) (by decide);obtain⟨G,w',j,h2,h3,p⟩:=Ii (P:=Ad) w B t o.type e i z 1 bytes ht r F b q hzs (by omega) (.slice A n c) n (l.flatMap f) hown.2 A2 m d (l2.flatMap f) (by rw [Cd hf,hr.1]) hr.2 (Mw h1 l2) v y hbase;obtain⟨A',c',rfl,g⟩:=Own.mk hf (by omega) (l:=l++l2) h2 List.flatMap_append.symm;have C:=h A' c' w' g ((Fr.of_grown h3).mono fun i _ hi=>by
  cases A with
  |none=>simp [Value.ownBlock] at hi
  |some ad=>simp [Value.ownBlock] at hi;exact⟨ad,rfl,hi⟩) (by
  cases A <;>cases A' <;>simp only [Value.ownBlock,Option.map] at p⊢ <;>exact p)
 clear h g h2 h3 p;unfold Oper.wp;simp only [execOp,ho,resolve,invoke,builtin,Sem.run_bind,Sem.run_pure,Result.andThen_ok,List.map_toArray,List.map_cons,List.map_nil,hs,hx,j];exact C
theorem V5(hgd:o.guard=none)(d s:Operand)(t:TypeId)
  (ho:o.op= .call { callee:= .builtin .copy,args:=#[d,s],argTypes:=#[t,t]})
  (ht:Ad.underlying t=some (.slice e)) (hi:(Ad.info? e).map (·.size)=some 1) (hf:∀x,(f x).length=1) (h1:∀x,∀u∈f x,u.oneCell'=true)
  (X Y:Option Addr) (kd ks cd cs:Nat) (hd:a.eval d= .slice X kd cd) (hs:a.eval s= .slice Y ks cs) (hk:kd≤ks)
  (B:Nat) (A:Option Addr) (n c off:Nat) (m src:List α) (hown:Go.Acc.Own f 1 e w B A n c m) (hX:0<kd→X=A.map (·.add off)) (hoff:off+kd≤n) (hsrc:Is f w Y kd src)
  (h:∀w',Go.Acc.Own f 1 e w' B A n c (m.take off++src++m.drop (off+kd))→Fr (fun j=>∃ad,A=some ad∧j=ad.block) w w'→K (a.put o.dst (Aa Ab kd)) w'):
  if Region.wanted o (yielded ops a.tmps)=true then Oper.wp Ad o a w K Q else E:=by
 have G:Region.wanted o (yielded ops a.tmps)=true:=by simp [Region.wanted,hgd]
 rw [if_pos G];have p:=hsrc.1;by_cases h0:kd=0
 ·subst h0;have b:=run_copy_none (P:=Ad) w t t o.type e X Y 0 cd ks cs ht hi (by simp);obtain rfl:src=[]:=List.eq_nil_of_length_eq_zero p;have hk:=h w (by simpa using hown) (Fr.refl _ _);clear h;unfold Oper.wp;simp [execOp,ho,resolve,invoke,builtin,hd,hs,b,Result.andThen];exact hk
 ·have hX:=hX (by omega);obtain⟨H,I,rfl,_⟩:=hsrc.some_ hf (by omega) (by omega);cases A with
  |none=>
   have:=hown.is.none_ hf (by omega);omega
  |some ad=>
   obtain⟨v,C,D⟩:=hown.addr ad rfl;obtain⟨g,rfl⟩:∃g,ad=⟨g,0,none⟩:=⟨_,v⟩;obtain⟨k,y,F,l⟩:=bP hf hown;obtain rfl:X=some ⟨g,off,none⟩:=by rw [hX];simp [Iv]
   have q:(src.flatMap f).length=kd:=by rw [Cd hf,p,Nat.mul_one]
   have b:=run_copy_row (P:=Ad) w t t o.type e g off kd cd ⟨H,I,none⟩ ks cs k e (src.flatMap f) ht hi y (by rw [q];exact(Nat.min_eq_right hk).symm) hsrc.2.cells (by rw [q];omega) (Mw h1 src);rw [q] at b;have r:=oU k off (src.flatMap f) (by rw [q];omega);rw [q] at r;have z:=l (w.setRow g (k.toList.take off++src.flatMap f++k.toList.drop (off+kd)).toArray) _ off kd src (setRow_heap w g k _ _ _ y) r p hoff;have hk:=h _ z ⟨rfl,rfl,rfl,by simp [World.setRow],fun i _ hi=>setRow_other w g i _ (by rintro rfl;exact hi ⟨_,rfl,rfl⟩)⟩;clear h l z r;unfold Oper.wp;simp only [execOp,ho,resolve,invoke,builtin,Sem.run_bind,Sem.run_pure,Result.andThen_ok,List.map_toArray,List.map_cons,List.map_nil,hd,hs,b];exact hk
end
end Go.Proofs.YtejpbijeifjdeaaGreat
