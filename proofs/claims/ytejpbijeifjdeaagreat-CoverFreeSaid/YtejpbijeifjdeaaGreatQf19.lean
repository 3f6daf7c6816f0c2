/- Parts of the proof. -/
import Derived.Test.YtejpbijeifjdeaaGreatQf15
import Derived.Test.YtejpbijeifjdeaaGreatQf18
set_option maxHeartbeats 2000000
set_option maxRecDepth 100000
open Go.Value renaming int→Aa
open Go.IntKind renaming i64→Ab,u64→Ac
open Nat renaming le_refl→Ae,le_succ→Ai,lt_of_lt_of_le→Ax
open Go.RowKit.Below renaming refl→Af
open List renaming length_append→Ah,length_cons→Au,length_take→Az,take_of_length_le→Bb
open UInt8 renaming ofNat→An
open Int renaming toNat_natCast→Ay
open Go.Proofs.Tryz
open Go.Proofs.Tryz renaming prog→Ad
namespace Go.Proofs.YtejpbijeifjdeaaGreat
open Go.RowKit Go.Acc
variable {ts:List Nat}{l L s:List UInt8}{q v er:Int}{w:World}{n a:Nat}{t:Tr}{x:Nv}{p:Nat→Prop}
def G3(ts:List Nat)(t:Int):Bool:=ts.contains t.toNat
def D7(l:List UInt8)(p q t v:Int)(ts:List Nat):Int:=
 if Co l.length p q t v≠0 then Co l.length p q t v
 else if G3 ts t=false then 60
 else if Ch l p q t v≠0 then Ch l p q t v
 else if t=4 then Lu l (Cg l p q t v).toNat
 else G2 l (Cg l p q t v).toNat v.toNat (if t=5 then 1 else 0)
def Dj(l:List UInt8)(p q t v:Int)(ts:List Nat):Int:=if D7 l p q t v ts=0 then Cg l p q t v else 0
def Fc(l:List UInt8)(p q t v:Int)(ts:List Nat):List UInt8:=
 if D7 l p q t v ts=0 then(if t=4 then Om l (Cg l p q t v).toNat else cntL l (Cg l p q t v).toNat v.toNat) else []
theorem wL{t:Int}(hts:∀x∈ts,x<256)(h0:0≤t)(h1:t<37):(ts.map An).contains (An t.toNat)=G3 ts t:=by
 unfold G3
 induction ts with
 |nil=>simp
 |cons x ts ih=>
  rw [List.map_cons,List.contains_cons,List.contains_cons,ih (fun y hy=>hts y (List.mem_cons_of_mem _ hy))]
  congr 1
  have a:=hts x (List.mem_cons_self ..);rw [Bool.eq_iff_iff];simp only [beq_iff_eq];constructor
  ·intro e;have:=congrArg UInt8.toNat e;rw [UInt8.toNat_ofNat',UInt8.toNat_ofNat'] at this;omega
  ·intro e;rw [e]
theorem Yv{p t:Int}(h:Ch l p q t v=0):0≤Cg l p q t v∧Cg l p q t v≤l.length:=by
 have a:Co l.length p q t v=0:=by
  by_cases e:Co l.length p q t v=0
  ·exact e
  ·rw [O2 e] at h;exact absurd h e
 obtain⟨_,h2⟩:=Fg.1 a;obtain⟨h1,_⟩:=Fg.1 a;have h2:=Eh.1 h2;have h1:=Du.1 h1;have c:=Cr.1 h1.2.1;unfold Ch at h;rw [if_pos a] at h;unfold Cg;have b:Ch l p q t v=0:=by unfold Ch;rw [if_pos a];exact h
 rw [if_pos b];split at h
 ·cases h
 ·split at h
  ·cases h
  ·omega
theorem U7{w':World}{A:Option Addr}{p t:Int}(h:D7 l p q t v ts=er)(hne:er≠0)(hb:Below w.heap.size w w'):R5 w A n l (Dj l p q t v ts) (Fc l p q t v ts) (D7 l p q t v ts) (.returned (.tuple #[.agg #[Aa Ab 0,.slice none 0 0],Aa Ab er])) w':=by
 unfold Dj Fc;rw [h,if_neg hne,if_neg hne];exact⟨none,0,0,rfl,fun _ _=>Is.nil _ _,Ae _,hb⟩
theorem Ry(A:Option Addr)(n c a V K:Nat)(v k:Int)(l:List UInt8)(w:World)(h:Cv w A n l)(hc:n≤c)(ha:a≤n)(hn:n≤1099511627776)(hv:Bz (V:Int)=true)(hk:K≤1)(hv2:v=V)(hk2:k=K):
  Calls Ad 304 #[.slice A n c,Aa Ab a,Aa Ab v,Aa Ab k] w (R5 w A n l (if G2 l a V K=0 then a else 0) (if G2 l a V K=0 then cntL l a V else []) (G2 l a V K)):=by
 subst hv2 hk2;exact bZ A n c a V K l w h hc ha hn hv hk
theorem rB(A:Option Addr)(n c:Nat)(p q t v:Int)(T:Option Addr)(m d:Nat)(ts:List Nat)(l:List UInt8)(w:World)(h:Cv w A n l)(hT:Is tc w T m ts)(hc:n≤c)(hn:n≤1099511627776)(hm:0<m∧m≤100)(hts:∀x∈ts,x<256):
  Calls Ad 249 #[.slice A n c,.agg #[Aa Ab p,Aa Ab q,Aa Ab t,Aa Ab v],.slice T m d] w (R5 w A n l (Dj l p q t v ts) (Fc l p q t v ts) (D7 l p q t v ts)):=by
 have au:=h.1;subst au;have B:=Hd ((h.alloc (.cells #[Aa Ab p,Aa Ab q,Aa Ab t,Aa Ab v] 70)).alloc (.cells #[Aa Ab 0,.slice none 0 0] 271));have i:=Hd ((hT.alloc (.cells #[Aa Ab p,Aa Ab q,Aa Ab t,Aa Ab v] 70)).alloc (.cells #[Aa Ab 0,.slice none 0 0] 271));have y:=Hd ((Bk.new w 70 #[Aa Ab p,Aa Ab q,Aa Ab t,Aa Ab v]).alloc (.cells #[Aa Ab 0,.slice none 0 0] 271));have j:=Hd (Bk.new_ (w:=w.alloc (.cells #[Aa Ab p,Aa Ab q,Aa Ab t,Aa Ab v] 70)) (g:=w.heap.size+1) (by simp) 271 #[Aa Ab 0,.slice none 0 0]);have z:=Hd (((Af w.heap.size w).alloc (Ae _) (.cells #[Aa Ab p,Aa Ab q,Aa Ab t,Aa Ab v] 70)).alloc (by simp) (.cells #[Aa Ab 0,.slice none 0 0] 271));have am:=Hd hts;have Q:l.length≤9223372036854775807:=by omega
 have bf:=hm.1;have a1:=hm.2;have ba:=Hd h;clear h hT hts hm;go_enter func249,ntmps249;go_wp2_with fail;go_at_call 148;refine(Ot A _ c p q t v _ Q).mono ?_;rintro e w1 ⟨rfl,b⟩;by_cases f:Co l.length p q t v=0
 ·rw [f];have z:=Hd (Bi z.o b);have y:=Hd (y.o.pure b);have B:=Hd (B.o.pure b);have i:=Hd (i.o.pure b);have j:=Hd (j.o.pure b);obtain ⟨I,J,F,K⟩:=y.o.c4;obtain ⟨L,M⟩:=j.o.f2;obtain ⟨C,D⟩:=j.o.c2;clear b;have R:=Hg.1 (Ic (Du.1 (Fg.1 f).1).1);have a3:=R.1;have a4:=R.2;have al:=Hd ((Aaq (ts.map An) (An t.toNat)).trans (by rw [wL am.o a3 a4]));have aw:IntKind.u8.wrap t=((An t.toNat).toNat:Int):=by
   rw [IntKind.wrap_u8,UInt8.toNat_ofNat'];omega
  have ao:=Hd aw;clear R aw;go_wp2_with fail;have H:Hid (Is tc w1.drew T m ts):=Hd (show Is tc w1 T m ts from i.o);go_region_held3 (fun w'=>w'.cell? ⟨w.heap.size,2,none⟩=some (Aa Ab t)) (first|assumption|exact Bl ad.o F)
   (first
   |(go_at_call 302;refine(uW T m d ts _ H.o a1 am.o).mono ?_;rintro e w5 ⟨AX,nX,cX,rfl,aq,ar⟩;have af:=Hd aq;have ad:=Hd ar;clear aq ar)
   |(go_at_call 301;refine(pQ AX nX cX _ (An t.toNat) _ _ af.o.is (by have h1:=af.o.1;have h2:=H.o.1;rw [List.length_map] at h1;omega) ao.o).mono ?_;rintro e w6 ⟨rfl,rfl⟩))
  have b:=Bi (Af w1.heap.size w1).drew ad.o;rw [al.o];clear I J F K L M C D;have z:=Hd (Bi z.o b);have y:=Hd (y.o.pure b);have B:=Hd (B.o.pure b);have i:=Hd (i.o.pure b);have j:=Hd (j.o.pure b);obtain ⟨I,J,F,K⟩:=y.o.c4;obtain ⟨L,M⟩:=j.o.f2;obtain ⟨C,D⟩:=j.o.c2;clear b;clear af ad H ao al;cases hin:G3 ts t with
  |false=>
   have HE:=Hd (show D7 l p q t v ts=60 by unfold D7;rw [if_neg (by simpa using f),if_pos hin]);clear hin f;go_wp2;refine bodyPost_ret (v:= .tuple #[.agg #[Aa Ab 0,.slice none 0 0],Aa Ab (60)]) (by simp [results,results249,go_sem,C,D]) rfl ?_;exact U7 HE.o (by decide) ((z.o.setCell (Ai _) _).setCell (Ai _) _)
  |true=>
   have S:=Hd (show D7 l p q t v ts=if Ch l p q t v≠0 then Ch l p q t v else if t=4 then Lu l (Cg l p q t v).toNat else G2 l (Cg l p q t v).toNat v.toNat (if t=5 then 1 else 0) by unfold D7;rw [if_neg (by simpa using f),if_neg (by simp [hin])]);clear hin;have ah:=(Du.1 (Fg.1 f).1).2.2;obtain⟨V,hV⟩:∃V:Nat,v=V:=⟨v.toNat,by have:=Cr.1 ah;omega⟩;have HV:=Hd (show Bz (V:Int)=true by rw [←hV];exact ah);have an:=Hd hV;have av:v.toNat=V:=by omega
   rw [av] at S;clear f ah hV;go_wp2_with fail;go_at_call 79;refine(Im A _ c p q t v l _ B.o hc Q).mono ?_;rintro e w2 ⟨rfl,b⟩;clear I J F K L M C D;have z:=Hd (Bi z.o b);have y:=Hd (y.o.pure b);have B:=Hd (B.o.pure b);have i:=Hd (i.o.pure b);have j:=Hd (j.o.pure b);obtain ⟨I,J,F,K⟩:=y.o.c4;obtain ⟨L,M⟩:=j.o.f2;obtain ⟨C,D⟩:=j.o.c2;clear b;by_cases E:Ch l p q t v=0
   ·rw [E];have U:=Hd (show D7 l p q t v ts=if t=4 then Lu l (Cg l p q t v).toNat else G2 l (Cg l p q t v).toNat V (if t=5 then 1 else 0) by rw [S.o,if_neg (by simpa using E)]);have hr:=Yv E;have HG:=Hd (show ∀er:Int,D7 l p q t v ts=er→Dj l p q t v ts=(if er=0 then Cg l p q t v else 0)∧Fc l p q t v ts=(if er=0 then(if t=4 then Om l (Cg l p q t v).toNat else cntL l (Cg l p q t v).toNat V) else []) from fun er h=>⟨by unfold Dj;rw [h],by unfold Fc;rw [h,av]⟩);obtain⟨a,ha⟩:∃a:Nat,Cg l p q t v=a:=⟨(Cg l p q t v).toNat,by omega⟩;rw [ha] at HG U hr⊢;have ag:a≤l.length:=by omega
    clear E hr S ha;by_cases N:t=4
    ·have u:=Hd (U.o.trans (if_pos N));have e4:(t==4)=true:=beq_iff_eq.2 N;have H4:=Hd N;clear N;go_wp2_with fail;obtain⟨Z,k⟩:∃x,(if Lu l a=0 then(a:Int) else 0)=x:=⟨_,rfl⟩;obtain⟨kl,s⟩:∃x,(if Lu l a=0 then Om l a else [])=x:=⟨_,rfl⟩;obtain⟨ke,r⟩:∃x,Lu l a=x:=⟨_,rfl⟩;have G:=Hd (show Dj l p q t v ts=Z∧Fc l p q t v ts=kl∧D7 l p q t v ts=ke from by
      have P:=HG.o _ u.o;rw [Ay,if_pos H4.o] at P;exact⟨P.1.trans k,P.2.trans s,u.o.trans r⟩)
     go_at_call 303;refine(wO A _ c a l _ B.o hc ag Q).mono ?_;rw [k,s,r];clear k s r;rintro e w3 ⟨W,nY,X,rfl,Y,O,b⟩;clear I J F K L M C D;have z:=Hd (Bi z.o b);have y:=Hd (y.o.pure b);have B:=Hd (B.o.pure b);have i:=Hd (i.o.pure b);have j:=Hd (j.o.pure b);obtain ⟨I,J,F,K⟩:=y.o.c4;obtain ⟨L,M⟩:=j.o.f2;obtain ⟨C,D⟩:=j.o.c2;clear b;have HY:=Hd Y;clear Y;go_wp2;refine bodyPost_ret (v:= .tuple #[.agg #[Aa Ab Z,.slice W nY X],Aa Ab ke]) (by simp [results,results249,go_sem,C,D]) rfl ?_;rw [G.o.1,G.o.2.1,G.o.2.2];exact⟨W,nY,X,rfl,HY.o,O,(z.o.setCell (Ai _) _).setCell (Ai _) _⟩
    ·have e4:(t==4)=false:=beq_eq_false_iff_ne.2 N;by_cases h5:t=5
     ·have u:=Hd ((U.o.trans (if_neg N)).trans (by rw [if_pos h5]));have e5:(t==5)=true:=beq_iff_eq.2 h5;have H4:=Hd N;clear N h5;go_wp2_with fail;obtain⟨Z,k⟩:∃x,(if G2 l a V 1=0 then(a:Int) else 0)=x:=⟨_,rfl⟩;obtain⟨kl,s⟩:∃x,(if G2 l a V 1=0 then cntL l a V else [])=x:=⟨_,rfl⟩;obtain⟨ke,r⟩:∃x,G2 l a V 1=x:=⟨_,rfl⟩;have G:=Hd (show Dj l p q t v ts=Z∧Fc l p q t v ts=kl∧D7 l p q t v ts=ke from by
       have P:=HG.o _ u.o;rw [Ay,if_neg H4.o] at P;rw [Ay] at u;exact⟨P.1.trans k,P.2.trans s,u.o.trans r⟩)
      go_at_call 304;refine(Ry A _ c a V 1 v 1 l _ B.o hc ag hn HV.o (by omega) an.o rfl).mono ?_;rw [k,s,r];clear k s r;rintro e w3 ⟨W,nY,X,rfl,Y,O,b⟩;clear I J F K L M C D;have z:=Hd (Bi z.o b);have y:=Hd (y.o.pure b);have B:=Hd (B.o.pure b);have i:=Hd (i.o.pure b);have j:=Hd (j.o.pure b);obtain ⟨I,J,F,K⟩:=y.o.c4;obtain ⟨L,M⟩:=j.o.f2;obtain ⟨C,D⟩:=j.o.c2;clear b;have HY:=Hd Y;clear Y;go_wp2;refine bodyPost_ret (v:= .tuple #[.agg #[Aa Ab Z,.slice W nY X],Aa Ab ke]) (by simp [results,results249,go_sem,C,D]) rfl ?_;rw [G.o.1,G.o.2.1,G.o.2.2];exact⟨W,nY,X,rfl,HY.o,O,(z.o.setCell (Ai _) _).setCell (Ai _) _⟩
     ·have u:=Hd ((U.o.trans (if_neg N)).trans (by rw [if_neg h5]));have e5:(t==5)=false:=beq_eq_false_iff_ne.2 h5;have H4:=Hd N;clear N h5;go_wp2_with fail;obtain⟨Z,k⟩:∃x,(if G2 l a V 0=0 then(a:Int) else 0)=x:=⟨_,rfl⟩;obtain⟨kl,s⟩:∃x,(if G2 l a V 0=0 then cntL l a V else [])=x:=⟨_,rfl⟩;obtain⟨ke,r⟩:∃x,G2 l a V 0=x:=⟨_,rfl⟩;have G:=Hd (show Dj l p q t v ts=Z∧Fc l p q t v ts=kl∧D7 l p q t v ts=ke from by
       have P:=HG.o _ u.o;rw [Ay,if_neg H4.o] at P;rw [Ay] at u;exact⟨P.1.trans k,P.2.trans s,u.o.trans r⟩)
      go_at_call 304;refine(Ry A _ c a V 0 v 0 l _ B.o hc ag hn HV.o (by omega) an.o rfl).mono ?_;rw [k,s,r];clear k s r;rintro e w3 ⟨W,nY,X,rfl,Y,O,b⟩;clear I J F K L M C D;have z:=Hd (Bi z.o b);have y:=Hd (y.o.pure b);have B:=Hd (B.o.pure b);have i:=Hd (i.o.pure b);have j:=Hd (j.o.pure b);obtain ⟨I,J,F,K⟩:=y.o.c4;obtain ⟨L,M⟩:=j.o.f2;obtain ⟨C,D⟩:=j.o.c2;clear b;have HY:=Hd Y;clear Y;go_wp2;refine bodyPost_ret (v:= .tuple #[.agg #[Aa Ab Z,.slice W nY X],Aa Ab ke]) (by simp [results,results249,go_sem,C,D]) rfl ?_;rw [G.o.1,G.o.2.1,G.o.2.2];exact⟨W,nY,X,rfl,HY.o,O,(z.o.setCell (Ai _) _).setCell (Ai _) _⟩
   ·have HE:=Hd (show D7 l p q t v ts=Ch l p q t v by rw [S.o,if_pos E]);have ae:=Hd E;have a2:(Ch l p q t v != 0)=true:=by simpa using E
    clear E;go_wp2;refine bodyPost_ret (v:= .tuple #[.agg #[Aa Ab 0,.slice none 0 0],Aa Ab ((Ch l p q t v))]) (by simp [results,results249,go_sem,C,D]) rfl ?_;exact U7 HE.o ae.o ((z.o.setCell (Ai _) _).setCell (Ai _) _)
 ·have HE:=Hd (show D7 l p q t v ts=Co l.length p q t v by unfold D7;rw [if_pos f]);have ae:=Hd f;have a2:(Co l.length p q t v != 0)=true:=by simpa using f
  have z:=Hd (Bi z.o b);have y:=Hd (y.o.pure b);have B:=Hd (B.o.pure b);have i:=Hd (i.o.pure b);have j:=Hd (j.o.pure b);obtain ⟨I,J,F,K⟩:=y.o.c4;obtain ⟨L,M⟩:=j.o.f2;obtain ⟨C,D⟩:=j.o.c2;clear b;clear f;go_wp2;refine bodyPost_ret (v:= .tuple #[.agg #[Aa Ab 0,.slice none 0 0],Aa Ab ((Co l.length p q t v))]) (by simp [results,results249,go_sem,C,D]) rfl ?_;exact U7 HE.o ae.o ((z.o.setCell (Ai _) _).setCell (Ai _) _)
theorem Aez{g:Nat}(ts:List Nat)(vs:Array Value)(hB:Bk w g 3 vs)(hn:ts.length=n)(h:vs.toList=ts.flatMap tc):Is tc w (some ⟨g,0,none⟩) n ts:=by
 refine⟨hn,fun j u hu=>⟨_,_,rfl,?_⟩⟩;rw [Nat.zero_add,hB.cell j];rw [←h] at hu;simpa using hu
theorem oG(A:Option Addr)(n c:Nat)(p q t v:Int)(l:List UInt8)(w:World)(h:Cv w A n l)(hc:n≤c)(hn:n≤1099511627776):
  Calls Ad 150 #[.slice A n c,.agg #[Aa Ab p,Aa Ab q,Aa Ab t,Aa Ab v]] w (Afc (.tuple #[Aa Ab (Dj l p q t v [4,5,25]),Aa Ab ((Fc l p q t v [4,5,25]).length:Nat),Aa Ab (D7 l p q t v [4,5,25])]) w):=by
 have i:=Hd ((h.alloc (.cells #[Aa Ab p,Aa Ab q,Aa Ab t,Aa Ab v] 70)).alloc (.cells #[Aa Ab 4,Aa Ab 5,Aa Ab 25] 3));have k:=Hd (Aez (w:=(w.alloc (.cells #[Aa Ab p,Aa Ab q,Aa Ab t,Aa Ab v] 70)).alloc (.cells #[Aa Ab 4,Aa Ab 5,Aa Ab 25] 3)) (g:=w.heap.size+1) (n:=3) [4,5,25] _ (Bk.new_ (by simp) _ _) rfl rfl);have a:=Hd (((Af w.heap.size w).alloc (Ae _) (.cells #[Aa Ab p,Aa Ab q,Aa Ab t,Aa Ab v] 70)).alloc (by simp) (.cells #[Aa Ab 4,Aa Ab 5,Aa Ab 25] 3));have b:=Hd h;clear h;go_enter func150,ntmps150;go_wp2_with fail;go_at_call 249;refine(rB A n c p q t v _ 3 3 [4,5,25] l _ i.o k.o hc hn (by decide) (by decide)).mono ?_;rintro e x ⟨r,u,s,rfl,d,m,f⟩;have a:=Hd (Bi a.o f);have j:=Hd (d w b.o).1;clear d f;go_wp2_with fail;go_quiet (fail);go_wp2;go_ret3;refine⟨?_,?_⟩
 ·rw [j.o];rfl
 ·exact below_drewN (a.o.alloc a.o.size _) _
theorem Nt{w:Nat}(b:List UInt8)(hw:Bz (w:Int)=true):(Bm w b).length≤b.length+8:=by
 simp only [Bm,Ah,List.length_replicate,Kn];rcases D4 hw with rfl|rfl|rfl|rfl <;>omega
theorem rC{v:Bv}(ht:Cb v.t=true)(hv:Bz (v.w:Int)=true)(hf:Eu l.length v)(hl:l.length+20≤1048576):lS l v (leastW (Dt v l.length 0)):=by
 obtain⟨a,b⟩:=Pa (Dt v l.length 0) (Su hf 0);have a:=C8.2 a;obtain⟨y,e⟩:∃y,leastW (Dt v l.length 0)=y:=⟨_,rfl⟩;rw [e] at a b⊢;obtain⟨f,g,i⟩:=Hu a l;cases hi:inl v.t with
 |true=>
  have c:Da y (Bm y l).length v=v.n % 2^(8*y):=by unfold Da;rw [if_pos hi]
  exact⟨ht,hv,e,a,by rw [c];exact Kl _ _,by rw [c];exact Oq _ a,(fun h=>absurd hi (by rw [h];decide)),hl⟩
 |false=>
  obtain⟨h1,h2⟩:=Od hi b;have c:Da y (Bm y l).length v=(Bm y l).length-v.n:=by unfold Da;rw [if_neg (by rw [hi];decide)]
  have j:=Nt l a;rw [Nat.zero_mul,Nat.add_zero,←f] at h2;have d:=Ev a (by omega) h2;exact⟨ht,hv,e,a,by rw [c];exact decide_eq_true (.inr d),by rw [c];omega,fun _=>by omega,hl⟩
theorem uP(h:At L a (s++ [0]))(h0:(0:UInt8)∉s):zeroAt L a=a+s.length∧a+s.length<L.length:=by
 have b:=h.le;rw [Ah,List.length_singleton] at b;refine⟨?_,by omega⟩;obtain⟨p,q,rfl,rfl⟩:=h;unfold zeroAt;rw [show p++(s++ [0])++q=p++(s++([0]++q)) by simp only [List.append_assoc],List.drop_left,List.findIdx_append];have e:s.findIdx (· ==0)=s.length:=by
  rw [List.findIdx_eq_length];intro c d;cases hb:(c==0) with
  |false=>rfl
  |true=>exact absurd (by rw [beq_iff_eq] at hb;rw [←hb];exact d) h0
 rw [e,if_neg (Nat.lt_irrefl _)];simp [List.findIdx_cons]
theorem Aaw(h:At L a (s++ [0]))(h0:(0:UInt8)∉s):Lu L a=0∧Om L a=s:=by
 obtain⟨h1,h2⟩:=uP h h0;refine⟨dT (by omega),?_⟩;unfold Om;rw [h1,show a+s.length-a=s.length by omega];exact(h.left).take
theorem Aaf{z:List UInt8}{c w k:Nat}(hw:Bz (w:Int)=true)(hc:c % w=0)(h:At L c (Bn w s.length++s++z))(hs:s.length<2^(8*w))(hz:z=List.replicate k 0):G2 L (c+w) w k=0∧cntL L (c+w) w=s:=by
 have h1:=h.left.left;have h2:=h.left.right;have h3:=h.right;rw [Bo] at h2;rw [Ah,Bo] at h3;have d:loadU L (((c+w:Nat):Int)-(w:Int)) w=s.length:=by
  rw [show((c+w:Nat):Int)-(w:Int)=(c:Int) by omega,h1.load hw,Hr,Nat.mod_eq_of_lt hs]
 have a:=h3.le;have ht:=h3.take;have b:z.length=k:=by rw [hz];simp
 rw [b] at a ht;have e:(c+w) % w=0:=by rw [Nat.add_mod_right];exact hc
 refine⟨?_,?_⟩
 ·unfold G2;rw [if_neg (by omega),if_neg (by omega),d,if_neg (by omega),if_pos];rw [show c+w+s.length=c+(w+s.length) by omega,ht,hz]
 ·unfold cntL;rw [d];exact h2.take
theorem Ac3(f:Nat)(h:Ft t)(hc:t.cost≤65000):∃v y,(Bd.calls f (By t) Bd.new).s=[v]∧lS (Bd.calls f (By t) Bd.new).b v y∧Di (Bd.calls f (By t) Bd.new).b v y=Ha f (By t):=by
 obtain⟨v,e,r⟩:=pX f (By t) (Xt h);obtain⟨h1,h2,h3⟩:=r.legal (O1 h);have c:=J5 f (By t) (Xt h) Bd.new Oh;rw [M8 t h] at c;have d:(Bd.calls f (By t) Bd.new).b.length≤(Bd.calls f (By t) Bd.new).size:=by unfold Bd.size;omega
 have g:Bd.new.size=0:=rfl;have a:(Bd.calls f (By t) Bd.new).s=[v]:=e;exact⟨v,_,a,rC h1 h2 r.fit (by omega),by simp only [Ha,Bd.finish,a,Di]⟩
theorem mG(fl:Int)(h:Ck w p x t)(hp:∀k,p k→k<w.heap.size)(hca:M0 (By t))(hc:t.cost≤65000)(he:(Gk H0 0 t 0).1=0):
  Calls Ad 37 #[.agg #[Aa Ab x.k,Aa Ab x.n,Aa Ac (x.u:Int),.string ⟨x.s.toArray⟩,.slice x.A x.an x.ac,.slice x.B x.bn x.bc],Aa Ab fl,Aa Ab 1048576] w (aR w (Ha (bits fl) (By t))):=by
 have X:=Kx Oa t 0 0 he;obtain⟨v,y,es,hf,Z⟩:=Ac3 (bits fl) X hc;have T:=Hd (And.intro es hf);have Y:=Hd Z;have I:=Hd hca;have K:=Hd (show Bd.new.size+(By t).cost≤65000 by rw [M8 t X];have hz:Bd.new.size=0:=rfl;omega);have F:=(Af w.heap.size w).alloc (Ae _) (.cells #[Aa Ab x.k,Aa Ab x.n,Aa Ac (x.u:Int),.string ⟨x.s.toArray⟩,.slice x.A x.an x.ac,.slice x.B x.bn x.bc] 34);have HB:=Hd F;have HX:=Hd (Bk.new w 34 #[Aa Ab x.k,Aa Ab x.n,Aa Ac (x.u:Int),.string ⟨x.s.toArray⟩,.slice x.A x.an x.ac,.slice x.B x.bn x.bc]);have HS:=Hd (R1 (h.pure F) (fun k hk=>Ax (hp k hk) F.size) (by omega) he);obtain⟨b',f⟩:∃b',Bd.calls (bits fl) (By t) Bd.new=b':=⟨_,rfl⟩;rw [f] at T Y;have H:=Hd f;clear h hp hca hc he X es hf Z F f;go_enter func37,ntmps37;go_wp2_with fail;go_at_call 40;refine HS.o.mono ?_;rintro e i ⟨z,rfl,r,g⟩;have G:=Hd (Bi HB.o g);have O:=Hd r;have ag:=Hd (show(w.alloc (.cells #[Aa Ab x.k,Aa Ab x.n,Aa Ac (x.u:Int),.string ⟨x.s.toArray⟩,.slice x.A x.an x.ac,.slice x.B x.bn x.bc] 34)).heap.size≤i.heap.size from g.size);clear r g;have b:=(Af i.heap.size i).alloc (Ae _) (.cells #[Aa Ab z.k,Aa Ab z.n,Aa Ac (z.u:Int),.string ⟨z.s.toArray⟩,.slice z.A z.an z.ac,.slice z.B z.bn z.bc] 34);have U:=Hd (Bk.new i 34 #[Aa Ab z.k,Aa Ab z.n,Aa Ac (z.u:Int),.string ⟨z.s.toArray⟩,.slice z.A z.an z.ac,.slice z.B z.bn z.bc]);have d:=Hd (Bi G.o b);have P:=Hd (O.o.pure b);have L:=Hd (show i.heap.size≤(i.alloc (.cells #[Aa Ab z.k,Aa Ab z.n,Aa Ac (z.u:Int),.string ⟨z.s.toArray⟩,.slice z.A z.an z.ac,.slice z.B z.bn z.bc] 34)).heap.size from b.size);clear b;go_wp2_with fail;go_at_call 69;refine(qG fl _ (fun _=>0)).mono ?_;rintro e w3 ⟨M,o3,rfl,W,E⟩;have a:=E.below (fun _ _ h=>h);have V:=Hd (U.o.pure a);have ah:=Hd W;have R:=Hd (E.mono (J:=Dd) fun _ h=>h.elim);have af:=Hd (Bi d.o a);have j:=Hd (I.o M fl Bd.new z w3 o3 _ W Oh Aba (P.o.pure a) (fun k hk=>by have h1:=L.o;exact⟨by have h2:=a.size;omega,E.ow k (by omega)⟩) K.o);rw [H.o] at j;obtain ⟨x0,x1,x2,x3,x4,x5⟩:=V.o.c6;clear W E a;go_wp2_with fail;go_at_call 70;refine j.o.mono ?_;rintro e w4 ⟨rfl,o4,q,C⟩;have N:=Hd q;have l:=Hd (R.o.trans C);clear q C x0 x1 x2 x3 x4 x5;go_wp2_with fail;go_at_call 71;refine(iP M fl b' v y _ o4 N.o T.o.1 T.o.2).mono ?_;rintro e w5 ⟨A,m,c,rfl,hO,o5,D⟩;have HO:=Hd hO;have S:=Hd (l.o.trans D);have Q:=Hd (show w.heap.size≤w4.heap.size from Nat.le_trans d.o.size l.o.size);clear hO D;go_wp2_with fail;go_ret2;exact⟨A,m,c,rfl,by rw [←Y.o];exact HO.o.rebase Q.o,Bi d.o (S.o.below fun _ _=>Cl)⟩
theorem qA(fl:Int)(h:Ck w p x t)(hp:∀k,p k→k<w.heap.size)(hc:R4 t)(he:(Gk H0 0 t 0).1=er)(hne:er≠0):
  Calls Ad 37 #[.agg #[Aa Ab x.k,Aa Ab x.n,Aa Ac (x.u:Int),.string ⟨x.s.toArray⟩,.slice x.A x.an x.ac,.slice x.B x.bn x.bc],Aa Ab fl,Aa Ab 1048576] w (Afc (.tuple #[.slice none 0 0,Aa Ab er]) w):=by
 have c:=(Af w.heap.size w).alloc (Ae _) (.cells #[Aa Ab x.k,Aa Ab x.n,Aa Ac (x.u:Int),.string ⟨x.s.toArray⟩,.slice x.A x.an x.ac,.slice x.B x.bn x.bc] 34);have d:=Hd c;have i:=Hd (Bk.new w 34 #[Aa Ab x.k,Aa Ab x.n,Aa Ac (x.u:Int),.string ⟨x.s.toArray⟩,.slice x.A x.an x.ac,.slice x.B x.bn x.bc]);have f:=Hd (Qg (h.pure c) (fun k hk=>Ax (hp k hk) c.size) hc he hne);have g:(er != 0)=true:=by simpa using hne
 clear h hp hc he hne c;go_enter func37,ntmps37;go_wp2_with fail;go_at_call 40;refine f.o.mono ?_;rintro e j ⟨rfl,b⟩;have a:=Hd (Bi d.o b);clear b;go_wp2_with fail;go_ret2;exact⟨rfl,a.o.alloc a.o.size _⟩
theorem pY(fl:Int)(h:Ck w p x t)(hp:∀k,p k→k<w.heap.size)(hca:M0 (By t))(hc:t.cost≤65000)(he:(Gk H0 0 t 0).1=0):
  Calls Ad 10 #[.agg #[Aa Ab x.k,Aa Ab x.n,Aa Ac (x.u:Int),.string ⟨x.s.toArray⟩,.slice x.A x.an x.ac,.slice x.B x.bn x.bc],Aa Ab fl] w (aR w (Ha (bits fl) (By t))):=by
 have a:=(Af w.heap.size w).alloc (Ae _) (.cells #[Aa Ab x.k,Aa Ab x.n,Aa Ac (x.u:Int),.string ⟨x.s.toArray⟩,.slice x.A x.an x.ac,.slice x.B x.bn x.bc] 34);have f:=Hd a;have g:=Hd (mG fl (h.pure a) (fun k hk=>Ax (hp k hk) a.size) hca hc he);clear h hp hca hc he a;go_enter func10,ntmps10;go_wp2_with fail;go_at_call 37;refine g.o.mono ?_;intro e l j;obtain⟨A,m,c,rfl,d,a⟩:=j;have i:=Hd d;have b:=Hd a;clear d a;go_wp2_with fail;go_ret2;exact qV f.o ⟨A,m,c,rfl,i.o,b.o⟩
theorem bG(fl:Int)(h:Ck w p x t)(hp:∀k,p k→k<w.heap.size)(hN:G0 t)(hc:t.cost≤65000)(he:(Gk H0 0 t 0).1=0):
  Calls Ad 10 #[.agg #[Aa Ab x.k,Aa Ab x.n,Aa Ac (x.u:Int),.string ⟨x.s.toArray⟩,.slice x.A x.an x.ac,.slice x.B x.bn x.bc],Aa Ab fl] w (aR w (Ha (bits fl) (By t))):=
 pY fl h hp (pZ (Acm (Kx Oa t 0 0 he) hN)) hc he
theorem vA(fl:Int)(h:Ck w p x t)(hp:∀k,p k→k<w.heap.size)(hc:R4 t)(he:(Gk H0 0 t 0).1=er)(hne:er≠0):
  Calls Ad 10 #[.agg #[Aa Ab x.k,Aa Ab x.n,Aa Ac (x.u:Int),.string ⟨x.s.toArray⟩,.slice x.A x.an x.ac,.slice x.B x.bn x.bc],Aa Ab fl] w (Afc (.tuple #[.slice none 0 0,Aa Ab er]) w):=by
 have a:=(Af w.heap.size w).alloc (Ae _) (.cells #[Aa Ab x.k,Aa Ab x.n,Aa Ac (x.u:Int),.string ⟨x.s.toArray⟩,.slice x.A x.an x.ac,.slice x.B x.bn x.bc] 34);have c:=Hd a;have d:=Hd (qA fl (h.pure a) (fun k hk=>Ax (hp k hk) a.size) hc he hne);clear h hp hc he hne a;go_enter func10,ntmps10;go_wp2_with fail;go_at_call 37;refine d.o.mono ?_;rintro e f ⟨rfl,a⟩;have b:=Hd (Bi c.o a);clear a;go_wp2_with fail;go_ret2;exact⟨rfl,b.o⟩
mutual
def Fj(m:Nat):Tr→Nat→Tr×Nat
 | .mk k n u s ks l,left=>(.mk k n u (s.take m) ((ks.take 64).map fun x=>x.take m) (F4 m l left).1,(F4 m l left).2)
def F4(m:Nat):List Tr→Nat→List Tr×Nat
 | [],left=>([],left)
 |t::r,left=>if left=0 then([],0) else((Fj m t (left-1)).1::(F4 m r (Fj m t (left-1)).2).1,(F4 m r (Fj m t (left-1)).2).2)
end
theorem dX(m:Nat):∀(l:List (List UInt8)),Cc (l.map fun x=>x.take m)≤l.length*(m+20)
 | []=>by simp [Cc]
 |x::r=>by
  have h:=dX m r;have h1:(x.take m).length≤m:=by rw [Az];omega
  simp only [List.map_cons,Cc,Au,Nat.add_mul,Nat.one_mul];omega
mutual
theorem Sj(m:Nat):∀(t:Tr) (left:Nat),(Fj m t left).2≤left∧(Fj m t left).1.cost≤64+2*m+64*(m+20)+(left-(Fj m t left).2)*(104+2*m+64*(m+20))
 | .mk k n u s ks l,left=>by
  have h:=Za m l left;rw [Fj];refine⟨h.1,?_⟩;simp only [Tr.cost];have h1:(s.take m).length≤m:=by rw [Az];omega
  have h2:=dX m (ks.take 64);have h3:(ks.take 64).length≤64:=by rw [Az];omega
  have a:=Nat.mul_le_mul_right (m+20) h3;omega
theorem Za(m:Nat):∀(l:List Tr) (left:Nat),(F4 m l left).2≤left∧Tr.costL (F4 m l left).1≤(left-(F4 m l left).2)*(104+2*m+64*(m+20))
 | [],left=>by simp [F4,Tr.costL]
 |t::r,left=>by
  rw [F4];by_cases h0:left=0
  ·rw [if_pos h0];simp [Tr.costL]
  ·rw [if_neg h0];have h1:=Sj m t (left-1);have h2:=Za m r (Fj m t (left-1)).2;refine⟨by omega,?_⟩;simp only [Tr.costL];generalize (Fj m t (left-1)).2=a at*;generalize (F4 m r a).2=b at*;have e:left-b=(left-1-a)+(a-b)+1:=by omega
   rw [e,Nat.add_mul,Nat.add_mul];omega
end
mutual
theorem U2(m:Nat):∀(t:Tr) (left d:Nat),(Tr.pre d (Fj m t left).1).length+(Fj m t left).2≤left+1
 | .mk k n u s ks l,left,d=>by
  have h:=cI m l left (d+1);rw [Fj,Tr.pre,Au];omega
theorem cI(m:Nat):∀(l:List Tr) (left d:Nat),(Tr.pre.Tr.preL d (F4 m l left).1).length+(F4 m l left).2≤left
 | [],left,d=>by simp [F4,Tr.pre.Tr.preL]
 |t::r,left,d=>by
  rw [F4];by_cases h0:left=0
  ·rw [if_pos h0];simp [Tr.pre.Tr.preL]
  ·rw [if_neg h0];have h1:=U2 m t (left-1) d;have h2:=cI m r (Fj m t (left-1)).2 d;simp only [Tr.pre.Tr.preL,Ah];omega
end
inductive Yy(m:Nat):Tr→Prop
 |mk {k n:Int} {u:Nat} {s:List UInt8} {ks:List (List UInt8)} {l:List Tr} (h1:s.length≤m) (h2:∀x∈ks,x.length≤m) (h:∀t∈l,Yy m t):Yy m (.mk k n u s ks l)
mutual
theorem U1(m:Nat):∀(t:Tr) (left:Nat),Yy m (Fj m t left).1
 | .mk k n u s ks l,left=>by
  rw [Fj];refine .mk (by rw [Az];omega) (fun x hx=>?_) (cG m l left);obtain⟨y,_,rfl⟩:=List.mem_map.1 hx;rw [Az];omega
theorem cG(m:Nat):∀(l:List Tr) (left:Nat),∀t∈(F4 m l left).1,Yy m t
 | [],left,t,h=>by simp [F4] at h
 |x::r,left,t,h=>by
  rw [F4] at h;by_cases h0:left=0
  ·rw [if_pos h0] at h;simp at h
  ·rw [if_neg h0] at h;rcases List.mem_cons.1 h with h|h
   ·rw [h];exact U1 m x (left-1)
   ·exact cG m r _ t h
end
mutual
theorem cJ(m:Nat):∀(t:Tr) (left:Nat),G0 t→G0 (Fj m t left).1
 | .mk k n u s ks l,left,h=>by
  cases h with
  |mk h1 h2 h=>
   rw [Fj];exact .mk h1 h2 (cH m l left h)
theorem cH(m:Nat):∀(l:List Tr) (left:Nat),(∀t∈l,G0 t)→∀t∈(F4 m l left).1,G0 t
 | [],left,_,t,h=>by simp [F4] at h
 |x::r,left,hn,t,h=>by
  rw [F4] at h;by_cases h0:left=0
  ·rw [if_pos h0] at h;simp at h
  ·rw [if_neg h0] at h;rcases List.mem_cons.1 h with h|h
   ·rw [h];exact cJ m x (left-1) (hn x (by simp))
   ·exact cH m r _ (fun y hy=>hn y (by simp [hy])) t h
end
theorem dY(m:Nat):∀(l:List (List UInt8)),(∀x∈l,x.length≤m)→Cc l≤l.length*(m+20)
 | [],_=>by simp [Cc]
 |x::r,h=>by
  have h1:=dY m r (fun y hy=>h y (by simp [hy]));have h2:=h x (by simp);simp only [Cc,Au,Nat.add_mul,Nat.one_mul];omega
mutual
theorem bX(m:Nat):∀(t:Tr) (d:Nat),Ft t→Yy m t→t.cost+m+60≤(Tr.pre d t).length*(124+2*m)
 | .mk k n u s ks l,d,hv,hl=>by
  cases hv with
  |mk g1 _ _ _ gl=>
  cases hl with
  |mk l1 l2 l3=>
   have h:=Y8 m l (d+1) gl l3;have f:=dY m ks l2;simp only [Ep,Bool.and_eq_true,decide_eq_true_eq] at g1;obtain⟨⟨⟨⟨⟨_,b⟩,_⟩,a⟩,_⟩,_⟩:=g1;have b:k=17∨ks=[]:=b;have a:k=17→ks.length=l.length:=a;have c:ks.length≤l.length:=by
    rcases b with h|h
    ·rw [a h];exact Ae _
    ·rw [h];simp
   have e:=Nat.mul_le_mul_right (m+20) c;rw [Tr.pre,Tr.cost,Au,Nat.add_mul,Nat.one_mul];omega
theorem Y8(m:Nat):∀(l:List Tr) (d:Nat),(∀t∈l,Ft t)→(∀t∈l,Yy m t)→Tr.costL l+l.length*(m+20)≤(Tr.pre.Tr.preL d l).length*(124+2*m)
 | [],d,_,_=>by simp [Tr.costL,Tr.pre.Tr.preL]
 |t::r,d,hv,hl=>by
  have h1:=bX m t d (hv t (by simp)) (hl t (by simp));have h2:=Y8 m r d (fun x hx=>hv x (by simp [hx])) (fun x hx=>hl x (by simp [hx]));simp only [Tr.costL,Tr.pre.Tr.preL,Ah,Au,Nat.add_mul,Nat.one_mul];simp only [Nat.mul_add] at h1 h2⊢;omega
end
theorem fU(s:List UInt8)(m:Nat)(w:World):Calls Ad 140 #[.string ⟨s.toArray⟩,Aa Ab m] w (Afd (.string ⟨(s.take m).toArray⟩) w):=by
 have e:(⟨s.toArray⟩:ByteArray).size=s.length:=rfl;by_cases h:m<s.length
 ·have d:(m:Int)≤s.length:=by omega
  have c:decide (m<s.length)=true:=decide_eq_true h;have a:(⟨s.toArray⟩:ByteArray).extract 0 m=⟨(s.take m).toArray⟩:=by
   rw [ByteArray.extract_mk,List.drop_zero,Nat.sub_zero]
  have b:=Hd a;clear a;go_enter func140,ntmps140;go_wp2;go_ret;refine⟨?_,rfl⟩;show Ending.returned (.string (ByteArray.extract ⟨s.toArray⟩ 0 (min (s.length:Int) (m:Int)).toNat))=_;rw [show(min (s.length:Int) (m:Int)).toNat=m by omega,b.o]
 ·have c:decide (m<s.length)=false:=decide_eq_false h;have a:s.take m=s:=Bb (by omega);have b:=Hd a;clear a;go_enter func140,ntmps140;go_wp2;go_ret;refine⟨?_,rfl⟩;show Ending.returned (.string (ByteArray.extract ⟨s.toArray⟩ 0 (min (s.length:Int) (m:Int)).toNat))=_;rw [show(min (s.length:Int) (m:Int)).toNat=s.length by omega,b.o,ByteArray.extract_mk];simp
def yZ(w:World)(n:Nat)(l:List (List UInt8))(e:Ending)(w':World):Prop:=∃A c,e= .returned (.slice A n c)∧Md w' w.heap.size A n c l∧Below w.heap.size w w'
theorem oR(A:Option Addr)(n c:Nat)(l:List (List UInt8))(many long:Nat)(w:World)(h:Fs w A n l)(hm:many≤1000):
  Calls Ad 141 #[.slice A n c,Aa Ab (many:Int),Aa Ab (long:Int)] w (yZ w (min n many) ((l.take many).map fun x=>x.take long)):=by
 have O:=Hd h;have K:l.length=n:=by have:=h.1;simpa using this
 have I:=Hd K;have F:=Hd (fun(s:List UInt8) (w:World)=>fU s long w);clear h K;go_enter func141,ntmps141;go_wp2_with fail;go_loopw [7,8] (fun s u wr=>∃k:Nat,k≤n∧k≤many∧u= Aa Ab (k:Int)∧∃B d,s= .slice B k d∧Md wr w.heap.size B k d ((l.take k).map fun x=>x.take long)∧Below w.heap.size w wr) (fun _ u _=>many-(intOf u).toNat)
 case atStart=>exact⟨0,Nat.zero_le _,Nat.zero_le _,rfl,none,0,rfl,Own.nil _ _,Af _ _⟩
 case round=>
  obtain⟨k,W,T,rfl,B,d,rfl,L,G⟩:=hrel;have D:=Hd L;have r:=Hd G;have C:=Hd (O.o.pure G);clear L G;by_cases h1:k<n
  ·by_cases h2:k<many
   ·obtain⟨g,U,e,q,M⟩:=G4 C.o h1;have J:=Hd (show(l.take (k+1)).map (fun x=>x.take long)=(l.take k).map (fun x=>x.take long)++ [l[k].take long] by
     rw [List.take_succ_eq_append_getElem q,List.map_append];rfl)
    generalize l[k]=y at M J;have R:(0:Int)≤(k:Int):=by omega
    have H:(k:Int)<(n:Int):=by omega
    have S:(k:Int)<(many:Int):=by omega
    rw [e];have V:=Hd e;clear e q;go_wp2_with fail;go_at_call 140;refine(F.o _ _).mono ?_;rintro e X ⟨rfl,rfl⟩;have m:=Hd (D.o.pure ((Af wr.heap.size wr).alloc (Ae _) (.cells #[.string ⟨(y.take long).toArray⟩] 9)));have i:=Hd (r.o.alloc r.o.size (.cells #[.string ⟨(y.take long).toArray⟩] 9));have z:=Hd (Ub wr (y.take long));go_wp2_with (at_builtin;refine Eb _ rfl (.tmp 20) (.tmp 27) _ rfl 9 _ 1 16 underlying31 T3 rfl (by omega) Ei Qi _ _ _ _ _ rfl m.o _ _ _ _ rfl z.o (by omega) i.o.size ?_;intro N Q Y b f p);have E:=Hd b;have v:=Hd (Cq i.o f (by rintro j ⟨P,e,rfl⟩;exact(m.o.addr P e).2.1));clear b f p M;go_wp2_with fail;go_roundw
    case rel=>exact⟨k+1,by omega,by omega,by go_num,N,Q,rfl,by rw [J.o];exact E.o,v.o⟩
    case measure=>simp [intOf];omega
   ·obtain rfl:many=k:=by omega
    have H:(many:Int)<(n:Int):=by omega
    have a:min n many=many:=by omega
    have t:=Hd a;clear a;go_wp2_with fail;go_ret;rw [t.o];exact⟨B,d,rfl,D.o,r.o⟩
  ·obtain rfl:n=k:=by omega
   have a:min n many=n:=by omega
   have ht:l.take many=l.take n:=by rw [Bb (by have:=I.o;omega),Bb (by have:=I.o;omega)]
   have t:=Hd (And.intro a ht);clear a ht;go_wp2_with fail;go_ret;rw [t.o.1,t.o.2];exact⟨B,d,rfl,D.o,r.o⟩
end Go.Proofs.YtejpbijeifjdeaaGreat
