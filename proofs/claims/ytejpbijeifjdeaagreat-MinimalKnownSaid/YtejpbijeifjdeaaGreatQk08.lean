/- Parts of the proof. -/
import Derived.Test.YtejpbijeifjdeaaGreatQk07
import Derived.Lib.BytesEntry
set_option maxHeartbeats 4000000
set_option maxRecDepth 100000
open Go.Value renaming int→Aa
open Go.IntKind renaming i64→Ab,u64→Ac
open Nat renaming le_refl→Ae,le_trans→Am,zero_le→Aq
open Go.RowKit.Below renaming refl→Af
open List renaming getElem?_eq_getElem→Aj,length_append→An,length_take→Au,length_cons→Av,take_of_length_le→Ax,take_succ_eq_append_getElem→Az
open Go.Proofs.Tryz
open Go.Proofs.Tryz renaming prog→Ad
namespace Go.Proofs.YtejpbijeifjdeaaGreat
open Go.RowKit Go.Acc
variable {V:Nat→Prop}{k:Int}
theorem Un(v:Bv)(w:World)(hl:C5 (v.t:Int)=true)(hw:Bt (v.w:Int)=true):Calls Ad 351 #[.agg #[Aa Ab (v.t:Int),Aa Ab (v.w:Int),Aa Ac (v.n:Int)]] w (Adh (Aa Ab 0) w):=by
 have h:=Hd (show Below w.heap.size w (w.alloc (.cells #[Aa Ab (v.t:Int),Aa Ab (v.w:Int),Aa Ac (v.n:Int)] 169)) from(Af _ _).alloc (Ae _) _);have k:=Hd (Bh.new w 169 #[Aa Ab (v.t:Int),Aa Ab (v.w:Int),Aa Ac (v.n:Int)]);have i:=Hd hl;have j:=Hd hw;clear hl hw;go_enter func351,ntmps351;go_wp2_with fail;go_at_call 32;refine(M6 (v.w:Int) _ j.o).mono ?_;rintro e p ⟨⟨c,rfl⟩,rfl⟩;go_wp2_with fail;go_at_call 86;refine(Hg (v.t:Int) _).mono ?_;rw [i.o];rintro e l ⟨rfl,a⟩;have f:=Hd (Ba h.o a);have g:=Hd (k.o.pure a);have m:l.cell? ⟨w.heap.size,0,none⟩=some (Aa Ab (v.t:Int)):=g.o.cell 0;clear a;go_wp2_with fail;go_at_call 78;refine(C0 (v.t:Int) _).mono ?_;obtain⟨iv,d⟩:∃x,Bs (v.t:Int)=x:=⟨_,rfl⟩;rw [d];rintro e q ⟨rfl,a⟩;have b:=Hd (Ba f.o a);clear a m d;cases iv with
 |true=>
  go_wp2_with fail;go_ret;exact⟨rfl,b.o⟩
 |false=>
  go_wp2_with fail;go_ret;exact⟨rfl,b.o⟩
theorem Pa(w:Nat):∀(vs:List Bv) (k:Nat) (v:Bv) (l:List UInt8),vs[k]?=some v→C2 w l (vs.take (k+1))=C2 w l (vs.take k)++Bn w (En w (l.length+k*w) v)
 | [],_,_,_,h=>by simp at h
 |x::r,0,v,l,h=>by
  simp at h;subst h;simp [C2]
 |x::r,k+1,v,l,h=>by
  rw [List.take_succ_cons,List.take_succ_cons,C2,C2,Pa w r k v _ (by simpa using h),An,B9]
  congr 3
  rw [Nat.succ_mul];omega
theorem Lz(w:Nat)(vs:List Bv)(l:List UInt8):(C2 w l vs).length=l.length+vs.length*w:=by
 obtain⟨m,e,h⟩:=Ia w vs l;rw [e,An,h,Nat.mul_comm]
theorem sS(n y:Nat)(w:World)(hy:Bt (y:Int)=true):
  Calls Ad 357 #[Aa Ac (n:Int),Aa Ab (y:Int)] w (Adi (Aa Ac ((n % 2^(8*y):Nat):Int)) w):=by
 rcases Df hy with rfl|rfl|rfl|rfl
 ·have a:=Hd (show IntKind.u64.wrap ((n:Int)*72057594037927936)/72057594037927936=((n % 2^(8*1):Nat):Int) from G5 n 8 (by omega));clear hy;go_enter func357,ntmps357;go_wp2_with fail;go_ret;exact⟨Er a.o,rfl⟩
 ·have a:=Hd (show IntKind.u64.wrap ((n:Int)*281474976710656)/281474976710656=((n % 2^(8*2):Nat):Int) from G5 n 16 (by omega));clear hy;go_enter func357,ntmps357;go_wp2_with fail;go_ret;exact⟨Er a.o,rfl⟩
 ·have a:=Hd (show IntKind.u64.wrap ((n:Int)*4294967296)/4294967296=((n % 2^(8*4):Nat):Int) from G5 n 32 (by omega));clear hy;go_enter func357,ntmps357;go_wp2_with fail;go_ret;exact⟨Er a.o,rfl⟩
 ·have a:=Hd (show IntKind.u64.wrap (n:Int)=((n % 2^(8*8):Nat):Int) by have h:=G5 n 64 (by omega);simpa using h);clear hy;go_enter func357,ntmps357;go_wp2_with fail;go_ret;exact⟨Er a.o,rfl⟩
theorem Mn(b y n c:Nat)(A:Option Addr)(vs:List Bv)(l:List UInt8)(w:World)(o:Nat→Nat)(h:C9 w o b l)(hv:Ej w A n (vs.map vv))(ho:∀ad,A=some ad→o ad.block≠1)(hy:Bt (y:Int)=true)
  (hE:∀(i:Nat) v,vs[i]?=some v→inl v.t=false→v.n≤l.length+i*y∧l.length+i*y-v.n<2^(8*y)) (hm:l.length+vs.length*y≤1048576) (hn:n≤1000000):
  Calls Ad 325 #[Adm b,Aa Ab (y:Int),.slice A n c] w (Ds w o b (C2 y l vs)):=by
 have H:=Hd h;have HV:=Hd hv;have Z:=Hd ho;have HY:=Hd hy;have HE:=Hd hE;have HM:=Hd hm;have N:=Hd (Hy hv);clear h hv ho hE hm hy;go_enter func325,ntmps325;go_wp2_with fail;go_loopw [10] (fun u wr=>∃k:Nat,k≤n∧u= Aa Ab k∧∃o',C9 wr o' b (C2 y l (vs.take k))∧To (fun i=>i=1) w o wr o'∧Ej wr A n (vs.map vv)∧∀ad,A=some ad→o' ad.block≠1) (fun u _=>n-(intOf u).toNat)
 case atStart=>exact⟨0,Aq _,rfl,o,by rw [List.take_zero];exact H.o,To.refl _ _ _,HV.o,Z.o⟩
 case round=>
  obtain⟨k,hk,rfl,o',R,ht,am,ak⟩:=hrel;have W:=Hd R;have L:=Hd ht;have O:=Hd am;have s:=Hd ak;clear H HV Z R ht am ak;by_cases az:k<n
  ·obtain⟨g,an,v,rfl,T,h0,h1,h2⟩:=He O.o az;have X:=Hd (show g<wr.heap.size from Bl h0);have HT:=Hd (Pa y vs k v l T);obtain⟨m,B⟩:∃m,l.length+k*y=m:=⟨_,rfl⟩;have S:(C2 y l (vs.take k)).length=m:=by rw [Lz,Au,N.o,Nat.min_eq_left (by omega)];exact B
   have ai:m+y≤1048576:=by
    have h3:=HM.o;rw [N.o] at h3;have h4:(k+1)*y≤n*y:=Nat.mul_le_mul_right y (by omega);rw [Nat.succ_mul] at h4;omega
   have Q:=HE.o k v T;rw [B] at Q;obtain⟨q,hq⟩:∃q,En y m v=q:=⟨_,rfl⟩;rw [B,hq] at HT;have Y:=Hd (show(C2 y l (vs.take k)).length+y≤1048576 by rw [S];exact ai);have aw:=Hd S;have HQ:=Hd hq;have av:=Hd Q;have be:(0:Int)≤(k:Int):=by omega
   have bf:(k:Int)<(n:Int):=by omega
   have bg:m≤1048576:=by omega
   have z:=(Af wr.heap.size wr).alloc (Ae _) (.cells #[Aa Ab (v.t:Int),Aa Ab (v.w:Int),Aa Ac (v.n:Int)] 169);have ar:=Hd z;have r:=Hd (W.o.fresh z 0);have P:=Hd (Bh.new wr 169 #[Aa Ab (v.t:Int),Aa Ab (v.w:Int),Aa Ac (v.n:Int)]);have af:=Hd (show Bm o' wr.heap.size 0 wr.heap.size=0 from Br (Ae _));have j:=Hd (To.fresh (fun i=>i=1) z o' 0);obtain⟨iv,ah⟩:∃x,Bs (v.t:Int)=x:=⟨_,rfl⟩;have G:=Hd ah;clear B S ai T Q hq z ah;go_wp2_with fail;go_at_call 78;generalize wr.alloc (.cells #[Aa Ab (v.t:Int),Aa Ab (v.w:Int),Aa Ac (v.n:Int)] 169)=wa at ar r P j⊢;generalize Bm o' wr.heap.size 0=oa at r af j;refine(C0 (v.t:Int) _).mono ?_;rw [G.o];rintro e w2 ⟨rfl,R⟩;have ab:=Hd (j.o.trans (To.pure _ R oa));have D:=Hd (r.o.pure R);have ag:=Hd (P.o.pure R);have x2:w2.cell? ⟨wr.heap.size,2,none⟩=some (Aa Ac (v.n:Int)):=ag.o.cell 2;clear R h0 h1 h2 j r P;cases iv with
   |true=>
    have p:inl v.t=true:=G.o;have K:=Hd (show v.n % 2^(8*y)=q by rw [←HQ.o];unfold En;rw [if_pos p]);have U:=sS v.n y w2 HY.o;rw [K.o] at U;have ae:=Hd U;have F:=Hd (show Cf y q=true by rw [←K.o];exact J6 _ _);have I:=Hd (show(q:Int)<18446744073709551616 by rw [←K.o];exact Nz _ HY.o);clear p U;go_wp2_with fail;go_at_call 357;refine ae.o.mono ?_;rintro e w' ⟨rfl,rfl⟩;clear x2;go_wp2_with fail;go_at_call 137;refine(El b y q _ _ _ D.o HY.o F.o I.o Y.o).mono ?_;rintro e w4 ⟨rfl,V,d,a⟩;have E:=Hd (show C9 w4 V b (C2 y l (vs.take (k+1))) by rw [HT.o];exact d);have f:=Hd ((ab.o).trans a);have M:=Hd (O.o.fr (f.o).fr (fun ad h=>s.o ad h));have J:=Hd (show ∀ad,(some ⟨g,an,none⟩:Option Addr)=some ad→V ad.block≠1 from fun ad h=>by
     rw [f.o.ow ad.block (by injection h with h;subst h;exact X.o)];exact s.o ad h)
    clear d a;go_wp2_with fail;go_roundw
    case rel=>exact⟨k+1,by omega,by go_num,V,E.o,L.o.trans f.o,M.o,J.o⟩
    case measure=>simp [intOf];omega
   |false=>
    have p:inl v.t=false:=G.o;obtain⟨ay,C⟩:=av.o p;have aj:¬inl v.t=true:=by rw [p];decide
    have al:m-v.n=q:=by rw [←HQ.o];unfold En;rw [if_neg aj]
    have F:=Hd (show Cf y q=true from decide_eq_true (.inr (by rw [←al];exact C)));have I:=Hd (show(q:Int)<18446744073709551616 by omega);have e1:IntKind.u64.wrap (m:Int)=m:=Ce _ (by omega);have e2:(m:Int)-(v.n:Int)=q:=by omega
    have e3:IntKind.u64.wrap (q:Int)=q:=Ce _ (by omega);clear p ay C aj al;go_wp2_with fail;go_region_held3 (fun w'=>w'.cell? ⟨wr.heap.size,2,none⟩=some (Aa Ac (v.n:Int))) (first|with_reducible exact x2|with_reducible exact Bj x2|with_reducible exact Ip _ x2|with_reducible exact y2) (first|(go_at_call 133;(with_reducible refine(Dq m (D.o.pure (Af _ _).drew) aw.o).mono ?_);rintro e w' ⟨rfl,rfl⟩)|(go_at_call 137;(with_reducible refine(El b y q _ _ _ (D.o.pure (Af _ _).drew) HY.o F.o I.o Y.o).mono ?_);rintro e w4 ⟨rfl,V,d,a⟩;have y2:w4.cell? ⟨wr.heap.size,2,none⟩=some (Aa Ac (v.n:Int)):=(ag.o.to_ (To.from_drew a) (by rw [af.o];omega)).cell 2;have aa:=Hd (And.intro d (To.from_drew a));clear d a));obtain⟨d,a⟩:=aa.o;have E:=Hd (show C9 w4 V b (C2 y l (vs.take (k+1))) by rw [HT.o];exact d);have f:=Hd ((ab.o).trans a);have M:=Hd (O.o.fr (f.o).fr (fun ad h=>s.o ad h));have J:=Hd (show ∀ad,(some ⟨g,an,none⟩:Option Addr)=some ad→V ad.block≠1 from fun ad h=>by
     rw [f.o.ow ad.block (by injection h with h;subst h;exact X.o)];exact s.o ad h)
    clear d a x2 y2 e1 e2 e3;go_wp2_with fail;go_roundw
    case rel=>exact⟨k+1,by omega,by go_num,V,E.o,L.o.trans f.o,M.o,J.o⟩
    case measure=>simp [intOf];omega
  ·have bb:decide ((k:Int)<(n:Int))=false:=decide_eq_false (by omega);have bd:decide (k<n)=false:=decide_eq_false (by omega);have au:=Hd (show vs.take k=vs from Ax (by have:=N.o;omega));go_wp2_with fail;go_end0;exact⟨rfl,o',by have h:=W.o;rw [au.o] at h;exact h,L.o⟩
theorem Q2(W:World)(t:UInt8):Ca (W.alloc (.cells #[.int .u8 (t.toNat:Int)] 5)) (some ⟨W.heap.size,0,none⟩) 1 [t]:=by
 refine⟨rfl,fun j u hu=>⟨_,_,rfl,?_⟩⟩;rw [Nat.zero_add,(Bh.new W _ _).cell j];simpa [bc] using hu
structure kV(b g0:Nat)(l:List UInt8)(v:Bv)(w:World)(o:Nat→Nat):Prop where
 m:C9 w o b l
 x:Bh w g0 169 #[Aa Ab (v.t:Int),Aa Ab (v.w:Int),Aa Ac (v.n:Int)]
 ox:o g0=0
theorem sK(b y n c:Nat)(A:Option Addr)(vs:List Bv)(l:List UInt8)(w:World)(o:Nat→Nat)(h:C9 w o b l)(hv:Ej w A n (vs.map vv))(ho:∀ad,A=some ad→o ad.block≠1)(hy:Bt (y:Int)=true)
  (hE:∀(i:Nat) v,vs[i]?=some v→C5 (v.t:Int)=true∧Bt (v.w:Int)=true) (hm:l.length+vs.length≤1048576) (hn:n≤1000000):
  Calls Ad 352 #[Adm b,Aa Ab (y:Int),.slice A n c] w (Ds w o b (l++vs.map (Fi y))):=by
 have H:=Hd h;have HV:=Hd hv;have ag:=Hd ho;have HY:=Hd hy;have HE:=Hd hE;have HM:=Hd hm;have al:=Hd (Hy hv);clear h hv ho hE hm hy;go_enter func352,ntmps352;go_wp2_with fail;go_loopw [13] (fun u wr=>∃k:Nat,k≤n∧u= Aa Ab k∧∃o',C9 wr o' b (l++(vs.take k).map (Fi y))∧To (fun i=>i=1) w o wr o'∧Ej wr A n (vs.map vv)∧∀ad,A=some ad→o' ad.block≠1) (fun u _=>n-(intOf u).toNat)
 case atStart=>exact⟨0,Aq _,rfl,o,by simpa using H.o,To.refl _ _ _,HV.o,ag.o⟩
 case round=>
  obtain⟨k,hk,rfl,o',d,ht,aq,ap⟩:=hrel;have I:=Hd d;have Q:=Hd ht;have S:=Hd aq;have D:=Hd ap;clear H HV ag d ht aq ap;by_cases ay:k<n
  ·obtain⟨g,au,v,rfl,Z,h0,h1,h2⟩:=He S.o ay;have ae:=Hd (show g<wr.heap.size from Bl h0);have P:=Hd (show l++(vs.take (k+1)).map (Fi y)=(l++(vs.take k).map (Fi y))++ [Fi y v] by
    obtain⟨q1,q2⟩:=List.getElem?_eq_some_iff.1 Z;rw [Az q1,q2,List.map_append,←List.append_assoc];rfl)
   obtain⟨ao,ar⟩:=HE.o k v Z;obtain⟨lk,X⟩:∃x,l++(vs.take k).map (Fi y)=x:=⟨_,rfl⟩;have af:=Hd (show lk.length+1≤1048576 by
    rw [←X,An,List.length_map,Au];have h1:=HM.o;have h2:=al.o;omega)
   rw [X] at P I;have aw:=Hd ao;obtain⟨ow,E⟩:∃x,(if inl v.t=true then y else v.w)=x:=⟨_,rfl⟩;have ax:=Hd (show Bt (ow:Int)=true by rw [←E];split;exact HY.o;exact ar);have ah:=Hd E;obtain⟨r,Y⟩:∃x,UInt8.ofNat (4*v.t+bCode ow)=x:=⟨_,rfl⟩;have ak:=Hd (show Fi y v=r by unfold Fi;rw [E];exact Y);have ai:=Hd (fun W=>by have h:=Sy v.t ow W aw.o ax.o;rw [Y] at h;exact h);have a8:(0:Int)≤(k:Int):=by omega
   have a9:(k:Int)<(n:Int):=by omega
   have U:=(Af wr.heap.size wr).alloc (Ae _) (.cells #[Aa Ab (v.t:Int),Aa Ab (v.w:Int),Aa Ac (v.n:Int)] 169);have z:=Hd (show kV b wr.heap.size lk v (wr.alloc (.cells #[Aa Ab (v.t:Int),Aa Ab (v.w:Int),Aa Ac (v.n:Int)] 169)) (Bm o' wr.heap.size 0) from⟨I.o.fresh U 0,Bh.new _ _ _,Br (Ae _)⟩);have s:=Hd (To.fresh (fun i=>i=1) U o' 0);obtain⟨iv,an⟩:∃x,Bs (v.t:Int)=x:=⟨_,rfl⟩;have J:=Hd an;clear Z U an X ao ar E Y;go_wp2_with fail;go_at_call 78;generalize wr.alloc (.cells #[Aa Ab (v.t:Int),Aa Ab (v.w:Int),Aa Ac (v.n:Int)] 169)=wa at z s⊢;generalize Bm o' wr.heap.size 0=oa at z s;refine(C0 (v.t:Int) _).mono ?_;rw [J.o];rintro e w2 ⟨rfl,d⟩;have aj:=Hd (s.o.trans (To.pure _ d oa));have j:=Hd (show kV b wr.heap.size lk v w2 oa from⟨z.o.m.pure d,z.o.x.pure d,z.o.ox⟩);have x0:w2.cell? ⟨wr.heap.size,0,none⟩=some (Aa Ab (v.t:Int)):=j.o.x.cell 0;clear d h0 h1 h2 s z;cases iv with
   |true=>
    obtain rfl:y=ow:=by rw [←ah.o];exact(if_pos J.o).symm
    go_wp2_with fail;go_at_call 136;refine(ai.o _).mono ?_;rintro e a ⟨rfl,d⟩;have N:=Hd (aj.o.trans (To.pure _ d oa));have T:=Hd (show kV b wr.heap.size lk v a oa from⟨j.o.m.pure d,j.o.x.pure d,j.o.ox⟩);clear d x0;have V:=Iu (c:=1) (Q2 a r);have p:Below a.heap.size a ((a.alloc (.cells #[.int .u8 (r.toNat:Int)] 5)).alloc (.cells #[.string ⟨[r].toArray⟩] 9)):=Cc _ _ _;have G:=Hd (T.o.m.fresh p 0);have O:=Hd (N.o.trans (To.fresh (fun i=>i=1) p oa 0));have q:=Px (a.alloc (.cells #[.int .u8 (r.toNat:Int)] 5)) [r];have eS:(a.alloc (.cells #[.int .u8 (r.toNat:Int)] 5)).heap.size=a.heap.size+1:=by simp
    rw [eS] at q;have M:=Hd q;have L:=Hd (show ∀ad,(some ⟨a.heap.size+1,0,none⟩:Option Addr)=some ad→Bm oa a.heap.size 0 ad.block≠1 from fun ad h=>by injection h with h;subst h;rw [Br (by show a.heap.size≤a.heap.size+1;omega)];omega);clear p q eS;go_wp2_with fail;go_at_call 138;refine(G8 b 1 _ _ [[r]] lk _ _ G.o M.o L.o af.o (by omega)).mono ?_;rintro e w4 ⟨rfl,o4,B,C⟩;have F:=Hd (show C9 w4 o4 b (l++(vs.take (k+1)).map (Fi y)) by rw [P.o,ak.o];exact B);have f:=Hd (O.o.trans C);have R:=Hd (S.o.fr (f.o).fr (fun ad h=>D.o ad h));have K:=Hd (show ∀ad,(some ⟨g,au,none⟩:Option Addr)=some ad→o4 ad.block≠1 from fun ad h=>by
     rw [f.o.ow ad.block (by injection h with h;subst h;exact ae.o)];exact D.o ad h)
    clear B C V;go_wp2_with fail;go_roundw
    case rel=>exact⟨k+1,by omega,by go_num,o4,F.o,Q.o.trans f.o,R.o,K.o⟩
    case measure=>simp [intOf];omega
   |false=>
    obtain rfl:ow=v.w:=by rw [←ah.o];exact if_neg (by rw [show inl v.t=false from J.o];decide)
    go_wp2_with fail;go_at_call 136;refine(ai.o _).mono ?_;rintro e a ⟨rfl,d⟩;have N:=Hd (aj.o.trans (To.pure _ d oa));have T:=Hd (show kV b wr.heap.size lk v a oa from⟨j.o.m.pure d,j.o.x.pure d,j.o.ox⟩);clear d x0;have V:=Iu (c:=1) (Q2 a r);have p:Below a.heap.size a ((a.alloc (.cells #[.int .u8 (r.toNat:Int)] 5)).alloc (.cells #[.string ⟨[r].toArray⟩] 9)):=Cc _ _ _;have G:=Hd (T.o.m.fresh p 0);have O:=Hd (N.o.trans (To.fresh (fun i=>i=1) p oa 0));have q:=Px (a.alloc (.cells #[.int .u8 (r.toNat:Int)] 5)) [r];have eS:(a.alloc (.cells #[.int .u8 (r.toNat:Int)] 5)).heap.size=a.heap.size+1:=by simp
    rw [eS] at q;have M:=Hd q;have L:=Hd (show ∀ad,(some ⟨a.heap.size+1,0,none⟩:Option Addr)=some ad→Bm oa a.heap.size 0 ad.block≠1 from fun ad h=>by injection h with h;subst h;rw [Br (by show a.heap.size≤a.heap.size+1;omega)];omega);clear p q eS;go_wp2_with fail;go_at_call 138;refine(G8 b 1 _ _ [[r]] lk _ _ G.o M.o L.o af.o (by omega)).mono ?_;rintro e w4 ⟨rfl,o4,B,C⟩;have F:=Hd (show C9 w4 o4 b (l++(vs.take (k+1)).map (Fi y)) by rw [P.o,ak.o];exact B);have f:=Hd (O.o.trans C);have R:=Hd (S.o.fr (f.o).fr (fun ad h=>D.o ad h));have K:=Hd (show ∀ad,(some ⟨g,au,none⟩:Option Addr)=some ad→o4 ad.block≠1 from fun ad h=>by
     rw [f.o.ow ad.block (by injection h with h;subst h;exact ae.o)];exact D.o ad h)
    clear B C V;go_wp2_with fail;go_roundw
    case rel=>exact⟨k+1,by omega,by go_num,o4,F.o,Q.o.trans f.o,R.o,K.o⟩
    case measure=>simp [intOf];omega
  ·have a6:decide ((k:Int)<(n:Int))=false:=decide_eq_false (by omega);have a7:decide (k<n)=false:=decide_eq_false (by omega);have av:=Hd (show vs.take k=vs from Ax (by have:=al.o;omega));go_wp2_with fail;go_end0;exact⟨rfl,o',by have h:=I.o;rw [av.o] at h;exact h,Q.o⟩
structure Rx(b g1 g2:Nat)(y:Int)(v:Bv)(l:List UInt8)(w:World)(o:Nat→Nat):Prop where
 m:C9 w o b l
 x:Bh w g1 350 #[Adm b,Aa Ab y]
 v:Bh w g2 169 #[Aa Ab (v.t:Int),Aa Ab (v.w:Int),Aa Ac (v.n:Int)]
section
variable {b g1 g2:Nat} {y:Int} {v:Bv} {l:List UInt8} {w w':World} {o:Nat→Nat}
theorem Rx.pure(h:Rx b g1 g2 y v l w o)(hb:Below w.heap.size w w'):Rx b g1 g2 y v l w' o:=⟨h.m.pure hb,h.x.pure hb,h.v.pure hb⟩
theorem Rx.cells(h:Rx b g1 g2 y v l w o):w.cell? ⟨g1,0,none⟩=some (Adm b)∧w.cell? ⟨g1,1,none⟩=some (Aa Ab y)∧w.cell? ⟨g2,0,none⟩=some (Aa Ab (v.t:Int))∧w.cell? ⟨g2,1,none⟩=some (Aa Ab (v.w:Int))∧w.cell? ⟨g2,2,none⟩=some (Aa Ac (v.n:Int)):=
 ⟨h.x.cell 0,h.x.cell 1,h.v.cell 0,h.v.cell 1,h.v.cell 2⟩
end
theorem qV(n:Nat):IntKind.u64.wrap (n:Int)=((n % 2^(8*8):Nat):Int):=by
 have h:=G5 n 64 (by omega);simpa using h
theorem gL(b y:Nat)(v:Bv)(l:List UInt8)(w:World)(o:Nat→Nat)(h:C9 w o b l)(hy:Bt (y:Int)=true)(hi:inl v.t=true)(hl:l.length+y≤1048576):
  Calls Ad 331 #[.agg #[Adm b,Aa Ab (y:Int)],.agg #[Aa Ab (v.t:Int),Aa Ab (v.w:Int),Aa Ac (v.n:Int)]] w (Ds w o b (l++Bn y (v.n % 2^(8*y)))):=by
 rcases Df hy with rfl|rfl|rfl|rfl
 ·clear hy;have G:=Hd (show IntKind.u64.wrap ((v.n:Int)*72057594037927936)/72057594037927936=((v.n % 2^(8*1):Nat):Int) from G5 v.n 8 (by omega));have I:=Hd (show Bt ((1:Nat):Int)=true by decide);have k:=Hd (rfl:l.length=l.length);obtain⟨m,F⟩:∃m,l.length=m:=⟨_,rfl⟩;replace k:=Hd F;have A:=Hd (show l.length+1≤1048576 by omega);have x:=Hd (J6 v.n 1);have B:=Hd (Nz v.n (y:=1) (by decide));have z:=Hd (show Bs (v.t:Int)=true from hi);clear hi F hl;have f:=Cc w (.cells #[Adm b,Aa Ab 1] 350) (.cells #[Aa Ab (v.t:Int),Aa Ab (v.w:Int),Aa Ac (v.n:Int)] 169);have c:=Hd f;have a:=Hd (show Rx b w.heap.size (w.heap.size+1) 1 v l ((w.alloc (.cells #[Adm b,Aa Ab 1] 350)).alloc (.cells #[Aa Ab (v.t:Int),Aa Ab (v.w:Int),Aa Ac (v.n:Int)] 169)) o from⟨h.pure f,(Bh.new w 350 #[Adm b,Aa Ab 1]).alloc _,Ct w _ _ _⟩);clear f h;go_enter func331,ntmps331;go_wp2_with fail;generalize (w.alloc (.cells #[Adm b,Aa Ab 1] 350)).alloc (.cells #[Aa Ab (v.t:Int),Aa Ab (v.w:Int),Aa Ac (v.n:Int)] 169)=w1 at c a⊢;generalize w.heap.size+1=g2 at a⊢;generalize E:w.heap.size=g1 at a⊢;clear E;obtain⟨g,q,r,s,i⟩:=a.o.cells;go_region_held3 (fun w'=>w'.cell? ⟨g1,0,none⟩=some (Adm b)∧w'.cell? ⟨g2,2,none⟩=some (Aa Ac (v.n:Int))) (first|with_reducible exact⟨g,i⟩|with_reducible exact⟨Bj g,Bj i⟩) (first|(go_at_call 133;(with_reducible refine(Dq m (a.o.pure (Af _ _).drew).m k.o).mono ?_);rintro e w' ⟨rfl,rfl⟩));have d:=Hd (a.o.pure (Af _ _).drew);have j:=Hd c.o.drew;generalize w1.drew=w2 at d j⊢;clear g q r s i a c;obtain⟨g,q,r,s,i⟩:=d.o.cells;go_wp2_with fail;go_at_call 78;refine(C0 (v.t:Int) _).mono ?_;rw [z.o];rintro e J ⟨rfl,D⟩;have u:=Hd (Ba j.o D);have p:=Hd (d.o.pure D);clear D g q r s i;obtain⟨g,q,r,s,i⟩:=p.o.cells;go_wp2_with fail;rw [G.o];go_at_call 137;refine(El b 1 (v.n % 2^(8*1)) l _ o p.o.m I.o x.o B.o A.o).mono ?_;rintro e K C;have H:=Hd (Ds.from_pure u.o C);obtain rfl:=C.1;clear C g q r s i;go_wp2_with fail;go_end0;exact H.o
 ·clear hy;have G:=Hd (show IntKind.u64.wrap ((v.n:Int)*281474976710656)/281474976710656=((v.n % 2^(8*2):Nat):Int) from G5 v.n 16 (by omega));have I:=Hd (show Bt ((2:Nat):Int)=true by decide);have k:=Hd (rfl:l.length=l.length);obtain⟨m,F⟩:∃m,l.length=m:=⟨_,rfl⟩;replace k:=Hd F;have A:=Hd (show l.length+2≤1048576 by omega);have x:=Hd (J6 v.n 2);have B:=Hd (Nz v.n (y:=2) (by decide));have z:=Hd (show Bs (v.t:Int)=true from hi);clear hi F hl;have f:=Cc w (.cells #[Adm b,Aa Ab 2] 350) (.cells #[Aa Ab (v.t:Int),Aa Ab (v.w:Int),Aa Ac (v.n:Int)] 169);have c:=Hd f;have a:=Hd (show Rx b w.heap.size (w.heap.size+1) 2 v l ((w.alloc (.cells #[Adm b,Aa Ab 2] 350)).alloc (.cells #[Aa Ab (v.t:Int),Aa Ab (v.w:Int),Aa Ac (v.n:Int)] 169)) o from⟨h.pure f,(Bh.new w 350 #[Adm b,Aa Ab 2]).alloc _,Ct w _ _ _⟩);clear f h;go_enter func331,ntmps331;go_wp2_with fail;generalize (w.alloc (.cells #[Adm b,Aa Ab 2] 350)).alloc (.cells #[Aa Ab (v.t:Int),Aa Ab (v.w:Int),Aa Ac (v.n:Int)] 169)=w1 at c a⊢;generalize w.heap.size+1=g2 at a⊢;generalize E:w.heap.size=g1 at a⊢;clear E;obtain⟨g,q,r,s,i⟩:=a.o.cells;go_region_held3 (fun w'=>w'.cell? ⟨g1,0,none⟩=some (Adm b)∧w'.cell? ⟨g2,2,none⟩=some (Aa Ac (v.n:Int))) (first|with_reducible exact⟨g,i⟩|with_reducible exact⟨Bj g,Bj i⟩) (first|(go_at_call 133;(with_reducible refine(Dq m (a.o.pure (Af _ _).drew).m k.o).mono ?_);rintro e w' ⟨rfl,rfl⟩));have d:=Hd (a.o.pure (Af _ _).drew);have j:=Hd c.o.drew;generalize w1.drew=w2 at d j⊢;clear g q r s i a c;obtain⟨g,q,r,s,i⟩:=d.o.cells;go_wp2_with fail;go_at_call 78;refine(C0 (v.t:Int) _).mono ?_;rw [z.o];rintro e J ⟨rfl,D⟩;have u:=Hd (Ba j.o D);have p:=Hd (d.o.pure D);clear D g q r s i;obtain⟨g,q,r,s,i⟩:=p.o.cells;go_wp2_with fail;rw [G.o];go_at_call 137;refine(El b 2 (v.n % 2^(8*2)) l _ o p.o.m I.o x.o B.o A.o).mono ?_;rintro e K C;have H:=Hd (Ds.from_pure u.o C);obtain rfl:=C.1;clear C g q r s i;go_wp2_with fail;go_end0;exact H.o
 ·clear hy;have G:=Hd (show IntKind.u64.wrap ((v.n:Int)*4294967296)/4294967296=((v.n % 2^(8*4):Nat):Int) from G5 v.n 32 (by omega));have I:=Hd (show Bt ((4:Nat):Int)=true by decide);have k:=Hd (rfl:l.length=l.length);obtain⟨m,F⟩:∃m,l.length=m:=⟨_,rfl⟩;replace k:=Hd F;have A:=Hd (show l.length+4≤1048576 by omega);have x:=Hd (J6 v.n 4);have B:=Hd (Nz v.n (y:=4) (by decide));have z:=Hd (show Bs (v.t:Int)=true from hi);clear hi F hl;have f:=Cc w (.cells #[Adm b,Aa Ab 4] 350) (.cells #[Aa Ab (v.t:Int),Aa Ab (v.w:Int),Aa Ac (v.n:Int)] 169);have c:=Hd f;have a:=Hd (show Rx b w.heap.size (w.heap.size+1) 4 v l ((w.alloc (.cells #[Adm b,Aa Ab 4] 350)).alloc (.cells #[Aa Ab (v.t:Int),Aa Ab (v.w:Int),Aa Ac (v.n:Int)] 169)) o from⟨h.pure f,(Bh.new w 350 #[Adm b,Aa Ab 4]).alloc _,Ct w _ _ _⟩);clear f h;go_enter func331,ntmps331;go_wp2_with fail;generalize (w.alloc (.cells #[Adm b,Aa Ab 4] 350)).alloc (.cells #[Aa Ab (v.t:Int),Aa Ab (v.w:Int),Aa Ac (v.n:Int)] 169)=w1 at c a⊢;generalize w.heap.size+1=g2 at a⊢;generalize E:w.heap.size=g1 at a⊢;clear E;obtain⟨g,q,r,s,i⟩:=a.o.cells;go_region_held3 (fun w'=>w'.cell? ⟨g1,0,none⟩=some (Adm b)∧w'.cell? ⟨g2,2,none⟩=some (Aa Ac (v.n:Int))) (first|with_reducible exact⟨g,i⟩|with_reducible exact⟨Bj g,Bj i⟩) (first|(go_at_call 133;(with_reducible refine(Dq m (a.o.pure (Af _ _).drew).m k.o).mono ?_);rintro e w' ⟨rfl,rfl⟩));have d:=Hd (a.o.pure (Af _ _).drew);have j:=Hd c.o.drew;generalize w1.drew=w2 at d j⊢;clear g q r s i a c;obtain⟨g,q,r,s,i⟩:=d.o.cells;go_wp2_with fail;go_at_call 78;refine(C0 (v.t:Int) _).mono ?_;rw [z.o];rintro e J ⟨rfl,D⟩;have u:=Hd (Ba j.o D);have p:=Hd (d.o.pure D);clear D g q r s i;obtain⟨g,q,r,s,i⟩:=p.o.cells;go_wp2_with fail;rw [G.o];go_at_call 137;refine(El b 4 (v.n % 2^(8*4)) l _ o p.o.m I.o x.o B.o A.o).mono ?_;rintro e K C;have H:=Hd (Ds.from_pure u.o C);obtain rfl:=C.1;clear C g q r s i;go_wp2_with fail;go_end0;exact H.o
 ·clear hy;have G:=Hd (qV v.n);have I:=Hd (show Bt ((8:Nat):Int)=true by decide);have k:=Hd (rfl:l.length=l.length);obtain⟨m,F⟩:∃m,l.length=m:=⟨_,rfl⟩;replace k:=Hd F;have A:=Hd (show l.length+8≤1048576 by omega);have x:=Hd (J6 v.n 8);have B:=Hd (Nz v.n (y:=8) (by decide));have z:=Hd (show Bs (v.t:Int)=true from hi);clear hi F hl;have f:=Cc w (.cells #[Adm b,Aa Ab 8] 350) (.cells #[Aa Ab (v.t:Int),Aa Ab (v.w:Int),Aa Ac (v.n:Int)] 169);have c:=Hd f;have a:=Hd (show Rx b w.heap.size (w.heap.size+1) 8 v l ((w.alloc (.cells #[Adm b,Aa Ab 8] 350)).alloc (.cells #[Aa Ab (v.t:Int),Aa Ab (v.w:Int),Aa Ac (v.n:Int)] 169)) o from⟨h.pure f,(Bh.new w 350 #[Adm b,Aa Ab 8]).alloc _,Ct w _ _ _⟩);clear f h;go_enter func331,ntmps331;go_wp2_with fail;generalize (w.alloc (.cells #[Adm b,Aa Ab 8] 350)).alloc (.cells #[Aa Ab (v.t:Int),Aa Ab (v.w:Int),Aa Ac (v.n:Int)] 169)=w1 at c a⊢;generalize w.heap.size+1=g2 at a⊢;generalize E:w.heap.size=g1 at a⊢;clear E;obtain⟨g,q,r,s,i⟩:=a.o.cells;go_region_held3 (fun w'=>w'.cell? ⟨g1,0,none⟩=some (Adm b)∧w'.cell? ⟨g2,2,none⟩=some (Aa Ac (v.n:Int))) (first|with_reducible exact⟨g,i⟩|with_reducible exact⟨Bj g,Bj i⟩) (first|(go_at_call 133;(with_reducible refine(Dq m (a.o.pure (Af _ _).drew).m k.o).mono ?_);rintro e w' ⟨rfl,rfl⟩));have d:=Hd (a.o.pure (Af _ _).drew);have j:=Hd c.o.drew;generalize w1.drew=w2 at d j⊢;clear g q r s i a c;obtain⟨g,q,r,s,i⟩:=d.o.cells;go_wp2_with fail;go_at_call 78;refine(C0 (v.t:Int) _).mono ?_;rw [z.o];rintro e J ⟨rfl,D⟩;have u:=Hd (Ba j.o D);have p:=Hd (d.o.pure D);clear D g q r s i;obtain⟨g,q,r,s,i⟩:=p.o.cells;go_wp2_with fail;rw [G.o];go_at_call 137;refine(El b 8 (v.n % 2^(8*8)) l _ o p.o.m I.o x.o B.o A.o).mono ?_;rintro e K C;have H:=Hd (Ds.from_pure u.o C);obtain rfl:=C.1;clear C g q r s i;go_wp2_with fail;go_end0;exact H.o
theorem gM(b y q m:Nat)(v:Bv)(l:List UInt8)(w:World)(o:Nat→Nat)(h:C9 w o b l)(hy:Bt (y:Int)=true)(hi:inl v.t=false)(hm:l.length=m)(hle:v.n≤m)(hq:m-v.n=q)(hfit:q<2^(8*y))(hl:m+y≤1048576):
  Calls Ad 331 #[.agg #[Adm b,Aa Ab (y:Int)],.agg #[Aa Ab (v.t:Int),Aa Ab (v.w:Int),Aa Ac (v.n:Int)]] w (Ds w o b (l++Bn y q)):=by
 have H:=Hd hy;have C:=Hd hm;have A:=Hd (show l.length+y≤1048576 by omega);have x:=Hd (show Cf y q=true from decide_eq_true (.inr hfit));have B:=Hd (show(q:Int)<18446744073709551616 by omega);have z:=Hd (show Bs (v.t:Int)=false from hi);have I:IntKind.u64.wrap (m:Int)=m:=Ce _ (by omega);have J:(m:Int)-(v.n:Int)=q:=by omega
 have K:IntKind.u64.wrap (q:Int)=q:=Ce _ (by omega);clear hy hm hfit hi hq hle hl;have f:=Cc w (.cells #[Adm b,Aa Ab (y:Int)] 350) (.cells #[Aa Ab (v.t:Int),Aa Ab (v.w:Int),Aa Ac (v.n:Int)] 169);have c:=Hd f;have a:=Hd (show Rx b w.heap.size (w.heap.size+1) (y:Int) v l ((w.alloc (.cells #[Adm b,Aa Ab (y:Int)] 350)).alloc (.cells #[Aa Ab (v.t:Int),Aa Ab (v.w:Int),Aa Ac (v.n:Int)] 169)) o from⟨h.pure f,(Bh.new w 350 #[Adm b,Aa Ab (y:Int)]).alloc _,Ct w _ _ _⟩);clear f h;go_enter func331,ntmps331;go_wp2_with fail;generalize (w.alloc (.cells #[Adm b,Aa Ab (y:Int)] 350)).alloc (.cells #[Aa Ab (v.t:Int),Aa Ab (v.w:Int),Aa Ac (v.n:Int)] 169)=w1 at c a⊢;generalize w.heap.size+1=g2 at a⊢;generalize F:w.heap.size=g1 at a⊢;clear F;obtain⟨g,p,r,s,i⟩:=a.o.cells;go_region_held3 (fun w'=>w'.cell? ⟨g1,0,none⟩=some (Adm b)∧w'.cell? ⟨g2,2,none⟩=some (Aa Ac (v.n:Int))) (first|with_reducible exact⟨g,i⟩|with_reducible exact⟨Bj g,Bj i⟩) (first|(go_at_call 133;(with_reducible refine(Dq m (a.o.pure (Af _ _).drew).m C.o).mono ?_);rintro e w' ⟨rfl,rfl⟩));have d:=Hd (a.o.pure (Af _ _).drew);have j:=Hd c.o.drew;generalize w1.drew=w2 at d j⊢;clear g p r s i I J K a c;obtain⟨g,p,r,s,i⟩:=d.o.cells;go_wp2_with fail;go_at_call 78;refine(C0 (v.t:Int) _).mono ?_;rw [z.o];rintro e L ⟨rfl,E⟩;have u:=Hd (Ba j.o E);have k:=Hd (d.o.pure E);clear E g p r s i;obtain⟨g,p,r,s,i⟩:=k.o.cells;go_wp2_with fail;go_at_call 137;refine(El b y q l _ o k.o.m H.o x.o B.o A.o).mono ?_;rintro e M D;have G:=Hd (Ds.from_pure u.o D);obtain rfl:=D.1;clear D g p r s i;go_wp2_with fail;go_end0;exact G.o
theorem Sd(b y:Nat)(v:Bv)(l:List UInt8)(w:World)(o:Nat→Nat)(h:C9 w o b l)(hy:Bt (y:Int)=true)(hf:inl v.t=false→v.n≤l.length∧l.length-v.n<2^(8*y))(hl:l.length+y≤1048576):
  Calls Ad 331 #[.agg #[Adm b,Aa Ab (y:Int)],.agg #[Aa Ab (v.t:Int),Aa Ab (v.w:Int),Aa Ac (v.n:Int)]] w (Ds w o b (l++Bn y (En y l.length v))):=by
 cases hi:inl v.t with
 |true=>
  have e:En y l.length v=v.n % 2^(8*y):=by unfold En;rw [if_pos hi]
  rw [e];exact gL b y v l w o h hy hi hl
 |false=>
  have e:En y l.length v=l.length-v.n:=by unfold En;rw [if_neg (by rw [hi];decide)]
  rw [e];obtain⟨h1,h2⟩:=hf hi;exact gM b y _ l.length v l w o h hy hi rfl h1 rfl h2 hl
theorem rE(b y:Nat)(v:Bv)(l:List UInt8)(w:World)(o:Nat→Nat)(h:C9 w o b l)(hy:Bt (y:Int)=true)(hlg:C5 (v.t:Int)=true)(hww:Bt (v.w:Int)=true)(hl:l.length+1≤1048576):
  Calls Ad 332 #[.agg #[Adm b,Aa Ab (y:Int)],.agg #[Aa Ab (v.t:Int),Aa Ab (v.w:Int),Aa Ac (v.n:Int)]] w (Ds w o b (l++ [Fi y v])):=by
 obtain⟨ow,p⟩:∃x,(if inl v.t=true then y else v.w)=x:=⟨_,rfl⟩;have S:=Hd (show Bt (ow:Int)=true by rw [←p];split;exact hy;exact hww);have O:=Hd p;obtain⟨g,L⟩:∃x,UInt8.ofNat (4*v.t+bCode ow)=x:=⟨_,rfl⟩;have U:=Hd (show Fi y v=g by unfold Fi;rw [p];exact L);have P:=Hd (fun W=>by have h:=Sy v.t ow W hlg S.o;rw [L] at h;exact h);have N:=Hd hl;obtain⟨iv,R⟩:∃x,Bs (v.t:Int)=x:=⟨_,rfl⟩;have E:=Hd R;rw [U.o];clear hy hlg hww hl p L R;have I:=Cc w (.cells #[Adm b,Aa Ab (y:Int)] 350) (.cells #[Aa Ab (v.t:Int),Aa Ab (v.w:Int),Aa Ac (v.n:Int)] 169);have A:=Hd I;have i:=Hd (show Rx b w.heap.size (w.heap.size+1) (y:Int) v l ((w.alloc (.cells #[Adm b,Aa Ab (y:Int)] 350)).alloc (.cells #[Aa Ab (v.t:Int),Aa Ab (v.w:Int),Aa Ac (v.n:Int)] 169)) o from⟨h.pure I,(Bh.new w 350 #[Adm b,Aa Ab (y:Int)]).alloc _,Ct w _ _ _⟩);clear I h;go_enter func332,ntmps332;go_wp2_with fail;generalize (w.alloc (.cells #[Adm b,Aa Ab (y:Int)] 350)).alloc (.cells #[Aa Ab (v.t:Int),Aa Ab (v.w:Int),Aa Ac (v.n:Int)] 169)=w1 at A i⊢;generalize w.heap.size+1=g2 at i⊢;generalize V:w.heap.size=g1 at i⊢;clear V;obtain⟨q,r,s,u,z⟩:=i.o.cells;go_at_call 78;refine(C0 (v.t:Int) _).mono ?_;rw [E.o];rintro e Y ⟨rfl,k⟩;have M:=Hd (Ba A.o k);have G:=Hd (i.o.pure k);clear k q r s u z i A;obtain⟨q,r,s,u,z⟩:=G.o.cells;cases iv with
 |true=>
  obtain rfl:y=ow:=by rw [←O.o];exact(if_pos E.o).symm
  go_wp2_with fail;go_at_call 136;refine(P.o _).mono ?_;rintro e a ⟨rfl,k⟩;have B:=Hd (Ba M.o k);have j:=Hd (G.o.pure k);clear k q r s u z;obtain⟨q,r,s,u,z⟩:=j.o.cells;have K:=Iu (c:=1) (Q2 a g);have d:Below a.heap.size a ((a.alloc (.cells #[.int .u8 (g.toNat:Int)] 5)).alloc (.cells #[.string ⟨[g].toArray⟩] 9)):=Cc _ _ _;have C:=Hd (j.o.m.fresh d 0);have D:=Hd d;have f:=Px (a.alloc (.cells #[.int .u8 (g.toNat:Int)] 5)) [g];have Q:(a.alloc (.cells #[.int .u8 (g.toNat:Int)] 5)).heap.size=a.heap.size+1:=by simp
  rw [Q] at f;have H:=Hd f;have F:=Hd (show ∀ad,(some ⟨a.heap.size+1,0,none⟩:Option Addr)=some ad→Bm o a.heap.size 0 ad.block≠1 from fun ad h=>by injection h with h;subst h;rw [Br (by show a.heap.size≤a.heap.size+1;omega)];omega);clear d f Q;go_wp2_with fail;go_at_call 138;refine(G8 b 1 _ _ [[g]] l _ _ C.o H.o F.o N.o (by omega)).mono ?_;rintro e X J;have T:=Hd (Ds.from_pure B.o (Ds.from_fresh D.o J));obtain rfl:=J.1;clear J K q r s u z;go_wp2_with fail;go_end0;exact T.o
 |false=>
  obtain rfl:ow=v.w:=by rw [←O.o];exact if_neg (by rw [show inl v.t=false from E.o];decide)
  go_wp2_with fail;go_at_call 136;refine(P.o _).mono ?_;rintro e a ⟨rfl,k⟩;have B:=Hd (Ba M.o k);have j:=Hd (G.o.pure k);clear k q r s u z;obtain⟨q,r,s,u,z⟩:=j.o.cells;have K:=Iu (c:=1) (Q2 a g);have d:Below a.heap.size a ((a.alloc (.cells #[.int .u8 (g.toNat:Int)] 5)).alloc (.cells #[.string ⟨[g].toArray⟩] 9)):=Cc _ _ _;have C:=Hd (j.o.m.fresh d 0);have D:=Hd d;have f:=Px (a.alloc (.cells #[.int .u8 (g.toNat:Int)] 5)) [g];have Q:(a.alloc (.cells #[.int .u8 (g.toNat:Int)] 5)).heap.size=a.heap.size+1:=by simp
  rw [Q] at f;have H:=Hd f;have F:=Hd (show ∀ad,(some ⟨a.heap.size+1,0,none⟩:Option Addr)=some ad→Bm o a.heap.size 0 ad.block≠1 from fun ad h=>by injection h with h;subst h;rw [Br (by show a.heap.size≤a.heap.size+1;omega)];omega);clear d f Q;go_wp2_with fail;go_at_call 138;refine(G8 b 1 _ _ [[g]] l _ _ C.o H.o F.o N.o (by omega)).mono ?_;rintro e X J;have T:=Hd (Ds.from_pure B.o (Ds.from_fresh D.o J));obtain rfl:=J.1;clear J K q r s u z;go_wp2_with fail;go_end0;exact T.o
theorem eO(W:World)(v:Bv):Gf (W.alloc (.cells #[Aa Ab (v.t:Int),Aa Ab (v.w:Int),Aa Ac (v.n:Int)] 169)) W.heap.size (some ⟨W.heap.size,0,none⟩) 1 1 [vv v]:=by
 refine⟨rfl,?_⟩;have:=World.ownsRow_lit (base:=W.heap.size) (e:=169) (size:=3) W #[Aa Ab (v.t:Int),Aa Ab (v.w:Int),Aa Ac (v.n:Int)] 1 (Ae _) (by simp only [maxLen];omega) rfl;exact this
theorem iB(kv:Bv)(n c:Nat)(A:Option Addr)(vs:List Bv)(w:World)(hv:Ej w A n (vs.map vv))(hn:n≤1000000)(hk:kv.t=14)(hkw:Bt (kv.w:Int)=true)
  (hE:∀v∈vs,C5 (v.t:Int)=true∧Bt (v.w:Int)=true):
  Calls Ad 330 #[.agg #[Aa Ab (kv.t:Int),Aa Ab (kv.w:Int),Aa Ac (kv.n:Int)],.slice A n c] w (Adh (Aa Ab 0) w):=by
 have I:=Cc w (.cells #[Aa Ab (kv.t:Int),Aa Ab (kv.w:Int),Aa Ac (kv.n:Int)] 169) (.cells #[Aa Ab (kv.t:Int),Aa Ab (kv.w:Int),Aa Ac (kv.n:Int)] 169);have M:=Hd I;have S:=Hd (hv.pure I);have b:=eO (w.alloc (.cells #[Aa Ab (kv.t:Int),Aa Ab (kv.w:Int),Aa Ac (kv.n:Int)] 169)) kv;have N:(w.alloc (.cells #[Aa Ab (kv.t:Int),Aa Ab (kv.w:Int),Aa Ac (kv.n:Int)] 169)).heap.size=w.heap.size+1:=by simp
 rw [N] at b;have H:=Hd b;have Q:=Hd (show ∀v∈kv::vs,C5 (v.t:Int)=true∧Bt (v.w:Int)=true from fun v h=>by
  rcases List.mem_cons.1 h with rfl|h
  ·exact⟨by rw [hk];decide,hkw⟩
  ·exact hE v h)
 have j:(kv.t:Int)=14:=by omega
 have U:((kv.t:Int) != 14)=false:=by rw [j];rfl
 clear I hv b N hk hkw hE j;go_enter func330,ntmps330;go_wp2_with (at_builtin;refine Dh _ rfl (.tmp 13) (.tmp 14) _ rfl 169 _ 3 24 underlying144 Pn rfl (by omega) Jf P7 _ _ _ _ _ rfl H.o _ _ _ _ rfl S.o (by omega) (by simp) ?_;intro P c1 K d i C);have R:=Hd (show Ej K P (1+n) ((kv::vs).map vv) from d.is);have F:=Hd (M.o.trans (i.belowB (fun k hk ⟨ad,h,h'⟩=>by injection h with h;subst h;have h2:k=w.heap.size+1:=h';omega) (by have:=M.o.size;omega)));clear d i C;go_loopw [17] (fun u wr=>∃k:Nat,k≤1+n∧u= Aa Ab k∧Below K.heap.size K wr) (fun u _=>1+n-(intOf u).toNat)
 case atStart=>exact⟨0,Aq _,rfl,Af _ _⟩
 case round=>
  obtain⟨k,hk,rfl,r⟩:=hrel;have m:=Hd r;have G:=Hd (R.o.pure r);clear r;by_cases J:k<1+n
  ·obtain⟨g,ae,v,rfl,E,h0,h1,h2⟩:=He G.o J;have p:=Hd (Q.o v (List.mem_of_getElem? E));have Y:(0:Int)≤(k:Int):=by omega
   have Z:(k:Int)<1+(n:Int):=by omega
   have O:(k:Int)<((1+n:Nat):Int):=by omega
   have s:=Hd (m.o.alloc m.o.size (.cells #[Aa Ab (v.t:Int),Aa Ab (v.w:Int),Aa Ac (v.n:Int)] 169));have B:=Hd (Bh.new wr 169 #[Aa Ab (v.t:Int),Aa Ab (v.w:Int),Aa Ac (v.n:Int)]);obtain⟨z,hz⟩:∃z,decide ((0:Int)<(k:Int))=z:=⟨_,rfl⟩;have ab:decide (0<k)=z:=by rw [←hz];exact decide_eq_decide.2 (by omega)
   obtain⟨iv,D⟩:∃x,Bs (v.t:Int)=x:=⟨_,rfl⟩;have y:=Hd D;clear E D;cases z with
   |true=>
    go_wp2_with fail;go_at_call 32;refine(M6 (v.w:Int) _ p.o.2).mono ?_;rintro e w' ⟨⟨T,rfl⟩,rfl⟩;go_wp2_with fail;go_at_call 86;refine(Hg (v.t:Int) _).mono ?_;rw [p.o.1];rintro e w3 ⟨rfl,f⟩;have l:=Hd (Ba s.o f);have q:=Hd (B.o.pure f);have L:w3.cell? ⟨wr.heap.size,0,none⟩=some (Aa Ab (v.t:Int)):=q.o.cell 0;clear f;go_wp2_with fail;go_at_call 78;refine(C0 (v.t:Int) _).mono ?_;rw [y.o];rintro e w4 ⟨rfl,f⟩;have a:=Hd (Ba l.o f);clear f L;cases iv with
    |true=>
     go_wp2_with fail;go_roundw
     case rel=>exact⟨k+1,by omega,by go_num,a.o⟩
     case measure=>simp [intOf];omega
    |false=>
     go_wp2_with fail;go_roundw
     case rel=>exact⟨k+1,by omega,by go_num,a.o⟩
     case measure=>simp [intOf];omega
   |false=>
    go_wp2_with fail;go_at_call 32;refine(M6 (v.w:Int) _ p.o.2).mono ?_;rintro e w' ⟨⟨T,rfl⟩,rfl⟩;have l:=s;have q:=B;have L:_=some (Aa Ab (v.t:Int)):=q.o.cell 0;go_wp2_with fail;go_at_call 78;refine(C0 (v.t:Int) _).mono ?_;rw [y.o];rintro e w4 ⟨rfl,f⟩;have a:=Hd (Ba l.o f);clear f L;cases iv with
    |true=>
     go_wp2_with fail;go_roundw
     case rel=>exact⟨k+1,by omega,by go_num,a.o⟩
     case measure=>simp [intOf];omega
    |false=>
     go_wp2_with fail;go_roundw
     case rel=>exact⟨k+1,by omega,by go_num,a.o⟩
     case measure=>simp [intOf];omega
  ·have V:decide ((k:Int)<((1+n:Nat):Int))=false:=decide_eq_false (by omega);have X:decide ((k:Int)<1+(n:Int))=false:=decide_eq_false (by omega);have W:decide (k<1+n)=false:=decide_eq_false (by omega);go_wp2_with fail;go_ret;exact⟨rfl,Ba F.o m.o⟩
attribute [local go_sem] Oper.semAt_some
def Gq(V:Nat→Prop)(W W':World):Prop:=∀a u,W.cell? a=some u→¬V a.block→W'.cell? a=some u
theorem Gq.refl(V:Nat→Prop)(W:World):Gq V W W:=fun _ _ h _=>h
theorem Gq.trans{A B C:World}(h:Gq V A B)(k:Gq V B C):Gq V A C:=fun a u hc hv=>k a u (h a u hc hv) hv
theorem Gq.pure{W W':World}(h:Below W.heap.size W W'):Gq V W W':=fun _ _ hc _=>Bg h hc
theorem Ab6(W:World)(l:Nat)(o o':Obj)(h:W.heap[l]?=some o)(hc:o.isCells=false):Gq V W (W.putObj l o'):=by
 intro a u ha _;have hg:=grownBy_putObj' W l o';exact cell_kept ha hg (fun r e=>by cases e;exact⟨o,h,hc⟩)
def lU(y:Nat×Nv):Array Value:=#[Aa Ab (y.1:Int),.agg (Adk y.2.k y.2.n y.2.u y.2.s y.2.A y.2.an y.2.ac y.2.B y.2.bn y.2.bc)]
def Ac3(n l:Nat)(V:Nat→Prop)(Y:List (Nat×Nv))(J Jx:Nat→World→Prop):Prop:=
 ∀i y W1,Y[i]?=some y→J i W1→YieldAt Fence.wide (n-1) Ad l (lU y) W1 fun e W'=>
  (e= .returned (.bool true)∧J (i+1) W'∧Gq V W1 W'∧W1.heap.size≤W'.heap.size)∨(e= .returned (.bool false)∧Jx (i+1) W')
def Ab1(W:World)(V:Nat→Prop)(J Jx:Nat→World→Prop)(i m:Nat)(e:Ending)(W':World):Prop:=
 (e= .returned (.bool true)∧J (i+m) W'∧Gq V W W'∧W.heap.size≤W'.heap.size)∨(e= .returned (.bool false)∧∃j,j≤i+m∧Jx j W')
def Acz(Y:List (Nat×Nv))(i:Nat)(ys:List (Nat×Nv)):Prop:=∃a b,Y=a++ys++b∧a.length=i
theorem sT(n l:Nat)(hn:1≤n)(V:Nat→Prop)(Y:List (Nat×Nv))(J Jx:Nat→World→Prop)(w0:World)(p:Nat→Prop)(hp:∀k,p k→¬V k)(hV:∀k,V k→k<w0.heap.size)(hY:Ac3 n l V Y J Jx)
  (hJ:∀s W W',J s W→Below W.heap.size W W'→J s W') {d:Nat} {x:Nv} {t:Tr} {ys:List (Nat×Nv)} (h:Gy w0 p d x t ys):
  ∀(i:Nat) (W:World),Gq V w0 W→w0.heap.size≤W.heap.size→J i W→Acz Y i ys→d+ys.length≤1099511627776→
   Calls Ad 233 #[.agg (Adj x),Aa Ab (d:Int),.func (.yield l) #[] #[]] W (Ab1 W V J Jx i ys.length):=by
 have HY:=Hd hY;have H:=Hd hJ;clear hY hJ
 induction h with
 | @mk d x ks l' vs yss h1 ha hac hx h2 hb hbc hy hl hyl hc ih=>
  intro i W hK hs Q hN hd;have ah:=Hd ih;have G:=Hd (show Kr W x.B x.bn vs from⟨h2.1,O0 h2.2 hb fun a u hc hpa=>hK a u hc (hp _ hpa)⟩);have ao:=Hd hb;have bj:x.bn≤1099511627776:=by omega
  have bt:vs.length=x.bn:=h2.1;have hB:=(Af W.heap.size W).alloc (Ae _) (.cells (Adj x) 34);have HB:=Hd hB;have HX:=Hd (Bh.new W 34 (Adj x));have HJ:=Hd (H.o _ _ _ Q hB);have an:=Hd (show ¬V W.heap.size from fun hv=>by have:=hV _ hv;omega);obtain⟨fn,a2,af,ay,A,hR⟩:=HY.o i (d,x) _ (by obtain⟨a,b,E,e2⟩:=hN;rw [E,←e2];simp) HJ.o;have ak:=Hd hK;have am:=Hd (show i+1≤i+((d,x)::yss.flatten).length by simp only [Av];omega);have HN:=Hd hN;have HD:=Hd hd;have bl:(d:Int)≤1099511627776:=by omega
  rw [show lU (d,x)=#[Aa Ab (d:Int),.agg (Adj x)] from rfl] at A;clear ih h1 ha hac hx h2 hb hbc hy hc hK Q hN hB;go_enter func233,ntmps233;go_upto_region 1 with fail
  refine(wpIn_wide (n:=n)).1 ?_
  gi_wp2
  refine hR.mono ?_;rintro e D (⟨rfl,f,m,ab⟩|⟨rfl,f⟩)
  ·have M:=Hd (show Gq V w0 D from(ak.o.trans (Gq.pure HB.o)).trans m);have N:=Hd (show Gq V W D from(Gq.pure HB.o).trans m);have O:=Hd (show W.heap.size≤D.heap.size from Am HB.o.size ab);have r:=Hd (show J (i+1+(yss.take 0).flatten.length) D from f);have a9:=Hd (show Gq V (W.alloc (.cells (Adj x) 34)) D from m);have c5:D.cell? ⟨W.heap.size,5,none⟩=some (.slice x.B x.bn x.bc):=m _ _ (HX.o.cell 5) an.o;clear f m ab hR A HJ
   gi_wp2
   go_wp2_with fail;go_loopw [17] (fun u wr=>∃k:Nat,k≤x.bn∧u= Aa Ab k∧J (i+1+(yss.take k).flatten.length) wr∧Gq V w0 wr∧Gq V W wr∧W.heap.size≤wr.heap.size) (fun u _=>x.bn-(intOf u).toNat)
   case atStart=>exact⟨0,Aq _,rfl,r.o,M.o,N.o,O.o⟩
   case round=>
    obtain⟨k,hk,rfl,hj,T,X,ad⟩:=hrel;have I:=Hd hj;have K:=Hd T;have y:=Hd X;have z:=Hd ad;clear hj T X ad r M N O c5;by_cases bq:k<x.bn
    ·obtain⟨v,hv⟩:∃v,vs[k]?=some v:=⟨_,Aj (by omega)⟩;obtain⟨t',ae⟩:∃t',l'[k]?=some t':=⟨_,Aj (by omega)⟩;obtain⟨ys',C⟩:∃ys',yss[k]?=some ys':=⟨_,Aj (by omega)⟩;have P:Kr wr x.B x.bn vs:=⟨G.o.1,O0 G.o.2 ao.o fun a u hc hpa=>y.o a u hc (hp _ hpa)⟩;obtain⟨g,bu,e,v0,v1,v2,v3,v4,v5⟩:=Jv P hv;have ht:(yss.take (k+1)).flatten=(yss.take k).flatten++ys':=by
      obtain⟨h1,h2⟩:=List.getElem?_eq_some_iff.1 C;rw [Az h1,List.flatten_append,h2];simp
     have Z:(yss.take k).flatten.length+ys'.length≤yss.flatten.length:=by
      rw [←An,←ht]
      conv=>rhs;rw [←List.take_append_drop (k+1) yss]
      rw [List.flatten_append,An];omega
     have HT:=Hd ht;have al:=Hd Z;have c:=(Af wr.heap.size wr).alloc (Ae _) (.cells (Adj v) 34);have F:=Hd c;have w:=Hd (ah.o k v t' ys' hv ae C (i+1+(yss.take k).flatten.length) _ (K.o.trans (Gq.pure c)) (Am hs (Am z.o c.size)) (H.o _ _ _ I.o c)
      (by
       obtain⟨a,b,E,e2⟩:=HN.o;refine⟨a++(d,x)::(yss.take k).flatten,(yss.drop (k+1)).flatten++b,?_,by simp only [An,Av];omega⟩;rw [E]
       conv=>lhs;rw [←List.take_append_drop (k+1) yss,List.flatten_append,ht]
       simp) (by have h1:=HD.o;simp only [Av] at h1;omega))
     have E:((d+1:Nat):Int)=(d:Int)+1:=by omega
     rw [E] at w;have a1:(0:Int)≤(k:Int):=by omega
     have bp:(k:Int)<(x.bn:Int):=by omega
     rw [e];clear ht Z c P hv ae C E;go_wp2_with fail;go_at_call 233;refine w.o.mono ?_;rintro e W3 (⟨rfl,R,U,aa⟩|⟨rfl,q,hq,S⟩)
     ·have aj:=Hd (show J (i+1+(yss.take (k+1)).flatten.length) W3 by rw [HT.o,An,←Nat.add_assoc];exact R);have L:=Hd (show Gq V wr W3 from(Gq.pure F.o).trans U);have ap:=Hd (Am F.o.size aa);clear R U aa v0 v1 v2 v3 v4 v5 e;go_wp2_with fail;go_roundw
      case rel=>exact⟨k+1,by omega,by go_num,aj.o,K.o.trans L.o,y.o.trans L.o,Am z.o ap.o⟩
      case measure=>simp [intOf];omega
     ·have HQ:=Hd (show ∃j,j≤i+((d,x)::yss.flatten).length∧Jx j W3 from⟨q,by
       have h1:(yss.take k).flatten.length+ys'.length≤yss.flatten.length:=al.o;simp only [Av];omega,S⟩)
      clear hq S v0 v1 v2 v3 v4 v5 e;go_wp2_with fail;go_ret;exact .inr ⟨rfl,HQ.o⟩
    ·have ax:k=x.bn:=by omega
     have HE:=Hd (show(yss.take k).flatten=yss.flatten by rw [Ax (by omega)]);have bm:decide ((k:Int)<(x.bn:Int))=false:=decide_eq_false (by omega);have bo:decide (k<x.bn)=false:=decide_eq_false (by omega);clear ax;go_wp2_with fail;go_ret;exact .inl ⟨rfl,by have h:=I.o;rw [HE.o,Nat.add_assoc,Nat.add_comm 1] at h;exact h,y.o,z.o⟩
  ·have r:=Hd f;clear f hR A HJ
   gi_wp2
   go_wp2_with fail;go_ret;exact .inr ⟨rfl,i+1,am.o,r.o⟩
theorem iP(x:Nv)(w:World):Calls Ad 142 #[.agg (Adj x)] w fun e w'=>e= .returned (.func (.func 232) #[] #[Adm w.heap.size])∧w'=w.alloc (.cells (Adj x) 34):=by
 go_enter func142,ntmps142;go_wp2;go_ret;exact⟨rfl,rfl⟩
def KpW(V:Nat→Prop)(W W':World):Prop:=Gq V W W'∧W.heap.size≤W'.heap.size
theorem bC(x:Nv)(t:Tr)(Y:List (Nat×Nv))(V p:Nat→Prop)(b:Nat)(w:World)(n:Nat)(hn:1≤n)(h:Gy w p 0 x t Y)(hb:Bh w b 34 (Adj x))(hp:∀k,p k→¬V k)(hV:∀k,V k→k<w.heap.size)(hm:Y.length≤1099511627776):
  SeqStopsK Fence.wide n Ad 232 #[Adm b] (fun i:Fin Y.length=>lU Y[i]) (KpW V) (fun xs=>xs=List.finRange Y.length) (fun pre=>pre<+:List.finRange Y.length) Y.length w:=by
 intro l J A W hW H m I h0;have c:=hb.pure hW;obtain ⟨B,C,D,E,F,G⟩:=c.c6;have z:∀i (hi:i<Y.length),(List.finRange Y.length).take (i+1)=(List.finRange Y.length).take i++ [⟨i,hi⟩]:=by
  intro i hi;rw [←List.take_append_getElem (by rw [List.length_finRange];exact hi)];simp
 have a:=Hd (sT n l hn V Y (fun i W=>J ((List.finRange Y.length).take i) W) (fun i W=>A ((List.finRange Y.length).take i) W) w p hp hV
  (fun i y W1 hy hj=>by
   obtain⟨hi,rfl⟩:=List.getElem?_eq_some_iff.1 hy;have h1:=I ((List.finRange Y.length).take i) ⟨i,hi⟩ W1 hj (by rw [Au,List.length_finRange];omega);simp only [z i hi];exact h1)
  (fun s W W' h hb=>H _ W W' none h ⟨hb.os,hb.tape,hb.output,hb.size,fun k hk _=>hb.block k hk⟩ (fun r e=>by cases e)) h 0 W (Gq.pure hW) hW.size (by rw [List.take_zero];exact h0) ⟨[],[],by simp,rfl⟩ (by omega))
 clear hb c h hW H m I h0;refine callsIn_wide.2 ?_;go_enter func232,ntmps232;go_wp2_with fail;go_at_call 233;refine a.o.mono ?_;rintro e W3 (⟨rfl,d,u,v⟩|⟨rfl,q,K,f⟩)
 ·have g:=Hd (show J (List.finRange Y.length) W3 by
   have h:J ((List.finRange Y.length).take (0+Y.length)) W3:=d;rw [Ax (by rw [List.length_finRange];omega)] at h;exact h)
  clear d u v a B C D E F G;go_wp2_with fail;go_end0;exact⟨⟨_,rfl⟩,.inl ⟨_,rfl,g.o⟩⟩
 ·have j:=Hd (show A ((List.finRange Y.length).take q) W3 from f);clear K f a B C D E F G;go_wp2_with fail;go_end0;exact⟨⟨_,rfl⟩,.inr ⟨_,List.take_prefix _ _,j.o⟩⟩
def X5(k:Int):Int:=if k=2∨k=3∨k=8 then 1 else if k=4∨k=9 then 2 else if k=5∨k=6∨k=7 then 4 else if k=17 then 8 else 0
theorem wK(h1:1≤k)(h2:k≤17):∀w,(Instr.index 318 (.agg #[Aa Ab 0,Aa Ab 0,Aa Ab 1,Aa Ab 1,Aa Ab 2,Aa Ab 4,Aa Ab 4,Aa Ab 4,Aa Ab 1,Aa Ab 2,Aa Ab 0,Aa Ab 0,Aa Ab 0,Aa Ab 0,Aa Ab 0,Aa Ab 0,Aa Ab 0,Aa Ab 8]) (Aa Ab k)).run Ad w= .ok (Aa Ab (X5 k)) w:=by
 obtain rfl|rfl|rfl|rfl|rfl|rfl|rfl|rfl|rfl|rfl|rfl|rfl|rfl|rfl|rfl|rfl|rfl:k=1∨k=2∨k=3∨k=4∨k=5∨k=6∨k=7∨k=8∨k=9∨k=10∨k=11∨k=12∨k=13∨k=14∨k=15∨k=16∨k=17:=by omega
 all_goals
  intro w
  kernel_rfl
theorem sQ(k r:Int)(w:World)(h1:1≤k)(h2:k≤17)(hr:X5 k=r):Calls Ad 234 #[Aa Ab k] w (Adi (Aa Ab r) w):=by
 have hidx:=wK h1 h2;rw [hr] at hidx;clear hr h1 h2;go_enter func234,ntmps234;go_wp2;go_ret;exact⟨rfl,rfl⟩
theorem vH(h1:1≤k)(h2:k≤17):∀w,(Instr.index 318 (.agg #[Aa Ab 0,Aa Ab (-1),Aa Ab (-1),Aa Ab (-1),Aa Ab (-1),Aa Ab (-1),Aa Ab (-1),Aa Ab (-1),Aa Ab (-1),Aa Ab (-1),Aa Ab 0,Aa Ab 3,Aa Ab 4,Aa Ab 5,Aa Ab 2,Aa Ab 3,Aa Ab 4,Aa Ab 0]) (Aa Ab k)).run Ad w= .ok (Aa Ab (N6 k)) w:=by
 obtain rfl|rfl|rfl|rfl|rfl|rfl|rfl|rfl|rfl|rfl|rfl|rfl|rfl|rfl|rfl|rfl|rfl:k=1∨k=2∨k=3∨k=4∨k=5∨k=6∨k=7∨k=8∨k=9∨k=10∨k=11∨k=12∨k=13∨k=14∨k=15∨k=16∨k=17:=by omega
 all_goals
  intro w
  kernel_rfl
theorem zB(k r:Int)(w:World)(h1:1≤k)(h2:k≤17)(hr:N6 k=r):Calls Ad 235 #[Aa Ab k] w (Adi (Aa Ab r) w):=by
 have hidx:=vH h1 h2;rw [hr] at hidx;clear hr h1 h2;go_enter func235,ntmps235;go_wp2;go_ret;exact⟨rfl,rfl⟩
theorem Ws(s:List UInt8):decide ((0:Int)≤Lib.indexByte s 0)=C3 s:=by
 induction s with
 |nil=>rfl
 |cons b l ih=>
  unfold Lib.indexByte C3;simp only [List.any_cons];by_cases d:(b==0)=true
  ·rw [if_pos d,d];rfl
  ·have f:(b==0)=false:=by simpa using d
   rw [if_neg d,f,Bool.false_or];have h: -1≤Lib.indexByte l 0:=by
    clear ih
    induction l with
    |nil=>decide
    |cons a l ih2=>unfold Lib.indexByte;(repeat' split) <;>omega
   have g:decide ((0:Int)≤Lib.indexByte l 0)=l.any fun c=>c==0:=ih
   rw [←g];by_cases e:(Lib.indexByte l 0== -1)=true
   ·rw [if_pos e];have:Lib.indexByte l 0= -1:=by simpa using e
    rw [this]
   ·rw [if_neg e];have:Lib.indexByte l 0≠ -1:=by simpa using e
    exact decide_eq_decide.2 (by omega)
theorem pY(s:List UInt8)(r:Int)(w:World)(hr:Lib.indexByte s 0=r):Calls Ad 298 #[.string ⟨s.toArray⟩,.int .u8 0] w (Adi (Aa Ab r) w):=by
 have h:=Lib.run_indexByteString (P:=Ad) ⟨s.toArray⟩ 0 w;have e:(0:Int).toNat.toUInt8=0:=rfl;rw [e,show(⟨s.toArray⟩:ByteArray).data.toList=s from rfl,hr] at h;clear e hr;go_enter func298,ntmps298;go_wp2;rw [run_callFunc_extern func336 (by kernel_rfl) (by kernel_rfl) (by kernel_rfl) (e:=Extern.BytealgIndexByte.indexByte) (by kernel_rfl),h];simp only [Result.andThen];rw [Oper.upon_value];go_wp2;go_ret;exact⟨rfl,rfl⟩
theorem dH(s:List UInt8)(r:Int)(w:World)(hr:Lib.indexByte s 0=r):Calls Ad 239 #[.string ⟨s.toArray⟩,.int .u8 0] w (Adi (Aa Ab r) w):=by
 go_enter func239,ntmps239;go_wp2_with (go_at_call 298;refine(pY s r _ hr).mono ?_;rintro e w' ⟨rfl,rfl⟩);go_ret;exact⟨rfl,rfl⟩
theorem H7(s:List UInt8)(z:Bool)(w:World)(hz:C3 s=z):Calls Ad 238 #[.string ⟨s.toArray⟩] w (Adi (.bool z) w):=by
 obtain⟨r,hr⟩:∃r,Lib.indexByte s 0=r:=⟨_,rfl⟩;have HR:=Hd hr;have hd:decide ((0:Int)≤r)=z:=by rw [←hr,Ws];exact hz
 clear hr hz;go_enter func238,ntmps238;go_wp2_with (go_at_call 239;refine(dH s r _ HR.o).mono ?_;rintro e w' ⟨rfl,rfl⟩);go_ret;exact⟨rfl,rfl⟩
theorem gT(s:List UInt8)(w:World)(hz:C3 s=false):Calls Ad 279 #[.string ⟨s.toArray⟩] w (Adi (Aa Ab 0) w):=by
 obtain⟨r,hr⟩:∃r,Lib.indexByte s 0=r:=⟨_,rfl⟩;have HR:=Hd hr;have hd:decide ((0:Int)≤r)=false:=by rw [←hr,Ws];exact hz
 clear hr hz;go_enter func279,ntmps279;go_wp2_with (go_at_call 239;refine(dH s r _ HR.o).mono ?_;rintro e w' ⟨rfl,rfl⟩);go_ret;exact⟨rfl,rfl⟩
end Go.Proofs.YtejpbijeifjdeaaGreat
