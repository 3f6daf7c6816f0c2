/- Parts of the proof. -/
import Derived.Test.YtejpbijeifjdeaaGreatQv07
import Derived.Lib.BytesEntry
set_option maxHeartbeats 4000000
set_option maxRecDepth 100000
open Go.Value renaming int→Aa
open Go.IntKind renaming i64→Ab,u64→Ac
open Nat renaming le_refl→Ae,zero_le→Am
open Go.RowKit.Below renaming refl→Af
open List renaming getElem?_eq_getElem→Ai,length_append→Ak,length_take→Au,length_cons→Av,take_of_length_le→Aw,take_succ_eq_append_getElem→Az
open Go.Proofs.Tryz
open Go.Proofs.Tryz renaming prog→Ad
namespace Go.Proofs.YtejpbijeifjdeaaGreat
open Go.RowKit Go.Acc
variable {V:Nat→Prop}{k:Int}
theorem Tb(v:Bv)(w:World)(hl:Ch (v.t:Int)=true)(hw:Br (v.w:Int)=true):Calls Ad 351 #[.agg #[Aa Ab (v.t:Int),Aa Ab (v.w:Int),Aa Ac (v.n:Int)]] w (Ab5 (Aa Ab 0) w):=by
 have h:=Hd (show Below w.heap.size w (w.alloc (.cells #[Aa Ab (v.t:Int),Aa Ab (v.w:Int),Aa Ac (v.n:Int)] 169)) from(Af _ _).alloc (Ae _) _);have k:=Hd (Bb.new w 169 #[Aa Ab (v.t:Int),Aa Ab (v.w:Int),Aa Ac (v.n:Int)]);have i:=Hd hl;have j:=Hd hw;clear hl hw;go_enter func351,ntmps351;go_wp2_with fail;go_at_call 32;refine(Es (v.w:Int) _ j.o).mono ?_;rintro e p ⟨⟨c,rfl⟩,rfl⟩;go_wp2_with fail;go_at_call 86;refine(Fi (v.t:Int) _).mono ?_;rw [i.o];rintro e l ⟨rfl,a⟩;have f:=Hd (A6 h.o a);have g:=Hd (k.o.pure a);have m:l.cell? ⟨w.heap.size,0,none⟩=some (Aa Ab (v.t:Int)):=g.o.cell 0;clear a;go_wp2_with fail;go_at_call 78;refine(Cm (v.t:Int) _).mono ?_;obtain⟨iv,d⟩:∃x,Bt (v.t:Int)=x:=⟨_,rfl⟩;rw [d];rintro e q ⟨rfl,a⟩;have b:=Hd (A6 f.o a);clear a m d;cases iv with
 |true=>
  go_wp2_with fail;go_ret;exact⟨rfl,b.o⟩
 |false=>
  go_wp2_with fail;go_ret;exact⟨rfl,b.o⟩
theorem Oc(w:Nat):∀(vs:List Bv) (k:Nat) (v:Bv) (l:List UInt8),vs[k]?=some v→Cy w l (vs.take (k+1))=Cy w l (vs.take k)++Bi w (Dc w (l.length+k*w) v)
 | [],_,_,_,h=>by simp at h
 |x::r,0,v,l,h=>by
  simp at h;subst h;simp [Cy]
 |x::r,k+1,v,l,h=>by
  rw [List.take_succ_cons,List.take_succ_cons,Cy,Cy,Oc w r k v _ (by simpa using h),Ak,B3]
  congr 3
  rw [Nat.succ_mul];omega
theorem Lk(w:Nat)(vs:List Bv)(l:List UInt8):(Cy w l vs).length=l.length+vs.length*w:=by
 obtain⟨m,e,h⟩:=Hz w vs l;rw [e,Ak,h,Nat.mul_comm]
theorem qK(n y:Nat)(w:World)(hy:Br (y:Int)=true):
  Calls Ad 357 #[Aa Ac (n:Int),Aa Ab (y:Int)] w (Ab6 (Aa Ac ((n % 2^(8*y):Nat):Int)) w):=by
 rcases Dl hy with rfl|rfl|rfl|rfl
 ·have a:=Hd (show IntKind.u64.wrap ((n:Int)*72057594037927936)/72057594037927936=((n % 2^(8*1):Nat):Int) from G2 n 8 (by omega));clear hy;go_enter func357,ntmps357;go_wp2_with fail;go_ret;exact⟨En a.o,rfl⟩
 ·have a:=Hd (show IntKind.u64.wrap ((n:Int)*281474976710656)/281474976710656=((n % 2^(8*2):Nat):Int) from G2 n 16 (by omega));clear hy;go_enter func357,ntmps357;go_wp2_with fail;go_ret;exact⟨En a.o,rfl⟩
 ·have a:=Hd (show IntKind.u64.wrap ((n:Int)*4294967296)/4294967296=((n % 2^(8*4):Nat):Int) from G2 n 32 (by omega));clear hy;go_enter func357,ntmps357;go_wp2_with fail;go_ret;exact⟨En a.o,rfl⟩
 ·have a:=Hd (show IntKind.u64.wrap (n:Int)=((n % 2^(8*8):Nat):Int) by have h:=G2 n 64 (by omega);simpa using h);clear hy;go_enter func357,ntmps357;go_wp2_with fail;go_ret;exact⟨En a.o,rfl⟩
theorem L8(b y n c:Nat)(A:Option Addr)(vs:List Bv)(l:List UInt8)(w:World)(o:Nat→Nat)(h:C2 w o b l)(hv:Ef w A n (vs.map vv))(ho:∀ad,A=some ad→o ad.block≠1)(hy:Br (y:Int)=true)
  (hE:∀(i:Nat) v,vs[i]?=some v→inl v.t=false→v.n≤l.length+i*y∧l.length+i*y-v.n<2^(8*y)) (hm:l.length+vs.length*y≤1048576) (hn:n≤1000000):
  Calls Ad 325 #[Aca b,Aa Ab (y:Int),.slice A n c] w (Dv w o b (Cy y l vs)):=by
 have H:=Hd h;have HV:=Hd hv;have Z:=Hd ho;have HY:=Hd hy;have HE:=Hd hE;have HM:=Hd hm;have N:=Hd (Hq hv);clear h hv ho hE hm hy;go_enter func325,ntmps325;go_wp2_with fail;go_loopw [10] (fun u wr=>∃k:Nat,k≤n∧u= Aa Ab k∧∃o',C2 wr o' b (Cy y l (vs.take k))∧To (fun i=>i=1) w o wr o'∧Ef wr A n (vs.map vv)∧∀ad,A=some ad→o' ad.block≠1) (fun u _=>n-(intOf u).toNat)
 case atStart=>exact⟨0,Am _,rfl,o,by rw [List.take_zero];exact H.o,To.refl _ _ _,HV.o,Z.o⟩
 case round=>
  obtain⟨k,hk,rfl,o',R,ht,am,ak⟩:=hrel;have W:=Hd R;have L:=Hd ht;have O:=Hd am;have s:=Hd ak;clear H HV Z R ht am ak;by_cases az:k<n
  ·obtain⟨g,an,v,rfl,T,h0,h1,h2⟩:=Ha O.o az;have X:=Hd (show g<wr.heap.size from Bu h0);have HT:=Hd (Oc y vs k v l T);obtain⟨m,B⟩:∃m,l.length+k*y=m:=⟨_,rfl⟩;have S:(Cy y l (vs.take k)).length=m:=by rw [Lk,Au,N.o,Nat.min_eq_left (by omega)];exact B
   have ai:m+y≤1048576:=by
    have h3:=HM.o;rw [N.o] at h3;have h4:(k+1)*y≤n*y:=Nat.mul_le_mul_right y (by omega);rw [Nat.succ_mul] at h4;omega
   have Q:=HE.o k v T;rw [B] at Q;obtain⟨q,hq⟩:∃q,Dc y m v=q:=⟨_,rfl⟩;rw [B,hq] at HT;have Y:=Hd (show(Cy y l (vs.take k)).length+y≤1048576 by rw [S];exact ai);have aw:=Hd S;have HQ:=Hd hq;have av:=Hd Q;have be:(0:Int)≤(k:Int):=by omega
   have bf:(k:Int)<(n:Int):=by omega
   have bg:m≤1048576:=by omega
   have z:=(Af wr.heap.size wr).alloc (Ae _) (.cells #[Aa Ab (v.t:Int),Aa Ab (v.w:Int),Aa Ac (v.n:Int)] 169);have ar:=Hd z;have r:=Hd (W.o.fresh z 0);have P:=Hd (Bb.new wr 169 #[Aa Ab (v.t:Int),Aa Ab (v.w:Int),Aa Ac (v.n:Int)]);have af:=Hd (show Bl o' wr.heap.size 0 wr.heap.size=0 from Bo (Ae _));have j:=Hd (To.fresh (fun i=>i=1) z o' 0);obtain⟨iv,ah⟩:∃x,Bt (v.t:Int)=x:=⟨_,rfl⟩;have G:=Hd ah;clear B S ai T Q hq z ah;go_wp2_with fail;go_at_call 78;generalize wr.alloc (.cells #[Aa Ab (v.t:Int),Aa Ab (v.w:Int),Aa Ac (v.n:Int)] 169)=wa at ar r P j⊢;generalize Bl o' wr.heap.size 0=oa at r af j;refine(Cm (v.t:Int) _).mono ?_;rw [G.o];rintro e w2 ⟨rfl,R⟩;have ab:=Hd (j.o.trans (To.pure _ R oa));have D:=Hd (r.o.pure R);have ag:=Hd (P.o.pure R);have x2:w2.cell? ⟨wr.heap.size,2,none⟩=some (Aa Ac (v.n:Int)):=ag.o.cell 2;clear R h0 h1 h2 j r P;cases iv with
   |true=>
    have p:inl v.t=true:=G.o;have K:=Hd (show v.n % 2^(8*y)=q by rw [←HQ.o];unfold Dc;rw [if_pos p]);have U:=qK v.n y w2 HY.o;rw [K.o] at U;have ae:=Hd U;have F:=Hd (show Ed y q=true by rw [←K.o];exact Jv _ _);have I:=Hd (show(q:Int)<18446744073709551616 by rw [←K.o];exact M7 _ HY.o);clear p U;go_wp2_with fail;go_at_call 357;refine ae.o.mono ?_;rintro e w' ⟨rfl,rfl⟩;clear x2;go_wp2_with fail;go_at_call 137;refine(Eh b y q _ _ _ D.o HY.o F.o I.o Y.o).mono ?_;rintro e w4 ⟨rfl,V,d,a⟩;have E:=Hd (show C2 w4 V b (Cy y l (vs.take (k+1))) by rw [HT.o];exact d);have f:=Hd ((ab.o).trans a);have M:=Hd (O.o.fr (f.o).fr (fun ad h=>s.o ad h));have J:=Hd (show ∀ad,(some ⟨g,an,none⟩:Option Addr)=some ad→V ad.block≠1 from fun ad h=>by
     rw [f.o.ow ad.block (by injection h with h;subst h;exact X.o)];exact s.o ad h)
    clear d a;go_wp2_with fail;go_roundw
    case rel=>exact⟨k+1,by omega,by go_num,V,E.o,L.o.trans f.o,M.o,J.o⟩
    case measure=>simp [intOf];omega
   |false=>
    have p:inl v.t=false:=G.o;obtain⟨ay,C⟩:=av.o p;have aj:¬inl v.t=true:=by rw [p];decide
    have al:m-v.n=q:=by rw [←HQ.o];unfold Dc;rw [if_neg aj]
    have F:=Hd (show Ed y q=true from decide_eq_true (.inr (by rw [←al];exact C)));have I:=Hd (show(q:Int)<18446744073709551616 by omega);have e1:IntKind.u64.wrap (m:Int)=m:=Ce _ (by omega);have e2:(m:Int)-(v.n:Int)=q:=by omega
    have e3:IntKind.u64.wrap (q:Int)=q:=Ce _ (by omega);clear p ay C aj al;go_wp2_with fail;go_region_held3 (fun w'=>w'.cell? ⟨wr.heap.size,2,none⟩=some (Aa Ac (v.n:Int))) (first|with_reducible exact x2|with_reducible exact Bc x2|with_reducible exact Ih _ x2|with_reducible exact y2) (first|(go_at_call 133;(with_reducible refine(Dt m (D.o.pure (Af _ _).drew) aw.o).mono ?_);rintro e w' ⟨rfl,rfl⟩)|(go_at_call 137;(with_reducible refine(Eh b y q _ _ _ (D.o.pure (Af _ _).drew) HY.o F.o I.o Y.o).mono ?_);rintro e w4 ⟨rfl,V,d,a⟩;have y2:w4.cell? ⟨wr.heap.size,2,none⟩=some (Aa Ac (v.n:Int)):=(ag.o.to_ (To.from_drew a) (by rw [af.o];omega)).cell 2;have aa:=Hd (And.intro d (To.from_drew a));clear d a));obtain⟨d,a⟩:=aa.o;have E:=Hd (show C2 w4 V b (Cy y l (vs.take (k+1))) by rw [HT.o];exact d);have f:=Hd ((ab.o).trans a);have M:=Hd (O.o.fr (f.o).fr (fun ad h=>s.o ad h));have J:=Hd (show ∀ad,(some ⟨g,an,none⟩:Option Addr)=some ad→V ad.block≠1 from fun ad h=>by
     rw [f.o.ow ad.block (by injection h with h;subst h;exact X.o)];exact s.o ad h)
    clear d a x2 y2 e1 e2 e3;go_wp2_with fail;go_roundw
    case rel=>exact⟨k+1,by omega,by go_num,V,E.o,L.o.trans f.o,M.o,J.o⟩
    case measure=>simp [intOf];omega
  ·have bb:decide ((k:Int)<(n:Int))=false:=decide_eq_false (by omega);have bd:decide (k<n)=false:=decide_eq_false (by omega);have au:=Hd (show vs.take k=vs from Aw (by have:=N.o;omega));go_wp2_with fail;go_end0;exact⟨rfl,o',by have h:=W.o;rw [au.o] at h;exact h,L.o⟩
theorem Qa(W:World)(t:UInt8):B4 (W.alloc (.cells #[.int .u8 (t.toNat:Int)] 5)) (some ⟨W.heap.size,0,none⟩) 1 [t]:=by
 refine⟨rfl,fun j u hu=>⟨_,_,rfl,?_⟩⟩;rw [Nat.zero_add,(Bb.new W _ _).cell j];simpa [bc] using hu
structure iH(b g0:Nat)(l:List UInt8)(v:Bv)(w:World)(o:Nat→Nat):Prop where
 m:C2 w o b l
 x:Bb w g0 169 #[Aa Ab (v.t:Int),Aa Ab (v.w:Int),Aa Ac (v.n:Int)]
 ox:o g0=0
theorem pY(b y n c:Nat)(A:Option Addr)(vs:List Bv)(l:List UInt8)(w:World)(o:Nat→Nat)(h:C2 w o b l)(hv:Ef w A n (vs.map vv))(ho:∀ad,A=some ad→o ad.block≠1)(hy:Br (y:Int)=true)
  (hE:∀(i:Nat) v,vs[i]?=some v→Ch (v.t:Int)=true∧Br (v.w:Int)=true) (hm:l.length+vs.length≤1048576) (hn:n≤1000000):
  Calls Ad 352 #[Aca b,Aa Ab (y:Int),.slice A n c] w (Dv w o b (l++vs.map (D2 y))):=by
 have H:=Hd h;have HV:=Hd hv;have ag:=Hd ho;have HY:=Hd hy;have HE:=Hd hE;have HM:=Hd hm;have al:=Hd (Hq hv);clear h hv ho hE hm hy;go_enter func352,ntmps352;go_wp2_with fail;go_loopw [13] (fun u wr=>∃k:Nat,k≤n∧u= Aa Ab k∧∃o',C2 wr o' b (l++(vs.take k).map (D2 y))∧To (fun i=>i=1) w o wr o'∧Ef wr A n (vs.map vv)∧∀ad,A=some ad→o' ad.block≠1) (fun u _=>n-(intOf u).toNat)
 case atStart=>exact⟨0,Am _,rfl,o,by simpa using H.o,To.refl _ _ _,HV.o,ag.o⟩
 case round=>
  obtain⟨k,hk,rfl,o',d,ht,aq,ap⟩:=hrel;have I:=Hd d;have Q:=Hd ht;have S:=Hd aq;have D:=Hd ap;clear H HV ag d ht aq ap;by_cases ay:k<n
  ·obtain⟨g,au,v,rfl,Z,h0,h1,h2⟩:=Ha S.o ay;have ae:=Hd (show g<wr.heap.size from Bu h0);have P:=Hd (show l++(vs.take (k+1)).map (D2 y)=(l++(vs.take k).map (D2 y))++ [D2 y v] by
    obtain⟨q1,q2⟩:=List.getElem?_eq_some_iff.1 Z;rw [Az q1,q2,List.map_append,←List.append_assoc];rfl)
   obtain⟨ao,ar⟩:=HE.o k v Z;obtain⟨lk,X⟩:∃x,l++(vs.take k).map (D2 y)=x:=⟨_,rfl⟩;have af:=Hd (show lk.length+1≤1048576 by
    rw [←X,Ak,List.length_map,Au];have h1:=HM.o;have h2:=al.o;omega)
   rw [X] at P I;have aw:=Hd ao;obtain⟨ow,E⟩:∃x,(if inl v.t=true then y else v.w)=x:=⟨_,rfl⟩;have ax:=Hd (show Br (ow:Int)=true by rw [←E];split;exact HY.o;exact ar);have ah:=Hd E;obtain⟨r,Y⟩:∃x,UInt8.ofNat (4*v.t+bCode ow)=x:=⟨_,rfl⟩;have ak:=Hd (show D2 y v=r by unfold D2;rw [E];exact Y);have ai:=Hd (fun W=>by have h:=Ru v.t ow W aw.o ax.o;rw [Y] at h;exact h);have a8:(0:Int)≤(k:Int):=by omega
   have a9:(k:Int)<(n:Int):=by omega
   have U:=(Af wr.heap.size wr).alloc (Ae _) (.cells #[Aa Ab (v.t:Int),Aa Ab (v.w:Int),Aa Ac (v.n:Int)] 169);have z:=Hd (show iH b wr.heap.size lk v (wr.alloc (.cells #[Aa Ab (v.t:Int),Aa Ab (v.w:Int),Aa Ac (v.n:Int)] 169)) (Bl o' wr.heap.size 0) from⟨I.o.fresh U 0,Bb.new _ _ _,Bo (Ae _)⟩);have s:=Hd (To.fresh (fun i=>i=1) U o' 0);obtain⟨iv,an⟩:∃x,Bt (v.t:Int)=x:=⟨_,rfl⟩;have J:=Hd an;clear Z U an X ao ar E Y;go_wp2_with fail;go_at_call 78;generalize wr.alloc (.cells #[Aa Ab (v.t:Int),Aa Ab (v.w:Int),Aa Ac (v.n:Int)] 169)=wa at z s⊢;generalize Bl o' wr.heap.size 0=oa at z s;refine(Cm (v.t:Int) _).mono ?_;rw [J.o];rintro e w2 ⟨rfl,d⟩;have aj:=Hd (s.o.trans (To.pure _ d oa));have j:=Hd (show iH b wr.heap.size lk v w2 oa from⟨z.o.m.pure d,z.o.x.pure d,z.o.ox⟩);have x0:w2.cell? ⟨wr.heap.size,0,none⟩=some (Aa Ab (v.t:Int)):=j.o.x.cell 0;clear d h0 h1 h2 s z;cases iv with
   |true=>
    obtain rfl:y=ow:=by rw [←ah.o];exact(if_pos J.o).symm
    go_wp2_with fail;go_at_call 136;refine(ai.o _).mono ?_;rintro e a ⟨rfl,d⟩;have N:=Hd (aj.o.trans (To.pure _ d oa));have T:=Hd (show iH b wr.heap.size lk v a oa from⟨j.o.m.pure d,j.o.x.pure d,j.o.ox⟩);clear d x0;have V:=Im (c:=1) (Qa a r);have p:Below a.heap.size a ((a.alloc (.cells #[.int .u8 (r.toNat:Int)] 5)).alloc (.cells #[.string ⟨[r].toArray⟩] 9)):=Bq _ _ _;have G:=Hd (T.o.m.fresh p 0);have O:=Hd (N.o.trans (To.fresh (fun i=>i=1) p oa 0));have q:=Ox (a.alloc (.cells #[.int .u8 (r.toNat:Int)] 5)) [r];have eS:(a.alloc (.cells #[.int .u8 (r.toNat:Int)] 5)).heap.size=a.heap.size+1:=by simp
    rw [eS] at q;have M:=Hd q;have L:=Hd (show ∀ad,(some ⟨a.heap.size+1,0,none⟩:Option Addr)=some ad→Bl oa a.heap.size 0 ad.block≠1 from fun ad h=>by injection h with h;subst h;rw [Bo (by show a.heap.size≤a.heap.size+1;omega)];omega);clear p q eS;go_wp2_with fail;go_at_call 138;refine(G6 b 1 _ _ [[r]] lk _ _ G.o M.o L.o af.o (by omega)).mono ?_;rintro e w4 ⟨rfl,o4,B,C⟩;have F:=Hd (show C2 w4 o4 b (l++(vs.take (k+1)).map (D2 y)) by rw [P.o,ak.o];exact B);have f:=Hd (O.o.trans C);have R:=Hd (S.o.fr (f.o).fr (fun ad h=>D.o ad h));have K:=Hd (show ∀ad,(some ⟨g,au,none⟩:Option Addr)=some ad→o4 ad.block≠1 from fun ad h=>by
     rw [f.o.ow ad.block (by injection h with h;subst h;exact ae.o)];exact D.o ad h)
    clear B C V;go_wp2_with fail;go_roundw
    case rel=>exact⟨k+1,by omega,by go_num,o4,F.o,Q.o.trans f.o,R.o,K.o⟩
    case measure=>simp [intOf];omega
   |false=>
    obtain rfl:ow=v.w:=by rw [←ah.o];exact if_neg (by rw [show inl v.t=false from J.o];decide)
    go_wp2_with fail;go_at_call 136;refine(ai.o _).mono ?_;rintro e a ⟨rfl,d⟩;have N:=Hd (aj.o.trans (To.pure _ d oa));have T:=Hd (show iH b wr.heap.size lk v a oa from⟨j.o.m.pure d,j.o.x.pure d,j.o.ox⟩);clear d x0;have V:=Im (c:=1) (Qa a r);have p:Below a.heap.size a ((a.alloc (.cells #[.int .u8 (r.toNat:Int)] 5)).alloc (.cells #[.string ⟨[r].toArray⟩] 9)):=Bq _ _ _;have G:=Hd (T.o.m.fresh p 0);have O:=Hd (N.o.trans (To.fresh (fun i=>i=1) p oa 0));have q:=Ox (a.alloc (.cells #[.int .u8 (r.toNat:Int)] 5)) [r];have eS:(a.alloc (.cells #[.int .u8 (r.toNat:Int)] 5)).heap.size=a.heap.size+1:=by simp
    rw [eS] at q;have M:=Hd q;have L:=Hd (show ∀ad,(some ⟨a.heap.size+1,0,none⟩:Option Addr)=some ad→Bl oa a.heap.size 0 ad.block≠1 from fun ad h=>by injection h with h;subst h;rw [Bo (by show a.heap.size≤a.heap.size+1;omega)];omega);clear p q eS;go_wp2_with fail;go_at_call 138;refine(G6 b 1 _ _ [[r]] lk _ _ G.o M.o L.o af.o (by omega)).mono ?_;rintro e w4 ⟨rfl,o4,B,C⟩;have F:=Hd (show C2 w4 o4 b (l++(vs.take (k+1)).map (D2 y)) by rw [P.o,ak.o];exact B);have f:=Hd (O.o.trans C);have R:=Hd (S.o.fr (f.o).fr (fun ad h=>D.o ad h));have K:=Hd (show ∀ad,(some ⟨g,au,none⟩:Option Addr)=some ad→o4 ad.block≠1 from fun ad h=>by
     rw [f.o.ow ad.block (by injection h with h;subst h;exact ae.o)];exact D.o ad h)
    clear B C V;go_wp2_with fail;go_roundw
    case rel=>exact⟨k+1,by omega,by go_num,o4,F.o,Q.o.trans f.o,R.o,K.o⟩
    case measure=>simp [intOf];omega
  ·have a6:decide ((k:Int)<(n:Int))=false:=decide_eq_false (by omega);have a7:decide (k<n)=false:=decide_eq_false (by omega);have av:=Hd (show vs.take k=vs from Aw (by have:=al.o;omega));go_wp2_with fail;go_end0;exact⟨rfl,o',by have h:=I.o;rw [av.o] at h;exact h,Q.o⟩
structure Qx(b g1 g2:Nat)(y:Int)(v:Bv)(l:List UInt8)(w:World)(o:Nat→Nat):Prop where
 m:C2 w o b l
 x:Bb w g1 350 #[Aca b,Aa Ab y]
 v:Bb w g2 169 #[Aa Ab (v.t:Int),Aa Ab (v.w:Int),Aa Ac (v.n:Int)]
section
variable {b g1 g2:Nat} {y:Int} {v:Bv} {l:List UInt8} {w w':World} {o:Nat→Nat}
theorem Qx.pure(h:Qx b g1 g2 y v l w o)(hb:Below w.heap.size w w'):Qx b g1 g2 y v l w' o:=⟨h.m.pure hb,h.x.pure hb,h.v.pure hb⟩
theorem Qx.cells(h:Qx b g1 g2 y v l w o):w.cell? ⟨g1,0,none⟩=some (Aca b)∧w.cell? ⟨g1,1,none⟩=some (Aa Ab y)∧w.cell? ⟨g2,0,none⟩=some (Aa Ab (v.t:Int))∧w.cell? ⟨g2,1,none⟩=some (Aa Ab (v.w:Int))∧w.cell? ⟨g2,2,none⟩=some (Aa Ac (v.n:Int)):=
 ⟨h.x.cell 0,h.x.cell 1,h.v.cell 0,h.v.cell 1,h.v.cell 2⟩
end
theorem oH(n:Nat):IntKind.u64.wrap (n:Int)=((n % 2^(8*8):Nat):Int):=by
 have h:=G2 n 64 (by omega);simpa using h
theorem dW(b y:Nat)(v:Bv)(l:List UInt8)(w:World)(o:Nat→Nat)(h:C2 w o b l)(hy:Br (y:Int)=true)(hi:inl v.t=true)(hl:l.length+y≤1048576):
  Calls Ad 331 #[.agg #[Aca b,Aa Ab (y:Int)],.agg #[Aa Ab (v.t:Int),Aa Ab (v.w:Int),Aa Ac (v.n:Int)]] w (Dv w o b (l++Bi y (v.n % 2^(8*y)))):=by
 rcases Dl hy with rfl|rfl|rfl|rfl
 ·clear hy;have G:=Hd (show IntKind.u64.wrap ((v.n:Int)*72057594037927936)/72057594037927936=((v.n % 2^(8*1):Nat):Int) from G2 v.n 8 (by omega));have I:=Hd (show Br ((1:Nat):Int)=true by decide);have k:=Hd (rfl:l.length=l.length);obtain⟨m,F⟩:∃m,l.length=m:=⟨_,rfl⟩;replace k:=Hd F;have A:=Hd (show l.length+1≤1048576 by omega);have x:=Hd (Jv v.n 1);have B:=Hd (M7 v.n (y:=1) (by decide));have z:=Hd (show Bt (v.t:Int)=true from hi);clear hi F hl;have f:=Bq w (.cells #[Aca b,Aa Ab 1] 350) (.cells #[Aa Ab (v.t:Int),Aa Ab (v.w:Int),Aa Ac (v.n:Int)] 169);have c:=Hd f;have a:=Hd (show Qx b w.heap.size (w.heap.size+1) 1 v l ((w.alloc (.cells #[Aca b,Aa Ab 1] 350)).alloc (.cells #[Aa Ab (v.t:Int),Aa Ab (v.w:Int),Aa Ac (v.n:Int)] 169)) o from⟨h.pure f,(Bb.new w 350 #[Aca b,Aa Ab 1]).alloc _,Cv w _ _ _⟩);clear f h;go_enter func331,ntmps331;go_wp2_with fail;generalize (w.alloc (.cells #[Aca b,Aa Ab 1] 350)).alloc (.cells #[Aa Ab (v.t:Int),Aa Ab (v.w:Int),Aa Ac (v.n:Int)] 169)=w1 at c a⊢;generalize w.heap.size+1=g2 at a⊢;generalize E:w.heap.size=g1 at a⊢;clear E;obtain⟨g,q,r,s,i⟩:=a.o.cells;go_region_held3 (fun w'=>w'.cell? ⟨g1,0,none⟩=some (Aca b)∧w'.cell? ⟨g2,2,none⟩=some (Aa Ac (v.n:Int))) (first|with_reducible exact⟨g,i⟩|with_reducible exact⟨Bc g,Bc i⟩) (first|(go_at_call 133;(with_reducible refine(Dt m (a.o.pure (Af _ _).drew).m k.o).mono ?_);rintro e w' ⟨rfl,rfl⟩));have d:=Hd (a.o.pure (Af _ _).drew);have j:=Hd c.o.drew;generalize w1.drew=w2 at d j⊢;clear g q r s i a c;obtain⟨g,q,r,s,i⟩:=d.o.cells;go_wp2_with fail;go_at_call 78;refine(Cm (v.t:Int) _).mono ?_;rw [z.o];rintro e J ⟨rfl,D⟩;have u:=Hd (A6 j.o D);have p:=Hd (d.o.pure D);clear D g q r s i;obtain⟨g,q,r,s,i⟩:=p.o.cells;go_wp2_with fail;rw [G.o];go_at_call 137;refine(Eh b 1 (v.n % 2^(8*1)) l _ o p.o.m I.o x.o B.o A.o).mono ?_;rintro e K C;have H:=Hd (Dv.from_pure u.o C);obtain rfl:=C.1;clear C g q r s i;go_wp2_with fail;go_end0;exact H.o
 ·clear hy;have G:=Hd (show IntKind.u64.wrap ((v.n:Int)*281474976710656)/281474976710656=((v.n % 2^(8*2):Nat):Int) from G2 v.n 16 (by omega));have I:=Hd (show Br ((2:Nat):Int)=true by decide);have k:=Hd (rfl:l.length=l.length);obtain⟨m,F⟩:∃m,l.length=m:=⟨_,rfl⟩;replace k:=Hd F;have A:=Hd (show l.length+2≤1048576 by omega);have x:=Hd (Jv v.n 2);have B:=Hd (M7 v.n (y:=2) (by decide));have z:=Hd (show Bt (v.t:Int)=true from hi);clear hi F hl;have f:=Bq w (.cells #[Aca b,Aa Ab 2] 350) (.cells #[Aa Ab (v.t:Int),Aa Ab (v.w:Int),Aa Ac (v.n:Int)] 169);have c:=Hd f;have a:=Hd (show Qx b w.heap.size (w.heap.size+1) 2 v l ((w.alloc (.cells #[Aca b,Aa Ab 2] 350)).alloc (.cells #[Aa Ab (v.t:Int),Aa Ab (v.w:Int),Aa Ac (v.n:Int)] 169)) o from⟨h.pure f,(Bb.new w 350 #[Aca b,Aa Ab 2]).alloc _,Cv w _ _ _⟩);clear f h;go_enter func331,ntmps331;go_wp2_with fail;generalize (w.alloc (.cells #[Aca b,Aa Ab 2] 350)).alloc (.cells #[Aa Ab (v.t:Int),Aa Ab (v.w:Int),Aa Ac (v.n:Int)] 169)=w1 at c a⊢;generalize w.heap.size+1=g2 at a⊢;generalize E:w.heap.size=g1 at a⊢;clear E;obtain⟨g,q,r,s,i⟩:=a.o.cells;go_region_held3 (fun w'=>w'.cell? ⟨g1,0,none⟩=some (Aca b)∧w'.cell? ⟨g2,2,none⟩=some (Aa Ac (v.n:Int))) (first|with_reducible exact⟨g,i⟩|with_reducible exact⟨Bc g,Bc i⟩) (first|(go_at_call 133;(with_reducible refine(Dt m (a.o.pure (Af _ _).drew).m k.o).mono ?_);rintro e w' ⟨rfl,rfl⟩));have d:=Hd (a.o.pure (Af _ _).drew);have j:=Hd c.o.drew;generalize w1.drew=w2 at d j⊢;clear g q r s i a c;obtain⟨g,q,r,s,i⟩:=d.o.cells;go_wp2_with fail;go_at_call 78;refine(Cm (v.t:Int) _).mono ?_;rw [z.o];rintro e J ⟨rfl,D⟩;have u:=Hd (A6 j.o D);have p:=Hd (d.o.pure D);clear D g q r s i;obtain⟨g,q,r,s,i⟩:=p.o.cells;go_wp2_with fail;rw [G.o];go_at_call 137;refine(Eh b 2 (v.n % 2^(8*2)) l _ o p.o.m I.o x.o B.o A.o).mono ?_;rintro e K C;have H:=Hd (Dv.from_pure u.o C);obtain rfl:=C.1;clear C g q r s i;go_wp2_with fail;go_end0;exact H.o
 ·clear hy;have G:=Hd (show IntKind.u64.wrap ((v.n:Int)*4294967296)/4294967296=((v.n % 2^(8*4):Nat):Int) from G2 v.n 32 (by omega));have I:=Hd (show Br ((4:Nat):Int)=true by decide);have k:=Hd (rfl:l.length=l.length);obtain⟨m,F⟩:∃m,l.length=m:=⟨_,rfl⟩;replace k:=Hd F;have A:=Hd (show l.length+4≤1048576 by omega);have x:=Hd (Jv v.n 4);have B:=Hd (M7 v.n (y:=4) (by decide));have z:=Hd (show Bt (v.t:Int)=true from hi);clear hi F hl;have f:=Bq w (.cells #[Aca b,Aa Ab 4] 350) (.cells #[Aa Ab (v.t:Int),Aa Ab (v.w:Int),Aa Ac (v.n:Int)] 169);have c:=Hd f;have a:=Hd (show Qx b w.heap.size (w.heap.size+1) 4 v l ((w.alloc (.cells #[Aca b,Aa Ab 4] 350)).alloc (.cells #[Aa Ab (v.t:Int),Aa Ab (v.w:Int),Aa Ac (v.n:Int)] 169)) o from⟨h.pure f,(Bb.new w 350 #[Aca b,Aa Ab 4]).alloc _,Cv w _ _ _⟩);clear f h;go_enter func331,ntmps331;go_wp2_with fail;generalize (w.alloc (.cells #[Aca b,Aa Ab 4] 350)).alloc (.cells #[Aa Ab (v.t:Int),Aa Ab (v.w:Int),Aa Ac (v.n:Int)] 169)=w1 at c a⊢;generalize w.heap.size+1=g2 at a⊢;generalize E:w.heap.size=g1 at a⊢;clear E;obtain⟨g,q,r,s,i⟩:=a.o.cells;go_region_held3 (fun w'=>w'.cell? ⟨g1,0,none⟩=some (Aca b)∧w'.cell? ⟨g2,2,none⟩=some (Aa Ac (v.n:Int))) (first|with_reducible exact⟨g,i⟩|with_reducible exact⟨Bc g,Bc i⟩) (first|(go_at_call 133;(with_reducible refine(Dt m (a.o.pure (Af _ _).drew).m k.o).mono ?_);rintro e w' ⟨rfl,rfl⟩));have d:=Hd (a.o.pure (Af _ _).drew);have j:=Hd c.o.drew;generalize w1.drew=w2 at d j⊢;clear g q r s i a c;obtain⟨g,q,r,s,i⟩:=d.o.cells;go_wp2_with fail;go_at_call 78;refine(Cm (v.t:Int) _).mono ?_;rw [z.o];rintro e J ⟨rfl,D⟩;have u:=Hd (A6 j.o D);have p:=Hd (d.o.pure D);clear D g q r s i;obtain⟨g,q,r,s,i⟩:=p.o.cells;go_wp2_with fail;rw [G.o];go_at_call 137;refine(Eh b 4 (v.n % 2^(8*4)) l _ o p.o.m I.o x.o B.o A.o).mono ?_;rintro e K C;have H:=Hd (Dv.from_pure u.o C);obtain rfl:=C.1;clear C g q r s i;go_wp2_with fail;go_end0;exact H.o
 ·clear hy;have G:=Hd (oH v.n);have I:=Hd (show Br ((8:Nat):Int)=true by decide);have k:=Hd (rfl:l.length=l.length);obtain⟨m,F⟩:∃m,l.length=m:=⟨_,rfl⟩;replace k:=Hd F;have A:=Hd (show l.length+8≤1048576 by omega);have x:=Hd (Jv v.n 8);have B:=Hd (M7 v.n (y:=8) (by decide));have z:=Hd (show Bt (v.t:Int)=true from hi);clear hi F hl;have f:=Bq w (.cells #[Aca b,Aa Ab 8] 350) (.cells #[Aa Ab (v.t:Int),Aa Ab (v.w:Int),Aa Ac (v.n:Int)] 169);have c:=Hd f;have a:=Hd (show Qx b w.heap.size (w.heap.size+1) 8 v l ((w.alloc (.cells #[Aca b,Aa Ab 8] 350)).alloc (.cells #[Aa Ab (v.t:Int),Aa Ab (v.w:Int),Aa Ac (v.n:Int)] 169)) o from⟨h.pure f,(Bb.new w 350 #[Aca b,Aa Ab 8]).alloc _,Cv w _ _ _⟩);clear f h;go_enter func331,ntmps331;go_wp2_with fail;generalize (w.alloc (.cells #[Aca b,Aa Ab 8] 350)).alloc (.cells #[Aa Ab (v.t:Int),Aa Ab (v.w:Int),Aa Ac (v.n:Int)] 169)=w1 at c a⊢;generalize w.heap.size+1=g2 at a⊢;generalize E:w.heap.size=g1 at a⊢;clear E;obtain⟨g,q,r,s,i⟩:=a.o.cells;go_region_held3 (fun w'=>w'.cell? ⟨g1,0,none⟩=some (Aca b)∧w'.cell? ⟨g2,2,none⟩=some (Aa Ac (v.n:Int))) (first|with_reducible exact⟨g,i⟩|with_reducible exact⟨Bc g,Bc i⟩) (first|(go_at_call 133;(with_reducible refine(Dt m (a.o.pure (Af _ _).drew).m k.o).mono ?_);rintro e w' ⟨rfl,rfl⟩));have d:=Hd (a.o.pure (Af _ _).drew);have j:=Hd c.o.drew;generalize w1.drew=w2 at d j⊢;clear g q r s i a c;obtain⟨g,q,r,s,i⟩:=d.o.cells;go_wp2_with fail;go_at_call 78;refine(Cm (v.t:Int) _).mono ?_;rw [z.o];rintro e J ⟨rfl,D⟩;have u:=Hd (A6 j.o D);have p:=Hd (d.o.pure D);clear D g q r s i;obtain⟨g,q,r,s,i⟩:=p.o.cells;go_wp2_with fail;rw [G.o];go_at_call 137;refine(Eh b 8 (v.n % 2^(8*8)) l _ o p.o.m I.o x.o B.o A.o).mono ?_;rintro e K C;have H:=Hd (Dv.from_pure u.o C);obtain rfl:=C.1;clear C g q r s i;go_wp2_with fail;go_end0;exact H.o
theorem dX(b y q m:Nat)(v:Bv)(l:List UInt8)(w:World)(o:Nat→Nat)(h:C2 w o b l)(hy:Br (y:Int)=true)(hi:inl v.t=false)(hm:l.length=m)(hle:v.n≤m)(hq:m-v.n=q)(hfit:q<2^(8*y))(hl:m+y≤1048576):
  Calls Ad 331 #[.agg #[Aca b,Aa Ab (y:Int)],.agg #[Aa Ab (v.t:Int),Aa Ab (v.w:Int),Aa Ac (v.n:Int)]] w (Dv w o b (l++Bi y q)):=by
 have H:=Hd hy;have C:=Hd hm;have A:=Hd (show l.length+y≤1048576 by omega);have x:=Hd (show Ed y q=true from decide_eq_true (.inr hfit));have B:=Hd (show(q:Int)<18446744073709551616 by omega);have z:=Hd (show Bt (v.t:Int)=false from hi);have I:IntKind.u64.wrap (m:Int)=m:=Ce _ (by omega);have J:(m:Int)-(v.n:Int)=q:=by omega
 have K:IntKind.u64.wrap (q:Int)=q:=Ce _ (by omega);clear hy hm hfit hi hq hle hl;have f:=Bq w (.cells #[Aca b,Aa Ab (y:Int)] 350) (.cells #[Aa Ab (v.t:Int),Aa Ab (v.w:Int),Aa Ac (v.n:Int)] 169);have c:=Hd f;have a:=Hd (show Qx b w.heap.size (w.heap.size+1) (y:Int) v l ((w.alloc (.cells #[Aca b,Aa Ab (y:Int)] 350)).alloc (.cells #[Aa Ab (v.t:Int),Aa Ab (v.w:Int),Aa Ac (v.n:Int)] 169)) o from⟨h.pure f,(Bb.new w 350 #[Aca b,Aa Ab (y:Int)]).alloc _,Cv w _ _ _⟩);clear f h;go_enter func331,ntmps331;go_wp2_with fail;generalize (w.alloc (.cells #[Aca b,Aa Ab (y:Int)] 350)).alloc (.cells #[Aa Ab (v.t:Int),Aa Ab (v.w:Int),Aa Ac (v.n:Int)] 169)=w1 at c a⊢;generalize w.heap.size+1=g2 at a⊢;generalize F:w.heap.size=g1 at a⊢;clear F;obtain⟨g,p,r,s,i⟩:=a.o.cells;go_region_held3 (fun w'=>w'.cell? ⟨g1,0,none⟩=some (Aca b)∧w'.cell? ⟨g2,2,none⟩=some (Aa Ac (v.n:Int))) (first|with_reducible exact⟨g,i⟩|with_reducible exact⟨Bc g,Bc i⟩) (first|(go_at_call 133;(with_reducible refine(Dt m (a.o.pure (Af _ _).drew).m C.o).mono ?_);rintro e w' ⟨rfl,rfl⟩));have d:=Hd (a.o.pure (Af _ _).drew);have j:=Hd c.o.drew;generalize w1.drew=w2 at d j⊢;clear g p r s i I J K a c;obtain⟨g,p,r,s,i⟩:=d.o.cells;go_wp2_with fail;go_at_call 78;refine(Cm (v.t:Int) _).mono ?_;rw [z.o];rintro e L ⟨rfl,E⟩;have u:=Hd (A6 j.o E);have k:=Hd (d.o.pure E);clear E g p r s i;obtain⟨g,p,r,s,i⟩:=k.o.cells;go_wp2_with fail;go_at_call 137;refine(Eh b y q l _ o k.o.m H.o x.o B.o A.o).mono ?_;rintro e M D;have G:=Hd (Dv.from_pure u.o D);obtain rfl:=D.1;clear D g p r s i;go_wp2_with fail;go_end0;exact G.o
theorem Rg(b y:Nat)(v:Bv)(l:List UInt8)(w:World)(o:Nat→Nat)(h:C2 w o b l)(hy:Br (y:Int)=true)(hf:inl v.t=false→v.n≤l.length∧l.length-v.n<2^(8*y))(hl:l.length+y≤1048576):
  Calls Ad 331 #[.agg #[Aca b,Aa Ab (y:Int)],.agg #[Aa Ab (v.t:Int),Aa Ab (v.w:Int),Aa Ac (v.n:Int)]] w (Dv w o b (l++Bi y (Dc y l.length v))):=by
 cases hi:inl v.t with
 |true=>
  have e:Dc y l.length v=v.n % 2^(8*y):=by unfold Dc;rw [if_pos hi]
  rw [e];exact dW b y v l w o h hy hi hl
 |false=>
  have e:Dc y l.length v=l.length-v.n:=by unfold Dc;rw [if_neg (by rw [hi];decide)]
  rw [e];obtain⟨h1,h2⟩:=hf hi;exact dX b y _ l.length v l w o h hy hi rfl h1 rfl h2 hl
theorem oO(b y:Nat)(v:Bv)(l:List UInt8)(w:World)(o:Nat→Nat)(h:C2 w o b l)(hy:Br (y:Int)=true)(hlg:Ch (v.t:Int)=true)(hww:Br (v.w:Int)=true)(hl:l.length+1≤1048576):
  Calls Ad 332 #[.agg #[Aca b,Aa Ab (y:Int)],.agg #[Aa Ab (v.t:Int),Aa Ab (v.w:Int),Aa Ac (v.n:Int)]] w (Dv w o b (l++ [D2 y v])):=by
 obtain⟨ow,p⟩:∃x,(if inl v.t=true then y else v.w)=x:=⟨_,rfl⟩;have S:=Hd (show Br (ow:Int)=true by rw [←p];split;exact hy;exact hww);have O:=Hd p;obtain⟨g,L⟩:∃x,UInt8.ofNat (4*v.t+bCode ow)=x:=⟨_,rfl⟩;have U:=Hd (show D2 y v=g by unfold D2;rw [p];exact L);have P:=Hd (fun W=>by have h:=Ru v.t ow W hlg S.o;rw [L] at h;exact h);have N:=Hd hl;obtain⟨iv,R⟩:∃x,Bt (v.t:Int)=x:=⟨_,rfl⟩;have E:=Hd R;rw [U.o];clear hy hlg hww hl p L R;have I:=Bq w (.cells #[Aca b,Aa Ab (y:Int)] 350) (.cells #[Aa Ab (v.t:Int),Aa Ab (v.w:Int),Aa Ac (v.n:Int)] 169);have A:=Hd I;have i:=Hd (show Qx b w.heap.size (w.heap.size+1) (y:Int) v l ((w.alloc (.cells #[Aca b,Aa Ab (y:Int)] 350)).alloc (.cells #[Aa Ab (v.t:Int),Aa Ab (v.w:Int),Aa Ac (v.n:Int)] 169)) o from⟨h.pure I,(Bb.new w 350 #[Aca b,Aa Ab (y:Int)]).alloc _,Cv w _ _ _⟩);clear I h;go_enter func332,ntmps332;go_wp2_with fail;generalize (w.alloc (.cells #[Aca b,Aa Ab (y:Int)] 350)).alloc (.cells #[Aa Ab (v.t:Int),Aa Ab (v.w:Int),Aa Ac (v.n:Int)] 169)=w1 at A i⊢;generalize w.heap.size+1=g2 at i⊢;generalize V:w.heap.size=g1 at i⊢;clear V;obtain⟨q,r,s,u,z⟩:=i.o.cells;go_at_call 78;refine(Cm (v.t:Int) _).mono ?_;rw [E.o];rintro e Y ⟨rfl,k⟩;have M:=Hd (A6 A.o k);have G:=Hd (i.o.pure k);clear k q r s u z i A;obtain⟨q,r,s,u,z⟩:=G.o.cells;cases iv with
 |true=>
  obtain rfl:y=ow:=by rw [←O.o];exact(if_pos E.o).symm
  go_wp2_with fail;go_at_call 136;refine(P.o _).mono ?_;rintro e a ⟨rfl,k⟩;have B:=Hd (A6 M.o k);have j:=Hd (G.o.pure k);clear k q r s u z;obtain⟨q,r,s,u,z⟩:=j.o.cells;have K:=Im (c:=1) (Qa a g);have d:Below a.heap.size a ((a.alloc (.cells #[.int .u8 (g.toNat:Int)] 5)).alloc (.cells #[.string ⟨[g].toArray⟩] 9)):=Bq _ _ _;have C:=Hd (j.o.m.fresh d 0);have D:=Hd d;have f:=Ox (a.alloc (.cells #[.int .u8 (g.toNat:Int)] 5)) [g];have Q:(a.alloc (.cells #[.int .u8 (g.toNat:Int)] 5)).heap.size=a.heap.size+1:=by simp
  rw [Q] at f;have H:=Hd f;have F:=Hd (show ∀ad,(some ⟨a.heap.size+1,0,none⟩:Option Addr)=some ad→Bl o a.heap.size 0 ad.block≠1 from fun ad h=>by injection h with h;subst h;rw [Bo (by show a.heap.size≤a.heap.size+1;omega)];omega);clear d f Q;go_wp2_with fail;go_at_call 138;refine(G6 b 1 _ _ [[g]] l _ _ C.o H.o F.o N.o (by omega)).mono ?_;rintro e X J;have T:=Hd (Dv.from_pure B.o (Dv.from_fresh D.o J));obtain rfl:=J.1;clear J K q r s u z;go_wp2_with fail;go_end0;exact T.o
 |false=>
  obtain rfl:ow=v.w:=by rw [←O.o];exact if_neg (by rw [show inl v.t=false from E.o];decide)
  go_wp2_with fail;go_at_call 136;refine(P.o _).mono ?_;rintro e a ⟨rfl,k⟩;have B:=Hd (A6 M.o k);have j:=Hd (G.o.pure k);clear k q r s u z;obtain⟨q,r,s,u,z⟩:=j.o.cells;have K:=Im (c:=1) (Qa a g);have d:Below a.heap.size a ((a.alloc (.cells #[.int .u8 (g.toNat:Int)] 5)).alloc (.cells #[.string ⟨[g].toArray⟩] 9)):=Bq _ _ _;have C:=Hd (j.o.m.fresh d 0);have D:=Hd d;have f:=Ox (a.alloc (.cells #[.int .u8 (g.toNat:Int)] 5)) [g];have Q:(a.alloc (.cells #[.int .u8 (g.toNat:Int)] 5)).heap.size=a.heap.size+1:=by simp
  rw [Q] at f;have H:=Hd f;have F:=Hd (show ∀ad,(some ⟨a.heap.size+1,0,none⟩:Option Addr)=some ad→Bl o a.heap.size 0 ad.block≠1 from fun ad h=>by injection h with h;subst h;rw [Bo (by show a.heap.size≤a.heap.size+1;omega)];omega);clear d f Q;go_wp2_with fail;go_at_call 138;refine(G6 b 1 _ _ [[g]] l _ _ C.o H.o F.o N.o (by omega)).mono ?_;rintro e X J;have T:=Hd (Dv.from_pure B.o (Dv.from_fresh D.o J));obtain rfl:=J.1;clear J K q r s u z;go_wp2_with fail;go_end0;exact T.o
theorem bV(W:World)(v:Bv):Gd (W.alloc (.cells #[Aa Ab (v.t:Int),Aa Ab (v.w:Int),Aa Ac (v.n:Int)] 169)) W.heap.size (some ⟨W.heap.size,0,none⟩) 1 1 [vv v]:=by
 refine⟨rfl,?_⟩;have:=World.ownsRow_lit (base:=W.heap.size) (e:=169) (size:=3) W #[Aa Ab (v.t:Int),Aa Ab (v.w:Int),Aa Ac (v.n:Int)] 1 (Ae _) (by simp only [maxLen];omega) rfl;exact this
theorem eO(kv:Bv)(n c:Nat)(A:Option Addr)(vs:List Bv)(w:World)(hv:Ef w A n (vs.map vv))(hn:n≤1000000)(hk:kv.t=14)(hkw:Br (kv.w:Int)=true)
  (hE:∀v∈vs,Ch (v.t:Int)=true∧Br (v.w:Int)=true):
  Calls Ad 330 #[.agg #[Aa Ab (kv.t:Int),Aa Ab (kv.w:Int),Aa Ac (kv.n:Int)],.slice A n c] w (Ab5 (Aa Ab 0) w):=by
 have I:=Bq w (.cells #[Aa Ab (kv.t:Int),Aa Ab (kv.w:Int),Aa Ac (kv.n:Int)] 169) (.cells #[Aa Ab (kv.t:Int),Aa Ab (kv.w:Int),Aa Ac (kv.n:Int)] 169);have M:=Hd I;have S:=Hd (hv.pure I);have b:=bV (w.alloc (.cells #[Aa Ab (kv.t:Int),Aa Ab (kv.w:Int),Aa Ac (kv.n:Int)] 169)) kv;have N:(w.alloc (.cells #[Aa Ab (kv.t:Int),Aa Ab (kv.w:Int),Aa Ac (kv.n:Int)] 169)).heap.size=w.heap.size+1:=by simp
 rw [N] at b;have H:=Hd b;have Q:=Hd (show ∀v∈kv::vs,Ch (v.t:Int)=true∧Br (v.w:Int)=true from fun v h=>by
  rcases List.mem_cons.1 h with rfl|h
  ·exact⟨by rw [hk];decide,hkw⟩
  ·exact hE v h)
 have j:(kv.t:Int)=14:=by omega
 have T:((kv.t:Int) != 14)=false:=by rw [j];rfl
 clear I hv b N hk hkw hE j;go_enter func330,ntmps330;go_wp2_with (at_builtin;refine Fl _ rfl (.tmp 13) (.tmp 14) _ rfl 169 _ 3 24 underlying144 Ot rfl (by omega) I9 O8 _ _ _ _ _ rfl H.o _ _ _ _ rfl S.o (by omega) (by simp) ?_;intro P c1 K d i C);have R:=Hd (show Ef K P (1+n) ((kv::vs).map vv) from d.is);have F:=Hd (M.o.trans (i.belowB (fun k hk ⟨ad,h,h'⟩=>by injection h with h;subst h;have h2:k=w.heap.size+1:=h';omega) (by have:=M.o.size;omega)));clear d i C;go_loopw [17] (fun u wr=>∃k:Nat,k≤1+n∧u= Aa Ab k∧Below K.heap.size K wr) (fun u _=>1+n-(intOf u).toNat)
 case atStart=>exact⟨0,Am _,rfl,Af _ _⟩
 case round=>
  obtain⟨k,hk,rfl,r⟩:=hrel;have m:=Hd r;have G:=Hd (R.o.pure r);clear r;by_cases J:k<1+n
  ·obtain⟨g,ab,v,rfl,E,h0,h1,h2⟩:=Ha G.o J;have p:=Hd (Q.o v (List.mem_of_getElem? E));have X:(0:Int)≤(k:Int):=by omega
   have Y:(k:Int)<1+(n:Int):=by omega
   have O:(k:Int)<((1+n:Nat):Int):=by omega
   have s:=Hd (m.o.alloc m.o.size (.cells #[Aa Ab (v.t:Int),Aa Ab (v.w:Int),Aa Ac (v.n:Int)] 169));have B:=Hd (Bb.new wr 169 #[Aa Ab (v.t:Int),Aa Ab (v.w:Int),Aa Ac (v.n:Int)]);obtain⟨z,Z⟩:∃z,decide ((0:Int)<(k:Int))=z:=⟨_,rfl⟩;have aa:decide (0<k)=z:=by rw [←Z];exact decide_eq_decide.2 (by omega)
   obtain⟨iv,D⟩:∃x,Bt (v.t:Int)=x:=⟨_,rfl⟩;have y:=Hd D;clear E D;cases z with
   |true=>
    go_wp2_with fail;go_at_call 32;refine(Es (v.w:Int) _ p.o.2).mono ?_;rintro e w' ⟨⟨cc,rfl⟩,rfl⟩;go_wp2_with fail;go_at_call 86;refine(Fi (v.t:Int) _).mono ?_;rw [p.o.1];rintro e w3 ⟨rfl,f⟩;have l:=Hd (A6 s.o f);have q:=Hd (B.o.pure f);have L:w3.cell? ⟨wr.heap.size,0,none⟩=some (Aa Ab (v.t:Int)):=q.o.cell 0;clear f;go_wp2_with fail;go_at_call 78;refine(Cm (v.t:Int) _).mono ?_;rw [y.o];rintro e w4 ⟨rfl,f⟩;have a:=Hd (A6 l.o f);clear f L;cases iv with
    |true=>
     go_wp2_with fail;go_roundw
     case rel=>exact⟨k+1,by omega,by go_num,a.o⟩
     case measure=>simp [intOf];omega
    |false=>
     go_wp2_with fail;go_roundw
     case rel=>exact⟨k+1,by omega,by go_num,a.o⟩
     case measure=>simp [intOf];omega
   |false=>
    go_wp2_with fail;go_at_call 32;refine(Es (v.w:Int) _ p.o.2).mono ?_;rintro e w' ⟨⟨cc,rfl⟩,rfl⟩;have l:=s;have q:=B;have L:_=some (Aa Ab (v.t:Int)):=q.o.cell 0;go_wp2_with fail;go_at_call 78;refine(Cm (v.t:Int) _).mono ?_;rw [y.o];rintro e w4 ⟨rfl,f⟩;have a:=Hd (A6 l.o f);clear f L;cases iv with
    |true=>
     go_wp2_with fail;go_roundw
     case rel=>exact⟨k+1,by omega,by go_num,a.o⟩
     case measure=>simp [intOf];omega
    |false=>
     go_wp2_with fail;go_roundw
     case rel=>exact⟨k+1,by omega,by go_num,a.o⟩
     case measure=>simp [intOf];omega
  ·have U:decide ((k:Int)<((1+n:Nat):Int))=false:=decide_eq_false (by omega);have W:decide ((k:Int)<1+(n:Int))=false:=decide_eq_false (by omega);have V:decide (k<1+n)=false:=decide_eq_false (by omega);go_wp2_with fail;go_ret;exact⟨rfl,A6 F.o m.o⟩
attribute [local go_sem] Oper.semAt_some
def Gn(V:Nat→Prop)(W W':World):Prop:=∀a u,W.cell? a=some u→¬V a.block→W'.cell? a=some u
theorem Gn.refl(V:Nat→Prop)(W:World):Gn V W W:=fun _ _ h _=>h
theorem Gn.trans{A B C:World}(h:Gn V A B)(k:Gn V B C):Gn V A C:=fun a u hc hv=>k a u (h a u hc hv) hv
theorem Gn.pure{W W':World}(h:Below W.heap.size W W'):Gn V W W':=fun _ _ hc _=>Ba h hc
theorem Aa0(W:World)(l:Nat)(o o':Obj)(h:W.heap[l]?=some o)(hc:o.isCells=false):Gn V W (W.putObj l o'):=by
 intro a u ha _;have hg:=grownBy_putObj' W l o';exact cell_kept ha hg (fun r e=>by cases e;exact⟨o,h,hc⟩)
def jK(y:Nat×Nv):Array Value:=#[Aa Ab (y.1:Int),.agg (Ab8 y.2.k y.2.n y.2.u y.2.s y.2.A y.2.an y.2.ac y.2.B y.2.bn y.2.bc)]
def Abj(n l:Nat)(V:Nat→Prop)(Y:List (Nat×Nv))(J Jx:Nat→World→Prop):Prop:=
 ∀i y W1,Y[i]?=some y→J i W1→YieldAt Fence.wide (n-1) Ad l (jK y) W1 fun e W'=>
  (e= .returned (.bool true)∧J (i+1) W'∧Gn V W1 W'∧W1.heap.size≤W'.heap.size)∨(e= .returned (.bool false)∧Jx (i+1) W')
def Aat(W:World)(V:Nat→Prop)(J Jx:Nat→World→Prop)(i m:Nat)(e:Ending)(W':World):Prop:=
 (e= .returned (.bool true)∧J (i+m) W'∧Gn V W W'∧W.heap.size≤W'.heap.size)∨(e= .returned (.bool false)∧∃j,j≤i+m∧Jx j W')
def Abi(Y:List (Nat×Nv))(i:Nat)(ys:List (Nat×Nv)):Prop:=∃a b,Y=a++ys++b∧a.length=i
theorem qL(n l:Nat)(hn:1≤n)(V:Nat→Prop)(Y:List (Nat×Nv))(J Jx:Nat→World→Prop)(w0:World)(p:Nat→Prop)(hp:∀k,p k→¬V k)(hV:∀k,V k→k<w0.heap.size)(hY:Abj n l V Y J Jx)
  (hJ:∀s W W',J s W→Below W.heap.size W W'→J s W') {d:Nat} {x:Nv} {t:Tr} {ys:List (Nat×Nv)} (h:Gw w0 p d x t ys):
  ∀(i:Nat) (W:World),Gn V w0 W→w0.heap.size≤W.heap.size→J i W→Abi Y i ys→d+ys.length≤1099511627776→
   Calls Ad 233 #[.agg (Ab7 x),Aa Ab (d:Int),.func (.yield l) #[] #[]] W (Aat W V J Jx i ys.length):=by
 have HY:=Hd hY;have H:=Hd hJ;clear hY hJ
 induction h with
 | @mk d x ks l' vs yss h1 ha hac hx h2 hb hbc hy hl hyl hc ih=>
  intro i W hK hs Q hN hd;have ah:=Hd ih;have G:=Hd (show It W x.B x.bn vs from⟨h2.1,N4 h2.2 hb fun a u hc hpa=>hK a u hc (hp _ hpa)⟩);have ao:=Hd hb;have bj:x.bn≤1099511627776:=by omega
  have bt:vs.length=x.bn:=h2.1;have hB:=(Af W.heap.size W).alloc (Ae _) (.cells (Ab7 x) 34);have HB:=Hd hB;have HX:=Hd (Bb.new W 34 (Ab7 x));have HJ:=Hd (H.o _ _ _ Q hB);have an:=Hd (show ¬V W.heap.size from fun hv=>by have:=hV _ hv;omega);obtain⟨fn,a2,af,ay,A,hR⟩:=HY.o i (d,x) _ (by obtain⟨a,b,E,e2⟩:=hN;rw [E,←e2];simp) HJ.o;have ak:=Hd hK;have am:=Hd (show i+1≤i+((d,x)::yss.flatten).length by simp only [Av];omega);have HN:=Hd hN;have HD:=Hd hd;have bl:(d:Int)≤1099511627776:=by omega
  rw [show jK (d,x)=#[Aa Ab (d:Int),.agg (Ab7 x)] from rfl] at A;clear ih h1 ha hac hx h2 hb hbc hy hc hK Q hN hB;go_enter func233,ntmps233;go_upto_region 1 with fail
  refine(wpIn_wide (n:=n)).1 ?_
  gi_wp2
  refine hR.mono ?_;rintro e D (⟨rfl,f,m,ab⟩|⟨rfl,f⟩)
  ·have M:=Hd (show Gn V w0 D from(ak.o.trans (Gn.pure HB.o)).trans m);have N:=Hd (show Gn V W D from(Gn.pure HB.o).trans m);have O:=Hd (show W.heap.size≤D.heap.size from Nat.le_trans HB.o.size ab);have r:=Hd (show J (i+1+(yss.take 0).flatten.length) D from f);have a9:=Hd (show Gn V (W.alloc (.cells (Ab7 x) 34)) D from m);have c5:D.cell? ⟨W.heap.size,5,none⟩=some (.slice x.B x.bn x.bc):=m _ _ (HX.o.cell 5) an.o;clear f m ab hR A HJ
   gi_wp2
   go_wp2_with fail;go_loopw [17] (fun u wr=>∃k:Nat,k≤x.bn∧u= Aa Ab k∧J (i+1+(yss.take k).flatten.length) wr∧Gn V w0 wr∧Gn V W wr∧W.heap.size≤wr.heap.size) (fun u _=>x.bn-(intOf u).toNat)
   case atStart=>exact⟨0,Am _,rfl,r.o,M.o,N.o,O.o⟩
   case round=>
    obtain⟨k,hk,rfl,hj,T,X,ad⟩:=hrel;have I:=Hd hj;have K:=Hd T;have y:=Hd X;have z:=Hd ad;clear hj T X ad r M N O c5;by_cases bq:k<x.bn
    ·obtain⟨v,hv⟩:∃v,vs[k]?=some v:=⟨_,Ai (by omega)⟩;obtain⟨t',ae⟩:∃t',l'[k]?=some t':=⟨_,Ai (by omega)⟩;obtain⟨ys',C⟩:∃ys',yss[k]?=some ys':=⟨_,Ai (by omega)⟩;have P:It wr x.B x.bn vs:=⟨G.o.1,N4 G.o.2 ao.o fun a u hc hpa=>y.o a u hc (hp _ hpa)⟩;obtain⟨g,bu,e,v0,v1,v2,v3,v4,v5⟩:=Hp P hv;have ht:(yss.take (k+1)).flatten=(yss.take k).flatten++ys':=by
      obtain⟨h1,h2⟩:=List.getElem?_eq_some_iff.1 C;rw [Az h1,List.flatten_append,h2];simp
     have Z:(yss.take k).flatten.length+ys'.length≤yss.flatten.length:=by
      rw [←Ak,←ht]
      conv=>rhs;rw [←List.take_append_drop (k+1) yss]
      rw [List.flatten_append,Ak];omega
     have HT:=Hd ht;have al:=Hd Z;have c:=(Af wr.heap.size wr).alloc (Ae _) (.cells (Ab7 v) 34);have F:=Hd c;have w:=Hd (ah.o k v t' ys' hv ae C (i+1+(yss.take k).flatten.length) _ (K.o.trans (Gn.pure c)) (Nat.le_trans hs (Nat.le_trans z.o c.size)) (H.o _ _ _ I.o c)
      (by
       obtain⟨a,b,E,e2⟩:=HN.o;refine⟨a++(d,x)::(yss.take k).flatten,(yss.drop (k+1)).flatten++b,?_,by simp only [Ak,Av];omega⟩;rw [E]
       conv=>lhs;rw [←List.take_append_drop (k+1) yss,List.flatten_append,ht]
       simp) (by have h1:=HD.o;simp only [Av] at h1;omega))
     have E:((d+1:Nat):Int)=(d:Int)+1:=by omega
     rw [E] at w;have a1:(0:Int)≤(k:Int):=by omega
     have bp:(k:Int)<(x.bn:Int):=by omega
     rw [e];clear ht Z c P hv ae C E;go_wp2_with fail;go_at_call 233;refine w.o.mono ?_;rintro e W3 (⟨rfl,R,U,aa⟩|⟨rfl,q,hq,S⟩)
     ·have aj:=Hd (show J (i+1+(yss.take (k+1)).flatten.length) W3 by rw [HT.o,Ak,←Nat.add_assoc];exact R);have L:=Hd (show Gn V wr W3 from(Gn.pure F.o).trans U);have ap:=Hd (Nat.le_trans F.o.size aa);clear R U aa v0 v1 v2 v3 v4 v5 e;go_wp2_with fail;go_roundw
      case rel=>exact⟨k+1,by omega,by go_num,aj.o,K.o.trans L.o,y.o.trans L.o,Nat.le_trans z.o ap.o⟩
      case measure=>simp [intOf];omega
     ·have HQ:=Hd (show ∃j,j≤i+((d,x)::yss.flatten).length∧Jx j W3 from⟨q,by
       have h1:(yss.take k).flatten.length+ys'.length≤yss.flatten.length:=al.o;simp only [Av];omega,S⟩)
      clear hq S v0 v1 v2 v3 v4 v5 e;go_wp2_with fail;go_ret;exact .inr ⟨rfl,HQ.o⟩
    ·have ax:k=x.bn:=by omega
     have HE:=Hd (show(yss.take k).flatten=yss.flatten by rw [Aw (by omega)]);have bm:decide ((k:Int)<(x.bn:Int))=false:=decide_eq_false (by omega);have bo:decide (k<x.bn)=false:=decide_eq_false (by omega);clear ax;go_wp2_with fail;go_ret;exact .inl ⟨rfl,by have h:=I.o;rw [HE.o,Nat.add_assoc,Nat.add_comm 1] at h;exact h,y.o,z.o⟩
  ·have r:=Hd f;clear f hR A HJ
   gi_wp2
   go_wp2_with fail;go_ret;exact .inr ⟨rfl,i+1,am.o,r.o⟩
theorem fA(x:Nv)(w:World):Calls Ad 142 #[.agg (Ab7 x)] w fun e w'=>e= .returned (.func (.func 232) #[] #[Aca w.heap.size])∧w'=w.alloc (.cells (Ab7 x) 34):=by
 go_enter func142,ntmps142;go_wp2;go_ret;exact⟨rfl,rfl⟩
def KpW(V:Nat→Prop)(W W':World):Prop:=Gn V W W'∧W.heap.size≤W'.heap.size
theorem Ze(x:Nv)(t:Tr)(Y:List (Nat×Nv))(V p:Nat→Prop)(b:Nat)(w:World)(n:Nat)(hn:1≤n)(h:Gw w p 0 x t Y)(hb:Bb w b 34 (Ab7 x))(hp:∀k,p k→¬V k)(hV:∀k,V k→k<w.heap.size)(hm:Y.length≤1099511627776):
  SeqStopsK Fence.wide n Ad 232 #[Aca b] (fun i:Fin Y.length=>jK Y[i]) (KpW V) (fun xs=>xs=List.finRange Y.length) (fun pre=>pre<+:List.finRange Y.length) Y.length w:=by
 intro l J A W hW H m I h0;have c:=hb.pure hW;obtain ⟨B,C,D,E,F,G⟩:=c.c6;have z:∀i (hi:i<Y.length),(List.finRange Y.length).take (i+1)=(List.finRange Y.length).take i++ [⟨i,hi⟩]:=by
  intro i hi;rw [←List.take_append_getElem (by rw [List.length_finRange];exact hi)];simp
 have a:=Hd (qL n l hn V Y (fun i W=>J ((List.finRange Y.length).take i) W) (fun i W=>A ((List.finRange Y.length).take i) W) w p hp hV
  (fun i y W1 hy hj=>by
   obtain⟨hi,rfl⟩:=List.getElem?_eq_some_iff.1 hy;have h1:=I ((List.finRange Y.length).take i) ⟨i,hi⟩ W1 hj (by rw [Au,List.length_finRange];omega);simp only [z i hi];exact h1)
  (fun s W W' h hb=>H _ W W' none h ⟨hb.os,hb.tape,hb.output,hb.size,fun k hk _=>hb.block k hk⟩ (fun r e=>by cases e)) h 0 W (Gn.pure hW) hW.size (by rw [List.take_zero];exact h0) ⟨[],[],by simp,rfl⟩ (by omega))
 clear hb c h hW H m I h0;refine callsIn_wide.2 ?_;go_enter func232,ntmps232;go_wp2_with fail;go_at_call 233;refine a.o.mono ?_;rintro e W3 (⟨rfl,d,u,v⟩|⟨rfl,q,K,f⟩)
 ·have g:=Hd (show J (List.finRange Y.length) W3 by
   have h:J ((List.finRange Y.length).take (0+Y.length)) W3:=d;rw [Aw (by rw [List.length_finRange];omega)] at h;exact h)
  clear d u v a B C D E F G;go_wp2_with fail;go_end0;exact⟨⟨_,rfl⟩,.inl ⟨_,rfl,g.o⟩⟩
 ·have j:=Hd (show A ((List.finRange Y.length).take q) W3 from f);clear K f a B C D E F G;go_wp2_with fail;go_end0;exact⟨⟨_,rfl⟩,.inr ⟨_,List.take_prefix _ _,j.o⟩⟩
def V7(k:Int):Int:=if k=2∨k=3∨k=8 then 1 else if k=4∨k=9 then 2 else if k=5∨k=6∨k=7 then 4 else if k=17 then 8 else 0
theorem tY(h1:1≤k)(h2:k≤17):∀w,(Instr.index 318 (.agg #[Aa Ab 0,Aa Ab 0,Aa Ab 1,Aa Ab 1,Aa Ab 2,Aa Ab 4,Aa Ab 4,Aa Ab 4,Aa Ab 1,Aa Ab 2,Aa Ab 0,Aa Ab 0,Aa Ab 0,Aa Ab 0,Aa Ab 0,Aa Ab 0,Aa Ab 0,Aa Ab 8]) (Aa Ab k)).run Ad w= .ok (Aa Ab (V7 k)) w:=by
 obtain rfl|rfl|rfl|rfl|rfl|rfl|rfl|rfl|rfl|rfl|rfl|rfl|rfl|rfl|rfl|rfl|rfl:k=1∨k=2∨k=3∨k=4∨k=5∨k=6∨k=7∨k=8∨k=9∨k=10∨k=11∨k=12∨k=13∨k=14∨k=15∨k=16∨k=17:=by omega
 all_goals
  intro w
  kernel_rfl
theorem qI(k r:Int)(w:World)(h1:1≤k)(h2:k≤17)(hr:V7 k=r):Calls Ad 234 #[Aa Ab k] w (Ab6 (Aa Ab r) w):=by
 have hidx:=tY h1 h2;rw [hr] at hidx;clear hr h1 h2;go_enter func234,ntmps234;go_wp2;go_ret;exact⟨rfl,rfl⟩
theorem sX(h1:1≤k)(h2:k≤17):∀w,(Instr.index 318 (.agg #[Aa Ab 0,Aa Ab (-1),Aa Ab (-1),Aa Ab (-1),Aa Ab (-1),Aa Ab (-1),Aa Ab (-1),Aa Ab (-1),Aa Ab (-1),Aa Ab (-1),Aa Ab 0,Aa Ab 3,Aa Ab 4,Aa Ab 5,Aa Ab 2,Aa Ab 3,Aa Ab 4,Aa Ab 0]) (Aa Ab k)).run Ad w= .ok (Aa Ab (Nd k)) w:=by
 obtain rfl|rfl|rfl|rfl|rfl|rfl|rfl|rfl|rfl|rfl|rfl|rfl|rfl|rfl|rfl|rfl|rfl:k=1∨k=2∨k=3∨k=4∨k=5∨k=6∨k=7∨k=8∨k=9∨k=10∨k=11∨k=12∨k=13∨k=14∨k=15∨k=16∨k=17:=by omega
 all_goals
  intro w
  kernel_rfl
theorem wU(k r:Int)(w:World)(h1:1≤k)(h2:k≤17)(hr:Nd k=r):Calls Ad 235 #[Aa Ab k] w (Ab6 (Aa Ab r) w):=by
 have hidx:=sX h1 h2;rw [hr] at hidx;clear hr h1 h2;go_enter func235,ntmps235;go_wp2;go_ret;exact⟨rfl,rfl⟩
theorem Pw(s:List UInt8):decide ((0:Int)≤Lib.indexByte s 0)=Cl s:=by
 induction s with
 |nil=>rfl
 |cons b l ih=>
  unfold Lib.indexByte Cl;simp only [List.any_cons];by_cases d:(b==0)=true
  ·rw [if_pos d,d];rfl
  ·have f:(b==0)=false:=by simpa using d
   rw [if_neg d,f,Bool.false_or];have h: -1≤Lib.indexByte l 0:=by
    clear ih
    induction l with
    |nil=>decide
    |cons a l ih2=>unfold Lib.indexByte;(repeat' split) <;>omega
   have g:decide ((0:Int)≤Lib.indexByte l 0)=l.any fun c=>c==0:=ih
   rw [←g];by_cases e:(Lib.indexByte l 0== -1)=true
   ·rw [if_pos e];have:Lib.indexByte l 0= -1:=by simpa using e
    rw [this]
   ·rw [if_neg e];have:Lib.indexByte l 0≠ -1:=by simpa using e
    exact decide_eq_decide.2 (by omega)
theorem nH(s:List UInt8)(r:Int)(w:World)(hr:Lib.indexByte s 0=r):Calls Ad 298 #[.string ⟨s.toArray⟩,.int .u8 0] w (Ab6 (Aa Ab r) w):=by
 have h:=Lib.run_indexByteString (P:=Ad) ⟨s.toArray⟩ 0 w;have e:(0:Int).toNat.toUInt8=0:=rfl;rw [e,show(⟨s.toArray⟩:ByteArray).data.toList=s from rfl,hr] at h;clear e hr;go_enter func298,ntmps298;go_wp2;rw [run_callFunc_extern func336 (by kernel_rfl) (by kernel_rfl) (by kernel_rfl) (e:=Extern.BytealgIndexByte.indexByte) (by kernel_rfl),h];simp only [Result.andThen];rw [Oper.upon_value];go_wp2;go_ret;exact⟨rfl,rfl⟩
theorem Tq(s:List UInt8)(r:Int)(w:World)(hr:Lib.indexByte s 0=r):Calls Ad 239 #[.string ⟨s.toArray⟩,.int .u8 0] w (Ab6 (Aa Ab r) w):=by
 go_enter func239,ntmps239;go_wp2_with (go_at_call 298;refine(nH s r _ hr).mono ?_;rintro e w' ⟨rfl,rfl⟩);go_ret;exact⟨rfl,rfl⟩
theorem Hy(s:List UInt8)(z:Bool)(w:World)(hz:Cl s=z):Calls Ad 238 #[.string ⟨s.toArray⟩] w (Ab6 (.bool z) w):=by
 obtain⟨r,hr⟩:∃r,Lib.indexByte s 0=r:=⟨_,rfl⟩;have HR:=Hd hr;have hd:decide ((0:Int)≤r)=z:=by rw [←hr,Pw];exact hz
 clear hr hz;go_enter func238,ntmps238;go_wp2_with (go_at_call 239;refine(Tq s r _ HR.o).mono ?_;rintro e w' ⟨rfl,rfl⟩);go_ret;exact⟨rfl,rfl⟩
theorem eG(s:List UInt8)(w:World)(hz:Cl s=false):Calls Ad 279 #[.string ⟨s.toArray⟩] w (Ab6 (Aa Ab 0) w):=by
 obtain⟨r,hr⟩:∃r,Lib.indexByte s 0=r:=⟨_,rfl⟩;have HR:=Hd hr;have hd:decide ((0:Int)≤r)=false:=by rw [←hr,Pw];exact hz
 clear hr hz;go_enter func279,ntmps279;go_wp2_with (go_at_call 239;refine(Tq s r _ HR.o).mono ?_;rintro e w' ⟨rfl,rfl⟩);go_ret;exact⟨rfl,rfl⟩
end Go.Proofs.YtejpbijeifjdeaaGreat
