/- Parts of the proof. -/
import Derived.Test.YtejpbijeifjdeaaGreatQf04
import Derived.Laws.DeepNot64
import Derived.Deep.DeepCutAuto
import Derived.RangeFuncNested
import Derived.RangeFuncBound
import Derived.RangeFuncCalls
import Derived.RangeFuncLeaves
import Derived.Shelf.Abstract
import Derived.Shelf.RegionOpen
import Derived.OwnWalkIn
import Derived.TacticsInMore
import Derived.LoopNIn
import Derived.LoopIn
import Derived.Laws.EntriesVeiled
set_option maxHeartbeats 2000000
set_option maxRecDepth 100000
open Go.Value renaming int→Aa
open Go.IntKind renaming i64→Ab,u64→Ac
open Nat renaming le_refl→Ae
open Go.RowKit.Below renaming refl→Af
open Go.IntWalk renaming i64_in→Ao
open Go.Proofs.Tryz
open Go.Proofs.Tryz renaming prog→Ad
namespace Go.Proofs.YtejpbijeifjdeaaGreat
variable {M:Bp}{v:Bv}{bx bv bt y g:Nat}{w w' W W':World}{o:Nat→Nat}{t:TypeId}{f:Nat→Bool}{x:Int}{p q t':Value}
section
open Go.Shelf Go.RowKit Go.Acc
theorem lO(u:Nat)(hu:u<9223372036854775808):lP (1+Lib.bitLen u)=Xu (u:Int)∧Xu (-(u:Int)-1)=Xu (u:Int):=by
 have h1:=Pz u 7 (by omega) (by omega);have h2:=Pz u 15 (by omega) (by omega);have h3:=Pz u 31 (by omega) (by omega);simp only [Nat.reducePow] at h1 h2 h3;constructor
 ·unfold lP Xu;by_cases a:u<128
  ·rw [if_pos (show(-128:Int)≤u∧(u:Int)<128 by omega),if_pos (by have:=h1.2 a;omega)]
  ·rw [if_neg (show ¬((-128:Int)≤u∧(u:Int)<128) by omega),if_neg (by have:=mt h1.1 a;omega)];by_cases b:u<32768
   ·rw [if_pos (show(-32768:Int)≤u∧(u:Int)<32768 by omega),if_pos (by have:=h2.2 b;omega)]
   ·rw [if_neg (show ¬((-32768:Int)≤u∧(u:Int)<32768) by omega),if_neg (by have:=mt h2.1 b;omega)];by_cases c:u<2147483648
    ·rw [if_pos (show(-2147483648:Int)≤u∧(u:Int)<2147483648 by omega),if_pos (by have:=h3.2 c;omega)]
    ·rw [if_neg (show ¬((-2147483648:Int)≤u∧(u:Int)<2147483648) by omega),if_neg (by have:=mt h3.1 c;omega)]
 ·unfold Xu
  (repeat' split) <;>omega
theorem xor_zero(a:Nat)(ha:a<9223372036854775808):Go.bits .xor .i64 (a:Int) 0=a:=by
 show IntKind.i64.wrap ((BitVec.ofInt 64 (a:Int)^^^BitVec.ofInt 64 0).toNat:Int)=_;have h1:BitVec.ofInt 64 0=0#64:=by decide
 rw [h1,BitVec.xor_zero,ofInt_u64 a (by omega)];simp [IntKind.wrap,IntKind.bits,IntKind.signed];omega
theorem yW(a:Nat)(ha:a<9223372036854775808):Go.bits .xor .i64 (-(a:Int)-1) (-1)=a:=by
 show IntKind.i64.wrap ((BitVec.ofInt 64 (-(a:Int)-1)^^^BitVec.ofInt 64 (-1)).toNat:Int)=_;have h1:BitVec.ofInt 64 (-1)=BitVec.allOnes 64:=by decide
 have h2:(BitVec.ofInt 64 (-(a:Int)-1)).toNat=18446744073709551615-a:=by
  rw [BitVec.toNat_ofInt];omega
 rw [h1,BitVec.xor_allOnes,BitVec.toNat_not,h2];simp [IntKind.wrap,IntKind.bits,IntKind.signed];omega
theorem Aca(n r:Int)(w:World)(h0: -9223372036854775808≤n∧n≤9223372036854775807)(h:Xu n=r):Calls Ad 35 #[Aa Ab n] w (Afd (Aa Ab r) w):=by
 obtain⟨u,p,b,g⟩:∃u:Nat,u<9223372036854775808∧Xu (u:Int)=r∧Go.bits .xor .i64 n (n/9223372036854775808)=u:=by
  by_cases b:0≤n
  ·obtain⟨u,rfl⟩:=Int.eq_ofNat_of_zero_le b;refine⟨u,by omega,h,?_⟩;rw [show(u:Int)/9223372036854775808=0 by omega];exact xor_zero u (by omega)
  ·obtain⟨u,rfl⟩:∃u:Nat,n= -(u:Int)-1:=⟨(-n-1).toNat,by omega⟩;refine⟨u,by omega,by rw [←(lO u (by omega)).2];exact h,?_⟩;rw [show(-(u:Int)-1)/9223372036854775808= -1 by omega];exact yW u (by omega)
 obtain⟨k,a⟩:∃k,Lib.bitLen u=k:=⟨_,rfl⟩;have d:=(lO u p).1;rw [a,b] at d;have c:=Wu u w (by omega);rw [a] at c;have m:k≤64:=by rw [←a];exact Lib.bitLen_le u 64 (by omega) (by omega)
 have f:IntKind.u64.wrap (u:Int)=u:=by rw [IntKind.wrap_u64];omega
 have j:=Hd d;have i:=Hd c;have l:=Hd g;clear a d c h b g;go_enter func35,ntmps35;go_wp2_with fail;go_at_call 66;rw [l.o,f];refine i.o.mono ?_;rintro e q ⟨rfl,rfl⟩;go_wp2_with fail;go_at_call 65;refine(eJ (1+(k:Int)) r _ j.o).mono ?_;rintro e q ⟨rfl,rfl⟩;go_wp2;go_ret;exact⟨rfl,rfl⟩
end
section
open Go.RowKit Go.Acc
theorem Ej(M:Bp)(fl:Int)(F:Nat)(caps:Array Value)(w:World)(o:Nat→Nat)(vals:List Bv)(R:Ending→World→Prop)(h:Hl M fl w o vals)
  (hF:∀(args:Array Value) (w:World),(callFunc F args).run Ad w= .ok (.enter F args) w)
  (hc:Calls Ad F caps w fun e w'=>e= .returned (.tuple #[])∧R e w'):
  Calls Ad 193 #[Afh M.β,.func (.func F) #[] caps] w R:=by
 have H:=Hd h;have b:=Hd hc;clear h hc;go_enter func193,ntmps193;go_wp2_with (go_at_call 278;refine(Aae H.o).mono ?_;rintro e w' ⟨rfl,rfl⟩);refine b.o.mono ?_;rintro e w' ⟨rfl,a⟩;have c:=Hd a;clear a hF;go_wp2;go_end0;exact c.o
theorem Xw(u:Nat):Xv u=(bWidth u:Nat):=by unfold Xv bWidth;(repeat' split) <;>rfl
theorem Aer(n:Int):Xu n=(bWidthI n:Nat):=by unfold Xu bWidthI;(repeat' split) <;>rfl
theorem uX(n:Int):IntKind.u64.wrap n=(bits n:Nat):=zW n
theorem Vj(n:Int)(w:World)(h: -9223372036854775808≤n∧n≤9223372036854775807):
  Calls Ad 188 #[Aa Ab n] w (Afc (.agg #[Aa Ab ((C5 n).t:Int),Aa Ab ((C5 n).w:Int),Aa Ac ((C5 n).n:Int)]) w):=by
 have a:=Hd (uX n);have b:=Hd (Aer n);have H:=Hd h;clear h;go_enter func188,ntmps188;go_wp2_with fail;go_at_call 35;refine(Aca n _ _ H.o b.o).mono ?_;rintro e c ⟨rfl,rfl⟩;go_wp2_with fail;refine bodyPost_ret (v:= .agg #[Aa Ab ((C5 n).t:Int),Aa Ab ((C5 n).w:Int),Aa Ac ((C5 n).n:Int)]) (by simp [results,results188,go_sem,a.o,C5]) rfl ⟨rfl,?_⟩;exact(Af _ _).alloc (Ae _) _
theorem Vv(u:Nat)(w:World)(h:u<18446744073709551616):
  Calls Ad 190 #[Aa Ac (u:Int)] w (Afc (.agg #[Aa Ab ((C9 u).t:Int),Aa Ab ((C9 u).w:Int),Aa Ac ((C9 u).n:Int)]) w):=by
 have a:=Hd (Xw u);have H:=Hd h;clear h;go_enter func190,ntmps190;go_wp2_with fail;go_at_call 33;refine(Ni u _ _ H.o a.o).mono ?_;rintro e b ⟨rfl,rfl⟩;go_wp2_with fail;refine bodyPost_ret (v:= .agg #[Aa Ab ((C9 u).t:Int),Aa Ab ((C9 u).w:Int),Aa Ac ((C9 u).n:Int)]) (by simp [results,results190,go_sem,C9]) rfl ⟨rfl,?_⟩;exact(Af _ _).alloc (Ae _) _
theorem Rs(n:Int)(t:Bool)(w:World)(h:decide (n=1)=t):
  Calls Ad 192 #[.bool t] w (Afc (.agg #[Aa Ab ((Dh n).t:Int),Aa Ab ((Dh n).w:Int),Aa Ac ((Dh n).n:Int)]) w):=by
 cases t with
 |true=>
  have e:Dh n=⟨26,1,1⟩:=by unfold Dh;rw [if_pos (of_decide_eq_true h)]
  rw [e];clear h e;go_enter func192,ntmps192;go_wp2_with fail;refine bodyPost_ret (v:= .agg #[Aa Ab 26,Aa Ab 1,Aa Ac 1]) (by simp [results,results192,go_sem]) rfl ⟨rfl,?_⟩;exact((Af _ _).alloc (Ae _) _).alloc (by simp) _
 |false=>
  have e:Dh n=⟨26,1,0⟩:=by unfold Dh;rw [if_neg (of_decide_eq_false h)]
  rw [e];clear h e;go_enter func192,ntmps192;go_wp2_with fail;refine bodyPost_ret (v:= .agg #[Aa Ab 26,Aa Ab 1,Aa Ac 0]) (by simp [results,results192,go_sem]) rfl ⟨rfl,?_⟩;exact((Af _ _).alloc (Ae _) _).alloc (by simp) _
theorem Hs(n k:Nat)(hk:k≤64):IntKind.u64.wrap ((n:Int)*2^(64-k))/2^(64-k)=(n % 2^k:Nat):=by
 have e:((n:Int)*2^(64-k))=((n*2^(64-k):Nat):Int):=by simp
 rw [e,zW];have h2:(2:Nat)^64=2^k*2^(64-k):=by rw [←Nat.pow_add];congr 1;omega
 have h3:(((n*2^(64-k):Nat):Int) % 18446744073709551616).toNat=(n % 2^k)*2^(64-k):=by
  have:(((n*2^(64-k):Nat):Int) % 18446744073709551616).toNat=(n*2^(64-k)) % 2^64:=by
   show _=(n*2^(64-k)) % 18446744073709551616;omega
  rw [this,h2,Nat.mul_mod_mul_right]
 rw [h3];have a:0<2^(64-k):=Nat.two_pow_pos _;rw [show((2:Int)^(64-k))=((2^(64-k):Nat):Int) by simp,←Int.natCast_ediv,Nat.mul_div_cancel _ a]
theorem wU(n y:Nat)(w:World)(hy:Bz (y:Int)=true):
  Calls Ad 135 #[Aa Ac (n:Int),Aa Ab (y:Int)] w (Afd (Aa Ac ((n % 2^(8*y):Nat):Int)) w):=by
 rcases D4 hy with rfl|rfl|rfl|rfl
 ·have a:=Hd (show IntKind.u64.wrap ((n:Int)*72057594037927936)/72057594037927936=((n % 2^(8*1):Nat):Int) from Hs n 8 (by omega));clear hy;go_enter func135,ntmps135;go_wp2_with fail;go_ret;exact⟨Hh a.o,rfl⟩
 ·have a:=Hd (show IntKind.u64.wrap ((n:Int)*281474976710656)/281474976710656=((n % 2^(8*2):Nat):Int) from Hs n 16 (by omega));clear hy;go_enter func135,ntmps135;go_wp2_with fail;go_ret;exact⟨Hh a.o,rfl⟩
 ·have a:=Hd (show IntKind.u64.wrap ((n:Int)*4294967296)/4294967296=((n % 2^(8*4):Nat):Int) from Hs n 32 (by omega));clear hy;go_enter func135,ntmps135;go_wp2_with fail;go_ret;exact⟨Hh a.o,rfl⟩
 ·have a:=Hd (show IntKind.u64.wrap (n:Int)=((n % 2^(8*8):Nat):Int) by have h:=Hs n 64 (by omega);simpa using h);clear hy;go_enter func135,ntmps135;go_wp2_with fail;go_ret;exact⟨Hh a.o,rfl⟩
theorem dP(M:Bp)(fl:Int)(b:Bd)(v:Bv)(bx bv:Nat)(w:World)(o:Nat→Nat)(h:BM M fl w o b)(hs:b.s.length<65536)
  (hx:Bk w bx 104 #[Afh M.β]) (hv:Bk w bv 169 #[Aa Ab (v.t:Int),Aa Ab (v.w:Int),Aa Ac (v.n:Int)]) (ox:o bx=0) (ov:o bv=0):
  Calls Ad 333 #[Afh bx,Afh bv] w (Dq M fl (b.push v) w o):=by
 have H:=Hd h;have r:=Hd hs;have k:w.cell? ⟨bx,0,none⟩=some (Afh M.β):=hx.cell 0;obtain ⟨g,i,j⟩:=hv.c3;have q:=Hd (h.pure (Af _ _).drew);have m:¬Dd (o bx):=by rw [ox];exact Cl
 have p:¬Dd (o bv):=by rw [ov];exact Cl
 have f:=Hd m;have c:=Hd p;clear h hs hx hv m p ox ov;go_enter func333,ntmps333;go_region_held3 (fun w'=>w'.cell? ⟨bx,0,none⟩=some (Afh M.β)∧w'.cell? ⟨bv,0,none⟩=some (Aa Ab (v.t:Int))∧w'.cell? ⟨bv,1,none⟩=some (Aa Ab (v.w:Int))∧w'.cell? ⟨bv,2,none⟩=some (Aa Ac (v.n:Int))) (first|with_reducible exact⟨k,g,i,j⟩|with_reducible exact⟨Bj k,Bj g,Bj i,Bj j⟩|with_reducible exact⟨x,y,z,A⟩) (first|(go_at_call 203;(with_reducible refine(Nx M fl b v _ o q.o r.o).mono ?_);rintro e B ⟨rfl,u,d,a⟩;have x:=a.cell (Bj k) f.o;have y:=a.cell (Bj g) c.o;have z:=a.cell (Bj i) c.o;have A:=a.cell (Bj j) c.o;have l:=Hd (And.intro d a);clear d a));go_end0;exact⟨rfl,u,l.o.1,l.o.2.from_drew⟩
theorem Bu(w:World)(x y:Obj):Below w.heap.size w ((w.alloc x).alloc y):=((Af _ _).alloc (Ae _) _).alloc (by simp) _
theorem Ln(M:Bp)(fl:Int)(b:Bd)(v:Bv)(w:World)(o:Nat→Nat)(h:BM M fl w o b)(hs:b.s.length<65536):
  Calls Ad 290 #[Afh M.β,.agg #[Aa Ab (v.t:Int),Aa Ab (v.w:Int),Aa Ac (v.n:Int)]] w (Dq M fl (b.push v) w o):=by
 have k:=Hd hs;have d:=Bu w (.cells #[Afh M.β] 104) (.cells #[Aa Ab (v.t:Int),Aa Ab (v.w:Int),Aa Ac (v.n:Int)] 169);have i:=Hd d;have g:=Hd (h.fresh d 0);have a:=Hd ((Bk.new w 104 #[Afh M.β]).alloc (.cells #[Aa Ab (v.t:Int),Aa Ab (v.w:Int),Aa Ac (v.n:Int)] 169));have c:=Hd (Db w (.cells #[Afh M.β] 104) 169 #[Aa Ab (v.t:Int),Aa Ab (v.w:Int),Aa Ac (v.n:Int)]);clear h hs d;go_enter func290,ntmps290;go_wp2_with fail;go_at_call 193;refine(Ej M fl 333 _ _ (Br o w.heap.size 0) b.vals _ g.o.head Tryz.call333 ((dP M fl b v w.heap.size (w.heap.size+1) _ (Br o w.heap.size 0) g.o k.o a.o c.o (Bt (Ae _)) (Bt (Nat.le_succ _))).mono fun e w' h=>⟨h.1,h⟩)).mono ?_;rintro e w' f;obtain rfl:=f.1;have j:=Hd (f.from_fresh i.o);clear f;go_wp2;go_end0;exact j.o
theorem mQ(M:Bp)(fl:Int)(b:Bd)(w:World)(o:Nat→Nat)(h:BM M fl w o b)(hs:b.s.length<65536):
  Calls Ad 210 #[Afh M.β] w (Dq M fl (b.push ⟨0,1,0⟩) w o):=by
 have H:=Hd h;have HS:=Hd hs;clear h hs;go_enter func210,ntmps210;go_wp2_with fail;go_at_call 290;refine(Ln M fl b ⟨0,1,0⟩ _ o H.o HS.o).mono ?_;intro e w2 hR;obtain rfl:=hR.1;have HR:=Hd hR;clear hR;go_wp2;go_end0;exact HR.o
theorem qE(M:Bp)(fl:Int)(b:Bd)(n:Int)(w:World)(o:Nat→Nat)(h:BM M fl w o b)(hs:b.s.length<65536)(hn: -9223372036854775808≤n∧n≤9223372036854775807):
  Calls Ad 212 #[Afh M.β,Aa Ab n] w (Dq M fl (b.push (C5 n)) w o):=by
 have H:=Hd h;have i:=Hd hs;have f:=Hd hn;clear h hs hn;go_enter func212,ntmps212;go_wp2_with fail;go_at_call 188;refine(Vj n _ f.o).mono ?_;rintro e j ⟨rfl,d⟩;have c:=Hd d;clear d;go_wp2_with fail;go_at_call 290;refine(Ln M fl b (C5 n) _ o (H.o.pure c.o) i.o).mono ?_;intro e k a;obtain rfl:=a.1;have g:=Hd (a.from_pure c.o);clear a;go_wp2;go_end0;exact g.o
theorem mW(M:Bp)(fl:Int)(b:Bd)(u:Nat)(w:World)(o:Nat→Nat)(h:BM M fl w o b)(hs:b.s.length<65536)(hu:u<18446744073709551616):
  Calls Ad 213 #[Afh M.β,Aa Ac (u:Int)] w (Dq M fl (b.push (C9 u)) w o):=by
 have H:=Hd h;have i:=Hd hs;have f:=Hd hu;clear h hs hu;go_enter func213,ntmps213;go_wp2_with fail;go_at_call 190;refine(Vv u _ f.o).mono ?_;rintro e j ⟨rfl,d⟩;have c:=Hd d;clear d;go_wp2_with fail;go_at_call 290;refine(Ln M fl b (C9 u) _ o (H.o.pure c.o) i.o).mono ?_;intro e k a;obtain rfl:=a.1;have g:=Hd (a.from_pure c.o);clear a;go_wp2;go_end0;exact g.o
theorem mI(M:Bp)(fl:Int)(b:Bd)(n:Int)(t:Bool)(w:World)(o:Nat→Nat)(h:BM M fl w o b)(hs:b.s.length<65536)(ht:decide (n=1)=t):
  Calls Ad 211 #[Afh M.β,.bool t] w (Dq M fl (b.push (Dh n)) w o):=by
 have H:=Hd h;have i:=Hd hs;have f:=Hd ht;clear h hs ht;go_enter func211,ntmps211;go_wp2_with fail;go_at_call 192;refine(Rs n t _ f.o).mono ?_;rintro e j ⟨rfl,d⟩;have c:=Hd d;clear d;go_wp2_with fail;go_at_call 290;refine(Ln M fl b (Dh n) _ o (H.o.pure c.o) i.o).mono ?_;intro e k a;obtain rfl:=a.1;have g:=Hd (a.from_pure c.o);clear a;go_wp2;go_end0;exact g.o
structure Px(M:Bp)(v:Bv)(t bx bv bt:Nat)(w:World)(o:Nat→Nat):Prop where
 x:Bk w bx 104 #[Afh M.β]
 v:Bk w bv 169 #[Aa Ab (v.t:Int),Aa Ab (v.w:Int),Aa Ac (v.n:Int)]
 t:Bk w bt 3 #[Aa Ab (t:Int)]
 ox:o bx=0
 ov:o bv=0
 ot:o bt=0
theorem Px.to_{t:Nat}{o':Nat→Nat}{I:Nat→Prop}(h:Px M v t bx bv bt w o)(ht:To I w o w' o')(hI:¬I 0):Px M v t bx bv bt w' o':=
 ⟨h.x.to_ ht (by rw [h.ox];exact hI),h.v.to_ ht (by rw [h.ov];exact hI),h.t.to_ ht (by rw [h.ot];exact hI),by rw [ht.ow _ h.x.lt];exact h.ox,by rw [ht.ow _ h.v.lt];exact h.ov,by rw [ht.ow _ h.t.lt];exact h.ot⟩
theorem Px.cells{t:Nat}(h:Px M v t bx bv bt w o):
  w.cell? ⟨bx,0,none⟩=some (Afh M.β)∧w.cell? ⟨bv,0,none⟩=some (Aa Ab (v.t:Int))∧w.cell? ⟨bv,1,none⟩=some (Aa Ab (v.w:Int))∧w.cell? ⟨bv,2,none⟩=some (Aa Ac (v.n:Int))∧w.cell? ⟨bt,0,none⟩=some (Aa Ab (t:Int)):=
 ⟨h.x.cell 0,h.v.cell 0,h.v.cell 1,h.v.cell 2,h.t.cell 0⟩
theorem Px.drew{t:Nat}(h:Px M v t bx bv bt w o):Px M v t bx bv bt w.drew o:=⟨h.x,h.v,h.t,h.ox,h.ov,h.ot⟩
theorem Px.drewN{t:Nat}(n:Nat)(h:Px M v t bx bv bt w o):Px M v t bx bv bt (w.drewN n) o:=⟨h.x,h.v,h.t,h.ox,h.ov,h.ot⟩
theorem BM.drew{fl:Int}{b:Bd}(h:BM M fl w o b):BM M fl w.drew o b:=h.pure (Af _ _).drew
theorem Kl(n y:Nat):Fb y (n % 2^(8*y))=true:=decide_eq_true (.inr (Nat.mod_lt _ (Nat.two_pow_pos _)))
theorem Oq(n:Nat)(hy:Bz (y:Int)=true):((n % 2^(8*y):Nat):Int)<18446744073709551616:=by
 have h:=Nat.mod_lt n (Nat.two_pow_pos (8*y));have h2:2^(8*y)≤2^64:=Nat.pow_le_pow_right (by omega) (by have:=D4 hy;omega);have h3:n % 2^(8*y)<18446744073709551616:=Nat.lt_of_lt_of_le h h2;omega
theorem pO(l:List UInt8)(hy:Bz (y:Int)=true)(hm:l.length+15≤1048576):(Bm y l).length+y≤1048576:=by
 have h8:y≤8:=by
  have:=D4 hy;omega
 have:=D2 l h8;omega
theorem Ov(M:Bp)(fl:Int)(b:Bd)(t y n:Nat)(w:World)(o:Nat→Nat)(h:BM M fl w o b)(hs:b.s.length<65536):
  Calls Ad 203 #[Afh M.β,.agg #[Aa Ab (t:Int),Aa Ab (y:Int),Aa Ac (n:Int)]] w (Dq M fl (b.push ⟨t,y,n⟩) w o):=Nx M fl b ⟨t,y,n⟩ w o h hs
theorem sK(n y q:Nat)(w:World)(hy:Bz (y:Int)=true)(hq:n % 2^(8*y)=q):Calls Ad 135 #[Aa Ac (n:Int),Aa Ab (y:Int)] w (Afd (Aa Ac (q:Int)) w):=by
 subst hq;exact wU n y w hy
theorem gX(M:Bp)(fl:Int)(b:Bd)(v:Bv)(t bx bv bt:Nat)(w:World)(o:Nat→Nat)(h:BM M fl w o b)(hc:Px M v t bx bv bt w o)(hs:b.s.length<65536)(hy:Bz (v.w:Int)=true)(hm:b.b.length+15≤1048576):
  Calls Ad 334 #[Afh bx,Afh bv,Afh bt] w (Dq M fl (b.apart t v.w v.n) w o):=by
 have HM:=Hd h;have HC:=Hd hc;have HS:=Hd hs;have C:=Hd hy;have HL:=Hd (show b.b.length+7≤1048576 by omega);have r:=Hd (show(Bm v.w b.b).length+v.w≤1048576 from(pO b.b hy hm));obtain⟨B,X,Y,Z,W⟩:=hc.cells;have V:=h.head.cells.1;clear h hc hs hy hm;go_enter func334,ntmps334;go_wp2_with fail;go_region_held3 (fun w'=>w'.cell? ⟨bx,0,none⟩=some (Afh M.β)∧w'.cell? ⟨bv,0,none⟩=some (Aa Ab (v.t:Int))∧w'.cell? ⟨bv,1,none⟩=some (Aa Ab (v.w:Int))∧w'.cell? ⟨bv,2,none⟩=some (Aa Ac (v.n:Int))∧w'.cell? ⟨bt,0,none⟩=some (Aa Ab (t:Int))∧w'.cell? ⟨M.β,0,none⟩=some (Afh M.bb)) (first|with_reducible exact⟨B,X,Y,Z,W,V⟩|with_reducible exact⟨Bj B,Bj X,Bj Y,Bj Z,Bj W,Bj V⟩|with_reducible exact⟨E,F,G,H,I,J⟩) (first|(go_at_call 134;(with_reducible refine(Ik M.bb v.w b.b _ o HM.o.drew.buf C.o HL.o).mono ?_);rintro e W1 ⟨rfl,o1,y,a⟩;have i:=HM.o.drew.buf_ a y;have f:=HC.o.drew.to_ a (by omega);obtain⟨E,F,G,H,I⟩:=f.cells;have J:=i.head.cells.1;have d:=Hd i;have L:=Hd f;have S:=Hd a.from_drew;clear y a i f));clear B X Y Z W V;obtain⟨m,p⟩:∃x,(Bm v.w b.b).length=x:=⟨_,rfl⟩;have u:=Hd p;have K:=Hd (show b.apart t v.w v.n=({ b with b:=Bm v.w b.b++Bn v.w (v.n % 2^(8*v.w))}:Bd).push ⟨t,v.w,m⟩ by unfold Bd.apart Bd.push;rw [←p]);obtain⟨q,D⟩:∃q,v.n % 2^(8*v.w)=q:=⟨_,rfl⟩;have O:=Hd (show Fb v.w q=true by rw [←D];exact Kl v.n v.w);have P:=Hd (show(q:Int)<18446744073709551616 by rw [←D];exact Oq v.n C.o);have HQ:=Hd D;clear p D;go_wp2_with (go_at_call 133;refine(Ea m d.o.buf u.o).mono ?_;rintro e w' ⟨rfl,rfl⟩);go_region_held3 (fun w'=>w'.cell? ⟨bx,0,none⟩=some (Afh M.β)∧w'.cell? ⟨bv,0,none⟩=some (Aa Ab (v.t:Int))∧w'.cell? ⟨bv,1,none⟩=some (Aa Ab (v.w:Int))∧w'.cell? ⟨bv,2,none⟩=some (Aa Ac (v.n:Int))∧w'.cell? ⟨bt,0,none⟩=some (Aa Ab (t:Int))∧w'.cell? ⟨M.β,0,none⟩=some (Afh M.bb)) (first|with_reducible exact⟨E,F,G,H,I,J⟩|with_reducible exact⟨Bj E,Bj F,Bj G,Bj H,Bj I,Bj J⟩|with_reducible exact⟨z0,z1,z2,z3,z4,z5⟩) (first|(go_at_call 135;(with_reducible refine(sK v.n v.w q _ C.o HQ.o).mono ?_);rintro e w' ⟨rfl,rfl⟩)|(go_at_call 137;(with_reducible refine(Fl M.bb v.w q (Bm v.w b.b) _ o1 d.o.drew.buf C.o O.o P.o r.o).mono ?_);rintro e W2 ⟨rfl,o2,z,c⟩;have j:=d.o.drew.buf_ c z;have g:=L.o.drew.to_ c (by omega);obtain⟨z0,z1,z2,z3,z4⟩:=g.cells;have z5:=j.head.cells.1;have Q:=Hd j;have N:=Hd g;have T:=Hd c.from_drew;clear z c j g));clear E F G H I J;have am:IntKind.u64.wrap (m:Int)=(m:Int):=De _ (by have:=r.o;have:=u.o;omega);go_wp2_with fail;go_region_held3 (fun w'=>w'.cell? ⟨bx,0,none⟩=some (Afh M.β)∧w'.cell? ⟨bv,0,none⟩=some (Aa Ab (v.t:Int))∧w'.cell? ⟨bv,1,none⟩=some (Aa Ab (v.w:Int))∧w'.cell? ⟨bv,2,none⟩=some (Aa Ac (v.n:Int))∧w'.cell? ⟨bt,0,none⟩=some (Aa Ab (t:Int))∧w'.cell? ⟨M.β,0,none⟩=some (Afh M.bb)) (first|with_reducible exact⟨z0,z1,z2,z3,z4,z5⟩|with_reducible exact⟨Bj z0,Bj z1,Bj z2,Bj z3,Bj z4,Bj z5⟩|with_reducible exact⟨B,x1,x2,x3,x4,x5⟩) (first|(go_at_call 203;(with_reducible refine(Ov M fl { b with b:=Bm v.w b.b++Bn v.w q} t v.w m _ o2 Q.o.drew HS.o).mono ?_);rintro e W3 ⟨rfl,o3,k,l⟩;have A:=N.o.drew.to_ l Cl;obtain⟨B,x1,x2,x3,x4⟩:=A.cells;have x5:=k.head.cells.1;have R:=Hd k;have U:=Hd l.from_drew;clear l k A));go_end0;rw [K.o,HQ.o];exact⟨rfl,o3,R.o,((S.o.trans T.o).mono fun _ h=>Jj h).trans U.o⟩
theorem Pm(w:World)(x y z:Obj):Below w.heap.size w (((w.alloc x).alloc y).alloc z):=(Bu w x y).alloc (by simp;omega) _
theorem V4(M:Bp)(fl:Int)(b:Bd)(v:Bv)(t:Nat)(w:World)(o:Nat→Nat)(h:BM M fl w o b)(hs:b.s.length<65536)(hy:Bz (v.w:Int)=true)(hm:b.b.length+15≤1048576):
  Calls Ad 291 #[Afh M.β,Aa Ab (t:Int),.agg #[Aa Ab (v.t:Int),Aa Ab (v.w:Int),Aa Ac (v.n:Int)]] w (Dq M fl (b.apart t v.w v.n) w o):=by
 have k:=Hd hs;have l:=Hd hy;have i:=Hd hm;have a:=Pm w (.cells #[Afh M.β] 104) (.cells #[Aa Ab (t:Int)] 3) (.cells #[Aa Ab (v.t:Int),Aa Ab (v.w:Int),Aa Ac (v.n:Int)] 169);have f:=Hd a;have d:=Hd (h.fresh a 0);have g:=Hd (show Px M v t w.heap.size (w.heap.size+1+1) (w.heap.size+1) (((w.alloc (.cells #[Afh M.β] 104)).alloc (.cells #[Aa Ab (t:Int)] 3)).alloc (.cells #[Aa Ab (v.t:Int),Aa Ab (v.w:Int),Aa Ac (v.n:Int)] 169)) (Br o w.heap.size 0) from
  ⟨((Bk.new w 104 #[Afh M.β]).alloc _).alloc _,Mf w _ _ _ _,(Db w _ 3 #[Aa Ab (t:Int)]).alloc _,Bt (by omega),Bt (by omega),Bt (by omega)⟩)
 clear h hs a hy hm;go_enter func291,ntmps291;go_wp2_with fail;go_at_call 193;refine(Ej M fl 334 _ _ (Br o w.heap.size 0) b.vals _ d.o.head Tryz.call334 ((gX M fl b v t w.heap.size (w.heap.size+1+1) (w.heap.size+1) _ (Br o w.heap.size 0) d.o g.o k.o l.o i.o).mono fun e w' h=>⟨h.1,h⟩)).mono ?_;rintro e w' c;obtain rfl:=c.1;have j:=Hd (c.from_fresh f.o);clear c;go_wp2;go_end0;exact j.o
theorem mL(M:Bp)(fl:Int)(b:Bd)(n:Int)(w:World)(o:Nat→Nat)(h:BM M fl w o b)(hs:b.s.length<65536)(hm:b.b.length+15≤1048576)(hn: -9223372036854775808≤n∧n≤9223372036854775807):
  Calls Ad 214 #[Afh M.β,Aa Ab n] w (Dq M fl (b.apart 6 (bWidthI n) (bits n)) w o):=by
 have H:=Hd h;have j:=Hd hs;have f:=Hd hm;have k:=Hd (Hv n);have g:=Hd hn;clear h hs hm hn;go_enter func214,ntmps214;go_wp2_with fail;go_at_call 188;refine(Vj n _ g.o).mono ?_;rintro e l ⟨rfl,d⟩;have c:=Hd d;clear d;go_wp2_with fail;go_at_call 291;refine(V4 M fl b (C5 n) 6 _ o (H.o.pure c.o) j.o k.o f.o).mono ?_;intro e m a;obtain rfl:=a.1;have i:=Hd (a.from_pure c.o);clear a;go_wp2;go_end0;exact i.o
theorem iB(M:Bp)(fl:Int)(b:Bd)(u:Nat)(w:World)(o:Nat→Nat)(h:BM M fl w o b)(hs:b.s.length<65536)(hm:b.b.length+15≤1048576)(hu:u<18446744073709551616):
  Calls Ad 215 #[Afh M.β,Aa Ac (u:Int)] w (Dq M fl (b.apart 7 (bWidth u) u) w o):=by
 have H:=Hd h;have j:=Hd hs;have f:=Hd hm;have k:=Hd (Dy u);have g:=Hd hu;clear h hs hm hu;go_enter func215,ntmps215;go_wp2_with fail;go_at_call 190;refine(Vv u _ g.o).mono ?_;rintro e l ⟨rfl,d⟩;have c:=Hd d;clear d;go_wp2_with fail;go_at_call 291;refine(V4 M fl b (C9 u) 7 _ o (H.o.pure c.o) j.o k.o f.o).mono ?_;intro e m a;obtain rfl:=a.1;have i:=Hd (a.from_pure c.o);clear a;go_wp2;go_end0;exact i.o
attribute [local go_sem] Oper.semAt_some
theorem Oe(n:Nat)(w:World)(hn:n≤1073741824):Calls Ad 220 #[Aa Ab (n:Int)] w (Afd (.bool true) w):=by
 have h0:(0:Int)≤(n:Int):=by omega
 have h1:(n:Int)≤1073741824:=by omega
 go_enter func220,ntmps220;go_wp2;go_ret;exact⟨rfl,rfl⟩
theorem Lj{row:Option Nat}(hg:W.grownBy W' row)(hr:∀r,row=some r→∃o:Obj,W.heap[r]?=some o∧o.isCells=false){cs:Array Value}(h:Bk W g t cs):Bk W' g t cs:=(grownBy_keeps_cells hg hr h rfl).trans h
theorem Jf{B:Nat}(hb:Below W.heap.size W W'):KeepsFrom B W W':=⟨hb.size,fun k _ _ hk _=>(hb.block k (Array.getElem?_eq_some_iff.1 hk).1).trans hk⟩
theorem uL{F:Fence}{n:Nat}{P:Program}{c:Code}{Q:Exit→Act→World→Prop}{a:Act}(h:∀a0,a0=a→c.wpIn F n P Q a0 w):c.wpIn F n P Q a w:=h a rfl
def Mb:List (Fin 4):=[0,1,2,3]
def X9(i:Fin 4):Array Value:=#[Aa Ab ((2^i.val:Nat):Int)]
theorem aJ(w:World)(n:Nat)(hn:1≤n):
  SeqStopsK Fence.wide n Ad 335 #[] X9 (fun _ _=>True) (fun xs=>xs=Mb) (fun pre=>pre<+:Mb) 4 w:=by
 intro l J x W v t r s h0;have h:=Hd h0;have p:=Hd s;clear v h0 t s r;refine callsIn_wide.2 ?_;go_enter func335,ntmps335;go_wp2_with fail;go_loopw [2] (fun u wr=>∃k:Nat,k≤4∧u= Aa Ab ((2^k:Nat):Int)∧J (Mb.take k) wr) (fun u _=>16-(intOf u).toNat)
 case atStart=>exact⟨0,by omega,rfl,h.o⟩
 case round=>
  clear h;obtain⟨k,y,rfl,m⟩:=hrel;have h:=Hd m;clear m;obtain rfl|rfl|rfl|rfl|rfl:k=0∨k=1∨k=2∨k=3∨k=4:=by omega
  ·have c:=Hd (show J (Mb.take 0) wr from h.o);simp only [Nat.reducePow,Int.cast_ofNat_Int];clear h;go_upto_region 3 with fail
   obtain⟨fn,j,d,i,g,f⟩:=p.o (Mb.take 0) 0 _ c.o (by decide);rw [show X9 0=#[Aa Ab 1] from rfl] at g;refine(wpIn_wide (n:=n)).1 ?_
   gi_wp2
   refine f.mono ?_;rintro e q (⟨rfl,a, -⟩|⟨rfl,a⟩)
   ·have b:=Hd a;clear a f g c
    gi_wp2
    go_wp2_with fail;go_roundw
    case rel=>exact⟨0+1,by omega,rfl,b.o⟩
    case measure=>simp [intOf]
   ·have b:=Hd a;clear a f g c
    gi_wp2
    go_wp2_with fail;refine bodyPost_ret (results_none rfl _ _ _) rfl ?_;exact⟨⟨_,rfl⟩,.inr ⟨[0],by decide,b.o⟩⟩
  ·have c:=Hd (show J (Mb.take 1) wr from h.o);simp only [Nat.reducePow,Int.cast_ofNat_Int];clear h;go_upto_region 3 with fail
   obtain⟨fn,j,d,i,g,f⟩:=p.o (Mb.take 1) 1 _ c.o (by decide);rw [show X9 1=#[Aa Ab 2] from rfl] at g;refine(wpIn_wide (n:=n)).1 ?_
   gi_wp2
   refine f.mono ?_;rintro e q (⟨rfl,a, -⟩|⟨rfl,a⟩)
   ·have b:=Hd a;clear a f g c
    gi_wp2
    go_wp2_with fail;go_roundw
    case rel=>exact⟨1+1,by omega,rfl,b.o⟩
    case measure=>simp [intOf]
   ·have b:=Hd a;clear a f g c
    gi_wp2
    go_wp2_with fail;refine bodyPost_ret (results_none rfl _ _ _) rfl ?_;exact⟨⟨_,rfl⟩,.inr ⟨[0,1],by decide,b.o⟩⟩
  ·have c:=Hd (show J (Mb.take 2) wr from h.o);simp only [Nat.reducePow,Int.cast_ofNat_Int];clear h;go_upto_region 3 with fail
   obtain⟨fn,j,d,i,g,f⟩:=p.o (Mb.take 2) 2 _ c.o (by decide);rw [show X9 2=#[Aa Ab 4] from rfl] at g;refine(wpIn_wide (n:=n)).1 ?_
   gi_wp2
   refine f.mono ?_;rintro e q (⟨rfl,a, -⟩|⟨rfl,a⟩)
   ·have b:=Hd a;clear a f g c
    gi_wp2
    go_wp2_with fail;go_roundw
    case rel=>exact⟨2+1,by omega,rfl,b.o⟩
    case measure=>simp [intOf]
   ·have b:=Hd a;clear a f g c
    gi_wp2
    go_wp2_with fail;refine bodyPost_ret (results_none rfl _ _ _) rfl ?_;exact⟨⟨_,rfl⟩,.inr ⟨[0,1,2],by decide,b.o⟩⟩
  ·have c:=Hd (show J (Mb.take 3) wr from h.o);simp only [Nat.reducePow,Int.cast_ofNat_Int];clear h;go_upto_region 3 with fail
   obtain⟨fn,j,d,i,g,f⟩:=p.o (Mb.take 3) 3 _ c.o (by decide);rw [show X9 3=#[Aa Ab 8] from rfl] at g;refine(wpIn_wide (n:=n)).1 ?_
   gi_wp2
   refine f.mono ?_;rintro e q (⟨rfl,a, -⟩|⟨rfl,a⟩)
   ·have b:=Hd a;clear a f g c
    gi_wp2
    go_wp2_with fail;go_roundw
    case rel=>exact⟨3+1,by omega,rfl,b.o⟩
    case measure=>simp [intOf]
   ·have b:=Hd a;clear a f g c
    gi_wp2
    go_wp2_with fail;refine bodyPost_ret (results_none rfl _ _ _) rfl ?_;exact⟨⟨_,rfl⟩,.inr ⟨[0,1,2,3],by decide,b.o⟩⟩
  ·simp only [Nat.reducePow,Int.cast_ofNat_Int];go_wp2_with fail;go_end0;exact⟨⟨_,rfl⟩,.inl ⟨_,rfl,h.o⟩⟩
attribute [local go_sem] Oper.semAt_some
theorem jD(w:World):Calls Ad 296 #[] w (Afd (.func (.func 335) #[] #[]) w):=by
 go_enter func296,ntmps296;go_wp2;go_ret;exact⟨rfl,rfl⟩
theorem eI{y:Fin 4}{pre:List (Fin 4)}(hp:pre++ [y]<+:Mb)(h:∀z∈pre,f (2^z.val)=false)(hy:f (2^y.val)=true):leastW f=2^y.val:=by
 unfold leastW;obtain⟨r,e⟩:=hp;rcases pre with _|⟨a,_|⟨b,_|⟨c,_|⟨d,pre⟩⟩⟩⟩
 ·simp [Mb] at e;obtain⟨rfl,_⟩:=e;rw [if_pos (show f 1=true from hy)];rfl
 ·simp [Mb] at e;obtain⟨rfl,rfl,_⟩:=e;have h0:f 1=false:=h 0 (by simp);rw [if_neg (by rw [h0];decide),if_pos (show f 2=true from hy)];rfl
 ·simp [Mb] at e;obtain⟨rfl,rfl,rfl,_⟩:=e;have h0:f 1=false:=h 0 (by simp);have h1:f 2=false:=h 1 (by simp);rw [if_neg (by rw [h0];decide),if_neg (by rw [h1];decide),if_pos (show f 4=true from hy)];rfl
 ·simp [Mb] at e;obtain⟨rfl,rfl,rfl,rfl,_⟩:=e;have h0:f 1=false:=h 0 (by simp);have h1:f 2=false:=h 1 (by simp);have h2:f 4=false:=h 2 (by simp);rw [if_neg (by rw [h0];decide),if_neg (by rw [h1];decide),if_neg (by rw [h2];decide),if_pos (show f 8=true from hy)];rfl
 ·exfalso;have:=congrArg List.length e;simp [Mb] at this
theorem sD(h:∀z∈Mb,f (2^z.val)=false):leastW f=0:=by
 unfold leastW;have h0:f 1=false:=h 0 (by decide);have h1:f 2=false:=h 1 (by decide);have h2:f 4=false:=h 2 (by decide);have h3:f 8=false:=h 3 (by decide);rw [h0,h1,h2,h3];rfl
theorem Wt(F:Nat)(caps:Array Value)(f:Nat→Bool)(w:World)
  (hF:∀(args:Array Value) (w:World),(callFunc F args).run Ad w= .ok (.enter F args) w)
  (hf:∀y:Fin 4,∀W,Below w.heap.size w W→Calls Ad F (#[Aa Ab ((2^y.val:Nat):Int)]++caps) W fun e W'=>e= .returned (.bool (f (2^y.val)))∧Below W.heap.size W W'):
  Calls Ad 221 #[.func (.func F) #[] caps] w (Afc (Aa Ab (leastW f:Nat)) w):=by
 have Y:=Hd hf;clear hf;refine callsIn_wide.1 (callsIn_of_wp_marks (n:=6) func221 rfl trivial (wpIn_wide.2 ?_));simp only [ntmps221,List.size_toArray,List.length_cons,List.length_nil,Nat.reduceAdd,Nat.reduceSub,Array.replicate_succ,Array.replicate_zero,List.push_toArray,List.append_toArray,List.nil_append,List.cons_append];have HB:=Hd (show Below w.heap.size w ((w.alloc (.cells #[.func (.func F) #[] caps] 87)).alloc (.cells #[Aa Ab 0] 3)) from((Af _ _).alloc (Ae _) _).alloc (by simp) _);have I:=Hd ((Bk.new w 87 #[.func (.func F) #[] caps]).alloc (.cells #[Aa Ab 0] 3));have C:=Hd (Db w (.cells #[.func (.func F) #[] caps] 87) 3 #[Aa Ab 0]);go_wp2_with (go_at_call 296;refine(jD _).mono ?_;rintro e w' ⟨rfl,rfl⟩);have U:=Hd (show w.heap.size≤w.heap.size from Ae _);generalize (w.alloc (.cells #[.func (.func F) #[] caps] 87)).alloc (.cells #[Aa Ab 0] 3)=w1 at HB I C⊢;obtain⟨n0,v⟩:∃n0,w.heap.size=n0:=⟨_,rfl⟩;have H:=Hd (show n0≤n0+1 by omega);rw [v] at HB I C Y⊢;have b:=Hd v;have m:=Hd (show n0≤w1.heap.size from by rw [←v];have:=HB.o.size;omega);generalize n0+1=bY at H C⊢;clear U v;refine(wpIn_wide (n:=6)).1 ?_;refine uL fun a0 ha0=>?_
 refine wpIn_rangeFunc_ownH rfl (by omega) (gf:=335) (lb:=#[]) (by rw [ha0];rfl) trivial (enters_of func335 (by kernel_rfl) rfl)
  (aJ w1 (6-1) (by omega)) (fun _ _=>trivial) (fun _ _ _ _ _ _ _ _=>trivial) (Af _ _) (fun _=>rfl)
  (fun pre W=>(Bk W n0 87 #[.func (.func F) #[] caps]∧Bk W bY 3 #[Aa Ab 0]∧∀z∈pre,f (2^z.val)=false)∧Below n0 w W)
  (fun c pre W=>(c= .ret∧∃p y,pre=p++ [y]∧(∀z∈p,f (2^z.val)=false)∧f (2^y.val)=true∧Bk W bY 3 #[Aa Ab ((2^y.val:Nat):Int)])∧Below n0 w W)
  (OwnFrom.and (fun s A B row hs hg hr=>⟨Lj hg (fun r e=>(hr r e).2) hs.1,Lj hg (fun r e=>(hr r e).2) hs.2.1,hs.2.2⟩) (ownFrom_below (Nat.le_of_eq b.o.symm) m.o))
  (fun c=>OwnFrom.and (fun s A B row hs hg hr=>by obtain⟨h1,p,y,h2,h3,h4,h5⟩:=hs;exact⟨h1,p,y,h2,h3,h4,Lj hg (fun r e=>(hr r e).2) h5⟩) (ownFrom_below (Nat.le_of_eq b.o.symm) m.o))
  ⟨⟨I.o,C.o,fun i h=>by cases h⟩,HB.o⟩
  (fun x a' W=>a'={ tmps:=(a0.tmps.setIfInBounds 5 (Aa Ab ((2^x.val:Nat):Int))).setIfInBounds 3 (Aa Ab ((2^x.val:Nat):Int)),defers:=[]})
  (fun x a' _ A B row hs hg hr=>hs)
  ?assign ?body ?done ?stop
 case assign=>
  rintro l pre x W K ⟨⟨M,k,a⟩,u⟩ E;have Z:=Hd E;have g:=Hd a;clear E a I C HB;subst ha0;unfold X9;generalize ((2^x.val:Nat):Int)=z at Z⊢
  gi_wp2
  exact Z.o _ _ (Jf (Af _ _)) trivial ⟨⟨M,k,g.o⟩,u⟩ rfl
 case body=>
  rintro l pre x a' W hl ⟨rr,ai⟩ ⟨⟨M,k,a⟩,u⟩ rfl X;have V:=Hd M;have q:=Hd k;have g:=Hd a;have S:=Hd u;have x0:W.cell? ⟨n0,0,none⟩=some (.func (.func F) #[] caps):=M.cell 0;have T:=Hd (Y.o x W u);clear M k a u I C HB X;subst ha0;obtain⟨z,P⟩:∃z:Nat,2^x.val=z:=⟨_,rfl⟩;have J:=Hd P;rw [P] at T⊢;obtain⟨t,ht⟩:∃t,f z=t:=⟨_,rfl⟩;rw [ht] at T;have HT:=Hd ht;clear P ht
  gi_wp2
  refine⟨trivial,(CallsIn.inRound l (callsIn_wide.2 T.o)).mono ?_⟩;rintro e W3 ⟨rfl,hb⟩;have d:=Hd hb;have s0:W3.cell? ⟨bY,0,none⟩=some (Aa Ab 0):=(q.o.pure d.o).cell 0;have s1:=(q.o.pure d.o).frozen 0;have Q:=Hd (Bi S.o d.o (Nat.le_of_eq b.o.symm));clear hb x0;cases t with
  |false=>
   gi_wp2
   refine⟨Jf d.o,trivial,⟨V.o.pure d.o,q.o.pure d.o,?_⟩,Q.o⟩;intro j R;rcases List.mem_append.1 R with R|R
   ·exact g.o j R
   ·rw [List.mem_singleton.1 R,J.o];exact HT.o
  |true=>
   gi_wp2
   exact⟨(Jf d.o).trans ((KeepsOthers.setCell _ _ _).from _),⟨rfl,pre,x,rfl,g.o,by rw [J.o];exact HT.o,by rw [J.o];exact(q.o.pure d.o).set_ 0 _⟩,Q.o.setCell (p:=⟨bY,0,none⟩) H.o _⟩
 case done=>
  rintro D ys W hD rfl ⟨⟨M,k,a⟩,u⟩ E;subst ha0;have P:=sD a;have J:=Hd P;have s0:W.cell? ⟨bY,0,none⟩=some (Aa Ab 0):=k.cell 0;have s1:=k.frozen 0;have s2:=k.set_ 0 (Aa Ab 0);have L:=(KeepsOthers.setCell W ⟨bY,0,none⟩ (Aa Ab 0)).same D _ E rfl;clear P a M k I C HB;go_wp2_with fail;refine⟨by simp,.inl ⟨_,_,rfl,run_takeDeferred L,?_⟩⟩;have N:=Lj (grownBy_putObj' _ D (.deferred none)) (fun r e=>by cases e;exact⟨_,L,rfl⟩) s2;have O:_=some (Aa Ab 0):=N.cell 0;refine⟨Aa Ab 0,?_,by rw [J.o];rfl,?_⟩
  ·simp [results,Tryz.f221,go_sem,O]
  ·rw [b.o];exact(u.setCell (p:=⟨bY,0,none⟩) H.o _).trans (belowK_b (w:=w) (Nat.le_of_eq b.o.symm) _ D _ _ (by have:=m.o;have:=b.o;omega) L rfl rfl)
 case stop=>
  rintro D c pre W hD G ⟨⟨rfl,p,y,rfl,a,hy,k⟩,u⟩ E;have J:=Hd (eI G a hy);subst ha0;clear a hy I C HB G
  gi_wp2
  refine⟨by simp,.inl ⟨_,_,rfl,run_takeDeferred E,?_⟩⟩;have N:=Lj (grownBy_putObj' W D (.deferred none)) (fun r e=>by cases e;exact⟨_,E,rfl⟩) k;have O:_=some (Aa Ab ((2^y.val:Nat):Int)):=N.cell 0;refine⟨Aa Ab ((2^y.val:Nat):Int),?_,by rw [J.o],?_⟩
  ·simp [results,Tryz.f221,go_sem,O]
  ·rw [b.o];exact u.trans (belowK_b (w:=w) (Nat.le_of_eq b.o.symm) _ D _ _ (by have:=m.o;have:=b.o;omega) E rfl rfl)
theorem Ab5(a y:Nat)(hy:0<y):((a:Int)+y-1).tdiv y*y=(upN a y:Nat):=by
 unfold upN;rw [show(a:Int)+y-1=((a+y-1:Nat):Int) by omega,Int.tdiv_eq_ediv_of_nonneg (by omega),←Int.natCast_ediv,←Int.natCast_mul]
theorem Aeq(a y:Nat)(hy:0<y):a≤upN a y∧upN a y≤a+y:=by
 have h:=Nat.div_add_mod (a+y-1) y;have h2:=Nat.mod_lt (a+y-1) hy;unfold upN;rw [Nat.mul_comm] at h;constructor <;>omega
theorem I8(v:Bv)(a i y:Nat)(r:Bool)(w:World)(hy:Bz (y:Int)=true)(ha:a≤1048576)(hi:i≤1048576)(hr:Dt v a i y=r):
  Calls Ad 223 #[.agg #[Aa Ab (v.t:Int),Aa Ab (v.w:Int),Aa Ac (v.n:Int)],Aa Ab (a:Int),Aa Ab (i:Int),Aa Ab (y:Int)] w (Afc (.bool r) w):=by
 have Q:=(Af w.heap.size w).alloc (Ae _) (.cells #[Aa Ab (v.t:Int),Aa Ab (v.w:Int),Aa Ac (v.n:Int)] 169);have K:=Hd Q;have O:1≤y∧y≤8:=by have:=D4 hy;omega
 clear Q hy;have J:=Bk.new w 169 #[Aa Ab (v.t:Int),Aa Ab (v.w:Int),Aa Ac (v.n:Int)];cases hin:inl v.t with
 |true=>
  have H:=Hd (show Bq (v.t:Int)=true from hin);have l:=Hd (show decide (v.w≤y)=r by rw [←hr];unfold Dt;rw [if_pos hin]);clear hr hin;have I:=Hd J;clear J;go_enter func223,ntmps223;go_wp2_with fail;go_at_call 78;refine(Cz (v.t:Int) _).mono ?_;rw [H.o];rintro e G ⟨rfl,f⟩;have m:=Hd (I.o.pure f);have x1:G.cell? ⟨w.heap.size,1,none⟩=some (Aa Ab (v.w:Int)):=m.o.cell 1;have c:=Hd (Bi K.o f);clear f;go_wp2_with fail;go_ret;exact⟨Dw l.o,c.o⟩
 |false=>
  have H:=Hd (show Bq (v.t:Int)=false from hin);have D:¬inl v.t=true:=by rw [hin];decide
  have b:decide (v.n≤a∧bWidth (upN a y+i*y-v.n)≤y)=r:=by rw [←hr];unfold Dt;rw [if_neg D]
  have I:=Hd J;clear hr hin D J;by_cases g:v.n≤a
  ·obtain⟨E,F⟩:=Aeq a y (by omega);have C:i*y≤1048576*8:=Nat.mul_le_mul hi O.2;obtain⟨u,T⟩:∃u,upN a y=u:=⟨_,rfl⟩;obtain⟨q,N⟩:∃q:Nat,i*y=q:=⟨_,rfl⟩;have ht:=Ab5 a y (by omega);rw [T] at ht E F b;rw [N] at C b;obtain⟨d,R⟩:∃d,u+q-v.n=d:=⟨_,rfl⟩;rw [R] at b;obtain⟨p,S⟩:∃p:Nat,((a:Int)+y-1).tdiv y=p:=⟨(a+y-1)/y,by rw [show(a:Int)+y-1=((a+y-1:Nat):Int) by omega,Int.tdiv_eq_ediv_of_nonneg (by omega)];rfl⟩;rw [S] at ht;have M:p≤u:=by
    have:(p:Int)*y=((p*y:Nat):Int):=by simp
    rw [this] at ht;have h3:p*y=u:=by exact_mod_cast ht
    have:p*1≤p*y:=Nat.mul_le_mul_left p (by omega);omega
   have l:=Hd (show decide (bWidth d≤y)=r by rw [←b];exact decide_eq_decide.2 ⟨fun h=>⟨g,h⟩,fun h=>h.2⟩);have X:IntKind.i64.wrap ((a:Int)+y)=(a:Int)+y:=Ao _ (by omega);have Y:IntKind.i64.wrap ((a:Int)+y-1)=(a:Int)+y-1:=Ao _ (by omega);have Z:IntKind.i64.wrap (p:Int)=p:=Ao _ (by omega);have L:(i:Int)*(y:Int)=(q:Int):=by rw [←N];simp
   have e4:IntKind.i64.wrap (u:Int)=u:=Ao _ (by omega);have e5:IntKind.i64.wrap (q:Int)=q:=Ao _ (by omega);have e6:IntKind.i64.wrap ((u:Int)+q)=(u:Int)+q:=Ao _ (by omega);have e7:IntKind.u64.wrap ((u:Int)+q)=(u:Int)+q:=De _ (by omega);have e8:(u:Int)+q-v.n=d:=by omega
   have e9:IntKind.u64.wrap (d:Int)=d:=De _ (by omega);have z:IntKind.u64.wrap (a:Int)=a:=De _ (by omega);have P:¬y=0:=by omega
   have s:=Hd (show Xv d=(bWidth d:Nat) from Xw d);have j:d<18446744073709551616:=by omega
   obtain⟨W,k⟩:∃x,bWidth d=x:=⟨_,rfl⟩;rw [k] at l s;have A:decide ((a:Int)<(v.n:Int))=false:=decide_eq_false (by omega);have B:decide (a<v.n)=false:=decide_eq_false (by omega);have V:=Hd (And.intro j k);clear b T N R j k g M E F C;go_enter func223,ntmps223;go_wp2_with fail;go_at_call 78;refine(Cz (v.t:Int) _).mono ?_;rw [H.o];rintro e G ⟨rfl,f⟩;have m:=Hd (I.o.pure f);have U:G.cell? ⟨w.heap.size,2,none⟩=some (Aa Ac (v.n:Int)):=m.o.cell 2;have c:=Hd (Bi K.o f);clear f;go_wp2_with fail;go_at_call 33;refine(Ni d W _ V.o.1 s.o).mono ?_;rintro e w1 ⟨rfl,rfl⟩;clear ht S X Y Z L e4 e5 e6 e7 e8 e9 z P A B U;go_wp2_with fail;go_ret;exact⟨Dw l.o,c.o⟩
  ·have l:=Hd (show false=r by rw [←b,decide_eq_false];exact fun h=>g h.1);have A:decide (a<v.n)=true:=decide_eq_true (by omega);have z:IntKind.u64.wrap (a:Int)=a:=De _ (by omega);clear b g;go_enter func223,ntmps223;go_wp2_with fail;go_at_call 78;refine(Cz (v.t:Int) _).mono ?_;rw [H.o];rintro e G ⟨rfl,f⟩;have m:=Hd (I.o.pure f);have U:G.cell? ⟨w.heap.size,2,none⟩=some (Aa Ac (v.n:Int)):=m.o.cell 2;have c:=Hd (Bi K.o f);clear f;go_wp2_with fail;go_ret;exact⟨Dw l.o,c.o⟩
theorem kL(y:Fin 4):Bz ((2^y.val:Nat):Int)=true:=by
 have h:∀y:Fin 4,Bz ((2^y.val:Nat):Int)=true:=by decide
 exact h y
theorem sX(v:Bv)(a i y bv ba bi:Nat)(w:World)(hv:Bk w bv 169 #[Aa Ab (v.t:Int),Aa Ab (v.w:Int),Aa Ac (v.n:Int)])(ha:Bk w ba 3 #[Aa Ab (a:Int)])(hi:Bk w bi 3 #[Aa Ab (i:Int)])
  (hy:Bz (y:Int)=true) (ha2:a≤1048576) (hi2:i≤1048576):
  Calls Ad 222 #[Aa Ab (y:Int),Afh bv,Afh ba,Afh bi] w (Afc (.bool (Dt v a i y)) w):=by
 obtain⟨r,b⟩:∃r,Dt v a i y=r:=⟨_,rfl⟩;rw [b];have f:=Hd (I8 v a i y r w hy ha2 hi2 b);obtain ⟨j,k,l⟩:=hv.c3;have g:w.cell? ⟨ba,0,none⟩=some (Aa Ab (a:Int)):=ha.cell 0;have h:w.cell? ⟨bi,0,none⟩=some (Aa Ab (i:Int)):=hi.cell 0;clear hv ha hi hy ha2 hi2 b;go_enter func222,ntmps222;go_wp2_with fail;go_at_call 223;refine f.o.mono ?_;rintro e m ⟨rfl,c⟩;have d:=Hd c;clear c j k l g h;go_wp2_with fail;go_ret;exact⟨rfl,d.o⟩
theorem xD(v:Bv)(a i:Nat)(w:World)(ha2:a≤1048576)(hi2:i≤1048576):
  Calls Ad 132 #[.agg #[Aa Ab (v.t:Int),Aa Ab (v.w:Int),Aa Ac (v.n:Int)],Aa Ab (a:Int),Aa Ab (i:Int)] w (Afc (Aa Ab (leastW (Dt v a i):Nat)) w):=by
 have j:=Hd (show Below w.heap.size w (((w.alloc (.cells #[Aa Ab (v.t:Int),Aa Ab (v.w:Int),Aa Ac (v.n:Int)] 169)).alloc (.cells #[Aa Ab (a:Int)] 3)).alloc (.cells #[Aa Ab (i:Int)] 3)) from(((Af _ _).alloc (Ae _) _).alloc (by simp) _).alloc (by simp;omega) _);have k:=Hd (((Bk.new w 169 #[Aa Ab (v.t:Int),Aa Ab (v.w:Int),Aa Ac (v.n:Int)]).alloc (.cells #[Aa Ab (a:Int)] 3)).alloc (.cells #[Aa Ab (i:Int)] 3));have f:=Hd ((Db w (.cells #[Aa Ab (v.t:Int),Aa Ab (v.w:Int),Aa Ac (v.n:Int)] 169) 3 #[Aa Ab (a:Int)]).alloc (.cells #[Aa Ab (i:Int)] 3));have b:=Hd (Db (w.alloc (.cells #[Aa Ab (v.t:Int),Aa Ab (v.w:Int),Aa Ac (v.n:Int)] 169)) (.cells #[Aa Ab (a:Int)] 3) 3 #[Aa Ab (i:Int)]);have e:(w.alloc (.cells #[Aa Ab (v.t:Int),Aa Ab (v.w:Int),Aa Ac (v.n:Int)] 169)).heap.size+1=w.heap.size+1+1:=by simp
 rw [e] at b;obtain⟨r,g⟩:∃r,leastW (Dt v a i)=r:=⟨_,rfl⟩;have d:=Hd g;rw [g];have h:=Hd (And.intro ha2 hi2);clear e g;go_enter func132,ntmps132;go_wp2_with fail;go_at_call 220;refine(Oe a _ (by omega)).mono ?_;rintro e m ⟨rfl,rfl⟩;go_wp2_with fail;go_at_call 220;refine(Oe i _ (by omega)).mono ?_;rintro e m ⟨rfl,rfl⟩;go_wp2_with fail;go_at_call 221;generalize (((w.alloc (.cells #[Aa Ab (v.t:Int),Aa Ab (v.w:Int),Aa Ac (v.n:Int)] 169)).alloc (.cells #[Aa Ab (a:Int)] 3)).alloc (.cells #[Aa Ab (i:Int)] 3))=w1 at j k f b⊢;generalize w.heap.size+1+1=bi at b⊢;generalize w.heap.size+1=ba at f⊢;have p:=fun(y:Fin 4) (W:World) (hW:Below w1.heap.size w1 W)=>sX v a i (2^y.val) w.heap.size ba bi W (k.o.pure hW) (f.o.pure hW) (b.o.pure hW) (kL y) h.o.1 h.o.2
 refine(Wt 222 #[Afh w.heap.size,Afh ba,Afh bi] (Dt v a i) w1 Tryz.call222 p).mono ?_;rw [d.o];rintro e m ⟨rfl,l⟩;have c:=Hd (Bi j.o l);clear l;go_wp2_with fail;go_ret;exact⟨rfl,c.o⟩
def Lo(x:Int):Int:=if Bz x=true then 0 else 2
def mR(x:Int):Int:=if x=2 then 1 else if x=4 then 2 else if x=8 then 3 else 0
theorem Jq(x:Int)(w:World):Calls Ad 32 #[Aa Ab x] w (Afd (.tuple #[Aa Ab (mR x),Aa Ab (Lo x)]) w):=by
 cases hw:Bz x with
 |true=>
  have a:=Cr.1 hw;clear hw;rcases a with rfl|rfl|rfl|rfl
  all_goals
   go_enter func32,ntmps32;go_wp2;refine wp_loop_rounds 5 ?_
   repeat (rw [rounds_succ];go_wp2)
   go_ret2;exact⟨rfl,rfl⟩
 |false=>
  have a:=rT.1 hw;have b:=Hd (show mR x=0 by unfold mR;rw [if_neg a.2.1,if_neg a.2.2.1,if_neg a.2.2.2]);have c:=Hd (show Lo x=2 by unfold Lo;rw [hw];rfl);rw [b.o,c.o];have d:(x==1)=false:=beq_eq_false_iff_ne.mpr a.1;have e:(x==2)=false:=beq_eq_false_iff_ne.mpr a.2.1;have f:(x==4)=false:=beq_eq_false_iff_ne.mpr a.2.2.1;have g:(x==8)=false:=beq_eq_false_iff_ne.mpr a.2.2.2;clear a hw;go_enter func32,ntmps32;go_wp2;refine wp_loop_rounds 5 ?_
  repeat (rw [rounds_succ];go_wp2)
  go_ret2;exact⟨rfl,rfl⟩
theorem bP(h:Bz x=false):Lo x=2:=by unfold Lo;rw [h];rfl
theorem Y6(h:Bz x=true):Lo x=0:=by unfold Lo;rw [h];rfl
theorem Ol(x:Int)(w:World):Calls Ad 76 #[Aa Ab x] w (Afd (.bool (Bz x)) w):=by
 cases hw:Bz x with
 |true=>
  have H:=Hd (Y6 hw);clear hw;go_enter func76,ntmps76;go_wp2_with fail;go_at_call 32;refine(Jq _ _).mono ?_;rw [H.o];rintro e a ⟨rfl,rfl⟩;go_wp2;go_ret;exact⟨rfl,rfl⟩
 |false=>
  have H:=Hd (bP hw);clear hw;go_enter func76,ntmps76;go_wp2_with fail;go_at_call 32;refine(Jq _ _).mono ?_;rw [H.o];rintro e a ⟨rfl,rfl⟩;go_wp2;go_ret;exact⟨rfl,rfl⟩
theorem D5(A:Option Addr)(n c:Nat)(a m:Int)(w:World)(hn:n≤9223372036854775807):Calls Ad 246 #[.slice A n c,Aa Ab a,Aa Ab m] w (Afd (.bool (H8 n a m)) w):=by
 by_cases h1:0≤a
 ·by_cases h2:0≤m
  ·by_cases h3:a≤n
   ·have e:(0:Int)≤(n:Int)-a:=by omega
    by_cases d:m≤(n:Int)-a
    ·have H:=Hd (show H8 n a m=true from Eh.2 ⟨h1,h2,by omega⟩);go_enter func246,ntmps246;go_wp2;go_ret;exact⟨Dw H.o.symm,rfl⟩
    ·have H:=Hd (show H8 n a m=false from decide_eq_false (fun h=>d (by omega)));have b:decide (m≤(n:Int)-a)=false:=decide_eq_false d;go_enter func246,ntmps246;go_wp2;go_ret;exact⟨Dw H.o.symm,rfl⟩
   ·have H:=Hd (show H8 n a m=false from decide_eq_false (fun h=>h3 (by omega)));have b:decide (a≤(n:Int))=false:=decide_eq_false h3;go_enter func246,ntmps246;go_wp2;go_ret;exact⟨Dw H.o.symm,rfl⟩
  ·have H:=Hd (show H8 n a m=false from decide_eq_false (fun h=>h2 (by omega)));have b:decide (0≤m)=false:=decide_eq_false h2;go_enter func246,ntmps246;go_wp2;go_ret;exact⟨Dw H.o.symm,rfl⟩
 ·have H:=Hd (show H8 n a m=false from decide_eq_false (fun h=>h1 (by omega)));have b:decide (0≤a)=false:=decide_eq_false h1;go_enter func246,ntmps246;go_wp2;go_ret;exact⟨Dw H.o.symm,rfl⟩
theorem B9{v:Value}(h:Bk w g t #[p,q,t',v]):w.cell? ⟨g,0,none⟩=some p:=h.cell 0
theorem B7{v:Value}(h:Bk w g t #[p,q,t',v]):w.cell? ⟨g,1,none⟩=some q:=h.cell 1
theorem B6{v:Value}(h:Bk w g t #[p,q,t',v]):w.cell? ⟨g,2,none⟩=some t':=h.cell 2
theorem Ca{v:Value}(h:Bk w g t #[p,q,t',v]):w.cell? ⟨g,3,none⟩=some v:=h.cell 3
theorem sS(b:Nat)(p q t v:Int)(w:World)(hK:Bk w b 70 (Afg p q t v)):Calls Ad 244 #[Afh b] w (Afc (.bool (Ju q t v)) w):=by
 have k:=B6 hK;have i:=Hd hK;clear hK;cases hl:Cb t with
 |false=>
  have f:=Hd hl;have d:=Hd (show Ju q t v=false by unfold Ju;rw [hl];rfl);rw [d.o];clear hl;go_enter func244,ntmps244;go_wp2_with fail;go_at_call 86;refine(Gd t _).mono ?_;rw [f.o];rintro e h ⟨rfl,a⟩;have c:=Hd a;clear a;go_wp2;go_ret;exact⟨rfl,c.o⟩
 |true=>
  have f:=Hd hl;have d:=Hd (show Ju q t v=(Bz q&&Bz v) by unfold Ju;rw [hl];rfl);rw [d.o];clear hl;go_enter func244,ntmps244;go_wp2_with fail;go_at_call 86;refine(Gd t _).mono ?_;rw [f.o];rintro e h ⟨rfl,a⟩;have c:=Hd a;have j:=B7 (i.o.pure a);have l:=Ca (i.o.pure a);clear a;go_wp2_with fail;go_at_call 76;refine(Ol q _).mono ?_;rintro e h ⟨rfl,rfl⟩;cases hq:Bz q with
  |false=>
   have g:=Hd hq;clear hq;go_wp2;go_ret;exact⟨Dw (by rw [g.o];rfl),c.o⟩
  |true=>
   have g:=Hd hq;clear hq;go_wp2_with fail;go_at_call 76;refine(Ol v _).mono ?_;rintro e h ⟨rfl,rfl⟩;go_wp2;go_ret;exact⟨Dw (by rw [g.o];rfl),c.o⟩
theorem sT(a b:Nat)(A:Option Addr)(n c:Nat)(p q t v:Int)(w:World)(hn:n≤9223372036854775807)(hA:Bk w a 22 #[.slice A n c])(hK:Bk w b 70 (Afg p q t v)):
  Calls Ad 245 #[Afh a,Afh b] w (Afd (.bool (H8 n p q)) w):=by
 obtain ⟨f,g⟩:=hK.c2;have d:w.cell? ⟨a,0,none⟩=some (.slice A n c):=hA.cell 0;clear hK hA;go_enter func245,ntmps245;go_wp2_with fail;go_at_call 246;refine(D5 A n c p q _ hn).mono ?_;rintro e h ⟨rfl,rfl⟩;go_wp2;go_ret;exact⟨rfl,rfl⟩
theorem Ot(A:Option Addr)(n c:Nat)(p q t v:Int)(w:World)(hn:n≤9223372036854775807):Calls Ad 148 #[.slice A n c,.agg (Afg p q t v)] w (Afc (Aa Ab (Co n p q t v)) w):=by
 have f:=Hd ((Bk.new w 22 #[.slice A n c]).alloc (.cells (Afg p q t v) 70));have d:=Hd (Bk.new_ (w:=w.alloc (.cells #[.slice A n c] 22)) (g:=w.heap.size+1) (by simp) 70 (Afg p q t v));have i:=Tryz.call244;have j:=Tryz.call245;go_enter func148,ntmps148;go_wp2;refine wp_loop_rounds 3 ?_;rw [rounds_succ];go_wp2_with fail;refine(sS (w.heap.size+1) p q t v _ ((d.o.alloc _).alloc _)).mono ?_;rintro e u ⟨rfl,a⟩;have l:=Hd ((Bk.new_ (w:=((w.alloc (.cells #[.slice A n c] 22)).alloc (.cells (Afg p q t v) 70))) (g:=w.heap.size+1+1) (by simp) _ _).alloc _ |>.pure a);have m:=Hd ((Bk.new_ (g:=w.heap.size+1+1+1) (by simp) _ _).pure a);have f:=Hd (((f.o.alloc _).alloc _).pure a);have d:=Hd (((d.o.alloc _).alloc _).pure a);have h:=Hd (((((Af w.heap.size w).alloc (Ae _) _).alloc (by simp) _).alloc (by simp;omega) _).alloc (by simp;omega) _ |>.trans (a.mono (by simp;omega)));have x:w.heap.size+1+1+1<u.heap.size:=by have:=m.o.lt;omega
 clear a;cases hf:Ju q t v with
 |false=>
  have b:=Hd (show Co n p q t v=2 by unfold Co;rw [hf];rfl);have z:=(m.o.cell 1).trans (show _=some (Aa Ab 2) from rfl);clear hf i j;go_wp2;go_ret;exact⟨Hh b.o.symm,h.o⟩
 |true=>
  have b:=Hd (show Co n p q t v=if H8 n p q=true then 0 else 6 by unfold Co;rw [hf];rfl);have r:=l.o.cell 2;have s:=l.o.cell 3;simp only [List.getElem?_toArray,List.getElem?_cons_succ,List.getElem?_cons_zero] at r s;clear hf;go_wp2;rw [rounds_succ];go_wp2_with fail;refine(sT w.heap.size (w.heap.size+1) A n c p q t v _ hn (f.o.alloc _) (d.o.alloc _)).mono ?_;rintro e y ⟨rfl,rfl⟩;clear r s;cases hi:H8 n p q with
  |true=>
   have k:=Hd hi;clear hi;go_wp2;rw [rounds_succ];go_wp2;go_ret;exact⟨Hh (by rw [b.o,k.o];rfl),h.o.alloc (by omega) _⟩
  |false=>
   have k:=Hd hi;clear hi;go_wp2;go_ret;exact⟨Hh (by rw [b.o,k.o];rfl),h.o.alloc (by omega) _⟩
theorem Xk{k k':IntKind}{a b c d:Int}(h:a=b)(h':c=d):Ending.returned (.tuple #[.int k a,.int k' c])= .returned (.tuple #[.int k b,.int k' d]):=by rw [h,h']
theorem aF(h:Below w.heap.size w w'):Below w.heap.size w w':=h
theorem Im(A:Option Addr)(n c:Nat)(p q t v:Int)(l:List UInt8)(w:World)(hl:Cv w A n l)(hc:n≤c)(hn:n≤9223372036854775807):
  Calls Ad 79 #[.slice A n c,.agg (Afg p q t v)] w (Afc (.tuple #[Aa Ab (Cg l p q t v),Aa Ab (Ch l p q t v)]) w):=by
 have x:=hl.1;subst x;have g:=Hd (hl.alloc (.cells (Afg p q t v) 70));have f:=Hd (Bk.new w 70 (Afg p q t v));have d:=Hd ((Af w.heap.size w).alloc (Ae _) (.cells (Afg p q t v) 70));clear hl;go_enter func79,ntmps79;go_wp2_with fail;go_at_call 148;refine(Ot A l.length c p q t v _ hn).mono ?_;rintro e J ⟨rfl,a⟩;by_cases b:Co l.length p q t v=0
 ·rw [b];have d:=Hd (Bi d.o a);have f:=Hd (f.o.pure a);have g:=Hd (g.o.pure a);obtain ⟨k,m,r,s⟩:=f.o.c4;clear a;go_wp2_with fail;go_at_call 78;refine(Cz t _).mono ?_;rintro e K ⟨rfl,a⟩;have a:=aF a;clear k m r s;cases hi:Bq t with
  |true=>
   have i:=Hd (gF b hi);have h:=Hd (Abz b hi);have d:=Hd (Bi d.o a);clear b hi a;go_wp2;go_ret2;exact⟨Xk h.o.symm i.o.symm,d.o⟩
  |false=>
   obtain⟨h1,h2⟩:=Fg.1 b;have h2:=Eh.1 h2;have h1:=Du.1 h1;have D:=h2.1;have E:=h2.2.2;have F:1≤q:=by have:=Cr.1 h1.2.1;omega
   have z:=Hd (wY b);have d:=Hd (Bi d.o a);have f:=Hd (f.o.pure a);have g:=Hd (g.o.pure a);obtain ⟨k,m,r,s⟩:=f.o.c4;clear a;go_wp2_with fail;go_at_call 149;refine(K7 A l.length c p q _ _ g.o hc hn).mono ?_;rw [z.o];rintro e L ⟨rfl,a⟩;clear k m r s;have d:=Hd (Bi d.o a);have f:=Hd (f.o.pure a);have g:=Hd (g.o.pure a);obtain ⟨k,m,r,s⟩:=f.o.c4;clear a;by_cases j:p<(loadU l p q:Int)
   ·have i:=Hd (gG b hi j);have h:=Hd (Ab1 b hi j);generalize loadU l p q=u at j;clear b hi h1 h2;have G:IntKind.u64.wrap p=p:=De p (by omega);go_wp2;go_ret2;exact⟨Xk h.o.symm i.o.symm,d.o⟩
   ·have i:=Hd (Uc b hi j);have h:=Hd (gH b hi j);have B:=Hd (show loadU l p q=loadU l p q from rfl);obtain⟨u,y⟩:∃u,loadU l p q=u:=⟨_,rfl⟩;rw [y] at j h⊢;clear b hi h1 h2 y B;have G:IntKind.u64.wrap p=p:=De p (by omega);have H:wrap64 (u:Int)=u:=Ek _ (by omega);have I:wrap64 (p-(u:Int))=p-u:=Ek _ (by omega);go_wp2;go_ret2;exact⟨Xk h.o.symm i.o.symm,d.o⟩
 ·have i:=Hd (O2 b);have h:=Hd (Ab0 b);have C:(Co l.length p q t v != 0)=true:=by simpa using b
  have d:=Hd (Bi d.o a);have f:=Hd (f.o.pure a);have g:=Hd (g.o.pure a);obtain ⟨k,m,r,s⟩:=f.o.c4;clear a;clear b;go_wp2;go_ret2;exact⟨Xk h.o.symm i.o.symm,d.o⟩
end
end Go.Proofs.YtejpbijeifjdeaaGreat
