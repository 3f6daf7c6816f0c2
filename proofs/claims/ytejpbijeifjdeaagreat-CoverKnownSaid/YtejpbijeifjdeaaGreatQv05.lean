/- Parts of the proof. -/
import Derived.Test.YtejpbijeifjdeaaGreatQv04
import Derived.Shelf.Strconv.Itoa0
import Derived.Ground.NamesProg
import Derived.Laws.DeepNot64
import Derived.Deep.DeepCutAuto
import Derived.RangeFuncNested
import Derived.RangeFuncBound
import Derived.RangeFuncCalls
import Derived.RangeFuncLeaves
import Derived.Shelf.Abstract
import Derived.Shelf.RegionOpen
import Derived.OwnWalkIn
import Derived.TacticsInMore
import Derived.LoopNIn
import Derived.LoopIn
set_option maxHeartbeats 2000000
set_option maxRecDepth 100000
open Go.Value renaming int→Aa
open Go.IntKind renaming i64→Ab,u64→Ac
open Nat renaming le_refl→Ae,lt_of_lt_of_le→Ar
open Go.RowKit.Below renaming refl→Af
open Go.IntWalk renaming i64_in→Ag
open Go.Proofs.Tryz
open Go.Proofs.Tryz renaming prog→Ad
namespace Go.Proofs.YtejpbijeifjdeaaGreat
variable {M:Bp}{fl:Int}{w W W':World}{o:Nat→Nat}{vals:List Bv}{b:Bd}{v:Bv}{t bx bv bt y:Nat}{f:Nat→Bool}
section
open Go.RowKit Go.Acc
theorem Pp(b:Nat)(w:World)(h:w.cell? ⟨b,9,none⟩=some (.bool true)):
  Calls Ad 129 #[Aca b] w (Ab6 (.bool false) w):=by
 go_enter func129,ntmps129;go_wp2;go_ret;exact⟨rfl,rfl⟩
theorem vC(h:Gv M fl w o vals):Calls Ad 278 #[Aca M.β] w (Ab6 (Aa Ab 0) w):=by
 obtain⟨c0,c1,c2,c9,_⟩:=h.cells;clear h;go_enter func278,ntmps278;go_wp2_with (go_at_call 129;refine(Pp M.β _ (by assumption)).mono ?_;rintro e w' ⟨rfl,rfl⟩);go_ret;exact⟨rfl,rfl⟩
theorem Gv.same(h:Gv M fl w o vals):Gv M fl (w.setCell ⟨M.β,2,none⟩ (Aa Ab 0)) o vals∧To (fun i=>i=2∨i=8) w o (w.setCell ⟨M.β,2,none⟩ (Aa Ab 0)) o:=by
 obtain⟨A,n,c,a,b,h1,d⟩:=h;have e:To (fun i=>i=2∨i=8) w o (w.setCell ⟨M.β,2,none⟩ (Aa Ab 0)) o:=To.of_fr0 (Fr.setCell (S:=fun k=>k=M.β) (Fr.refl _ w) (fun _=>rfl) _) (by rintro k _ rfl;exact .inl d);refine⟨⟨A,n,c,by have:=a.set_ 2 (Aa Ab 0);simpa using this,b.fr (Fr.setCell (S:=fun k=>k=M.β) (Fr.refl _ w) (fun _=>rfl) _) ?_,h1,d⟩,e⟩;rintro g rfl f;exact H8 b.2 a (by decide) (by simp [Value.ownBlock,f])
theorem Ho(h:BM M fl w o b):Calls Ad 131 #[Aca M.β,Aa Ab 0] w (D3 M fl b w o):=by
 have H:=Hd h;obtain⟨c0,c1,c2,c9,f2⟩:=h.head.cells;clear h;go_enter func131,ntmps131;go_wp2;go_end0;obtain⟨h1,h2⟩:=H.o.head.same;refine⟨rfl,o,H.o.head_ h2 h1,h2.mono ?_⟩;rintro i (rfl|rfl) <;>exact⟨by omega,by omega⟩
theorem vV(W:World)(v:V3):Ef (W.alloc (.cells #[Aa Ab v.1,Aa Ab v.2.1,Aa Ac v.2.2] 169)) (some ⟨W.heap.size,0,none⟩) 1 [v]:=by
 refine⟨rfl,fun j u hu=>⟨_,_,rfl,?_⟩⟩;rw [Nat.zero_add,(Bb.new W _ _).cell j];simpa [vc] using hu
theorem Gv.own(h:Gv M fl w o vals):o M.β=2:=by obtain⟨A,n,c,_,_,_,h⟩:=h;exact h
theorem Co:¬Dg 0:=by rintro⟨h,_⟩;omega
theorem Mi(M:Bp)(fl:Int)(b:Bd)(v:Bv)(w:World)(o:Nat→Nat)(h:BM M fl w o b)(hs:b.s.length<65536):
  Calls Ad 203 #[Aca M.β,.agg #[Aa Ab (v.t:Int),Aa Ab (v.w:Int),Aa Ac (v.n:Int)]] w (D3 M fl (b.push v) w o):=by
 have HS:=Hd hs;have k:Below w.heap.size w (w.alloc (.cells #[Aa Ab (v.t:Int),Aa Ab (v.w:Int),Aa Ac (v.n:Int)] 169)):=(Af _ _).alloc (Ae _) _;have P:=Hd k;have i:=Hd (h.fresh k 0);have E:=Hd (Bb.new w 169 #[Aa Ab (v.t:Int),Aa Ab (v.w:Int),Aa Ac (v.n:Int)]);have D:=Hd (show Bl o w.heap.size 0 w.heap.size=0 from Bo (Ae _));obtain⟨β,L⟩:∃x,M.β=x:=⟨_,rfl⟩;obtain⟨bb,r⟩:∃x,M.bb=x:=⟨_,rfl⟩;obtain⟨sb,J⟩:∃x,M.sb=x:=⟨_,rfl⟩;obtain⟨W,Z,a2,a9,K⟩:=i.o.head.cells;rw [L] at W Z a2 K;rw [r] at W;rw [L];have u:=Hd L;have V:=Hd r;have F:=Hd J;clear h hs Z a2 a9 K L r J k;go_enter func203,ntmps203;go_wp2_with fail;go_at_call 230;rw [←V.o];refine(Gm i.o.buf).mono ?_;rintro e w' ⟨rfl,rfl⟩;go_wp2_with fail;go_at_call 131;rw [←u.o];refine(Ho i.o).mono ?_;rintro e y ⟨rfl,Y,m,f⟩;have q:=E.o.to_ f (by rw [D.o];exact Co);have d:=Hd (show Y w.heap.size=0 by rw [f.ow _ E.o.lt];exact D.o);obtain⟨b0,g,b2,b9,K⟩:=m.head.cells;rw [u.o] at g b2;rw [F.o] at g;rw [u.o];obtain ⟨z,N,O⟩:=q.c3;have B:=Hd m;have S:=Hd f;have aj:=Hd q;clear q b0 b9 K m f W;go_wp2_with fail;have HL:=Hd (show b.s.length+ [v].length≤65536 from HS.o);have l:Below y.heap.size y (y.alloc (.cells #[Aa Ab (v.t:Int),Aa Ab (v.w:Int),Aa Ac (v.n:Int)] 169)).drew:=((Af _ _).alloc (Ae _) _).drew;have A:=Hd l;have C:=Hd (B.o.pure l);have HI:=Hd (show Ef (y.alloc (.cells #[Aa Ab (v.t:Int),Aa Ab (v.w:Int),Aa Ac (v.n:Int)] 169)).drew (some ⟨y.heap.size,0,none⟩) 1 ([v].map vv) from vV y (vv v));have X:=Nat.ne_of_lt (Bu g);simp only at X;have I:=Nat.ne_of_lt (Bu z);simp only at I;clear l;rw [←F.o] at g;go_region_held3 (fun w'=>w'.cell? ⟨β,1,none⟩=some (Aca M.sb)∧w'.cell? ⟨w.heap.size,0,none⟩=some (Aa Ab (v.t:Int))∧w'.cell? ⟨w.heap.size,1,none⟩=some (Aa Ab (v.w:Int))∧w'.cell? ⟨w.heap.size,2,none⟩=some (Aa Ac (v.n:Int))) (first|with_reducible exact⟨g,z,N,O⟩|with_reducible exact⟨Bc g,Bc z,Bc N,Bc O⟩|with_reducible exact⟨Bc (Bm _ g),Bc (Bm _ z),Bc (Bm _ N),Bc (Bm _ O)⟩|with_reducible exact⟨y1,y2,y3,y4⟩|with_reducible exact⟨z1,z2,z3,z4⟩) (first|(go_at_call 285;(with_reducible refine(tM M.sb b.s [v] _ _ _ _ Y C.o.stk HI.o HL.o).mono ?_);rintro e W4 ⟨rfl,o4,H,a⟩;have G:=C.o.stk_ a H;have y1:=a.cell (Bc (Bm _ g)) (by rw [show Y β=2 by rw [←u.o];exact B.o.head.own];omega);have y2:=a.cell (Bc (Bm _ z)) (by rw [d.o];omega);have y3:=a.cell (Bc (Bm _ N)) (by rw [d.o];omega);have y4:=a.cell (Bc (Bm _ O)) (by rw [d.o];omega);have Q:=Hd G;have T:=Hd a;have j:=Hd (show o4 w.heap.size=0 by rw [a.ow _ (Ar (Bu z) A.o.size)];exact d.o);clear H a G)|(go_at_call 131;rw [←u.o];(with_reducible refine(Ho Q.o).mono ?_);rintro e W5 ⟨rfl,o5,p,c⟩;have z1:=p.head.cells.2.1;rw [u.o] at z1;have z2:=c.cell y2 (by rw [j.o];exact Co);have z3:=c.cell y3 (by rw [j.o];exact Co);have z4:=c.cell y4 (by rw [j.o];exact Co);have R:=Hd p;have U:=Hd c;clear p c));go_end0;refine⟨rfl,o5,R.o,?_⟩;exact(To.fresh _ P.o o 0).trans (S.o.trans (To.from_pure A.o ((T.o.mono fun _ h=>iP h).trans U.o)))
end
section
open Go.Shelf Go.RowKit Go.Acc
def oB:Go.Shelf.Ren:=⟨fun|129=>66|n=>n,fun|3=>3|4=>4|5=>5|9=>9|46=>103|53=>26|n=>n,fun|n=>n⟩
theorem nZ:Go.Proofs.Lays.n129 Ad oB:={
 mixed:=by kernel_rfl
 f129:=func66.trans (congrArg some (by kernel_rfl))
 t3:=underlying3
 a3:=isAgg3
 z3:=sizeOf3
 v3:=zeroValue3
 t4:=underlying4
 a4:=isAgg4
 z4:=sizeOf4
 v4:=zeroValue4
 t5:=underlying5
 a5:=isAgg5
 z5:=sizeOf5
 v5:=zeroValue5
 t9:=underlying9
 a9:=isAgg9
 z9:=sizeOf9
 v9:=zeroValue9
 t46:=underlying103
 a46:=isAgg103
 z46:=sizeOf103
 v46:=zeroValue103
 t53:=underlying26
 a53:=isAgg26
 z53:=sizeOf26
 v53:=zeroValue26}
theorem Vg(u:Nat)(w:World)(h:u<18446744073709551616):Calls Ad 66 #[Aa Ac u] w (Ab6 (Aa Ab (Lib.bitLen u)) w):=by
 have h:=Any.bits_Len64 nZ (u:Int) w (by omega) (by omega);change Calls Ad 66 _ _ _ at h;exact h.mono fun _ _ ⟨he,hw⟩=>⟨by rw [he,Int.toNat_natCast],hw.symm⟩
def gZ(m:Int):Int:=if m≤8 then 1 else if m≤16 then 2 else if m≤32 then 4 else 8
theorem aY(m r:Int)(w:World)(h:gZ m=r):Calls Ad 65 #[Aa Ab m] w (Ab6 (Aa Ab r) w):=by
 unfold gZ at h;by_cases h1:m≤8
 ·rw [if_pos h1] at h;subst h;go_enter func65,ntmps65;go_wp2;refine wp_loop_rounds 5 ?_
  repeat (rw [rounds_succ];go_wp2)
  all_goals
   go_ret;exact⟨rfl,rfl⟩
 ·rw [if_neg h1] at h;by_cases h2:m≤16
  ·rw [if_pos h2] at h;subst h;go_enter func65,ntmps65;go_wp2;refine wp_loop_rounds 5 ?_
   repeat (rw [rounds_succ];go_wp2)
   all_goals
    go_ret;exact⟨rfl,rfl⟩
  ·rw [if_neg h2] at h;by_cases h3:m≤32
   ·rw [if_pos h3] at h;subst h;go_enter func65,ntmps65;go_wp2;refine wp_loop_rounds 5 ?_
    repeat (rw [rounds_succ];go_wp2)
    all_goals
     go_ret;exact⟨rfl,rfl⟩
   ·rw [if_neg h3] at h;subst h;by_cases a:m≤64
    ·go_enter func65,ntmps65;go_wp2;refine wp_loop_rounds 5 ?_
     repeat (rw [rounds_succ];go_wp2)
     all_goals
      go_ret;exact⟨rfl,rfl⟩
    ·go_enter func65,ntmps65;go_wp2;refine wp_loop_rounds 5 ?_
     repeat (rw [rounds_succ];go_wp2)
     all_goals
      go_ret;exact⟨rfl,rfl⟩
def V9(u:Nat):Int:=if u<256 then 1 else if u<65536 then 2 else if u<4294967296 then 4 else 8
def V8(n:Int):Int:=if -128≤n∧n<128 then 1 else if -32768≤n∧n<32768 then 2 else if -2147483648≤n∧n<2147483648 then 4 else 8
theorem On(u k:Nat)(hk:k≤63)(hu:u<18446744073709551616):Lib.bitLen u≤k↔u<2^k:=by
 constructor
 ·intro h;refine Decidable.byContradiction fun hn=>?_
  have h1:=Lib.bitLen_shift k u (by omega) hu;have a:0<2^k:=Nat.two_pow_pos k;have h2:u/2^k≠0:=by
   intro e;have:=(Nat.div_eq_zero_iff).1 e;omega
  have h3:=Lib.bitLen_half (u/2^k) h2 (Nat.lt_of_le_of_lt (Nat.div_le_self _ _) hu);omega
 ·intro h;exact Lib.bitLen_le u k (by omega) h
theorem uA(u:Nat)(hu:u<18446744073709551616):gZ (Lib.bitLen u)=V9 u:=by
 have h1:=On u 8 (by omega) hu;have h2:=On u 16 (by omega) hu;have h3:=On u 32 (by omega) hu;simp only [Nat.reducePow] at h1 h2 h3;unfold gZ V9;by_cases a:u<256
 ·rw [if_pos a,if_pos (by have:=h1.2 a;omega)]
 ·rw [if_neg a,if_neg (by have:=mt h1.1 a;omega)];by_cases b:u<65536
  ·rw [if_pos b,if_pos (by have:=h2.2 b;omega)]
  ·rw [if_neg b,if_neg (by have:=mt h2.1 b;omega)];by_cases c:u<4294967296
   ·rw [if_pos c,if_pos (by have:=h3.2 c;omega)]
   ·rw [if_neg c,if_neg (by have:=mt h3.1 c;omega)]
theorem L6(u:Nat)(r:Int)(w:World)(hu:u<18446744073709551616)(h:V9 u=r):Calls Ad 33 #[Aa Ac u] w (Ab6 (Aa Ab r) w):=by
 obtain⟨k,a⟩:∃k,Lib.bitLen u=k:=⟨_,rfl⟩;have c:=uA u hu;rw [a,h] at c;have b:=Vg u w hu;rw [a] at b;have f:=Hd c;have d:=Hd b;clear a c b h hu;go_enter func33,ntmps33;go_wp2_with fail;go_at_call 66;refine d.o.mono ?_;rintro e g ⟨rfl,rfl⟩;go_wp2_with fail;go_at_call 65;refine(aY k r _ f.o).mono ?_;rintro e g ⟨rfl,rfl⟩;go_wp2;go_ret;exact⟨rfl,rfl⟩
theorem gX(u:Nat)(hu:u<9223372036854775808):gZ (1+Lib.bitLen u)=V8 (u:Int)∧V8 (-(u:Int)-1)=V8 (u:Int):=by
 have h1:=On u 7 (by omega) (by omega);have h2:=On u 15 (by omega) (by omega);have h3:=On u 31 (by omega) (by omega);simp only [Nat.reducePow] at h1 h2 h3;constructor
 ·unfold gZ V8;by_cases a:u<128
  ·rw [if_pos (show(-128:Int)≤u∧(u:Int)<128 by omega),if_pos (by have:=h1.2 a;omega)]
  ·rw [if_neg (show ¬((-128:Int)≤u∧(u:Int)<128) by omega),if_neg (by have:=mt h1.1 a;omega)];by_cases b:u<32768
   ·rw [if_pos (show(-32768:Int)≤u∧(u:Int)<32768 by omega),if_pos (by have:=h2.2 b;omega)]
   ·rw [if_neg (show ¬((-32768:Int)≤u∧(u:Int)<32768) by omega),if_neg (by have:=mt h2.1 b;omega)];by_cases c:u<2147483648
    ·rw [if_pos (show(-2147483648:Int)≤u∧(u:Int)<2147483648 by omega),if_pos (by have:=h3.2 c;omega)]
    ·rw [if_neg (show ¬((-2147483648:Int)≤u∧(u:Int)<2147483648) by omega),if_neg (by have:=mt h3.1 c;omega)]
 ·unfold V8
  (repeat' split) <;>omega
theorem xor_zero(a:Nat)(ha:a<9223372036854775808):Go.bits .xor .i64 (a:Int) 0=a:=by
 show IntKind.i64.wrap ((BitVec.ofInt 64 (a:Int)^^^BitVec.ofInt 64 0).toNat:Int)=_;have h1:BitVec.ofInt 64 0=0#64:=by decide
 rw [h1,BitVec.xor_zero,ofInt_u64 a (by omega)];simp [IntKind.wrap,IntKind.bits,IntKind.signed];omega
theorem uB(a:Nat)(ha:a<9223372036854775808):Go.bits .xor .i64 (-(a:Int)-1) (-1)=a:=by
 show IntKind.i64.wrap ((BitVec.ofInt 64 (-(a:Int)-1)^^^BitVec.ofInt 64 (-1)).toNat:Int)=_;have h1:BitVec.ofInt 64 (-1)=BitVec.allOnes 64:=by decide
 have h2:(BitVec.ofInt 64 (-(a:Int)-1)).toNat=18446744073709551615-a:=by
  rw [BitVec.toNat_ofInt];omega
 rw [h1,BitVec.xor_allOnes,BitVec.toNat_not,h2];simp [IntKind.wrap,IntKind.bits,IntKind.signed];omega
theorem xV(n r:Int)(w:World)(h0: -9223372036854775808≤n∧n≤9223372036854775807)(h:V8 n=r):Calls Ad 35 #[Aa Ab n] w (Ab6 (Aa Ab r) w):=by
 obtain⟨u,p,b,g⟩:∃u:Nat,u<9223372036854775808∧V8 (u:Int)=r∧Go.bits .xor .i64 n (n/9223372036854775808)=u:=by
  by_cases b:0≤n
  ·obtain⟨u,rfl⟩:=Int.eq_ofNat_of_zero_le b;refine⟨u,by omega,h,?_⟩;rw [show(u:Int)/9223372036854775808=0 by omega];exact xor_zero u (by omega)
  ·obtain⟨u,rfl⟩:∃u:Nat,n= -(u:Int)-1:=⟨(-n-1).toNat,by omega⟩;refine⟨u,by omega,by rw [←(gX u (by omega)).2];exact h,?_⟩;rw [show(-(u:Int)-1)/9223372036854775808= -1 by omega];exact uB u (by omega)
 obtain⟨k,a⟩:∃k,Lib.bitLen u=k:=⟨_,rfl⟩;have d:=(gX u p).1;rw [a,b] at d;have c:=Vg u w (by omega);rw [a] at c;have m:k≤64:=by rw [←a];exact Lib.bitLen_le u 64 (by omega) (by omega)
 have f:IntKind.u64.wrap (u:Int)=u:=by rw [IntKind.wrap_u64];omega
 have j:=Hd d;have i:=Hd c;have l:=Hd g;clear a d c h b g;go_enter func35,ntmps35;go_wp2_with fail;go_at_call 66;rw [l.o,f];refine i.o.mono ?_;rintro e q ⟨rfl,rfl⟩;go_wp2_with fail;go_at_call 65;refine(aY (1+(k:Int)) r _ j.o).mono ?_;rintro e q ⟨rfl,rfl⟩;go_wp2;go_ret;exact⟨rfl,rfl⟩
end
section
open Go.RowKit Go.Acc
theorem Eb(M:Bp)(fl:Int)(F:Nat)(caps:Array Value)(w:World)(o:Nat→Nat)(vals:List Bv)(R:Ending→World→Prop)(h:Gv M fl w o vals)
  (hF:∀(args:Array Value) (w:World),(callFunc F args).run Ad w= .ok (.enter F args) w)
  (hc:Calls Ad F caps w fun e w'=>e= .returned (.tuple #[])∧R e w'):
  Calls Ad 193 #[Aca M.β,.func (.func F) #[] caps] w R:=by
 have H:=Hd h;have b:=Hd hc;clear h hc;go_enter func193,ntmps193;go_wp2_with (go_at_call 278;refine(vC H.o).mono ?_;rintro e w' ⟨rfl,rfl⟩);refine b.o.mono ?_;rintro e w' ⟨rfl,a⟩;have c:=Hd a;clear a hF;go_wp2;go_end0;exact c.o
theorem Wb(u:Nat):V9 u=(bWidth u:Nat):=by unfold V9 bWidth;(repeat' split) <;>rfl
theorem Abb(n:Int):V8 n=(bWidthI n:Nat):=by unfold V8 bWidthI;(repeat' split) <;>rfl
theorem qZ(n:Int):IntKind.u64.wrap n=(bits n:Nat):=uV n
theorem bM(n:Int)(w:World)(h: -9223372036854775808≤n∧n≤9223372036854775807):
  Calls Ad 188 #[Aa Ab n] w (Ab5 (.agg #[Aa Ab ((Gs n).t:Int),Aa Ab ((Gs n).w:Int),Aa Ac ((Gs n).n:Int)]) w):=by
 have a:=Hd (qZ n);have b:=Hd (Abb n);have H:=Hd h;clear h;go_enter func188,ntmps188;go_wp2_with fail;go_at_call 35;refine(xV n _ _ H.o b.o).mono ?_;rintro e c ⟨rfl,rfl⟩;go_wp2_with fail;refine bodyPost_ret (v:= .agg #[Aa Ab ((Gs n).t:Int),Aa Ab ((Gs n).w:Int),Aa Ac ((Gs n).n:Int)]) (by simp [results,results188,go_sem,a.o,Gs]) rfl ⟨rfl,?_⟩;exact(Af _ _).alloc (Ae _) _
theorem Ug(u:Nat)(w:World)(h:u<18446744073709551616):
  Calls Ad 190 #[Aa Ac (u:Int)] w (Ab5 (.agg #[Aa Ab ((Ds u).t:Int),Aa Ab ((Ds u).w:Int),Aa Ac ((Ds u).n:Int)]) w):=by
 have a:=Hd (Wb u);have H:=Hd h;clear h;go_enter func190,ntmps190;go_wp2_with fail;go_at_call 33;refine(L6 u _ _ H.o a.o).mono ?_;rintro e b ⟨rfl,rfl⟩;go_wp2_with fail;refine bodyPost_ret (v:= .agg #[Aa Ab ((Ds u).t:Int),Aa Ab ((Ds u).w:Int),Aa Ac ((Ds u).n:Int)]) (by simp [results,results190,go_sem,Ds]) rfl ⟨rfl,?_⟩;exact(Af _ _).alloc (Ae _) _
theorem lB(n:Int)(t:Bool)(w:World)(h:decide (n=1)=t):
  Calls Ad 192 #[.bool t] w (Ab5 (.agg #[Aa Ab ((E3 n).t:Int),Aa Ab ((E3 n).w:Int),Aa Ac ((E3 n).n:Int)]) w):=by
 cases t with
 |true=>
  have e:E3 n=⟨26,1,1⟩:=by unfold E3;rw [if_pos (of_decide_eq_true h)]
  rw [e];clear h e;go_enter func192,ntmps192;go_wp2_with fail;refine bodyPost_ret (v:= .agg #[Aa Ab 26,Aa Ab 1,Aa Ac 1]) (by simp [results,results192,go_sem]) rfl ⟨rfl,?_⟩;exact((Af _ _).alloc (Ae _) _).alloc (by simp) _
 |false=>
  have e:E3 n=⟨26,1,0⟩:=by unfold E3;rw [if_neg (of_decide_eq_false h)]
  rw [e];clear h e;go_enter func192,ntmps192;go_wp2_with fail;refine bodyPost_ret (v:= .agg #[Aa Ab 26,Aa Ab 1,Aa Ac 0]) (by simp [results,results192,go_sem]) rfl ⟨rfl,?_⟩;exact((Af _ _).alloc (Ae _) _).alloc (by simp) _
theorem G2(n k:Nat)(hk:k≤64):IntKind.u64.wrap ((n:Int)*2^(64-k))/2^(64-k)=(n % 2^k:Nat):=by
 have e:((n:Int)*2^(64-k))=((n*2^(64-k):Nat):Int):=by simp
 rw [e,uV];have h2:(2:Nat)^64=2^k*2^(64-k):=by rw [←Nat.pow_add];congr 1;omega
 have h3:(((n*2^(64-k):Nat):Int) % 18446744073709551616).toNat=(n % 2^k)*2^(64-k):=by
  have:(((n*2^(64-k):Nat):Int) % 18446744073709551616).toNat=(n*2^(64-k)) % 2^64:=by
   show _=(n*2^(64-k)) % 18446744073709551616;omega
  rw [this,h2,Nat.mul_mod_mul_right]
 rw [h3];have a:0<2^(64-k):=Nat.two_pow_pos _;rw [show((2:Int)^(64-k))=((2^(64-k):Nat):Int) by simp,←Int.natCast_ediv,Nat.mul_div_cancel _ a]
theorem sH(n y:Nat)(w:World)(hy:Br (y:Int)=true):
  Calls Ad 135 #[Aa Ac (n:Int),Aa Ab (y:Int)] w (Ab6 (Aa Ac ((n % 2^(8*y):Nat):Int)) w):=by
 rcases Dl hy with rfl|rfl|rfl|rfl
 ·have a:=Hd (show IntKind.u64.wrap ((n:Int)*72057594037927936)/72057594037927936=((n % 2^(8*1):Nat):Int) from G2 n 8 (by omega));clear hy;go_enter func135,ntmps135;go_wp2_with fail;go_ret;exact⟨En a.o,rfl⟩
 ·have a:=Hd (show IntKind.u64.wrap ((n:Int)*281474976710656)/281474976710656=((n % 2^(8*2):Nat):Int) from G2 n 16 (by omega));clear hy;go_enter func135,ntmps135;go_wp2_with fail;go_ret;exact⟨En a.o,rfl⟩
 ·have a:=Hd (show IntKind.u64.wrap ((n:Int)*4294967296)/4294967296=((n % 2^(8*4):Nat):Int) from G2 n 32 (by omega));clear hy;go_enter func135,ntmps135;go_wp2_with fail;go_ret;exact⟨En a.o,rfl⟩
 ·have a:=Hd (show IntKind.u64.wrap (n:Int)=((n % 2^(8*8):Nat):Int) by have h:=G2 n 64 (by omega);simpa using h);clear hy;go_enter func135,ntmps135;go_wp2_with fail;go_ret;exact⟨En a.o,rfl⟩
theorem aJ(M:Bp)(fl:Int)(b:Bd)(v:Bv)(bx bv:Nat)(w:World)(o:Nat→Nat)(h:BM M fl w o b)(hs:b.s.length<65536)
  (hx:Bb w bx 104 #[Aca M.β]) (hv:Bb w bv 169 #[Aa Ab (v.t:Int),Aa Ab (v.w:Int),Aa Ac (v.n:Int)]) (ox:o bx=0) (ov:o bv=0):
  Calls Ad 333 #[Aca bx,Aca bv] w (D3 M fl (b.push v) w o):=by
 have H:=Hd h;have r:=Hd hs;have k:w.cell? ⟨bx,0,none⟩=some (Aca M.β):=hx.cell 0;obtain ⟨g,i,j⟩:=hv.c3;have q:=Hd (h.pure (Af _ _).drew);have m:¬Dg (o bx):=by rw [ox];exact Co
 have p:¬Dg (o bv):=by rw [ov];exact Co
 have f:=Hd m;have c:=Hd p;clear h hs hx hv m p ox ov;go_enter func333,ntmps333;go_region_held3 (fun w'=>w'.cell? ⟨bx,0,none⟩=some (Aca M.β)∧w'.cell? ⟨bv,0,none⟩=some (Aa Ab (v.t:Int))∧w'.cell? ⟨bv,1,none⟩=some (Aa Ab (v.w:Int))∧w'.cell? ⟨bv,2,none⟩=some (Aa Ac (v.n:Int))) (first|with_reducible exact⟨k,g,i,j⟩|with_reducible exact⟨Bc k,Bc g,Bc i,Bc j⟩|with_reducible exact⟨x,y,z,A⟩) (first|(go_at_call 203;(with_reducible refine(Mi M fl b v _ o q.o r.o).mono ?_);rintro e B ⟨rfl,u,d,a⟩;have x:=a.cell (Bc k) f.o;have y:=a.cell (Bc g) c.o;have z:=a.cell (Bc i) c.o;have A:=a.cell (Bc j) c.o;have l:=Hd (And.intro d a);clear d a));go_end0;exact⟨rfl,u,l.o.1,l.o.2.from_drew⟩
theorem Bq(w:World)(x y:Obj):Below w.heap.size w ((w.alloc x).alloc y):=((Af _ _).alloc (Ae _) _).alloc (by simp) _
theorem Kn(M:Bp)(fl:Int)(b:Bd)(v:Bv)(w:World)(o:Nat→Nat)(h:BM M fl w o b)(hs:b.s.length<65536):
  Calls Ad 290 #[Aca M.β,.agg #[Aa Ab (v.t:Int),Aa Ab (v.w:Int),Aa Ac (v.n:Int)]] w (D3 M fl (b.push v) w o):=by
 have k:=Hd hs;have d:=Bq w (.cells #[Aca M.β] 104) (.cells #[Aa Ab (v.t:Int),Aa Ab (v.w:Int),Aa Ac (v.n:Int)] 169);have i:=Hd d;have g:=Hd (h.fresh d 0);have a:=Hd ((Bb.new w 104 #[Aca M.β]).alloc (.cells #[Aa Ab (v.t:Int),Aa Ab (v.w:Int),Aa Ac (v.n:Int)] 169));have c:=Hd (Cv w (.cells #[Aca M.β] 104) 169 #[Aa Ab (v.t:Int),Aa Ab (v.w:Int),Aa Ac (v.n:Int)]);clear h hs d;go_enter func290,ntmps290;go_wp2_with fail;go_at_call 193;refine(Eb M fl 333 _ _ (Bl o w.heap.size 0) b.vals _ g.o.head Tryz.call333 ((aJ M fl b v w.heap.size (w.heap.size+1) _ (Bl o w.heap.size 0) g.o k.o a.o c.o (Bo (Ae _)) (Bo (Nat.le_succ _))).mono fun e w' h=>⟨h.1,h⟩)).mono ?_;rintro e w' f;obtain rfl:=f.1;have j:=Hd (f.from_fresh i.o);clear f;go_wp2;go_end0;exact j.o
theorem iZ(M:Bp)(fl:Int)(b:Bd)(w:World)(o:Nat→Nat)(h:BM M fl w o b)(hs:b.s.length<65536):
  Calls Ad 210 #[Aca M.β] w (D3 M fl (b.push ⟨0,1,0⟩) w o):=by
 have H:=Hd h;have HS:=Hd hs;clear h hs;go_enter func210,ntmps210;go_wp2_with fail;go_at_call 290;refine(Kn M fl b ⟨0,1,0⟩ _ o H.o HS.o).mono ?_;intro e w2 hR;obtain rfl:=hR.1;have HR:=Hd hR;clear hR;go_wp2;go_end0;exact HR.o
theorem lY(M:Bp)(fl:Int)(b:Bd)(n:Int)(w:World)(o:Nat→Nat)(h:BM M fl w o b)(hs:b.s.length<65536)(hn: -9223372036854775808≤n∧n≤9223372036854775807):
  Calls Ad 212 #[Aca M.β,Aa Ab n] w (D3 M fl (b.push (Gs n)) w o):=by
 have H:=Hd h;have i:=Hd hs;have f:=Hd hn;clear h hs hn;go_enter func212,ntmps212;go_wp2_with fail;go_at_call 188;refine(bM n _ f.o).mono ?_;rintro e j ⟨rfl,d⟩;have c:=Hd d;clear d;go_wp2_with fail;go_at_call 290;refine(Kn M fl b (Gs n) _ o (H.o.pure c.o) i.o).mono ?_;intro e k a;obtain rfl:=a.1;have g:=Hd (a.from_pure c.o);clear a;go_wp2;go_end0;exact g.o
theorem jF(M:Bp)(fl:Int)(b:Bd)(u:Nat)(w:World)(o:Nat→Nat)(h:BM M fl w o b)(hs:b.s.length<65536)(hu:u<18446744073709551616):
  Calls Ad 213 #[Aca M.β,Aa Ac (u:Int)] w (D3 M fl (b.push (Ds u)) w o):=by
 have H:=Hd h;have i:=Hd hs;have f:=Hd hu;clear h hs hu;go_enter func213,ntmps213;go_wp2_with fail;go_at_call 190;refine(Ug u _ f.o).mono ?_;rintro e j ⟨rfl,d⟩;have c:=Hd d;clear d;go_wp2_with fail;go_at_call 290;refine(Kn M fl b (Ds u) _ o (H.o.pure c.o) i.o).mono ?_;intro e k a;obtain rfl:=a.1;have g:=Hd (a.from_pure c.o);clear a;go_wp2;go_end0;exact g.o
theorem iT(M:Bp)(fl:Int)(b:Bd)(n:Int)(t:Bool)(w:World)(o:Nat→Nat)(h:BM M fl w o b)(hs:b.s.length<65536)(ht:decide (n=1)=t):
  Calls Ad 211 #[Aca M.β,.bool t] w (D3 M fl (b.push (E3 n)) w o):=by
 have H:=Hd h;have i:=Hd hs;have f:=Hd ht;clear h hs ht;go_enter func211,ntmps211;go_wp2_with fail;go_at_call 192;refine(lB n t _ f.o).mono ?_;rintro e j ⟨rfl,d⟩;have c:=Hd d;clear d;go_wp2_with fail;go_at_call 290;refine(Kn M fl b (E3 n) _ o (H.o.pure c.o) i.o).mono ?_;intro e k a;obtain rfl:=a.1;have g:=Hd (a.from_pure c.o);clear a;go_wp2;go_end0;exact g.o
structure Ol(M:Bp)(v:Bv)(t bx bv bt:Nat)(w:World)(o:Nat→Nat):Prop where
 x:Bb w bx 104 #[Aca M.β]
 v:Bb w bv 169 #[Aa Ab (v.t:Int),Aa Ab (v.w:Int),Aa Ac (v.n:Int)]
 t:Bb w bt 3 #[Aa Ab (t:Int)]
 ox:o bx=0
 ov:o bv=0
 ot:o bt=0
theorem Ol.to_{w':World}{o':Nat→Nat}{I:Nat→Prop}(h:Ol M v t bx bv bt w o)(ht:To I w o w' o')(hI:¬I 0):Ol M v t bx bv bt w' o':=
 ⟨h.x.to_ ht (by rw [h.ox];exact hI),h.v.to_ ht (by rw [h.ov];exact hI),h.t.to_ ht (by rw [h.ot];exact hI),by rw [ht.ow _ h.x.lt];exact h.ox,by rw [ht.ow _ h.v.lt];exact h.ov,by rw [ht.ow _ h.t.lt];exact h.ot⟩
theorem Ol.cells(h:Ol M v t bx bv bt w o):
  w.cell? ⟨bx,0,none⟩=some (Aca M.β)∧w.cell? ⟨bv,0,none⟩=some (Aa Ab (v.t:Int))∧w.cell? ⟨bv,1,none⟩=some (Aa Ab (v.w:Int))∧w.cell? ⟨bv,2,none⟩=some (Aa Ac (v.n:Int))∧w.cell? ⟨bt,0,none⟩=some (Aa Ab (t:Int)):=
 ⟨h.x.cell 0,h.v.cell 0,h.v.cell 1,h.v.cell 2,h.t.cell 0⟩
theorem Ol.drew(h:Ol M v t bx bv bt w o):Ol M v t bx bv bt w.drew o:=⟨h.x,h.v,h.t,h.ox,h.ov,h.ot⟩
theorem Ol.drewN(n:Nat)(h:Ol M v t bx bv bt w o):Ol M v t bx bv bt (w.drewN n) o:=⟨h.x,h.v,h.t,h.ox,h.ov,h.ot⟩
theorem BM.drew(h:BM M fl w o b):BM M fl w.drew o b:=h.pure (Af _ _).drew
theorem Jv(n y:Nat):Ed y (n % 2^(8*y))=true:=decide_eq_true (.inr (Nat.mod_lt _ (Nat.two_pow_pos _)))
theorem M7(n:Nat)(hy:Br (y:Int)=true):((n % 2^(8*y):Nat):Int)<18446744073709551616:=by
 have h:=Nat.mod_lt n (Nat.two_pow_pos (8*y));have h2:2^(8*y)≤2^64:=Nat.pow_le_pow_right (by omega) (by have:=Dl hy;omega);have h3:n % 2^(8*y)<18446744073709551616:=Ar h h2;omega
theorem lO(l:List UInt8)(hy:Br (y:Int)=true)(hm:l.length+15≤1048576):(Bn y l).length+y≤1048576:=by
 have h8:y≤8:=by
  have:=Dl hy;omega
 have:=Di l h8;omega
theorem Nh(M:Bp)(fl:Int)(b:Bd)(t y n:Nat)(w:World)(o:Nat→Nat)(h:BM M fl w o b)(hs:b.s.length<65536):
  Calls Ad 203 #[Aca M.β,.agg #[Aa Ab (t:Int),Aa Ab (y:Int),Aa Ac (n:Int)]] w (D3 M fl (b.push ⟨t,y,n⟩) w o):=Mi M fl b ⟨t,y,n⟩ w o h hs
theorem oI(n y q:Nat)(w:World)(hy:Br (y:Int)=true)(hq:n % 2^(8*y)=q):Calls Ad 135 #[Aa Ac (n:Int),Aa Ab (y:Int)] w (Ab6 (Aa Ac (q:Int)) w):=by
 subst hq;exact sH n y w hy
theorem dK(M:Bp)(fl:Int)(b:Bd)(v:Bv)(t bx bv bt:Nat)(w:World)(o:Nat→Nat)(h:BM M fl w o b)(hc:Ol M v t bx bv bt w o)(hs:b.s.length<65536)(hy:Br (v.w:Int)=true)(hm:b.b.length+15≤1048576):
  Calls Ad 334 #[Aca bx,Aca bv,Aca bt] w (D3 M fl (b.apart t v.w v.n) w o):=by
 have HM:=Hd h;have HC:=Hd hc;have HS:=Hd hs;have C:=Hd hy;have HL:=Hd (show b.b.length+7≤1048576 by omega);have r:=Hd (show(Bn v.w b.b).length+v.w≤1048576 from(lO b.b hy hm));obtain⟨B,X,Y,Z,W⟩:=hc.cells;have V:=h.head.cells.1;clear h hc hs hy hm;go_enter func334,ntmps334;go_wp2_with fail;go_region_held3 (fun w'=>w'.cell? ⟨bx,0,none⟩=some (Aca M.β)∧w'.cell? ⟨bv,0,none⟩=some (Aa Ab (v.t:Int))∧w'.cell? ⟨bv,1,none⟩=some (Aa Ab (v.w:Int))∧w'.cell? ⟨bv,2,none⟩=some (Aa Ac (v.n:Int))∧w'.cell? ⟨bt,0,none⟩=some (Aa Ab (t:Int))∧w'.cell? ⟨M.β,0,none⟩=some (Aca M.bb)) (first|with_reducible exact⟨B,X,Y,Z,W,V⟩|with_reducible exact⟨Bc B,Bc X,Bc Y,Bc Z,Bc W,Bc V⟩|with_reducible exact⟨E,F,G,H,I,J⟩) (first|(go_at_call 134;(with_reducible refine(Hh M.bb v.w b.b _ o HM.o.drew.buf C.o HL.o).mono ?_);rintro e W1 ⟨rfl,o1,y,a⟩;have i:=HM.o.drew.buf_ a y;have f:=HC.o.drew.to_ a (by omega);obtain⟨E,F,G,H,I⟩:=f.cells;have J:=i.head.cells.1;have d:=Hd i;have L:=Hd f;have S:=Hd a.from_drew;clear y a i f));clear B X Y Z W V;obtain⟨m,p⟩:∃x,(Bn v.w b.b).length=x:=⟨_,rfl⟩;have u:=Hd p;have K:=Hd (show b.apart t v.w v.n=({ b with b:=Bn v.w b.b++Bi v.w (v.n % 2^(8*v.w))}:Bd).push ⟨t,v.w,m⟩ by unfold Bd.apart Bd.push;rw [←p]);obtain⟨q,D⟩:∃q,v.n % 2^(8*v.w)=q:=⟨_,rfl⟩;have O:=Hd (show Ed v.w q=true by rw [←D];exact Jv v.n v.w);have P:=Hd (show(q:Int)<18446744073709551616 by rw [←D];exact M7 v.n C.o);have HQ:=Hd D;clear p D;go_wp2_with (go_at_call 133;refine(Dt m d.o.buf u.o).mono ?_;rintro e w' ⟨rfl,rfl⟩);go_region_held3 (fun w'=>w'.cell? ⟨bx,0,none⟩=some (Aca M.β)∧w'.cell? ⟨bv,0,none⟩=some (Aa Ab (v.t:Int))∧w'.cell? ⟨bv,1,none⟩=some (Aa Ab (v.w:Int))∧w'.cell? ⟨bv,2,none⟩=some (Aa Ac (v.n:Int))∧w'.cell? ⟨bt,0,none⟩=some (Aa Ab (t:Int))∧w'.cell? ⟨M.β,0,none⟩=some (Aca M.bb)) (first|with_reducible exact⟨E,F,G,H,I,J⟩|with_reducible exact⟨Bc E,Bc F,Bc G,Bc H,Bc I,Bc J⟩|with_reducible exact⟨z0,z1,z2,z3,z4,z5⟩) (first|(go_at_call 135;(with_reducible refine(oI v.n v.w q _ C.o HQ.o).mono ?_);rintro e w' ⟨rfl,rfl⟩)|(go_at_call 137;(with_reducible refine(Eh M.bb v.w q (Bn v.w b.b) _ o1 d.o.drew.buf C.o O.o P.o r.o).mono ?_);rintro e W2 ⟨rfl,o2,z,c⟩;have j:=d.o.drew.buf_ c z;have g:=L.o.drew.to_ c (by omega);obtain⟨z0,z1,z2,z3,z4⟩:=g.cells;have z5:=j.head.cells.1;have Q:=Hd j;have N:=Hd g;have T:=Hd c.from_drew;clear z c j g));clear E F G H I J;have am:IntKind.u64.wrap (m:Int)=(m:Int):=Ce _ (by have:=r.o;have:=u.o;omega);go_wp2_with fail;go_region_held3 (fun w'=>w'.cell? ⟨bx,0,none⟩=some (Aca M.β)∧w'.cell? ⟨bv,0,none⟩=some (Aa Ab (v.t:Int))∧w'.cell? ⟨bv,1,none⟩=some (Aa Ab (v.w:Int))∧w'.cell? ⟨bv,2,none⟩=some (Aa Ac (v.n:Int))∧w'.cell? ⟨bt,0,none⟩=some (Aa Ab (t:Int))∧w'.cell? ⟨M.β,0,none⟩=some (Aca M.bb)) (first|with_reducible exact⟨z0,z1,z2,z3,z4,z5⟩|with_reducible exact⟨Bc z0,Bc z1,Bc z2,Bc z3,Bc z4,Bc z5⟩|with_reducible exact⟨B,x1,x2,x3,x4,x5⟩) (first|(go_at_call 203;(with_reducible refine(Nh M fl { b with b:=Bn v.w b.b++Bi v.w q} t v.w m _ o2 Q.o.drew HS.o).mono ?_);rintro e W3 ⟨rfl,o3,k,l⟩;have A:=N.o.drew.to_ l Co;obtain⟨B,x1,x2,x3,x4⟩:=A.cells;have x5:=k.head.cells.1;have R:=Hd k;have U:=Hd l.from_drew;clear l k A));go_end0;rw [K.o,HQ.o];exact⟨rfl,o3,R.o,((S.o.trans T.o).mono fun _ h=>Ip h).trans U.o⟩
theorem N8(w:World)(x y z:Obj):Below w.heap.size w (((w.alloc x).alloc y).alloc z):=(Bq w x y).alloc (by simp;omega) _
theorem Un(M:Bp)(fl:Int)(b:Bd)(v:Bv)(t:Nat)(w:World)(o:Nat→Nat)(h:BM M fl w o b)(hs:b.s.length<65536)(hy:Br (v.w:Int)=true)(hm:b.b.length+15≤1048576):
  Calls Ad 291 #[Aca M.β,Aa Ab (t:Int),.agg #[Aa Ab (v.t:Int),Aa Ab (v.w:Int),Aa Ac (v.n:Int)]] w (D3 M fl (b.apart t v.w v.n) w o):=by
 have k:=Hd hs;have l:=Hd hy;have i:=Hd hm;have a:=N8 w (.cells #[Aca M.β] 104) (.cells #[Aa Ab (t:Int)] 3) (.cells #[Aa Ab (v.t:Int),Aa Ab (v.w:Int),Aa Ac (v.n:Int)] 169);have f:=Hd a;have d:=Hd (h.fresh a 0);have g:=Hd (show Ol M v t w.heap.size (w.heap.size+1+1) (w.heap.size+1) (((w.alloc (.cells #[Aca M.β] 104)).alloc (.cells #[Aa Ab (t:Int)] 3)).alloc (.cells #[Aa Ab (v.t:Int),Aa Ab (v.w:Int),Aa Ac (v.n:Int)] 169)) (Bl o w.heap.size 0) from
  ⟨((Bb.new w 104 #[Aca M.β]).alloc _).alloc _,K7 w _ _ _ _,(Cv w _ 3 #[Aa Ab (t:Int)]).alloc _,Bo (by omega),Bo (by omega),Bo (by omega)⟩)
 clear h hs a hy hm;go_enter func291,ntmps291;go_wp2_with fail;go_at_call 193;refine(Eb M fl 334 _ _ (Bl o w.heap.size 0) b.vals _ d.o.head Tryz.call334 ((dK M fl b v t w.heap.size (w.heap.size+1+1) (w.heap.size+1) _ (Bl o w.heap.size 0) d.o g.o k.o l.o i.o).mono fun e w' h=>⟨h.1,h⟩)).mono ?_;rintro e w' c;obtain rfl:=c.1;have j:=Hd (c.from_fresh f.o);clear c;go_wp2;go_end0;exact j.o
theorem iV(M:Bp)(fl:Int)(b:Bd)(n:Int)(w:World)(o:Nat→Nat)(h:BM M fl w o b)(hs:b.s.length<65536)(hm:b.b.length+15≤1048576)(hn: -9223372036854775808≤n∧n≤9223372036854775807):
  Calls Ad 214 #[Aca M.β,Aa Ab n] w (D3 M fl (b.apart 6 (bWidthI n) (bits n)) w o):=by
 have H:=Hd h;have j:=Hd hs;have f:=Hd hm;have k:=Hd (Me n);have g:=Hd hn;clear h hs hm hn;go_enter func214,ntmps214;go_wp2_with fail;go_at_call 188;refine(bM n _ g.o).mono ?_;rintro e l ⟨rfl,d⟩;have c:=Hd d;clear d;go_wp2_with fail;go_at_call 291;refine(Un M fl b (Gs n) 6 _ o (H.o.pure c.o) j.o k.o f.o).mono ?_;intro e m a;obtain rfl:=a.1;have i:=Hd (a.from_pure c.o);clear a;go_wp2;go_end0;exact i.o
theorem dO(M:Bp)(fl:Int)(b:Bd)(u:Nat)(w:World)(o:Nat→Nat)(h:BM M fl w o b)(hs:b.s.length<65536)(hm:b.b.length+15≤1048576)(hu:u<18446744073709551616):
  Calls Ad 215 #[Aca M.β,Aa Ac (u:Int)] w (D3 M fl (b.apart 7 (bWidth u) u) w o):=by
 have H:=Hd h;have j:=Hd hs;have f:=Hd hm;have k:=Hd (Fo u);have g:=Hd hu;clear h hs hm hu;go_enter func215,ntmps215;go_wp2_with fail;go_at_call 190;refine(Ug u _ g.o).mono ?_;rintro e l ⟨rfl,d⟩;have c:=Hd d;clear d;go_wp2_with fail;go_at_call 291;refine(Un M fl b (Ds u) 7 _ o (H.o.pure c.o) j.o k.o f.o).mono ?_;intro e m a;obtain rfl:=a.1;have i:=Hd (a.from_pure c.o);clear a;go_wp2;go_end0;exact i.o
attribute [local go_sem] Oper.semAt_some
theorem Mx(n:Nat)(w:World)(hn:n≤1073741824):Calls Ad 220 #[Aa Ab (n:Int)] w (Ab6 (.bool true) w):=by
 have h0:(0:Int)≤(n:Int):=by omega
 have h1:(n:Int)≤1073741824:=by omega
 go_enter func220,ntmps220;go_wp2;go_ret;exact⟨rfl,rfl⟩
theorem Ki{row:Option Nat}(hg:W.grownBy W' row)(hr:∀r,row=some r→∃o:Obj,W.heap[r]?=some o∧o.isCells=false){g:Nat}{t:TypeId}{cs:Array Value}(h:Bb W g t cs):Bb W' g t cs:=(grownBy_keeps_cells hg hr h rfl).trans h
theorem Ik{B:Nat}(hb:Below W.heap.size W W'):KeepsFrom B W W':=⟨hb.size,fun k _ _ hk _=>(hb.block k (Array.getElem?_eq_some_iff.1 hk).1).trans hk⟩
theorem qN{F:Fence}{n:Nat}{P:Program}{c:Code}{Q:Exit→Act→World→Prop}{a:Act}(h:∀a0,a0=a→c.wpIn F n P Q a0 w):c.wpIn F n P Q a w:=h a rfl
def K3:List (Fin 4):=[0,1,2,3]
def Wp(i:Fin 4):Array Value:=#[Aa Ab ((2^i.val:Nat):Int)]
theorem Zf(w:World)(n:Nat)(hn:1≤n):
  SeqStopsK Fence.wide n Ad 335 #[] Wp (fun _ _=>True) (fun xs=>xs=K3) (fun pre=>pre<+:K3) 4 w:=by
 intro l J x W v t r s h0;have h:=Hd h0;have p:=Hd s;clear v h0 t s r;refine callsIn_wide.2 ?_;go_enter func335,ntmps335;go_wp2_with fail;go_loopw [2] (fun u wr=>∃k:Nat,k≤4∧u= Aa Ab ((2^k:Nat):Int)∧J (K3.take k) wr) (fun u _=>16-(intOf u).toNat)
 case atStart=>exact⟨0,by omega,rfl,h.o⟩
 case round=>
  clear h;obtain⟨k,y,rfl,m⟩:=hrel;have h:=Hd m;clear m;obtain rfl|rfl|rfl|rfl|rfl:k=0∨k=1∨k=2∨k=3∨k=4:=by omega
  ·have c:=Hd (show J (K3.take 0) wr from h.o);simp only [Nat.reducePow,Int.cast_ofNat_Int];clear h;go_upto_region 3 with fail
   obtain⟨fn,j,d,i,g,f⟩:=p.o (K3.take 0) 0 _ c.o (by decide);rw [show Wp 0=#[Aa Ab 1] from rfl] at g;refine(wpIn_wide (n:=n)).1 ?_
   gi_wp2
   refine f.mono ?_;rintro e q (⟨rfl,a, -⟩|⟨rfl,a⟩)
   ·have b:=Hd a;clear a f g c
    gi_wp2
    go_wp2_with fail;go_roundw
    case rel=>exact⟨0+1,by omega,rfl,b.o⟩
    case measure=>simp [intOf]
   ·have b:=Hd a;clear a f g c
    gi_wp2
    go_wp2_with fail;refine bodyPost_ret (results_none rfl _ _ _) rfl ?_;exact⟨⟨_,rfl⟩,.inr ⟨[0],by decide,b.o⟩⟩
  ·have c:=Hd (show J (K3.take 1) wr from h.o);simp only [Nat.reducePow,Int.cast_ofNat_Int];clear h;go_upto_region 3 with fail
   obtain⟨fn,j,d,i,g,f⟩:=p.o (K3.take 1) 1 _ c.o (by decide);rw [show Wp 1=#[Aa Ab 2] from rfl] at g;refine(wpIn_wide (n:=n)).1 ?_
   gi_wp2
   refine f.mono ?_;rintro e q (⟨rfl,a, -⟩|⟨rfl,a⟩)
   ·have b:=Hd a;clear a f g c
    gi_wp2
    go_wp2_with fail;go_roundw
    case rel=>exact⟨1+1,by omega,rfl,b.o⟩
    case measure=>simp [intOf]
   ·have b:=Hd a;clear a f g c
    gi_wp2
    go_wp2_with fail;refine bodyPost_ret (results_none rfl _ _ _) rfl ?_;exact⟨⟨_,rfl⟩,.inr ⟨[0,1],by decide,b.o⟩⟩
  ·have c:=Hd (show J (K3.take 2) wr from h.o);simp only [Nat.reducePow,Int.cast_ofNat_Int];clear h;go_upto_region 3 with fail
   obtain⟨fn,j,d,i,g,f⟩:=p.o (K3.take 2) 2 _ c.o (by decide);rw [show Wp 2=#[Aa Ab 4] from rfl] at g;refine(wpIn_wide (n:=n)).1 ?_
   gi_wp2
   refine f.mono ?_;rintro e q (⟨rfl,a, -⟩|⟨rfl,a⟩)
   ·have b:=Hd a;clear a f g c
    gi_wp2
    go_wp2_with fail;go_roundw
    case rel=>exact⟨2+1,by omega,rfl,b.o⟩
    case measure=>simp [intOf]
   ·have b:=Hd a;clear a f g c
    gi_wp2
    go_wp2_with fail;refine bodyPost_ret (results_none rfl _ _ _) rfl ?_;exact⟨⟨_,rfl⟩,.inr ⟨[0,1,2],by decide,b.o⟩⟩
  ·have c:=Hd (show J (K3.take 3) wr from h.o);simp only [Nat.reducePow,Int.cast_ofNat_Int];clear h;go_upto_region 3 with fail
   obtain⟨fn,j,d,i,g,f⟩:=p.o (K3.take 3) 3 _ c.o (by decide);rw [show Wp 3=#[Aa Ab 8] from rfl] at g;refine(wpIn_wide (n:=n)).1 ?_
   gi_wp2
   refine f.mono ?_;rintro e q (⟨rfl,a, -⟩|⟨rfl,a⟩)
   ·have b:=Hd a;clear a f g c
    gi_wp2
    go_wp2_with fail;go_roundw
    case rel=>exact⟨3+1,by omega,rfl,b.o⟩
    case measure=>simp [intOf]
   ·have b:=Hd a;clear a f g c
    gi_wp2
    go_wp2_with fail;refine bodyPost_ret (results_none rfl _ _ _) rfl ?_;exact⟨⟨_,rfl⟩,.inr ⟨[0,1,2,3],by decide,b.o⟩⟩
  ·simp only [Nat.reducePow,Int.cast_ofNat_Int];go_wp2_with fail;go_end0;exact⟨⟨_,rfl⟩,.inl ⟨_,rfl,h.o⟩⟩
attribute [local go_sem] Oper.semAt_some
theorem fB(w:World):Calls Ad 296 #[] w (Ab6 (.func (.func 335) #[] #[]) w):=by
 go_enter func296,ntmps296;go_wp2;go_ret;exact⟨rfl,rfl⟩
theorem aX{y:Fin 4}{pre:List (Fin 4)}(hp:pre++ [y]<+:K3)(h:∀z∈pre,f (2^z.val)=false)(hy:f (2^y.val)=true):leastW f=2^y.val:=by
 unfold leastW;obtain⟨r,e⟩:=hp;rcases pre with _|⟨a,_|⟨b,_|⟨c,_|⟨d,pre⟩⟩⟩⟩
 ·simp [K3] at e;obtain⟨rfl,_⟩:=e;rw [if_pos (show f 1=true from hy)];rfl
 ·simp [K3] at e;obtain⟨rfl,rfl,_⟩:=e;have h0:f 1=false:=h 0 (by simp);rw [if_neg (by rw [h0];decide),if_pos (show f 2=true from hy)];rfl
 ·simp [K3] at e;obtain⟨rfl,rfl,rfl,_⟩:=e;have h0:f 1=false:=h 0 (by simp);have h1:f 2=false:=h 1 (by simp);rw [if_neg (by rw [h0];decide),if_neg (by rw [h1];decide),if_pos (show f 4=true from hy)];rfl
 ·simp [K3] at e;obtain⟨rfl,rfl,rfl,rfl,_⟩:=e;have h0:f 1=false:=h 0 (by simp);have h1:f 2=false:=h 1 (by simp);have h2:f 4=false:=h 2 (by simp);rw [if_neg (by rw [h0];decide),if_neg (by rw [h1];decide),if_neg (by rw [h2];decide),if_pos (show f 8=true from hy)];rfl
 ·exfalso;have:=congrArg List.length e;simp [K3] at this
theorem nW(h:∀z∈K3,f (2^z.val)=false):leastW f=0:=by
 unfold leastW;have h0:f 1=false:=h 0 (by decide);have h1:f 2=false:=h 1 (by decide);have h2:f 4=false:=h 2 (by decide);have h3:f 8=false:=h 3 (by decide);rw [h0,h1,h2,h3];rfl
theorem Vf(F:Nat)(caps:Array Value)(f:Nat→Bool)(w:World)
  (hF:∀(args:Array Value) (w:World),(callFunc F args).run Ad w= .ok (.enter F args) w)
  (hf:∀y:Fin 4,∀W,Below w.heap.size w W→Calls Ad F (#[Aa Ab ((2^y.val:Nat):Int)]++caps) W fun e W'=>e= .returned (.bool (f (2^y.val)))∧Below W.heap.size W W'):
  Calls Ad 221 #[.func (.func F) #[] caps] w (Ab5 (Aa Ab (leastW f:Nat)) w):=by
 have Y:=Hd hf;clear hf;refine callsIn_wide.1 (callsIn_of_wp_marks (n:=6) func221 rfl trivial (wpIn_wide.2 ?_));simp only [ntmps221,List.size_toArray,List.length_cons,List.length_nil,Nat.reduceAdd,Nat.reduceSub,Array.replicate_succ,Array.replicate_zero,List.push_toArray,List.append_toArray,List.nil_append,List.cons_append];have HB:=Hd (show Below w.heap.size w ((w.alloc (.cells #[.func (.func F) #[] caps] 87)).alloc (.cells #[Aa Ab 0] 3)) from((Af _ _).alloc (Ae _) _).alloc (by simp) _);have I:=Hd ((Bb.new w 87 #[.func (.func F) #[] caps]).alloc (.cells #[Aa Ab 0] 3));have C:=Hd (Cv w (.cells #[.func (.func F) #[] caps] 87) 3 #[Aa Ab 0]);go_wp2_with (go_at_call 296;refine(fB _).mono ?_;rintro e w' ⟨rfl,rfl⟩);have U:=Hd (show w.heap.size≤w.heap.size from Ae _);generalize (w.alloc (.cells #[.func (.func F) #[] caps] 87)).alloc (.cells #[Aa Ab 0] 3)=w1 at HB I C⊢;obtain⟨n0,v⟩:∃n0,w.heap.size=n0:=⟨_,rfl⟩;have H:=Hd (show n0≤n0+1 by omega);rw [v] at HB I C Y⊢;have b:=Hd v;have m:=Hd (show n0≤w1.heap.size from by rw [←v];have:=HB.o.size;omega);generalize n0+1=bY at H C⊢;clear U v;refine(wpIn_wide (n:=6)).1 ?_;refine qN fun a0 ha0=>?_
 refine wpIn_rangeFunc_ownH rfl (by omega) (gf:=335) (lb:=#[]) (by rw [ha0];rfl) trivial (enters_of func335 (by kernel_rfl) rfl)
  (Zf w1 (6-1) (by omega)) (fun _ _=>trivial) (fun _ _ _ _ _ _ _ _=>trivial) (Af _ _) (fun _=>rfl)
  (fun pre W=>(Bb W n0 87 #[.func (.func F) #[] caps]∧Bb W bY 3 #[Aa Ab 0]∧∀z∈pre,f (2^z.val)=false)∧Below n0 w W)
  (fun c pre W=>(c= .ret∧∃p y,pre=p++ [y]∧(∀z∈p,f (2^z.val)=false)∧f (2^y.val)=true∧Bb W bY 3 #[Aa Ab ((2^y.val:Nat):Int)])∧Below n0 w W)
  (OwnFrom.and (fun s A B row hs hg hr=>⟨Ki hg (fun r e=>(hr r e).2) hs.1,Ki hg (fun r e=>(hr r e).2) hs.2.1,hs.2.2⟩) (ownFrom_below (Nat.le_of_eq b.o.symm) m.o))
  (fun c=>OwnFrom.and (fun s A B row hs hg hr=>by obtain⟨h1,p,y,h2,h3,h4,h5⟩:=hs;exact⟨h1,p,y,h2,h3,h4,Ki hg (fun r e=>(hr r e).2) h5⟩) (ownFrom_below (Nat.le_of_eq b.o.symm) m.o))
  ⟨⟨I.o,C.o,fun i h=>by cases h⟩,HB.o⟩
  (fun x a' W=>a'={ tmps:=(a0.tmps.setIfInBounds 5 (Aa Ab ((2^x.val:Nat):Int))).setIfInBounds 3 (Aa Ab ((2^x.val:Nat):Int)),defers:=[]})
  (fun x a' _ A B row hs hg hr=>hs)
  ?assign ?body ?done ?stop
 case assign=>
  rintro l pre x W K ⟨⟨M,k,a⟩,u⟩ E;have Z:=Hd E;have g:=Hd a;clear E a I C HB;subst ha0;unfold Wp;generalize ((2^x.val:Nat):Int)=z at Z⊢
  gi_wp2
  exact Z.o _ _ (Ik (Af _ _)) trivial ⟨⟨M,k,g.o⟩,u⟩ rfl
 case body=>
  rintro l pre x a' W hl ⟨rr,ai⟩ ⟨⟨M,k,a⟩,u⟩ rfl X;have V:=Hd M;have q:=Hd k;have g:=Hd a;have S:=Hd u;have x0:W.cell? ⟨n0,0,none⟩=some (.func (.func F) #[] caps):=M.cell 0;have T:=Hd (Y.o x W u);clear M k a u I C HB X;subst ha0;obtain⟨z,P⟩:∃z:Nat,2^x.val=z:=⟨_,rfl⟩;have J:=Hd P;rw [P] at T⊢;obtain⟨t,ht⟩:∃t,f z=t:=⟨_,rfl⟩;rw [ht] at T;have HT:=Hd ht;clear P ht
  gi_wp2
  refine⟨trivial,(CallsIn.inRound l (callsIn_wide.2 T.o)).mono ?_⟩;rintro e W3 ⟨rfl,hb⟩;have d:=Hd hb;have s0:W3.cell? ⟨bY,0,none⟩=some (Aa Ab 0):=(q.o.pure d.o).cell 0;have s1:=(q.o.pure d.o).frozen 0;have Q:=Hd (A6 S.o d.o (Nat.le_of_eq b.o.symm));clear hb x0;cases t with
  |false=>
   gi_wp2
   refine⟨Ik d.o,trivial,⟨V.o.pure d.o,q.o.pure d.o,?_⟩,Q.o⟩;intro j R;rcases List.mem_append.1 R with R|R
   ·exact g.o j R
   ·rw [List.mem_singleton.1 R,J.o];exact HT.o
  |true=>
   gi_wp2
   exact⟨(Ik d.o).trans ((KeepsOthers.setCell _ _ _).from _),⟨rfl,pre,x,rfl,g.o,by rw [J.o];exact HT.o,by rw [J.o];exact(q.o.pure d.o).set_ 0 _⟩,Q.o.setCell (p:=⟨bY,0,none⟩) H.o _⟩
 case done=>
  rintro D ys W hD rfl ⟨⟨M,k,a⟩,u⟩ E;subst ha0;have P:=nW a;have J:=Hd P;have s0:W.cell? ⟨bY,0,none⟩=some (Aa Ab 0):=k.cell 0;have s1:=k.frozen 0;have s2:=k.set_ 0 (Aa Ab 0);have L:=(KeepsOthers.setCell W ⟨bY,0,none⟩ (Aa Ab 0)).same D _ E rfl;clear P a M k I C HB;go_wp2_with fail;refine⟨by simp,.inl ⟨_,_,rfl,run_takeDeferred L,?_⟩⟩;have N:=Ki (grownBy_putObj' _ D (.deferred none)) (fun r e=>by cases e;exact⟨_,L,rfl⟩) s2;have O:_=some (Aa Ab 0):=N.cell 0;refine⟨Aa Ab 0,?_,by rw [J.o];rfl,?_⟩
  ·simp [results,Tryz.f221,go_sem,O]
  ·rw [b.o];exact(u.setCell (p:=⟨bY,0,none⟩) H.o _).trans (belowK_b (w:=w) (Nat.le_of_eq b.o.symm) _ D _ _ (by have:=m.o;have:=b.o;omega) L rfl rfl)
 case stop=>
  rintro D c pre W hD G ⟨⟨rfl,p,y,rfl,a,hy,k⟩,u⟩ E;have J:=Hd (aX G a hy);subst ha0;clear a hy I C HB G
  gi_wp2
  refine⟨by simp,.inl ⟨_,_,rfl,run_takeDeferred E,?_⟩⟩;have N:=Ki (grownBy_putObj' W D (.deferred none)) (fun r e=>by cases e;exact⟨_,E,rfl⟩) k;have O:_=some (Aa Ab ((2^y.val:Nat):Int)):=N.cell 0;refine⟨Aa Ab ((2^y.val:Nat):Int),?_,by rw [J.o],?_⟩
  ·simp [results,Tryz.f221,go_sem,O]
  ·rw [b.o];exact u.trans (belowK_b (w:=w) (Nat.le_of_eq b.o.symm) _ D _ _ (by have:=m.o;have:=b.o;omega) E rfl rfl)
theorem xQ(a y:Nat)(hy:0<y):((a:Int)+y-1).tdiv y*y=(upN a y:Nat):=by
 unfold upN;rw [show(a:Int)+y-1=((a+y-1:Nat):Int) by omega,Int.tdiv_eq_ediv_of_nonneg (by omega),←Int.natCast_ediv,←Int.natCast_mul]
theorem Aba(a y:Nat)(hy:0<y):a≤upN a y∧upN a y≤a+y:=by
 have h:=Nat.div_add_mod (a+y-1) y;have h2:=Nat.mod_lt (a+y-1) hy;unfold upN;rw [Nat.mul_comm] at h;constructor <;>omega
theorem H0(v:Bv)(a i y:Nat)(r:Bool)(w:World)(hy:Br (y:Int)=true)(ha:a≤1048576)(hi:i≤1048576)(hr:Dz v a i y=r):
  Calls Ad 223 #[.agg #[Aa Ab (v.t:Int),Aa Ab (v.w:Int),Aa Ac (v.n:Int)],Aa Ab (a:Int),Aa Ab (i:Int),Aa Ab (y:Int)] w (Ab5 (.bool r) w):=by
 have Q:=(Af w.heap.size w).alloc (Ae _) (.cells #[Aa Ab (v.t:Int),Aa Ab (v.w:Int),Aa Ac (v.n:Int)] 169);have K:=Hd Q;have O:1≤y∧y≤8:=by have:=Dl hy;omega
 clear Q hy;have J:=Bb.new w 169 #[Aa Ab (v.t:Int),Aa Ab (v.w:Int),Aa Ac (v.n:Int)];cases hin:inl v.t with
 |true=>
  have H:=Hd (show Bt (v.t:Int)=true from hin);have l:=Hd (show decide (v.w≤y)=r by rw [←hr];unfold Dz;rw [if_pos hin]);clear hr hin;have I:=Hd J;clear J;go_enter func223,ntmps223;go_wp2_with fail;go_at_call 78;refine(Cm (v.t:Int) _).mono ?_;rw [H.o];rintro e G ⟨rfl,f⟩;have m:=Hd (I.o.pure f);have x1:G.cell? ⟨w.heap.size,1,none⟩=some (Aa Ab (v.w:Int)):=m.o.cell 1;have c:=Hd (A6 K.o f);clear f;go_wp2_with fail;go_ret;exact⟨Ck l.o,c.o⟩
 |false=>
  have H:=Hd (show Bt (v.t:Int)=false from hin);have D:¬inl v.t=true:=by rw [hin];decide
  have b:decide (v.n≤a∧bWidth (upN a y+i*y-v.n)≤y)=r:=by rw [←hr];unfold Dz;rw [if_neg D]
  have I:=Hd J;clear hr hin D J;by_cases g:v.n≤a
  ·obtain⟨E,F⟩:=Aba a y (by omega);have C:i*y≤1048576*8:=Nat.mul_le_mul hi O.2;obtain⟨u,T⟩:∃u,upN a y=u:=⟨_,rfl⟩;obtain⟨q,N⟩:∃q:Nat,i*y=q:=⟨_,rfl⟩;have ht:=xQ a y (by omega);rw [T] at ht E F b;rw [N] at C b;obtain⟨d,R⟩:∃d,u+q-v.n=d:=⟨_,rfl⟩;rw [R] at b;obtain⟨p,S⟩:∃p:Nat,((a:Int)+y-1).tdiv y=p:=⟨(a+y-1)/y,by rw [show(a:Int)+y-1=((a+y-1:Nat):Int) by omega,Int.tdiv_eq_ediv_of_nonneg (by omega)];rfl⟩;rw [S] at ht;have M:p≤u:=by
    have:(p:Int)*y=((p*y:Nat):Int):=by simp
    rw [this] at ht;have h3:p*y=u:=by exact_mod_cast ht
    have:p*1≤p*y:=Nat.mul_le_mul_left p (by omega);omega
   have l:=Hd (show decide (bWidth d≤y)=r by rw [←b];exact decide_eq_decide.2 ⟨fun h=>⟨g,h⟩,fun h=>h.2⟩);have X:IntKind.i64.wrap ((a:Int)+y)=(a:Int)+y:=Ag _ (by omega);have Y:IntKind.i64.wrap ((a:Int)+y-1)=(a:Int)+y-1:=Ag _ (by omega);have Z:IntKind.i64.wrap (p:Int)=p:=Ag _ (by omega);have L:(i:Int)*(y:Int)=(q:Int):=by rw [←N];simp
   have e4:IntKind.i64.wrap (u:Int)=u:=Ag _ (by omega);have e5:IntKind.i64.wrap (q:Int)=q:=Ag _ (by omega);have e6:IntKind.i64.wrap ((u:Int)+q)=(u:Int)+q:=Ag _ (by omega);have e7:IntKind.u64.wrap ((u:Int)+q)=(u:Int)+q:=Ce _ (by omega);have e8:(u:Int)+q-v.n=d:=by omega
   have e9:IntKind.u64.wrap (d:Int)=d:=Ce _ (by omega);have z:IntKind.u64.wrap (a:Int)=a:=Ce _ (by omega);have P:¬y=0:=by omega
   have s:=Hd (show V9 d=(bWidth d:Nat) from Wb d);have j:d<18446744073709551616:=by omega
   obtain⟨W,k⟩:∃x,bWidth d=x:=⟨_,rfl⟩;rw [k] at l s;have A:decide ((a:Int)<(v.n:Int))=false:=decide_eq_false (by omega);have B:decide (a<v.n)=false:=decide_eq_false (by omega);have V:=Hd (And.intro j k);clear b T N R j k g M E F C;go_enter func223,ntmps223;go_wp2_with fail;go_at_call 78;refine(Cm (v.t:Int) _).mono ?_;rw [H.o];rintro e G ⟨rfl,f⟩;have m:=Hd (I.o.pure f);have U:G.cell? ⟨w.heap.size,2,none⟩=some (Aa Ac (v.n:Int)):=m.o.cell 2;have c:=Hd (A6 K.o f);clear f;go_wp2_with fail;go_at_call 33;refine(L6 d W _ V.o.1 s.o).mono ?_;rintro e w1 ⟨rfl,rfl⟩;clear ht S X Y Z L e4 e5 e6 e7 e8 e9 z P A B U;go_wp2_with fail;go_ret;exact⟨Ck l.o,c.o⟩
  ·have l:=Hd (show false=r by rw [←b,decide_eq_false];exact fun h=>g h.1);have A:decide (a<v.n)=true:=decide_eq_true (by omega);have z:IntKind.u64.wrap (a:Int)=a:=Ce _ (by omega);clear b g;go_enter func223,ntmps223;go_wp2_with fail;go_at_call 78;refine(Cm (v.t:Int) _).mono ?_;rw [H.o];rintro e G ⟨rfl,f⟩;have m:=Hd (I.o.pure f);have U:G.cell? ⟨w.heap.size,2,none⟩=some (Aa Ac (v.n:Int)):=m.o.cell 2;have c:=Hd (A6 K.o f);clear f;go_wp2_with fail;go_ret;exact⟨Ck l.o,c.o⟩
theorem gF(y:Fin 4):Br ((2^y.val:Nat):Int)=true:=by
 have h:∀y:Fin 4,Br ((2^y.val:Nat):Int)=true:=by decide
 exact h y
theorem oP(v:Bv)(a i y bv ba bi:Nat)(w:World)(hv:Bb w bv 169 #[Aa Ab (v.t:Int),Aa Ab (v.w:Int),Aa Ac (v.n:Int)])(ha:Bb w ba 3 #[Aa Ab (a:Int)])(hi:Bb w bi 3 #[Aa Ab (i:Int)])
  (hy:Br (y:Int)=true) (ha2:a≤1048576) (hi2:i≤1048576):
  Calls Ad 222 #[Aa Ab (y:Int),Aca bv,Aca ba,Aca bi] w (Ab5 (.bool (Dz v a i y)) w):=by
 obtain⟨r,b⟩:∃r,Dz v a i y=r:=⟨_,rfl⟩;rw [b];have f:=Hd (H0 v a i y r w hy ha2 hi2 b);obtain ⟨j,k,l⟩:=hv.c3;have g:w.cell? ⟨ba,0,none⟩=some (Aa Ab (a:Int)):=ha.cell 0;have h:w.cell? ⟨bi,0,none⟩=some (Aa Ab (i:Int)):=hi.cell 0;clear hv ha hi hy ha2 hi2 b;go_enter func222,ntmps222;go_wp2_with fail;go_at_call 223;refine f.o.mono ?_;rintro e m ⟨rfl,c⟩;have d:=Hd c;clear c j k l g h;go_wp2_with fail;go_ret;exact⟨rfl,d.o⟩
theorem sP(v:Bv)(a i:Nat)(w:World)(ha2:a≤1048576)(hi2:i≤1048576):
  Calls Ad 132 #[.agg #[Aa Ab (v.t:Int),Aa Ab (v.w:Int),Aa Ac (v.n:Int)],Aa Ab (a:Int),Aa Ab (i:Int)] w (Ab5 (Aa Ab (leastW (Dz v a i):Nat)) w):=by
 have j:=Hd (show Below w.heap.size w (((w.alloc (.cells #[Aa Ab (v.t:Int),Aa Ab (v.w:Int),Aa Ac (v.n:Int)] 169)).alloc (.cells #[Aa Ab (a:Int)] 3)).alloc (.cells #[Aa Ab (i:Int)] 3)) from(((Af _ _).alloc (Ae _) _).alloc (by simp) _).alloc (by simp;omega) _);have k:=Hd (((Bb.new w 169 #[Aa Ab (v.t:Int),Aa Ab (v.w:Int),Aa Ac (v.n:Int)]).alloc (.cells #[Aa Ab (a:Int)] 3)).alloc (.cells #[Aa Ab (i:Int)] 3));have f:=Hd ((Cv w (.cells #[Aa Ab (v.t:Int),Aa Ab (v.w:Int),Aa Ac (v.n:Int)] 169) 3 #[Aa Ab (a:Int)]).alloc (.cells #[Aa Ab (i:Int)] 3));have b:=Hd (Cv (w.alloc (.cells #[Aa Ab (v.t:Int),Aa Ab (v.w:Int),Aa Ac (v.n:Int)] 169)) (.cells #[Aa Ab (a:Int)] 3) 3 #[Aa Ab (i:Int)]);have e:(w.alloc (.cells #[Aa Ab (v.t:Int),Aa Ab (v.w:Int),Aa Ac (v.n:Int)] 169)).heap.size+1=w.heap.size+1+1:=by simp
 rw [e] at b;obtain⟨r,g⟩:∃r,leastW (Dz v a i)=r:=⟨_,rfl⟩;have d:=Hd g;rw [g];have h:=Hd (And.intro ha2 hi2);clear e g;go_enter func132,ntmps132;go_wp2_with fail;go_at_call 220;refine(Mx a _ (by omega)).mono ?_;rintro e m ⟨rfl,rfl⟩;go_wp2_with fail;go_at_call 220;refine(Mx i _ (by omega)).mono ?_;rintro e m ⟨rfl,rfl⟩;go_wp2_with fail;go_at_call 221;generalize (((w.alloc (.cells #[Aa Ab (v.t:Int),Aa Ab (v.w:Int),Aa Ac (v.n:Int)] 169)).alloc (.cells #[Aa Ab (a:Int)] 3)).alloc (.cells #[Aa Ab (i:Int)] 3))=w1 at j k f b⊢;generalize w.heap.size+1+1=bi at b⊢;generalize w.heap.size+1=ba at f⊢;have p:=fun(y:Fin 4) (W:World) (hW:Below w1.heap.size w1 W)=>oP v a i (2^y.val) w.heap.size ba bi W (k.o.pure hW) (f.o.pure hW) (b.o.pure hW) (gF y) h.o.1 h.o.2
 refine(Vf 222 #[Aca w.heap.size,Aca ba,Aca bi] (Dz v a i) w1 Tryz.call222 p).mono ?_;rw [d.o];rintro e m ⟨rfl,l⟩;have c:=Hd (A6 j.o l);clear l;go_wp2_with fail;go_ret;exact⟨rfl,c.o⟩
end
end Go.Proofs.YtejpbijeifjdeaaGreat
