/- Parts of the proof. -/
import Derived.Test.YtgbjodnegkbfoaaGreatQa05
import Derived.Shelf.Strconv.Itoa0
import Derived.Ground.NamesProg
import Derived.Laws.DeepNot64
import Derived.Deep.DeepCutAuto
import Derived.RangeFuncNested
import Derived.RangeFuncBound
import Derived.RangeFuncCalls
import Derived.RangeFuncLeaves
import Derived.Shelf.Abstract
import Derived.Shelf.RegionOpen
import Derived.OwnWalkIn
import Derived.TacticsInMore
import Derived.LoopNIn
import Derived.LoopIn
set_option maxHeartbeats 2000000
set_option maxRecDepth 100000
open Go.Value renaming int→Aa
open Go.IntKind renaming i64→Ab,u64→Ac
open Nat renaming le_refl→Ath
namespace Go.Proofs.YtgbjodnegkbfoaaGreat
open Go.Shelf Go.RowKit Go.Acc
def Ajy:Go.Shelf.Ren:=⟨fun|129=>101|n=>n,fun|3=>3|4=>4|5=>5|9=>9|46=>146|53=>22|n=>n,fun|n=>n⟩
theorem Ajx:Go.Proofs.Lays.n129 Tryz.prog Ajy:={
 mixed:=by kernel_rfl
 f129:=Tryz.func101.trans (congrArg some (by kernel_rfl))
 t3:=Tryz.underlying3
 a3:=Tryz.isAgg3
 z3:=Tryz.sizeOf3
 v3:=Tryz.zeroValue3
 t4:=Tryz.underlying4
 a4:=Tryz.isAgg4
 z4:=Tryz.sizeOf4
 v4:=Tryz.zeroValue4
 t5:=Tryz.underlying5
 a5:=Tryz.isAgg5
 z5:=Tryz.sizeOf5
 v5:=Tryz.zeroValue5
 t9:=Tryz.underlying9
 a9:=Tryz.isAgg9
 z9:=Tryz.sizeOf9
 v9:=Tryz.zeroValue9
 t46:=Tryz.underlying146
 a46:=Tryz.isAgg146
 z46:=Tryz.sizeOf146
 v46:=Tryz.zeroValue146
 t53:=Tryz.underlying22
 a53:=Tryz.isAgg22
 z53:=Tryz.sizeOf22
 v53:=Tryz.zeroValue22}
theorem U2(u:Nat)(w:World)(h:u<18446744073709551616):Calls Tryz.prog 101 #[Aa Ac u] w fun e w'=>e= .returned (Aa Ab (Lib.bitLen u))∧w=w':=by
 have h:=Any.bits_Len64 Ajx (u:Int) w (by omega) (by omega);change Calls Tryz.prog 101 _ _ _ at h;exact h.mono fun _ _ ⟨he,hw⟩=>⟨by rw [he,Int.toNat_natCast],hw.symm⟩
def wdN(m:Int):Int:=if m≤8 then 1 else if m≤16 then 2 else if m≤32 then 4 else 8
theorem Abe(m r:Int)(w:World)(h:wdN m=r):Calls Tryz.prog 100 #[Aa Ab m] w fun e w'=>e= .returned (Aa Ab r)∧w=w':=by
 unfold wdN at h;by_cases h1:m≤8
 ·rw [if_pos h1] at h;subst h;go_enter Tryz.func100,Tryz.ntmps100;go_wp2;refine wp_loop_rounds 5 ?_
  repeat (rw [rounds_succ];go_wp2)
  all_goals
   go_ret;exact⟨rfl,rfl⟩
 ·rw [if_neg h1] at h;by_cases h2:m≤16
  ·rw [if_pos h2] at h;subst h;go_enter Tryz.func100,Tryz.ntmps100;go_wp2;refine wp_loop_rounds 5 ?_
   repeat (rw [rounds_succ];go_wp2)
   all_goals
    go_ret;exact⟨rfl,rfl⟩
  ·rw [if_neg h2] at h;by_cases h3:m≤32
   ·rw [if_pos h3] at h;subst h;go_enter Tryz.func100,Tryz.ntmps100;go_wp2;refine wp_loop_rounds 5 ?_
    repeat (rw [rounds_succ];go_wp2)
    all_goals
     go_ret;exact⟨rfl,rfl⟩
   ·rw [if_neg h3] at h;subst h;by_cases h4:m≤64
    ·go_enter Tryz.func100,Tryz.ntmps100;go_wp2;refine wp_loop_rounds 5 ?_
     repeat (rw [rounds_succ];go_wp2)
     all_goals
      go_ret;exact⟨rfl,rfl⟩
    ·go_enter Tryz.func100,Tryz.ntmps100;go_wp2;refine wp_loop_rounds 5 ?_
     repeat (rw [rounds_succ];go_wp2)
     all_goals
      go_ret;exact⟨rfl,rfl⟩
def Vr(u:Nat):Int:=if u<256 then 1 else if u<65536 then 2 else if u<4294967296 then 4 else 8
def Vq(n:Int):Int:=if -128≤n∧n<128 then 1 else if -32768≤n∧n<32768 then 2 else if -2147483648≤n∧n<2147483648 then 4 else 8
theorem Oa(u k:Nat)(hk:k≤63)(hu:u<18446744073709551616):Lib.bitLen u≤k↔u<2^k:=by
 constructor
 ·intro h;refine Decidable.byContradiction fun hn=>?_
  have h1:=Lib.bitLen_shift k u (by omega) hu;have hp:0<2^k:=Nat.two_pow_pos k;have h2:u/2^k≠0:=by
   intro e;have:=(Nat.div_eq_zero_iff).1 e;omega
  have h3:=Lib.bitLen_half (u/2^k) h2 (Nat.lt_of_le_of_lt (Nat.div_le_self _ _) hu);omega
 ·intro h;exact Lib.bitLen_le u k (by omega) h
theorem Aod(u:Nat)(hu:u<18446744073709551616):wdN (Lib.bitLen u)=Vr u:=by
 have h1:=Oa u 8 (by omega) hu;have h2:=Oa u 16 (by omega) hu;have h3:=Oa u 32 (by omega) hu;simp only [Nat.reducePow] at h1 h2 h3;unfold wdN Vr;by_cases c1:u<256
 ·rw [if_pos c1,if_pos (by have:=h1.2 c1;omega)]
 ·rw [if_neg c1,if_neg (by have:=mt h1.1 c1;omega)];by_cases c2:u<65536
  ·rw [if_pos c2,if_pos (by have:=h2.2 c2;omega)]
  ·rw [if_neg c2,if_neg (by have:=mt h2.1 c2;omega)];by_cases c3:u<4294967296
   ·rw [if_pos c3,if_pos (by have:=h3.2 c3;omega)]
   ·rw [if_neg c3,if_neg (by have:=mt h3.1 c3;omega)]
theorem Lr(u:Nat)(r:Int)(w:World)(hu:u<18446744073709551616)(h:Vr u=r):Calls Tryz.prog 54 #[Aa Ac u] w fun e w'=>e= .returned (Aa Ab r)∧w=w':=by
 obtain⟨k,hk⟩:∃k,Lib.bitLen u=k:=⟨_,rfl⟩;have hw:=Aod u hu;rw [hk,h] at hw;have hl:=U2 u w hu;rw [hk] at hl;have HW:=Hd hw;have HL:=Hd hl;clear hk hw hl h hu;go_enter Tryz.func54,Tryz.ntmps54;go_wp2_with fail;go_at_call 101;refine HL.o.mono ?_;rintro e w' ⟨rfl,rfl⟩;go_wp2_with fail;go_at_call 100;refine(Abe k r _ HW.o).mono ?_;rintro e w' ⟨rfl,rfl⟩;go_wp2;go_ret;exact⟨rfl,rfl⟩
theorem Afi(u:Nat)(hu:u<9223372036854775808):wdN (1+Lib.bitLen u)=Vq (u:Int)∧Vq (-(u:Int)-1)=Vq (u:Int):=by
 have h1:=Oa u 7 (by omega) (by omega);have h2:=Oa u 15 (by omega) (by omega);have h3:=Oa u 31 (by omega) (by omega);simp only [Nat.reducePow] at h1 h2 h3;constructor
 ·unfold wdN Vq;by_cases c1:u<128
  ·rw [if_pos (show(-128:Int)≤u∧(u:Int)<128 by omega),if_pos (by have:=h1.2 c1;omega)]
  ·rw [if_neg (show ¬((-128:Int)≤u∧(u:Int)<128) by omega),if_neg (by have:=mt h1.1 c1;omega)];by_cases c2:u<32768
   ·rw [if_pos (show(-32768:Int)≤u∧(u:Int)<32768 by omega),if_pos (by have:=h2.2 c2;omega)]
   ·rw [if_neg (show ¬((-32768:Int)≤u∧(u:Int)<32768) by omega),if_neg (by have:=mt h2.1 c2;omega)];by_cases c3:u<2147483648
    ·rw [if_pos (show(-2147483648:Int)≤u∧(u:Int)<2147483648 by omega),if_pos (by have:=h3.2 c3;omega)]
    ·rw [if_neg (show ¬((-2147483648:Int)≤u∧(u:Int)<2147483648) by omega),if_neg (by have:=mt h3.1 c3;omega)]
 ·unfold Vq
  (repeat' split) <;>omega
theorem xor_zero(a:Nat)(ha:a<9223372036854775808):Go.bits .xor .i64 (a:Int) 0=a:=by
 show IntKind.i64.wrap ((BitVec.ofInt 64 (a:Int)^^^BitVec.ofInt 64 0).toNat:Int)=_;have h1:BitVec.ofInt 64 0=0#64:=by decide
 rw [h1,BitVec.xor_zero,ofInt_u64 a (by omega)];simp [IntKind.wrap,IntKind.bits,IntKind.signed];omega
theorem Aoe(a:Nat)(ha:a<9223372036854775808):Go.bits .xor .i64 (-(a:Int)-1) (-1)=a:=by
 show IntKind.i64.wrap ((BitVec.ofInt 64 (-(a:Int)-1)^^^BitVec.ofInt 64 (-1)).toNat:Int)=_;have h1:BitVec.ofInt 64 (-1)=BitVec.allOnes 64:=by decide
 have h2:(BitVec.ofInt 64 (-(a:Int)-1)).toNat=18446744073709551615-a:=by
  rw [BitVec.toNat_ofInt];omega
 rw [h1,BitVec.xor_allOnes,BitVec.toNat_not,h2];simp [IntKind.wrap,IntKind.bits,IntKind.signed];omega
theorem Aq0(n r:Int)(w:World)(h0: -9223372036854775808≤n∧n≤9223372036854775807)(h:Vq n=r):Calls Tryz.prog 56 #[Aa Ab n] w fun e w'=>e= .returned (Aa Ab r)∧w=w':=by
 obtain⟨u,hu,hn,hx⟩:∃u:Nat,u<9223372036854775808∧Vq (u:Int)=r∧Go.bits .xor .i64 n (n/9223372036854775808)=u:=by
  by_cases hn:0≤n
  ·obtain⟨u,rfl⟩:=Int.eq_ofNat_of_zero_le hn;refine⟨u,by omega,h,?_⟩;rw [show(u:Int)/9223372036854775808=0 by omega];exact xor_zero u (by omega)
  ·obtain⟨u,rfl⟩:∃u:Nat,n= -(u:Int)-1:=⟨(-n-1).toNat,by omega⟩;refine⟨u,by omega,by rw [←(Afi u (by omega)).2];exact h,?_⟩;rw [show(-(u:Int)-1)/9223372036854775808= -1 by omega];exact Aoe u (by omega)
 obtain⟨k,hk⟩:∃k,Lib.bitLen u=k:=⟨_,rfl⟩;have hw:=(Afi u hu).1;rw [hk,hn] at hw;have hl:=U2 u w (by omega);rw [hk] at hl;have hk2:k≤64:=by rw [←hk];exact Lib.bitLen_le u 64 (by omega) (by omega)
 have hwr:IntKind.u64.wrap (u:Int)=u:=by rw [IntKind.wrap_u64];omega
 have HW:=Hd hw;have HL:=Hd hl;have HX:=Hd hx;clear hk hw hl h hn hx;go_enter Tryz.func56,Tryz.ntmps56;go_wp2_with fail;go_at_call 101;rw [HX.o,hwr];refine HL.o.mono ?_;rintro e w' ⟨rfl,rfl⟩;go_wp2_with fail;go_at_call 100;refine(Abe (1+(k:Int)) r _ HW.o).mono ?_;rintro e w' ⟨rfl,rfl⟩;go_wp2;go_ret;exact⟨rfl,rfl⟩
end Go.Proofs.YtgbjodnegkbfoaaGreat
namespace Go.Proofs.YtgbjodnegkbfoaaGreat
open Go.RowKit Go.Acc
theorem Dq(M:Bp)(fl:Int)(F:Nat)(caps:Array Value)(w:World)(o:Nat→Nat)(vals:List Bv)(R:Ending→World→Prop)(h:Gf M fl w o vals)
  (hF:∀(args:Array Value) (w:World),(callFunc F args).run Tryz.prog w= .ok (.enter F args) w)
  (hc:Calls Tryz.prog F caps w fun e w'=>e= .returned (.tuple #[])∧R e w'):
  Calls Tryz.prog 225 #[.pointer (some ⟨M.β,0,none⟩),.func (.func F) #[] caps] w R:=by
 have H:=Hd h;have HC:=Hd hc;clear h hc;go_enter Tryz.func225,Tryz.ntmps225;go_wp2_with (go_at_call 320;refine(Apa H.o).mono ?_;rintro e w' ⟨rfl,rfl⟩);refine HC.o.mono ?_;rintro e w' ⟨rfl,hR⟩;have HR:=Hd hR;clear hR hF;go_wp2;go_end0;exact HR.o
theorem Vs(u:Nat):Vr u=(bWidth u:Nat):=by unfold Vr bWidth;(repeat' split) <;>rfl
theorem Asw(n:Int):Vq n=(bWidthI n:Nat):=by unfold Vq bWidthI;(repeat' split) <;>rfl
theorem Alx(n:Int):IntKind.u64.wrap n=(bits n:Nat):=Ao3 n
theorem Ti(n:Int)(w:World)(h: -9223372036854775808≤n∧n≤9223372036854775807):
  Calls Tryz.prog 220 #[Aa Ab n] w fun e w'=>e= .returned (.agg #[Aa Ab ((Cf n).t:Int),Aa Ab ((Cf n).w:Int),Aa Ac ((Cf n).n:Int)])∧Below w.heap.size w w':=by
 have HB:=Hd (Alx n);have HW:=Hd (Asw n);have H:=Hd h;clear h;go_enter Tryz.func220,Tryz.ntmps220;go_wp2_with fail;go_at_call 56;refine(Aq0 n _ _ H.o HW.o).mono ?_;rintro e w' ⟨rfl,rfl⟩;go_wp2_with fail;refine bodyPost_ret (v:= .agg #[Aa Ab ((Cf n).t:Int),Aa Ab ((Cf n).w:Int),Aa Ac ((Cf n).n:Int)]) (by simp [results,Tryz.results220,go_sem,HB.o,Cf]) rfl ⟨rfl,?_⟩;exact(Below.refl _ _).alloc (Ath _) _
theorem T0(u:Nat)(w:World)(h:u<18446744073709551616):
  Calls Tryz.prog 222 #[Aa Ac (u:Int)] w fun e w'=>e= .returned (.agg #[Aa Ab ((Ch u).t:Int),Aa Ab ((Ch u).w:Int),Aa Ac ((Ch u).n:Int)])∧Below w.heap.size w w':=by
 have HW:=Hd (Vs u);have H:=Hd h;clear h;go_enter Tryz.func222,Tryz.ntmps222;go_wp2_with fail;go_at_call 54;refine(Lr u _ _ H.o HW.o).mono ?_;rintro e w' ⟨rfl,rfl⟩;go_wp2_with fail;refine bodyPost_ret (v:= .agg #[Aa Ab ((Ch u).t:Int),Aa Ab ((Ch u).w:Int),Aa Ac ((Ch u).n:Int)]) (by simp [results,Tryz.results222,go_sem,Ch]) rfl ⟨rfl,?_⟩;exact(Below.refl _ _).alloc (Ath _) _
theorem P0(n:Int)(t:Bool)(w:World)(h:decide (n=1)=t):
  Calls Tryz.prog 224 #[.bool t] w fun e w'=>e= .returned (.agg #[Aa Ab ((Cz n).t:Int),Aa Ab ((Cz n).w:Int),Aa Ac ((Cz n).n:Int)])∧Below w.heap.size w w':=by
 cases t with
 |true=>
  have e:Cz n=⟨26,1,1⟩:=by unfold Cz;rw [if_pos (of_decide_eq_true h)]
  rw [e];clear h e;go_enter Tryz.func224,Tryz.ntmps224;go_wp2_with fail;refine bodyPost_ret (v:= .agg #[Aa Ab 26,Aa Ab 1,Aa Ac 1]) (by simp [results,Tryz.results224,go_sem]) rfl ⟨rfl,?_⟩;exact((Below.refl _ _).alloc (Ath _) _).alloc (by simp) _
 |false=>
  have e:Cz n=⟨26,1,0⟩:=by unfold Cz;rw [if_neg (of_decide_eq_false h)]
  rw [e];clear h e;go_enter Tryz.func224,Tryz.ntmps224;go_wp2_with fail;refine bodyPost_ret (v:= .agg #[Aa Ab 26,Aa Ab 1,Aa Ac 0]) (by simp [results,Tryz.results224,go_sem]) rfl ⟨rfl,?_⟩;exact((Below.refl _ _).alloc (Ath _) _).alloc (by simp) _
theorem Gk(n k:Nat)(hk:k≤64):IntKind.u64.wrap ((n:Int)*2^(64-k))/2^(64-k)=(n % 2^k:Nat):=by
 have e:((n:Int)*2^(64-k))=((n*2^(64-k):Nat):Int):=by simp
 rw [e,Ao3];have h2:(2:Nat)^64=2^k*2^(64-k):=by rw [←Nat.pow_add];congr 1;omega
 have h3:(((n*2^(64-k):Nat):Int) % 18446744073709551616).toNat=(n % 2^k)*2^(64-k):=by
  have:(((n*2^(64-k):Nat):Int) % 18446744073709551616).toNat=(n*2^(64-k)) % 2^64:=by
   show _=(n*2^(64-k)) % 18446744073709551616;omega
  rw [this,h2,Nat.mul_mod_mul_right]
 rw [h3];have hp:0<2^(64-k):=Nat.two_pow_pos _;rw [show((2:Int)^(64-k))=((2^(64-k):Nat):Int) by simp,←Int.natCast_ediv,Nat.mul_div_cancel _ hp]
theorem Amy(n y:Nat)(w:World)(hy:Av (y:Int)=true):
  Calls Tryz.prog 161 #[Aa Ac (n:Int),Aa Ab (y:Int)] w fun e w'=>e= .returned (Aa Ac ((n % 2^(8*y):Nat):Int))∧w=w':=by
 rcases C8 hy with rfl|rfl|rfl|rfl
 ·have HL:=Hd (show IntKind.u64.wrap ((n:Int)*72057594037927936)/72057594037927936=((n % 2^(8*1):Nat):Int) from Gk n 8 (by omega));clear hy;go_enter Tryz.func161,Tryz.ntmps161;go_wp2_with fail;go_ret;exact⟨He HL.o,rfl⟩
 ·have HL:=Hd (show IntKind.u64.wrap ((n:Int)*281474976710656)/281474976710656=((n % 2^(8*2):Nat):Int) from Gk n 16 (by omega));clear hy;go_enter Tryz.func161,Tryz.ntmps161;go_wp2_with fail;go_ret;exact⟨He HL.o,rfl⟩
 ·have HL:=Hd (show IntKind.u64.wrap ((n:Int)*4294967296)/4294967296=((n % 2^(8*4):Nat):Int) from Gk n 32 (by omega));clear hy;go_enter Tryz.func161,Tryz.ntmps161;go_wp2_with fail;go_ret;exact⟨He HL.o,rfl⟩
 ·have HL:=Hd (show IntKind.u64.wrap (n:Int)=((n % 2^(8*8):Nat):Int) by have h:=Gk n 64 (by omega);simpa using h);clear hy;go_enter Tryz.func161,Tryz.ntmps161;go_wp2_with fail;go_ret;exact⟨He HL.o,rfl⟩
theorem Aax(M:Bp)(fl:Int)(b:Bd)(v:Bv)(bx bv:Nat)(w:World)(o:Nat→Nat)(h:BM M fl w o b)(hs:b.s.length<65536)
  (hx:Af w bx 120 #[.pointer (some ⟨M.β,0,none⟩)]) (hv:Af w bv 210 #[Aa Ab (v.t:Int),Aa Ab (v.w:Int),Aa Ac (v.n:Int)]) (ox:o bx=0) (ov:o bv=0):
  Calls Tryz.prog 388 #[.pointer (some ⟨bx,0,none⟩),.pointer (some ⟨bv,0,none⟩)] w (Cq M fl (b.push v) w o):=by
 have H:=Hd h;have HS:=Hd hs;have x0:w.cell? ⟨bx,0,none⟩=some (.pointer (some ⟨M.β,0,none⟩)):=hx.cell 0;obtain ⟨v0,v1,v2⟩:=hv.c3;have HD:=Hd (h.pure (Below.refl _ _).drew);have n1:¬B7 (o bx):=by rw [ox];exact Bi
 have n2:¬B7 (o bv):=by rw [ov];exact Bi
 have HN1:=Hd n1;have HN2:=Hd n2;clear h hs hx hv n1 n2 ox ov;go_enter Tryz.func388,Tryz.ntmps388;go_region_held3 (fun w'=>w'.cell? ⟨bx,0,none⟩=some (.pointer (some ⟨M.β,0,none⟩))∧w'.cell? ⟨bv,0,none⟩=some (Aa Ab (v.t:Int))∧w'.cell? ⟨bv,1,none⟩=some (Aa Ab (v.w:Int))∧w'.cell? ⟨bv,2,none⟩=some (Aa Ac (v.n:Int))) (first|with_reducible exact⟨x0,v0,v1,v2⟩|with_reducible exact⟨Ae x0,Ae v0,Ae v1,Ae v2⟩|with_reducible exact⟨y1,y2,y3,y4⟩) (first|(go_at_call 235;(with_reducible refine(Mb M fl b v _ o HD.o HS.o).mono ?_);rintro e W4 ⟨rfl,o4,hS4,hT4⟩;have y1:=hT4.cell (Ae x0) HN1.o;have y2:=hT4.cell (Ae v0) HN2.o;have y3:=hT4.cell (Ae v1) HN2.o;have y4:=hT4.cell (Ae v2) HN2.o;have HR:=Hd (And.intro hS4 hT4);clear hS4 hT4));go_end0;exact⟨rfl,o4,HR.o.1,HR.o.2.from_drew⟩
theorem Ba(w:World)(x y:Obj):Below w.heap.size w ((w.alloc x).alloc y):=((Below.refl _ _).alloc (Ath _) _).alloc (by simp) _
theorem Kd(M:Bp)(fl:Int)(b:Bd)(v:Bv)(w:World)(o:Nat→Nat)(h:BM M fl w o b)(hs:b.s.length<65536):
  Calls Tryz.prog 332 #[.pointer (some ⟨M.β,0,none⟩),.agg #[Aa Ab (v.t:Int),Aa Ab (v.w:Int),Aa Ac (v.n:Int)]] w (Cq M fl (b.push v) w o):=by
 have HS:=Hd hs;have hB:=Ba w (.cells #[.pointer (some ⟨M.β,0,none⟩)] 120) (.cells #[Aa Ab (v.t:Int),Aa Ab (v.w:Int),Aa Ac (v.n:Int)] 210);have HB:=Hd hB;have HM:=Hd (h.fresh hB 0);have HK1:=Hd ((Af.new w 120 #[.pointer (some ⟨M.β,0,none⟩)]).alloc (.cells #[Aa Ab (v.t:Int),Aa Ab (v.w:Int),Aa Ac (v.n:Int)] 210));have HK2:=Hd (B5 w (.cells #[.pointer (some ⟨M.β,0,none⟩)] 120) 210 #[Aa Ab (v.t:Int),Aa Ab (v.w:Int),Aa Ac (v.n:Int)]);clear h hs hB;go_enter Tryz.func332,Tryz.ntmps332;go_wp2_with fail;go_at_call 225;refine(Dq M fl 388 _ _ (Ak o w.heap.size 0) b.vals _ HM.o.head Tryz.call388 ((Aax M fl b v w.heap.size (w.heap.size+1) _ (Ak o w.heap.size 0) HM.o HS.o HK1.o HK2.o (Am (Ath _)) (Am (Nat.le_succ _))).mono fun e w' h=>⟨h.1,h⟩)).mono ?_;rintro e w' hR;obtain rfl:=hR.1;have HR:=Hd (hR.from_fresh HB.o);clear hR;go_wp2;go_end0;exact HR.o
theorem Af9(M:Bp)(fl:Int)(b:Bd)(w:World)(o:Nat→Nat)(h:BM M fl w o b)(hs:b.s.length<65536):
  Calls Tryz.prog 242 #[.pointer (some ⟨M.β,0,none⟩)] w (Cq M fl (b.push ⟨0,1,0⟩) w o):=by
 have H:=Hd h;have HS:=Hd hs;clear h hs;go_enter Tryz.func242,Tryz.ntmps242;go_wp2_with fail;go_at_call 332;refine(Kd M fl b ⟨0,1,0⟩ _ o H.o HS.o).mono ?_;intro e w2 hR;obtain rfl:=hR.1;have HR:=Hd hR;clear hR;go_wp2;go_end0;exact HR.o
theorem Aik(M:Bp)(fl:Int)(b:Bd)(n:Int)(w:World)(o:Nat→Nat)(h:BM M fl w o b)(hs:b.s.length<65536)(hn: -9223372036854775808≤n∧n≤9223372036854775807):
  Calls Tryz.prog 244 #[.pointer (some ⟨M.β,0,none⟩),Aa Ab n] w (Cq M fl (b.push (Cf n)) w o):=by
 have H:=Hd h;have HS:=Hd hs;have HN:=Hd hn;clear h hs hn;go_enter Tryz.func244,Tryz.ntmps244;go_wp2_with fail;go_at_call 220;refine(Ti n _ HN.o).mono ?_;rintro e w1 ⟨rfl,hB⟩;have HB:=Hd hB;clear hB;go_wp2_with fail;go_at_call 332;refine(Kd M fl b (Cf n) _ o (H.o.pure HB.o) HS.o).mono ?_;intro e w2 hR;obtain rfl:=hR.1;have HR:=Hd (hR.from_pure HB.o);clear hR;go_wp2;go_end0;exact HR.o
theorem Agf(M:Bp)(fl:Int)(b:Bd)(u:Nat)(w:World)(o:Nat→Nat)(h:BM M fl w o b)(hs:b.s.length<65536)(hu:u<18446744073709551616):
  Calls Tryz.prog 245 #[.pointer (some ⟨M.β,0,none⟩),Aa Ac (u:Int)] w (Cq M fl (b.push (Ch u)) w o):=by
 have H:=Hd h;have HS:=Hd hs;have HN:=Hd hu;clear h hs hu;go_enter Tryz.func245,Tryz.ntmps245;go_wp2_with fail;go_at_call 222;refine(T0 u _ HN.o).mono ?_;rintro e w1 ⟨rfl,hB⟩;have HB:=Hd hB;clear hB;go_wp2_with fail;go_at_call 332;refine(Kd M fl b (Ch u) _ o (H.o.pure HB.o) HS.o).mono ?_;intro e w2 hR;obtain rfl:=hR.1;have HR:=Hd (hR.from_pure HB.o);clear hR;go_wp2;go_end0;exact HR.o
theorem Af2(M:Bp)(fl:Int)(b:Bd)(n:Int)(t:Bool)(w:World)(o:Nat→Nat)(h:BM M fl w o b)(hs:b.s.length<65536)(ht:decide (n=1)=t):
  Calls Tryz.prog 243 #[.pointer (some ⟨M.β,0,none⟩),.bool t] w (Cq M fl (b.push (Cz n)) w o):=by
 have H:=Hd h;have HS:=Hd hs;have HN:=Hd ht;clear h hs ht;go_enter Tryz.func243,Tryz.ntmps243;go_wp2_with fail;go_at_call 224;refine(P0 n t _ HN.o).mono ?_;rintro e w1 ⟨rfl,hB⟩;have HB:=Hd hB;clear hB;go_wp2_with fail;go_at_call 332;refine(Kd M fl b (Cz n) _ o (H.o.pure HB.o) HS.o).mono ?_;intro e w2 hR;obtain rfl:=hR.1;have HR:=Hd (hR.from_pure HB.o);clear hR;go_wp2;go_end0;exact HR.o
structure N8(M:Bp)(v:Bv)(t bx bv bt:Nat)(w:World)(o:Nat→Nat):Prop where
 x:Af w bx 120 #[.pointer (some ⟨M.β,0,none⟩)]
 v:Af w bv 210 #[Aa Ab (v.t:Int),Aa Ab (v.w:Int),Aa Ac (v.n:Int)]
 t:Af w bt 3 #[Aa Ab (t:Int)]
 ox:o bx=0
 ov:o bv=0
 ot:o bt=0
theorem N8.to_{M:Bp}{v:Bv}{t bx bv bt:Nat}{w w':World}{o o':Nat→Nat}{I:Nat→Prop}(h:N8 M v t bx bv bt w o)(ht:To I w o w' o')(hI:¬I 0):N8 M v t bx bv bt w' o':=
 ⟨h.x.to_ ht (by rw [h.ox];exact hI),h.v.to_ ht (by rw [h.ov];exact hI),h.t.to_ ht (by rw [h.ot];exact hI),by rw [ht.ow _ h.x.lt];exact h.ox,by rw [ht.ow _ h.v.lt];exact h.ov,by rw [ht.ow _ h.t.lt];exact h.ot⟩
theorem N8.cells{M:Bp}{v:Bv}{t bx bv bt:Nat}{w:World}{o:Nat→Nat}(h:N8 M v t bx bv bt w o):
  w.cell? ⟨bx,0,none⟩=some (.pointer (some ⟨M.β,0,none⟩))∧w.cell? ⟨bv,0,none⟩=some (Aa Ab (v.t:Int))∧w.cell? ⟨bv,1,none⟩=some (Aa Ab (v.w:Int))∧w.cell? ⟨bv,2,none⟩=some (Aa Ac (v.n:Int))∧w.cell? ⟨bt,0,none⟩=some (Aa Ab (t:Int)):=
 ⟨h.x.cell 0,h.v.cell 0,h.v.cell 1,h.v.cell 2,h.t.cell 0⟩
theorem N8.drew{M:Bp}{v:Bv}{t bx bv bt:Nat}{w:World}{o:Nat→Nat}(h:N8 M v t bx bv bt w o):N8 M v t bx bv bt w.drew o:=⟨h.x,h.v,h.t,h.ox,h.ov,h.ot⟩
theorem N8.drewN{M:Bp}{v:Bv}{t bx bv bt:Nat}{w:World}{o:Nat→Nat}(n:Nat)(h:N8 M v t bx bv bt w o):N8 M v t bx bv bt (w.drewN n) o:=⟨h.x,h.v,h.t,h.ox,h.ov,h.ot⟩
theorem BM.drew{M:Bp}{fl:Int}{w:World}{o:Nat→Nat}{b:Bd}(h:BM M fl w o b):BM M fl w.drew o b:=h.pure (Below.refl _ _).drew
theorem Ji(n y:Nat):D4 y (n % 2^(8*y))=true:=decide_eq_true (.inr (Nat.mod_lt _ (Nat.two_pow_pos _)))
theorem M3(n:Nat){y:Nat}(hy:Av (y:Int)=true):((n % 2^(8*y):Nat):Int)<18446744073709551616:=by
 have h:=Nat.mod_lt n (Nat.two_pow_pos (8*y));have h2:2^(8*y)≤2^64:=Nat.pow_le_pow_right (by omega) (by have:=C8 hy;omega);have h3:n % 2^(8*y)<18446744073709551616:=Nat.lt_of_lt_of_le h h2;omega
theorem Ah2(l:List UInt8){y:Nat}(hy:Av (y:Int)=true)(hm:l.length+15≤1048576):(Ah y l).length+y≤1048576:=by
 have h8:y≤8:=by
  have:=C8 hy;omega
 have:=C5 l h8;omega
theorem M6(M:Bp)(fl:Int)(b:Bd)(t y n:Nat)(w:World)(o:Nat→Nat)(h:BM M fl w o b)(hs:b.s.length<65536):
  Calls Tryz.prog 235 #[.pointer (some ⟨M.β,0,none⟩),.agg #[Aa Ab (t:Int),Aa Ab (y:Int),Aa Ac (n:Int)]] w (Cq M fl (b.push ⟨t,y,n⟩) w o):=Mb M fl b ⟨t,y,n⟩ w o h hs
theorem Aj3(n y q:Nat)(w:World)(hy:Av (y:Int)=true)(hq:n % 2^(8*y)=q):Calls Tryz.prog 161 #[Aa Ac (n:Int),Aa Ab (y:Int)] w fun e w'=>e= .returned (Aa Ac (q:Int))∧w=w':=by
 subst hq;exact Amy n y w hy
theorem Acy(M:Bp)(fl:Int)(b:Bd)(v:Bv)(t bx bv bt:Nat)(w:World)(o:Nat→Nat)(h:BM M fl w o b)(hc:N8 M v t bx bv bt w o)(hs:b.s.length<65536)(hy:Av (v.w:Int)=true)(hm:b.b.length+15≤1048576):
  Calls Tryz.prog 389 #[.pointer (some ⟨bx,0,none⟩),.pointer (some ⟨bv,0,none⟩),.pointer (some ⟨bt,0,none⟩)] w (Cq M fl (b.apart t v.w v.n) w o):=by
 have HM:=Hd h;have HC:=Hd hc;have HS:=Hd hs;have HY:=Hd hy;have HL:=Hd (show b.b.length+7≤1048576 by omega);have HL2:=Hd (show(Ah v.w b.b).length+v.w≤1048576 from(Ah2 b.b hy hm));obtain⟨x0,v0,v1,v2,t0⟩:=hc.cells;have b0:=h.head.cells.1;clear h hc hs hy hm;go_enter Tryz.func389,Tryz.ntmps389;go_wp2_with fail;go_region_held3 (fun w'=>w'.cell? ⟨bx,0,none⟩=some (.pointer (some ⟨M.β,0,none⟩))∧w'.cell? ⟨bv,0,none⟩=some (Aa Ab (v.t:Int))∧w'.cell? ⟨bv,1,none⟩=some (Aa Ab (v.w:Int))∧w'.cell? ⟨bv,2,none⟩=some (Aa Ac (v.n:Int))∧w'.cell? ⟨bt,0,none⟩=some (Aa Ab (t:Int))∧w'.cell? ⟨M.β,0,none⟩=some (.pointer (some ⟨M.bb,0,none⟩))) (first|with_reducible exact⟨x0,v0,v1,v2,t0,b0⟩|with_reducible exact⟨Ae x0,Ae v0,Ae v1,Ae v2,Ae t0,Ae b0⟩|with_reducible exact⟨y0,y1,y2,y3,y4,y5⟩) (first|(go_at_call 160;(with_reducible refine(G0 M.bb v.w b.b _ o HM.o.drew.buf HY.o HL.o).mono ?_);rintro e W1 ⟨rfl,o1,hB1,hT1⟩;have hM1:=HM.o.drew.buf_ hT1 hB1;have hC1:=HC.o.drew.to_ hT1 (by omega);obtain⟨y0,y1,y2,y3,y4⟩:=hC1.cells;have y5:=hM1.head.cells.1;have HM1:=Hd hM1;have HC1:=Hd hC1;have HT1:=Hd hT1.from_drew;clear hB1 hT1 hM1 hC1));clear x0 v0 v1 v2 t0 b0;obtain⟨m,hmm⟩:∃x,(Ah v.w b.b).length=x:=⟨_,rfl⟩;have HMM:=Hd hmm;have HAP:=Hd (show b.apart t v.w v.n=({ b with b:=Ah v.w b.b++Ai v.w (v.n % 2^(8*v.w))}:Bd).push ⟨t,v.w,m⟩ by unfold Bd.apart Bd.push;rw [←hmm]);obtain⟨q,hq⟩:∃q,v.n % 2^(8*v.w)=q:=⟨_,rfl⟩;have HFL:=Hd (show D4 v.w q=true by rw [←hq];exact Ji v.n v.w);have HLT:=Hd (show(q:Int)<18446744073709551616 by rw [←hq];exact M3 v.n HY.o);have HQ:=Hd hq;clear hmm hq;go_wp2_with (go_at_call 159;refine(Dg m HM1.o.buf HMM.o).mono ?_;rintro e w' ⟨rfl,rfl⟩);go_region_held3 (fun w'=>w'.cell? ⟨bx,0,none⟩=some (.pointer (some ⟨M.β,0,none⟩))∧w'.cell? ⟨bv,0,none⟩=some (Aa Ab (v.t:Int))∧w'.cell? ⟨bv,1,none⟩=some (Aa Ab (v.w:Int))∧w'.cell? ⟨bv,2,none⟩=some (Aa Ac (v.n:Int))∧w'.cell? ⟨bt,0,none⟩=some (Aa Ab (t:Int))∧w'.cell? ⟨M.β,0,none⟩=some (.pointer (some ⟨M.bb,0,none⟩))) (first|with_reducible exact⟨y0,y1,y2,y3,y4,y5⟩|with_reducible exact⟨Ae y0,Ae y1,Ae y2,Ae y3,Ae y4,Ae y5⟩|with_reducible exact⟨z0,z1,z2,z3,z4,z5⟩) (first|(go_at_call 161;(with_reducible refine(Aj3 v.n v.w q _ HY.o HQ.o).mono ?_);rintro e w' ⟨rfl,rfl⟩)|(go_at_call 163;(with_reducible refine(Ef M.bb v.w q (Ah v.w b.b) _ o1 HM1.o.drew.buf HY.o HFL.o HLT.o HL2.o).mono ?_);rintro e W2 ⟨rfl,o2,hB2,hT2⟩;have hM2:=HM1.o.drew.buf_ hT2 hB2;have hC2:=HC1.o.drew.to_ hT2 (by omega);obtain⟨z0,z1,z2,z3,z4⟩:=hC2.cells;have z5:=hM2.head.cells.1;have HM2:=Hd hM2;have HC2:=Hd hC2;have HT2:=Hd hT2.from_drew;clear hB2 hT2 hM2 hC2));clear y0 y1 y2 y3 y4 y5;have hwm:IntKind.u64.wrap (m:Int)=(m:Int):=B8 _ (by have:=HL2.o;have:=HMM.o;omega);go_wp2_with fail;go_region_held3 (fun w'=>w'.cell? ⟨bx,0,none⟩=some (.pointer (some ⟨M.β,0,none⟩))∧w'.cell? ⟨bv,0,none⟩=some (Aa Ab (v.t:Int))∧w'.cell? ⟨bv,1,none⟩=some (Aa Ab (v.w:Int))∧w'.cell? ⟨bv,2,none⟩=some (Aa Ac (v.n:Int))∧w'.cell? ⟨bt,0,none⟩=some (Aa Ab (t:Int))∧w'.cell? ⟨M.β,0,none⟩=some (.pointer (some ⟨M.bb,0,none⟩))) (first|with_reducible exact⟨z0,z1,z2,z3,z4,z5⟩|with_reducible exact⟨Ae z0,Ae z1,Ae z2,Ae z3,Ae z4,Ae z5⟩|with_reducible exact⟨x0,x1,x2,x3,x4,x5⟩) (first|(go_at_call 235;(with_reducible refine(M6 M fl { b with b:=Ah v.w b.b++Ai v.w q} t v.w m _ o2 HM2.o.drew HS.o).mono ?_);rintro e W3 ⟨rfl,o3,hM3,hT3⟩;have hC3:=HC2.o.drew.to_ hT3 Bi;obtain⟨x0,x1,x2,x3,x4⟩:=hC3.cells;have x5:=hM3.head.cells.1;have HM3:=Hd hM3;have HT3:=Hd hT3.from_drew;clear hT3 hM3 hC3));go_end0;rw [HAP.o,HQ.o];exact⟨rfl,o3,HM3.o,((HT1.o.trans HT2.o).mono fun _ h=>Ia h).trans HT3.o⟩
theorem Ny(w:World)(x y z:Obj):Below w.heap.size w (((w.alloc x).alloc y).alloc z):=(Ba w x y).alloc (by simp;omega) _
theorem T9(M:Bp)(fl:Int)(b:Bd)(v:Bv)(t:Nat)(w:World)(o:Nat→Nat)(h:BM M fl w o b)(hs:b.s.length<65536)(hy:Av (v.w:Int)=true)(hm:b.b.length+15≤1048576):
  Calls Tryz.prog 333 #[.pointer (some ⟨M.β,0,none⟩),Aa Ab (t:Int),.agg #[Aa Ab (v.t:Int),Aa Ab (v.w:Int),Aa Ac (v.n:Int)]] w (Cq M fl (b.apart t v.w v.n) w o):=by
 have HS:=Hd hs;have HY:=Hd hy;have HL:=Hd hm;have hB:=Ny w (.cells #[.pointer (some ⟨M.β,0,none⟩)] 120) (.cells #[Aa Ab (t:Int)] 3) (.cells #[Aa Ab (v.t:Int),Aa Ab (v.w:Int),Aa Ac (v.n:Int)] 210);have HB:=Hd hB;have HM:=Hd (h.fresh hB 0);have HC:=Hd (show N8 M v t w.heap.size (w.heap.size+1+1) (w.heap.size+1) (((w.alloc (.cells #[.pointer (some ⟨M.β,0,none⟩)] 120)).alloc (.cells #[Aa Ab (t:Int)] 3)).alloc (.cells #[Aa Ab (v.t:Int),Aa Ab (v.w:Int),Aa Ac (v.n:Int)] 210)) (Ak o w.heap.size 0) from
  ⟨((Af.new w 120 #[.pointer (some ⟨M.β,0,none⟩)]).alloc _).alloc _,K1 w _ _ _ _,(B5 w _ 3 #[Aa Ab (t:Int)]).alloc _,Am (by omega),Am (by omega),Am (by omega)⟩)
 clear h hs hB hy hm;go_enter Tryz.func333,Tryz.ntmps333;go_wp2_with fail;go_at_call 225;refine(Dq M fl 389 _ _ (Ak o w.heap.size 0) b.vals _ HM.o.head Tryz.call389 ((Acy M fl b v t w.heap.size (w.heap.size+1+1) (w.heap.size+1) _ (Ak o w.heap.size 0) HM.o HC.o HS.o HY.o HL.o).mono fun e w' h=>⟨h.1,h⟩)).mono ?_;rintro e w' hR;obtain rfl:=hR.1;have HR:=Hd (hR.from_fresh HB.o);clear hR;go_wp2;go_end0;exact HR.o
theorem Af4(M:Bp)(fl:Int)(b:Bd)(n:Int)(w:World)(o:Nat→Nat)(h:BM M fl w o b)(hs:b.s.length<65536)(hm:b.b.length+15≤1048576)(hn: -9223372036854775808≤n∧n≤9223372036854775807):
  Calls Tryz.prog 246 #[.pointer (some ⟨M.β,0,none⟩),Aa Ab n] w (Cq M fl (b.apart 6 (bWidthI n) (bits n)) w o):=by
 have H:=Hd h;have HS:=Hd hs;have HL:=Hd hm;have HY:=Hd (Hp n);have HN:=Hd hn;clear h hs hm hn;go_enter Tryz.func246,Tryz.ntmps246;go_wp2_with fail;go_at_call 220;refine(Ti n _ HN.o).mono ?_;rintro e w1 ⟨rfl,hB⟩;have HB:=Hd hB;clear hB;go_wp2_with fail;go_at_call 333;refine(T9 M fl b (Cf n) 6 _ o (H.o.pure HB.o) HS.o HY.o HL.o).mono ?_;intro e w2 hR;obtain rfl:=hR.1;have HR:=Hd (hR.from_pure HB.o);clear hR;go_wp2;go_end0;exact HR.o
theorem Ac3(M:Bp)(fl:Int)(b:Bd)(u:Nat)(w:World)(o:Nat→Nat)(h:BM M fl w o b)(hs:b.s.length<65536)(hm:b.b.length+15≤1048576)(hu:u<18446744073709551616):
  Calls Tryz.prog 247 #[.pointer (some ⟨M.β,0,none⟩),Aa Ac (u:Int)] w (Cq M fl (b.apart 7 (bWidth u) u) w o):=by
 have H:=Hd h;have HS:=Hd hs;have HL:=Hd hm;have HY:=Hd (E3 u);have HN:=Hd hu;clear h hs hm hu;go_enter Tryz.func247,Tryz.ntmps247;go_wp2_with fail;go_at_call 222;refine(T0 u _ HN.o).mono ?_;rintro e w1 ⟨rfl,hB⟩;have HB:=Hd hB;clear hB;go_wp2_with fail;go_at_call 333;refine(T9 M fl b (Ch u) 7 _ o (H.o.pure HB.o) HS.o HY.o HL.o).mono ?_;intro e w2 hR;obtain rfl:=hR.1;have HR:=Hd (hR.from_pure HB.o);clear hR;go_wp2;go_end0;exact HR.o
attribute [local go_sem] Oper.semAt_some
theorem Ms(n:Nat)(w:World)(hn:n≤1073741824):Calls Tryz.prog 252 #[Aa Ab (n:Int)] w fun e w'=>e= .returned (.bool true)∧w=w':=by
 have h0:(0:Int)≤(n:Int):=by omega
 have h1:(n:Int)≤1073741824:=by omega
 go_enter Tryz.func252,Tryz.ntmps252;go_wp2;go_ret;exact⟨rfl,rfl⟩
theorem J9{W W':World}{row:Option Nat}(hg:W.grownBy W' row)(hr:∀r,row=some r→∃o:Obj,W.heap[r]?=some o∧o.isCells=false){g:Nat}{t:TypeId}{cs:Array Value}(h:Af W g t cs):Af W' g t cs:=(grownBy_keeps_cells hg hr h rfl).trans h
theorem H7{B:Nat}{W W':World}(hb:Below W.heap.size W W'):KeepsFrom B W W':=⟨hb.size,fun k _ _ hk _=>(hb.block k (Array.getElem?_eq_some_iff.1 hk).1).trans hk⟩
theorem Alj{F:Fence}{n:Nat}{P:Program}{c:Code}{Q:Exit→Act→World→Prop}{a:Act}{w:World}(h:∀a0,a0=a→c.wpIn F n P Q a0 w):c.wpIn F n P Q a w:=h a rfl
def Kx:List (Fin 4):=[0,1,2,3]
def Wd(i:Fin 4):Array Value:=#[Aa Ab ((2^i.val:Nat):Int)]
theorem Y6(w:World)(n:Nat)(hn:1≤n):
  SeqStopsK Fence.wide n Tryz.prog 390 #[] Wd (fun _ _=>True) (fun xs=>xs=Kx) (fun pre=>pre<+:Kx) 4 w:=by
 intro l J Jx W hW hJ hJx hY h0;have HJ:=Hd h0;have HY:=Hd hY;clear hW h0 hJ hY hJx;refine callsIn_wide.2 ?_;go_enter Tryz.func390,Tryz.ntmps390;go_wp2_with fail;go_loopw [2] (fun u wr=>∃k:Nat,k≤4∧u= Aa Ab ((2^k:Nat):Int)∧J (Kx.take k) wr) (fun u _=>16-(intOf u).toNat)
 case atStart=>exact⟨0,by omega,rfl,HJ.o⟩
 case round=>
  clear HJ;obtain⟨k,hk,rfl,hJ1⟩:=hrel;have HJ:=Hd hJ1;clear hJ1;obtain rfl|rfl|rfl|rfl|rfl:k=0∨k=1∨k=2∨k=3∨k=4:=by omega
  ·have HJK:=Hd (show J (Kx.take 0) wr from HJ.o);simp only [Nat.reducePow,Int.cast_ofNat_Int];clear HJ;go_upto_region 3 with fail
   obtain⟨fn,tmps,assign,body,hy,hR⟩:=HY.o (Kx.take 0) 0 _ HJK.o (by decide);rw [show Wd 0=#[Aa Ab 1] from rfl] at hy;refine(wpIn_wide (n:=n)).1 ?_
   gi_wp2
   refine hR.mono ?_;rintro e W9 (⟨rfl,hJ9, -⟩|⟨rfl,hJ9⟩)
   ·have HJ9:=Hd hJ9;clear hJ9 hR hy HJK
    gi_wp2
    go_wp2_with fail;go_roundw
    case rel=>exact⟨0+1,by omega,rfl,HJ9.o⟩
    case measure=>simp [intOf]
   ·have HJ9:=Hd hJ9;clear hJ9 hR hy HJK
    gi_wp2
    go_wp2_with fail;refine bodyPost_ret (results_none rfl _ _ _) rfl ?_;exact⟨⟨_,rfl⟩,.inr ⟨[0],by decide,HJ9.o⟩⟩
  ·have HJK:=Hd (show J (Kx.take 1) wr from HJ.o);simp only [Nat.reducePow,Int.cast_ofNat_Int];clear HJ;go_upto_region 3 with fail
   obtain⟨fn,tmps,assign,body,hy,hR⟩:=HY.o (Kx.take 1) 1 _ HJK.o (by decide);rw [show Wd 1=#[Aa Ab 2] from rfl] at hy;refine(wpIn_wide (n:=n)).1 ?_
   gi_wp2
   refine hR.mono ?_;rintro e W9 (⟨rfl,hJ9, -⟩|⟨rfl,hJ9⟩)
   ·have HJ9:=Hd hJ9;clear hJ9 hR hy HJK
    gi_wp2
    go_wp2_with fail;go_roundw
    case rel=>exact⟨1+1,by omega,rfl,HJ9.o⟩
    case measure=>simp [intOf]
   ·have HJ9:=Hd hJ9;clear hJ9 hR hy HJK
    gi_wp2
    go_wp2_with fail;refine bodyPost_ret (results_none rfl _ _ _) rfl ?_;exact⟨⟨_,rfl⟩,.inr ⟨[0,1],by decide,HJ9.o⟩⟩
  ·have HJK:=Hd (show J (Kx.take 2) wr from HJ.o);simp only [Nat.reducePow,Int.cast_ofNat_Int];clear HJ;go_upto_region 3 with fail
   obtain⟨fn,tmps,assign,body,hy,hR⟩:=HY.o (Kx.take 2) 2 _ HJK.o (by decide);rw [show Wd 2=#[Aa Ab 4] from rfl] at hy;refine(wpIn_wide (n:=n)).1 ?_
   gi_wp2
   refine hR.mono ?_;rintro e W9 (⟨rfl,hJ9, -⟩|⟨rfl,hJ9⟩)
   ·have HJ9:=Hd hJ9;clear hJ9 hR hy HJK
    gi_wp2
    go_wp2_with fail;go_roundw
    case rel=>exact⟨2+1,by omega,rfl,HJ9.o⟩
    case measure=>simp [intOf]
   ·have HJ9:=Hd hJ9;clear hJ9 hR hy HJK
    gi_wp2
    go_wp2_with fail;refine bodyPost_ret (results_none rfl _ _ _) rfl ?_;exact⟨⟨_,rfl⟩,.inr ⟨[0,1,2],by decide,HJ9.o⟩⟩
  ·have HJK:=Hd (show J (Kx.take 3) wr from HJ.o);simp only [Nat.reducePow,Int.cast_ofNat_Int];clear HJ;go_upto_region 3 with fail
   obtain⟨fn,tmps,assign,body,hy,hR⟩:=HY.o (Kx.take 3) 3 _ HJK.o (by decide);rw [show Wd 3=#[Aa Ab 8] from rfl] at hy;refine(wpIn_wide (n:=n)).1 ?_
   gi_wp2
   refine hR.mono ?_;rintro e W9 (⟨rfl,hJ9, -⟩|⟨rfl,hJ9⟩)
   ·have HJ9:=Hd hJ9;clear hJ9 hR hy HJK
    gi_wp2
    go_wp2_with fail;go_roundw
    case rel=>exact⟨3+1,by omega,rfl,HJ9.o⟩
    case measure=>simp [intOf]
   ·have HJ9:=Hd hJ9;clear hJ9 hR hy HJK
    gi_wp2
    go_wp2_with fail;refine bodyPost_ret (results_none rfl _ _ _) rfl ?_;exact⟨⟨_,rfl⟩,.inr ⟨[0,1,2,3],by decide,HJ9.o⟩⟩
  ·simp only [Nat.reducePow,Int.cast_ofNat_Int];go_wp2_with fail;go_end0;exact⟨⟨_,rfl⟩,.inl ⟨_,rfl,HJ.o⟩⟩
attribute [local go_sem] Oper.semAt_some
theorem Adx(w:World):Calls Tryz.prog 338 #[] w fun e w'=>e= .returned (.func (.func 390) #[] #[])∧w=w':=by
 go_enter Tryz.func338,Tryz.ntmps338;go_wp2;go_ret;exact⟨rfl,rfl⟩
theorem Abd{f:Nat→Bool}{y:Fin 4}{pre:List (Fin 4)}(hp:pre++ [y]<+:Kx)(h:∀z∈pre,f (2^z.val)=false)(hy:f (2^y.val)=true):leastW f=2^y.val:=by
 unfold leastW;obtain⟨r,hr⟩:=hp;rcases pre with _|⟨a,_|⟨b,_|⟨c,_|⟨d,pre⟩⟩⟩⟩
 ·simp [Kx] at hr;obtain⟨rfl,_⟩:=hr;rw [if_pos (show f 1=true from hy)];rfl
 ·simp [Kx] at hr;obtain⟨rfl,rfl,_⟩:=hr;have h0:f 1=false:=h 0 (by simp);rw [if_neg (by rw [h0];decide),if_pos (show f 2=true from hy)];rfl
 ·simp [Kx] at hr;obtain⟨rfl,rfl,rfl,_⟩:=hr;have h0:f 1=false:=h 0 (by simp);have h1:f 2=false:=h 1 (by simp);rw [if_neg (by rw [h0];decide),if_neg (by rw [h1];decide),if_pos (show f 4=true from hy)];rfl
 ·simp [Kx] at hr;obtain⟨rfl,rfl,rfl,rfl,_⟩:=hr;have h0:f 1=false:=h 0 (by simp);have h1:f 2=false:=h 1 (by simp);have h2:f 4=false:=h 2 (by simp);rw [if_neg (by rw [h0];decide),if_neg (by rw [h1];decide),if_neg (by rw [h2];decide),if_pos (show f 8=true from hy)];rfl
 ·exfalso;have:=congrArg List.length hr;simp [Kx] at this
theorem Ajw{f:Nat→Bool}(h:∀z∈Kx,f (2^z.val)=false):leastW f=0:=by
 unfold leastW;have h0:f 1=false:=h 0 (by decide);have h1:f 2=false:=h 1 (by decide);have h2:f 4=false:=h 2 (by decide);have h3:f 8=false:=h 3 (by decide);rw [h0,h1,h2,h3];rfl
theorem U1(F:Nat)(caps:Array Value)(f:Nat→Bool)(w:World)
  (hF:∀(args:Array Value) (w:World),(callFunc F args).run Tryz.prog w= .ok (.enter F args) w)
  (hf:∀y:Fin 4,∀W,Below w.heap.size w W→Calls Tryz.prog F (#[Aa Ab ((2^y.val:Nat):Int)]++caps) W fun e W'=>e= .returned (.bool (f (2^y.val)))∧Below W.heap.size W W'):
  Calls Tryz.prog 253 #[.func (.func F) #[] caps] w fun e w'=>e= .returned (Aa Ab (leastW f:Nat))∧Below w.heap.size w w':=by
 have HF:=Hd hf;clear hf;refine callsIn_wide.1 (callsIn_of_wp_marks (n:=6) Tryz.func253 rfl trivial (wpIn_wide.2 ?_));simp only [Tryz.ntmps253,List.size_toArray,List.length_cons,List.length_nil,Nat.reduceAdd,Nat.reduceSub,Array.replicate_succ,Array.replicate_zero,List.push_toArray,List.append_toArray,List.nil_append,List.cons_append];have HB:=Hd (show Below w.heap.size w ((w.alloc (.cells #[.func (.func F) #[] caps] 126)).alloc (.cells #[Aa Ab 0] 3)) from((Below.refl _ _).alloc (Ath _) _).alloc (by simp) _);have HX:=Hd ((Af.new w 126 #[.func (.func F) #[] caps]).alloc (.cells #[Aa Ab 0] 3));have HY:=Hd (B5 w (.cells #[.func (.func F) #[] caps] 126) 3 #[Aa Ab 0]);go_wp2_with (go_at_call 338;refine(Adx _).mono ?_;rintro e w' ⟨rfl,rfl⟩);have HN0:=Hd (show w.heap.size≤w.heap.size from Ath _);generalize (w.alloc (.cells #[.func (.func F) #[] caps] 126)).alloc (.cells #[Aa Ab 0] 3)=w1 at HB HX HY⊢;obtain⟨n0,hn0⟩:∃n0,w.heap.size=n0:=⟨_,rfl⟩;have HSL:=Hd (show n0≤n0+1 by omega);rw [hn0] at HB HX HY HF⊢;have HNN:=Hd hn0;have HN1:=Hd (show n0≤w1.heap.size from by rw [←hn0];have:=HB.o.size;omega);generalize n0+1=bY at HSL HY⊢;clear HN0 hn0;refine(wpIn_wide (n:=6)).1 ?_;refine Alj fun a0 ha0=>?_
 refine wpIn_rangeFunc_ownH rfl (by omega) (gf:=390) (lb:=#[]) (by rw [ha0];rfl) trivial (enters_of Tryz.func390 (by kernel_rfl) rfl)
  (Y6 w1 (6-1) (by omega)) (fun _ _=>trivial) (fun _ _ _ _ _ _ _ _=>trivial) (Below.refl _ _) (fun _=>rfl)
  (fun pre W=>(Af W n0 126 #[.func (.func F) #[] caps]∧Af W bY 3 #[Aa Ab 0]∧∀z∈pre,f (2^z.val)=false)∧Below n0 w W)
  (fun c pre W=>(c= .ret∧∃p y,pre=p++ [y]∧(∀z∈p,f (2^z.val)=false)∧f (2^y.val)=true∧Af W bY 3 #[Aa Ab ((2^y.val:Nat):Int)])∧Below n0 w W)
  (OwnFrom.and (fun s A B row hs hg hr=>⟨J9 hg (fun r e=>(hr r e).2) hs.1,J9 hg (fun r e=>(hr r e).2) hs.2.1,hs.2.2⟩) (ownFrom_below (Nat.le_of_eq HNN.o.symm) HN1.o))
  (fun c=>OwnFrom.and (fun s A B row hs hg hr=>by obtain⟨h1,p,y,h2,h3,h4,h5⟩:=hs;exact⟨h1,p,y,h2,h3,h4,J9 hg (fun r e=>(hr r e).2) h5⟩) (ownFrom_below (Nat.le_of_eq HNN.o.symm) HN1.o))
  ⟨⟨HX.o,HY.o,fun i h=>by cases h⟩,HB.o⟩
  (fun x a' W=>a'={ tmps:=(a0.tmps.setIfInBounds 5 (Aa Ab ((2^x.val:Nat):Int))).setIfInBounds 3 (Aa Ab ((2^x.val:Nat):Int)),defers:=[]})
  (fun x a' _ A B row hs hg hr=>hs)
  ?assign ?body ?done ?stop
 case assign=>
  rintro l pre x W K ⟨⟨hX,hY,hall⟩,hB⟩ hK;have HQ:=Hd hK;have HALL:=Hd hall;clear hK hall HX HY HB;subst ha0;unfold Wd;generalize ((2^x.val:Nat):Int)=z at HQ⊢
  gi_wp2
  exact HQ.o _ _ (H7 (Below.refl _ _)) trivial ⟨⟨hX,hY,HALL.o⟩,hB⟩ rfl
 case body=>
  rintro l pre x a' W hl ⟨rr,hrr⟩ ⟨⟨hX,hY,hall⟩,hB⟩ rfl hlt;have HXX:=Hd hX;have HYY:=Hd hY;have HALL:=Hd hall;have HBB:=Hd hB;have x0:W.cell? ⟨n0,0,none⟩=some (.func (.func F) #[] caps):=hX.cell 0;have HC:=Hd (HF.o x W hB);clear hX hY hall hB HX HY HB hlt;subst ha0;obtain⟨z,hz⟩:∃z:Nat,2^x.val=z:=⟨_,rfl⟩;have HZ:=Hd hz;rw [hz] at HC⊢;obtain⟨t,ht⟩:∃t,f z=t:=⟨_,rfl⟩;rw [ht] at HC;have HT:=Hd ht;clear hz ht
  gi_wp2
  refine⟨trivial,(CallsIn.inRound l (callsIn_wide.2 HC.o)).mono ?_⟩;rintro e W3 ⟨rfl,hb⟩;have HB3:=Hd hb;have s0:W3.cell? ⟨bY,0,none⟩=some (Aa Ab 0):=(HYY.o.pure HB3.o).cell 0;have s1:=(HYY.o.pure HB3.o).frozen 0;have HB4:=Hd (Ad HBB.o HB3.o (Nat.le_of_eq HNN.o.symm));clear hb x0;cases t with
  |false=>
   gi_wp2
   refine⟨H7 HB3.o,trivial,⟨HXX.o.pure HB3.o,HYY.o.pure HB3.o,?_⟩,HB4.o⟩;intro j hj;rcases List.mem_append.1 hj with hj|hj
   ·exact HALL.o j hj
   ·rw [List.mem_singleton.1 hj,HZ.o];exact HT.o
  |true=>
   gi_wp2
   exact⟨(H7 HB3.o).trans ((KeepsOthers.setCell _ _ _).from _),⟨rfl,pre,x,rfl,HALL.o,by rw [HZ.o];exact HT.o,by rw [HZ.o];exact(HYY.o.pure HB3.o).set_ 0 _⟩,HB4.o.setCell (p:=⟨bY,0,none⟩) HSL.o _⟩
 case done=>
  rintro D ys W hD rfl ⟨⟨hX,hY,hall⟩,hB⟩ hK;subst ha0;have hz:=Ajw hall;have HZ:=Hd hz;have s0:W.cell? ⟨bY,0,none⟩=some (Aa Ab 0):=hY.cell 0;have s1:=hY.frozen 0;have s2:=hY.set_ 0 (Aa Ab 0);have hK':=(KeepsOthers.setCell W ⟨bY,0,none⟩ (Aa Ab 0)).same D _ hK rfl;clear hz hall hX hY HX HY HB;go_wp2_with fail;refine⟨by simp,.inl ⟨_,_,rfl,run_takeDeferred hK',?_⟩⟩;have hc5:=J9 (grownBy_putObj' _ D (.deferred none)) (fun r e=>by cases e;exact⟨_,hK',rfl⟩) s2;have hc6:_=some (Aa Ab 0):=hc5.cell 0;refine⟨Aa Ab 0,?_,by rw [HZ.o];rfl,?_⟩
  ·simp [results,Tryz.f253,go_sem,hc6]
  ·rw [HNN.o];exact(hB.setCell (p:=⟨bY,0,none⟩) HSL.o _).trans (belowK_b (w:=w) (Nat.le_of_eq HNN.o.symm) _ D _ _ (by have:=HN1.o;have:=HNN.o;omega) hK' rfl rfl)
 case stop=>
  rintro D c pre W hD hpre ⟨⟨rfl,p,y,rfl,hall,hy,hY⟩,hB⟩ hK;have HZ:=Hd (Abd hpre hall hy);subst ha0;clear hall hy HX HY HB hpre
  gi_wp2
  refine⟨by simp,.inl ⟨_,_,rfl,run_takeDeferred hK,?_⟩⟩;have hc5:=J9 (grownBy_putObj' W D (.deferred none)) (fun r e=>by cases e;exact⟨_,hK,rfl⟩) hY;have hc6:_=some (Aa Ab ((2^y.val:Nat):Int)):=hc5.cell 0;refine⟨Aa Ab ((2^y.val:Nat):Int),?_,by rw [HZ.o],?_⟩
  ·simp [results,Tryz.f253,go_sem,hc6]
  ·rw [HNN.o];exact hB.trans (belowK_b (w:=w) (Nat.le_of_eq HNN.o.symm) _ D _ _ (by have:=HN1.o;have:=HNN.o;omega) hK rfl rfl)
end Go.Proofs.YtgbjodnegkbfoaaGreat
