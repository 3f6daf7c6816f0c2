/- Parts of the proof. -/
import Derived.Test.YtgbjodnegkbfoaaGreatQa08
set_option maxHeartbeats 2000000
set_option maxRecDepth 100000
open Go.Value renaming int→Aa
open Go.IntKind renaming i64→Ab,u64→Ac
open Nat renaming le_refl→Ath,zero_le→Atl
open List renaming length_append→Atj,take_of_length_le→Att
namespace Go.Proofs.YtgbjodnegkbfoaaGreat
open Go.RowKit Go.Acc
theorem Gt{w:World}{A:Option Addr}{n:Nat}{vs:List Bv}(h:D9 w A n (vs.map vv)){k:Nat}(hk:k<n):
  ∃b off v,A=some ⟨b,off,none⟩∧vs[k]?=some v∧w.cell? ⟨b,off+k*3,none⟩=some (Aa Ab (v.t:Int))∧w.cell? ⟨b,off+k*3+1,none⟩=some (Aa Ab (v.w:Int))∧w.cell? ⟨b,off+k*3+2,none⟩=some (Aa Ac (v.n:Int)):=by
 obtain⟨b,off,e,hk',h0,h1,h2⟩:=Ajn h hk;have hk2:k<vs.length:=by simpa using hk'
 rw [List.getElem_map] at h0 h1 h2;exact⟨b,off,vs[k],e,List.getElem?_eq_getElem hk2,h0,h1,h2⟩
theorem Hb{w:World}{A:Option Addr}{n:Nat}{vs:List Bv}(h:D9 w A n (vs.map vv)):vs.length=n:=by have:=h.1;simpa using this
theorem L8{a y:Nat}:∀(vs:List Bv) (i k:Nat) (v:Bv),vs[k]?=some v→Du a y i (vs.take (k+1))=(Du a y i (vs.take k)&&Cu v a (i+k) y)
 | [],_,_,_,h=>by simp at h
 |x::r,i,0,v,h=>by
  simp at h;subst h;simp [Du]
 |x::r,i,k+1,v,h=>by
  rw [List.take_succ_cons,List.take_succ_cons,Du,Du,L8 r (i+1) k v (by simpa using h),Bool.and_assoc,show i+1+k=i+(k+1) by omega]
theorem S8{a y:Nat}:∀(vs:List Bv) (i k:Nat) (v:Bv),vs[k]?=some v→Cu v a (i+k) y=false→Du a y i vs=false:=by
 intro vs i k v h hv;cases hf:Du a y i vs with
 |false=>rfl
 |true=>
  have:=Mq vs i k v hf h;rw [hv] at this;cases this
def Jj(ahead:Nat)(kv:Bv):Option Bv:=if ahead=3 then some kv else none
theorem Ah0(kv:Bv)(vs:List Bv)(a ahead y pa pl pk pt n c:Nat)(A:Option Addr)(w:World)(hpa:Af w pa 3 #[Aa Ab (ahead:Int)])(hpl:Af w pl 185 #[.slice A n c])(hpk:Af w pk 210 #[Aa Ab (kv.t:Int),Aa Ab (kv.w:Int),Aa Ac (kv.n:Int)])(hpt:Af w pt 3 #[Aa Ab (a:Int)])
  (hv:D9 w A n (vs.map vv)) (hy:Av (y:Int)=true) (ha:a≤1048576) (hn:n≤1000000) (hah:ahead=0∨ahead=1∨ahead=3):
  Calls Tryz.prog 405 #[Aa Ab (y:Int),.pointer (some ⟨pa,0,none⟩),.pointer (some ⟨pl,0,none⟩),.pointer (some ⟨pk,0,none⟩),.pointer (some ⟨pt,0,none⟩)] w fun e w'=>e= .returned (.bool (I7 a ahead (Jj ahead kv) vs y))∧Below w.heap.size w w':=by
 have HV:=Hd hv;have HY:=Hd hy;have hvl:=Hb hv;have HVL:=Hd hvl;have a0:w.cell? ⟨pa,0,none⟩=some (Aa Ab (ahead:Int)):=hpa.cell 0;have l0:w.cell? ⟨pl,0,none⟩=some (.slice A n c):=hpl.cell 0;have a1:w.cell? ⟨pt,0,none⟩=some (Aa Ab (a:Int)):=hpt.cell 0;obtain ⟨k0,k1,k2⟩:=hpk.c3;have hB:=Below.refl w.heap.size w;have HB:=Hd hB;clear hv hy hB hpa hpl hpk hpt;obtain⟨bw,hbw⟩:∃b,bWidth n=b:=⟨_,rfl⟩;obtain⟨kr,hkr⟩:∃b,Cu kv a 0 y=b:=⟨_,rfl⟩;have HWN:=Hd (show Vr n=(bw:Int) by rw [Vs,hbw]);have HKR:=Hd hkr;have hn64:IntKind.u64.wrap (n:Int)=(n:Int):=B8 _ (by omega);obtain⟨g,hg⟩:∃g,decide (y<bw)=g:=⟨_,rfl⟩;have hg2:decide ((y:Int)<(bw:Int))=g:=by rw [←hg];exact decide_eq_decide.2 (by omega)
 have HG:=Hd (show decide (bWidth vs.length≤y)=!g by rw [hvl,hbw,←hg];by_cases h:y<bw <;>simp [h] <;>omega);clear hvl hbw hkr;obtain⟨z0,hz0⟩:∃z,decide ((0:Int)<(ahead:Int))=z:=⟨_,rfl⟩;obtain⟨z3,hz3⟩:∃z,((ahead:Int)==3)=z:=⟨_,rfl⟩;have hz0':decide (0<ahead)=z0:=by rw [←hz0];exact decide_eq_decide.2 (by omega)
 have HF0:=Hd (show I7 a ahead (Jj ahead kv) vs y=((!z0||!g)&&(!z3||kr)&&Du a y ahead vs) by
  unfold I7 Jj;rw [HG.o,←hz0',←HKR.o]
  congr 1
  congr 1
  ·congr 1
   by_cases h:ahead=0 <;>simp [h] <;>omega
  ·rw [←hz3];by_cases h:ahead=3
   ·subst h;rfl
   ·rw [if_neg h];have:((ahead:Int)==3)=false:=by simp;omega
    rw [this];rfl)
 have HAH:=Hd hah;have hah3:ahead≤3:=by omega
 have HZZ:=Hd (show z0=false→z3=false by rintro rfl;rw [←hz3];have:=of_decide_eq_false hz0;simp;omega);clear hah;cases z0 with
 |false=>
  obtain rfl:=HZZ.o rfl;have HF:=Hd (show I7 a ahead (Jj ahead kv) vs y=Du a y ahead vs from HF0.o);go_enter Tryz.func405,Tryz.ntmps405;go_wp2_with fail;go_loopw [32] (fun u wr=>∃k:Nat,k≤n∧u= Aa Ab k∧Below w.heap.size w wr∧Du a y ahead (vs.take k)=true) (fun u _=>n-(intOf u).toNat)
  case atStart=>exact⟨0,Atl _,rfl,HB.o,rfl⟩
  case round=>
   obtain⟨k,hk,rfl,hbr,hfk⟩:=hrel;have HBR:=Hd hbr;have HFK:=Hd hfk;clear hfk;have q0:=Ag hbr a0;have q1:=Ag hbr a1;have HI:=Hd (HV.o.pure hbr);clear hbr HB a0 a1 l0;by_cases hlt:k<n
   ·obtain⟨g,off,v,rfl,hvk,h0,h1,h2⟩:=Gt HI.o hlt;have HVK:=Hd hvk;obtain⟨j,hj⟩:∃j,ahead+k=j:=⟨_,rfl⟩;have HJ:=Hd hj;have HJ2:=Hd (show j≤1048576 by omega);have hj2:=HJ2.o;have e1:(ahead:Int)+(k:Int)=(j:Int):=by omega
    have hj0:(0:Int)≤(j:Int):=by omega
    have hj3:(j:Int)≤1048576:=by omega
    have hk0:(0:Int)≤(k:Int):=by omega
    have hkn:(k:Int)<(n:Int):=by omega
    obtain⟨r,hr⟩:∃r,Cu v a j y=r:=⟨_,rfl⟩;have HR:=Hd hr;clear hvk hj hr;have HB2:=Hd (HBR.o.alloc HBR.o.size (.cells #[Aa Ab (v.t:Int),Aa Ab (v.w:Int),Aa Ac (v.n:Int)] 210));have q0':=Al (.cells #[Aa Ab (v.t:Int),Aa Ab (v.w:Int),Aa Ac (v.n:Int)] 210) q0;have q1':=Al (.cells #[Aa Ab (v.t:Int),Aa Ab (v.w:Int),Aa Ac (v.n:Int)] 210) q1;cases r with
    |true=>
     go_wp2_with fail;go_at_call 255;refine(Hr v a j y true _ HY.o ha (by have:=HJ2.o;omega) HR.o).mono ?_;rintro e w3 ⟨rfl,hb3⟩;have HB3:=Hd (Ad HB2.o hb3);clear hb3 q0 q1 q0' q1' h0 h1 h2;go_wp2_with fail;go_roundw
     case rel=>exact⟨k+1,by omega,by go_num,HB3.o,by rw [L8 vs ahead k v HVK.o,HFK.o,HJ.o,HR.o];rfl⟩
     case measure=>simp [intOf];omega
    |false=>
     go_wp2_with fail;go_at_call 255;refine(Hr v a j y false _ HY.o ha (by have:=HJ2.o;omega) HR.o).mono ?_;rintro e w3 ⟨rfl,hb3⟩;have HB3:=Hd (Ad HB2.o hb3);clear hb3 q0 q1 q0' q1' h0 h1 h2;go_wp2_with fail;go_ret;exact⟨by rw [HF.o,S8 vs ahead k v HVK.o (by rw [HJ.o];exact HR.o)];rfl,HB3.o⟩
   ·have hd1:decide ((k:Int)<(n:Int))=false:=decide_eq_false (by omega);have hd2:decide (k<n)=false:=decide_eq_false (by omega);have HE:=Hd (show Du a y ahead vs=true by rw [←HFK.o,Att (by have:=HVL.o;omega)]);clear q0 q1;go_wp2_with fail;go_ret;exact⟨by rw [HF.o,HE.o];rfl,HBR.o⟩
 |true=>
  cases g with
  |true=>
   have HF:=Hd (show I7 a ahead (Jj ahead kv) vs y=false from HF0.o);go_enter Tryz.func405,Tryz.ntmps405;go_wp2_with fail;go_at_call 54;refine(Lr n bw _ (by omega) HWN.o).mono ?_;rintro e w' ⟨rfl,rfl⟩;go_wp2_with fail;go_ret;exact⟨by rw [HF.o];rfl,HB.o⟩
  |false=>
   cases z3 with
   |false=>
    have HF:=Hd (show I7 a ahead (Jj ahead kv) vs y=Du a y ahead vs from HF0.o);go_enter Tryz.func405,Tryz.ntmps405;go_wp2_with fail;go_at_call 54;refine(Lr n bw _ (by omega) HWN.o).mono ?_;rintro e w' ⟨rfl,rfl⟩;go_wp2_with fail;go_loopw [32] (fun u wr=>∃k:Nat,k≤n∧u= Aa Ab k∧Below w.heap.size w wr∧Du a y ahead (vs.take k)=true) (fun u _=>n-(intOf u).toNat)
    case atStart=>exact⟨0,Atl _,rfl,HB.o,rfl⟩
    case round=>
     obtain⟨k,hk,rfl,hbr,hfk⟩:=hrel;have HBR:=Hd hbr;have HFK:=Hd hfk;clear hfk;have q0:=Ag hbr a0;have q1:=Ag hbr a1;have HI:=Hd (HV.o.pure hbr);clear hbr HB a0 a1 l0;by_cases hlt:k<n
     ·obtain⟨g,off,v,rfl,hvk,h0,h1,h2⟩:=Gt HI.o hlt;have HVK:=Hd hvk;obtain⟨j,hj⟩:∃j,ahead+k=j:=⟨_,rfl⟩;have HJ:=Hd hj;have HJ2:=Hd (show j≤1048576 by omega);have hj2:=HJ2.o;have e1:(ahead:Int)+(k:Int)=(j:Int):=by omega
      have hj0:(0:Int)≤(j:Int):=by omega
      have hj3:(j:Int)≤1048576:=by omega
      have hk0:(0:Int)≤(k:Int):=by omega
      have hkn:(k:Int)<(n:Int):=by omega
      obtain⟨r,hr⟩:∃r,Cu v a j y=r:=⟨_,rfl⟩;have HR:=Hd hr;clear hvk hj hr;have HB2:=Hd (HBR.o.alloc HBR.o.size (.cells #[Aa Ab (v.t:Int),Aa Ab (v.w:Int),Aa Ac (v.n:Int)] 210));have q0':=Al (.cells #[Aa Ab (v.t:Int),Aa Ab (v.w:Int),Aa Ac (v.n:Int)] 210) q0;have q1':=Al (.cells #[Aa Ab (v.t:Int),Aa Ab (v.w:Int),Aa Ac (v.n:Int)] 210) q1;cases r with
      |true=>
       go_wp2_with fail;go_at_call 255;refine(Hr v a j y true _ HY.o ha (by have:=HJ2.o;omega) HR.o).mono ?_;rintro e w3 ⟨rfl,hb3⟩;have HB3:=Hd (Ad HB2.o hb3);clear hb3 q0 q1 q0' q1' h0 h1 h2;go_wp2_with fail;go_roundw
       case rel=>exact⟨k+1,by omega,by go_num,HB3.o,by rw [L8 vs ahead k v HVK.o,HFK.o,HJ.o,HR.o];rfl⟩
       case measure=>simp [intOf];omega
      |false=>
       go_wp2_with fail;go_at_call 255;refine(Hr v a j y false _ HY.o ha (by have:=HJ2.o;omega) HR.o).mono ?_;rintro e w3 ⟨rfl,hb3⟩;have HB3:=Hd (Ad HB2.o hb3);clear hb3 q0 q1 q0' q1' h0 h1 h2;go_wp2_with fail;go_ret;exact⟨by rw [HF.o,S8 vs ahead k v HVK.o (by rw [HJ.o];exact HR.o)];rfl,HB3.o⟩
     ·have hd1:decide ((k:Int)<(n:Int))=false:=decide_eq_false (by omega);have hd2:decide (k<n)=false:=decide_eq_false (by omega);have HE:=Hd (show Du a y ahead vs=true by rw [←HFK.o,Att (by have:=HVL.o;omega)]);clear q0 q1;go_wp2_with fail;go_ret;exact⟨by rw [HF.o,HE.o];rfl,HBR.o⟩
   |true=>
    cases kr with
    |false=>
     have HF:=Hd (show I7 a ahead (Jj ahead kv) vs y=false from HF0.o);go_enter Tryz.func405,Tryz.ntmps405;go_wp2_with fail;go_at_call 54;refine(Lr n bw _ (by omega) HWN.o).mono ?_;rintro e w' ⟨rfl,rfl⟩;go_wp2_with fail;go_at_call 255;refine(Hr kv a 0 y false _ HY.o ha (by omega) HKR.o).mono ?_;rintro e w' ⟨rfl,hb⟩;have HB2:=Hd (Ad HB.o hb);clear hb;go_wp2_with fail;go_ret;exact⟨by rw [HF.o];rfl,HB2.o⟩
    |true=>
     have HF:=Hd (show I7 a ahead (Jj ahead kv) vs y=Du a y ahead vs from HF0.o);go_enter Tryz.func405,Tryz.ntmps405;go_wp2_with fail;go_at_call 54;refine(Lr n bw _ (by omega) HWN.o).mono ?_;rintro e w' ⟨rfl,rfl⟩;go_wp2_with fail;go_at_call 255;refine(Hr kv a 0 y true _ HY.o ha (by omega) HKR.o).mono ?_;rintro e w2 ⟨rfl,hb⟩;replace HB:=Hd (Ad HB.o hb);have l0':=Ag hb l0;clear hb k0 k1 k2;go_wp2_with fail;go_loopw [32] (fun u wr=>∃k:Nat,k≤n∧u= Aa Ab k∧Below w.heap.size w wr∧Du a y ahead (vs.take k)=true) (fun u _=>n-(intOf u).toNat)
     case atStart=>exact⟨0,Atl _,rfl,HB.o,rfl⟩
     case round=>
      obtain⟨k,hk,rfl,hbr,hfk⟩:=hrel;have HBR:=Hd hbr;have HFK:=Hd hfk;clear hfk;have q0:=Ag hbr a0;have q1:=Ag hbr a1;have HI:=Hd (HV.o.pure hbr);clear hbr HB a0 a1 l0;by_cases hlt:k<n
      ·obtain⟨g,off,v,rfl,hvk,h0,h1,h2⟩:=Gt HI.o hlt;have HVK:=Hd hvk;obtain⟨j,hj⟩:∃j,ahead+k=j:=⟨_,rfl⟩;have HJ:=Hd hj;have HJ2:=Hd (show j≤1048576 by omega);have hj2:=HJ2.o;have e1:(ahead:Int)+(k:Int)=(j:Int):=by omega
       have hj0:(0:Int)≤(j:Int):=by omega
       have hj3:(j:Int)≤1048576:=by omega
       have hk0:(0:Int)≤(k:Int):=by omega
       have hkn:(k:Int)<(n:Int):=by omega
       obtain⟨r,hr⟩:∃r,Cu v a j y=r:=⟨_,rfl⟩;have HR:=Hd hr;clear hvk hj hr;have HB2:=Hd (HBR.o.alloc HBR.o.size (.cells #[Aa Ab (v.t:Int),Aa Ab (v.w:Int),Aa Ac (v.n:Int)] 210));have q0':=Al (.cells #[Aa Ab (v.t:Int),Aa Ab (v.w:Int),Aa Ac (v.n:Int)] 210) q0;have q1':=Al (.cells #[Aa Ab (v.t:Int),Aa Ab (v.w:Int),Aa Ac (v.n:Int)] 210) q1;cases r with
       |true=>
        go_wp2_with fail;go_at_call 255;refine(Hr v a j y true _ HY.o ha (by have:=HJ2.o;omega) HR.o).mono ?_;rintro e w3 ⟨rfl,hb3⟩;have HB3:=Hd (Ad HB2.o hb3);clear hb3 q0 q1 q0' q1' h0 h1 h2;go_wp2_with fail;go_roundw
        case rel=>exact⟨k+1,by omega,by go_num,HB3.o,by rw [L8 vs ahead k v HVK.o,HFK.o,HJ.o,HR.o];rfl⟩
        case measure=>simp [intOf];omega
       |false=>
        go_wp2_with fail;go_at_call 255;refine(Hr v a j y false _ HY.o ha (by have:=HJ2.o;omega) HR.o).mono ?_;rintro e w3 ⟨rfl,hb3⟩;have HB3:=Hd (Ad HB2.o hb3);clear hb3 q0 q1 q0' q1' h0 h1 h2;go_wp2_with fail;go_ret;exact⟨by rw [HF.o,S8 vs ahead k v HVK.o (by rw [HJ.o];exact HR.o)];rfl,HB3.o⟩
      ·have hd1:decide ((k:Int)<(n:Int))=false:=decide_eq_false (by omega);have hd2:decide (k<n)=false:=decide_eq_false (by omega);have HE:=Hd (show Du a y ahead vs=true by rw [←HFK.o,Att (by have:=HVL.o;omega)]);clear q0 q1;go_wp2_with fail;go_ret;exact⟨by rw [HF.o,HE.o];rfl,HBR.o⟩
theorem S3(kv:Bv)(vs:List Bv)(a ahead n c:Nat)(A:Option Addr)(w:World)(hv:D9 w A n (vs.map vv))(ha:a≤1048576)(hn:n≤1000000)(hah:ahead=0∨ahead=1∨ahead=3):
  Calls Tryz.prog 379 #[Aa Ab (a:Int),Aa Ab (ahead:Int),.agg #[Aa Ab (kv.t:Int),Aa Ab (kv.w:Int),Aa Ac (kv.n:Int)],.slice A n c] w fun e w'=>e= .returned (Aa Ab (B3 a ahead (Jj ahead kv) vs:Nat))∧Below w.heap.size w w':=by
 have hB:Below w.heap.size w ((((w.alloc (.cells #[Aa Ab (a:Int)] 3)).alloc (.cells #[Aa Ab (ahead:Int)] 3)).alloc (.cells #[Aa Ab (kv.t:Int),Aa Ab (kv.w:Int),Aa Ac (kv.n:Int)] 210)).alloc (.cells #[.slice A n c] 185)):=((((Below.refl _ _).alloc (Ath _) _).alloc (by simp) _).alloc (by simp;omega) _).alloc (by simp;omega) _;have HB:=Hd hB;have HV:=Hd (hv.pure hB);have HT:=Hd ((((Af.new w 3 #[Aa Ab (a:Int)]).alloc (.cells #[Aa Ab (ahead:Int)] 3)).alloc (.cells #[Aa Ab (kv.t:Int),Aa Ab (kv.w:Int),Aa Ac (kv.n:Int)] 210)).alloc (.cells #[.slice A n c] 185));have HA:=Hd (((B5 w (.cells #[Aa Ab (a:Int)] 3) 3 #[Aa Ab (ahead:Int)]).alloc (.cells #[Aa Ab (kv.t:Int),Aa Ab (kv.w:Int),Aa Ac (kv.n:Int)] 210)).alloc (.cells #[.slice A n c] 185));have HK:=Hd ((K1 w (.cells #[Aa Ab (a:Int)] 3) (.cells #[Aa Ab (ahead:Int)] 3) 210 #[Aa Ab (kv.t:Int),Aa Ab (kv.w:Int),Aa Ac (kv.n:Int)]).alloc (.cells #[.slice A n c] 185));have HL:=Hd (Af.new_ (w:=((w.alloc (.cells #[Aa Ab (a:Int)] 3)).alloc (.cells #[Aa Ab (ahead:Int)] 3)).alloc (.cells #[Aa Ab (kv.t:Int),Aa Ab (kv.w:Int),Aa Ac (kv.n:Int)] 210)) (g:=w.heap.size+1+1+1) (by simp) 185 #[.slice A n c]);obtain⟨r,hr⟩:∃r,B3 a ahead (Jj ahead kv) vs=r:=⟨_,rfl⟩;rw [hr];have HR:=Hd hr;have HAH:=Hd hah;have hn2:(n:Int)≤1048576:=by omega
 obtain⟨z0,hz0⟩:∃z,((ahead:Int) != 0)=z:=⟨_,rfl⟩;obtain⟨z1,hz1⟩:∃z,((ahead:Int) != 1)=z:=⟨_,rfl⟩;obtain⟨z3,hz3⟩:∃z,((ahead:Int) != 3)=z:=⟨_,rfl⟩;have hz:(z0&&(z1&&z3))=false:=by rw [←hz0,←hz1,←hz3];rcases hah with rfl|rfl|rfl <;>rfl
 have HZ:=Hd hz;clear hB hv hr hah hz;cases z0
 all_goals
  cases z1
  all_goals
   cases z3
   all_goals
    first
    |(exact absurd HZ.o (by decide))
    |skip
 all_goals
  go_enter Tryz.func379,Tryz.ntmps379;go_wp2_with fail;go_at_call 252;refine(Ms a _ (by omega)).mono ?_;rintro e w' ⟨rfl,rfl⟩;go_wp2_with fail;go_at_call 253;generalize ((((w.alloc (.cells #[Aa Ab (a:Int)] 3)).alloc (.cells #[Aa Ab (ahead:Int)] 3)).alloc (.cells #[Aa Ab (kv.t:Int),Aa Ab (kv.w:Int),Aa Ac (kv.n:Int)] 210)).alloc (.cells #[.slice A n c] 185))=w1 at HB HV HT HA HK HL⊢;generalize w.heap.size+1+1+1=pl at HL⊢;generalize w.heap.size+1+1=pk at HK⊢;generalize w.heap.size+1=pa at HA⊢;have HF:=fun(y:Fin 4) (W:World) (hW:Below w1.heap.size w1 W)=>Ah0 kv vs a ahead (2^y.val) pa pl pk w.heap.size n c A W (HA.o.pure hW) (HL.o.pure hW) (HK.o.pure hW) (HT.o.pure hW) (HV.o.pure hW) (Aeq y) ha hn HAH.o
  refine(U1 405 #[.pointer (some ⟨pa,0,none⟩),.pointer (some ⟨pl,0,none⟩),.pointer (some ⟨pk,0,none⟩),.pointer (some ⟨w.heap.size,0,none⟩)] (I7 a ahead (Jj ahead kv) vs) w1 Tryz.call405 HF).mono ?_;rw [show leastW (I7 a ahead (Jj ahead kv) vs)=r from HR.o];rintro e w' ⟨rfl,hb⟩;have HB2:=Hd (Ad HB.o hb);clear hb;go_wp2_with fail;go_ret;exact⟨rfl,HB2.o⟩
theorem S1(v:Bv)(w:World)(hl:Be (v.t:Int)=true)(hw:Av (v.w:Int)=true):Calls Tryz.prog 400 #[.agg #[Aa Ab (v.t:Int),Aa Ab (v.w:Int),Aa Ac (v.n:Int)]] w fun e w'=>e= .returned (Aa Ab 0)∧Below w.heap.size w w':=by
 have HB:=Hd (show Below w.heap.size w (w.alloc (.cells #[Aa Ab (v.t:Int),Aa Ab (v.w:Int),Aa Ac (v.n:Int)] 210)) from(Below.refl _ _).alloc (Ath _) _);have HX:=Hd (Af.new w 210 #[Aa Ab (v.t:Int),Aa Ab (v.w:Int),Aa Ac (v.n:Int)]);have HL:=Hd hl;have HW:=Hd hw;clear hl hw;go_enter Tryz.func400,Tryz.ntmps400;go_wp2_with fail;go_at_call 53;refine(Md (v.w:Int) _ HW.o).mono ?_;rintro e w' ⟨⟨c,rfl⟩,rfl⟩;go_wp2_with fail;go_at_call 111;refine(Gw (v.t:Int) _).mono ?_;rw [HL.o];rintro e w1 ⟨rfl,hb⟩;have HB1:=Hd (Ad HB.o hb);have HX1:=Hd (HX.o.pure hb);have x0:w1.cell? ⟨w.heap.size,0,none⟩=some (Aa Ab (v.t:Int)):=HX1.o.cell 0;clear hb;go_wp2_with fail;go_at_call 90;refine(Ce (v.t:Int) _).mono ?_;obtain⟨iv,hiv⟩:∃x,An (v.t:Int)=x:=⟨_,rfl⟩;rw [hiv];rintro e w2 ⟨rfl,hb⟩;have HB2:=Hd (Ad HB1.o hb);clear hb x0 hiv;cases iv with
 |true=>
  go_wp2_with fail;go_ret;exact⟨rfl,HB2.o⟩
 |false=>
  go_wp2_with fail;go_ret;exact⟨rfl,HB2.o⟩
theorem N1(w:Nat):∀(vs:List Bv) (k:Nat) (v:Bv) (l:List UInt8),vs[k]?=some v→Bn w l (vs.take (k+1))=Bn w l (vs.take k)++Ai w (B9 w (l.length+k*w) v)
 | [],_,_,_,h=>by simp at h
 |x::r,0,v,l,h=>by
  simp at h;subst h;simp [Bn]
 |x::r,k+1,v,l,h=>by
  rw [List.take_succ_cons,List.take_succ_cons,Bn,Bn,N1 w r k v _ (by simpa using h),Atj,Aj]
  congr 3
  rw [Nat.succ_mul];omega
theorem Lg(w:Nat)(vs:List Bv)(l:List UInt8):(Bn w l vs).length=l.length+vs.length*w:=by
 obtain⟨m,e,h⟩:=D3 w vs l;rw [e,Atj,h,Nat.mul_comm]
theorem Alg(n y:Nat)(w:World)(hy:Av (y:Int)=true):
  Calls Tryz.prog 406 #[Aa Ac (n:Int),Aa Ab (y:Int)] w fun e w'=>e= .returned (Aa Ac ((n % 2^(8*y):Nat):Int))∧w=w':=by
 rcases C8 hy with rfl|rfl|rfl|rfl
 ·have HL:=Hd (show IntKind.u64.wrap ((n:Int)*72057594037927936)/72057594037927936=((n % 2^(8*1):Nat):Int) from Gk n 8 (by omega));clear hy;go_enter Tryz.func406,Tryz.ntmps406;go_wp2_with fail;go_ret;exact⟨He HL.o,rfl⟩
 ·have HL:=Hd (show IntKind.u64.wrap ((n:Int)*281474976710656)/281474976710656=((n % 2^(8*2):Nat):Int) from Gk n 16 (by omega));clear hy;go_enter Tryz.func406,Tryz.ntmps406;go_wp2_with fail;go_ret;exact⟨He HL.o,rfl⟩
 ·have HL:=Hd (show IntKind.u64.wrap ((n:Int)*4294967296)/4294967296=((n % 2^(8*4):Nat):Int) from Gk n 32 (by omega));clear hy;go_enter Tryz.func406,Tryz.ntmps406;go_wp2_with fail;go_ret;exact⟨He HL.o,rfl⟩
 ·have HL:=Hd (show IntKind.u64.wrap (n:Int)=((n % 2^(8*8):Nat):Int) by have h:=Gk n 64 (by omega);simpa using h);clear hy;go_enter Tryz.func406,Tryz.ntmps406;go_wp2_with fail;go_ret;exact⟨He HL.o,rfl⟩
theorem Lt(b y n c:Nat)(A:Option Addr)(vs:List Bv)(l:List UInt8)(w:World)(o:Nat→Nat)(h:Co w o b l)(hv:D9 w A n (vs.map vv))(ho:∀ad,A=some ad→o ad.block≠1)(hy:Av (y:Int)=true)
  (hE:∀(i:Nat) v,vs[i]?=some v→inl v.t=false→v.n≤l.length+i*y∧l.length+i*y-v.n<2^(8*y)) (hm:l.length+vs.length*y≤1048576) (hn:n≤1000000):
  Calls Tryz.prog 380 #[.pointer (some ⟨b,0,none⟩),Aa Ab (y:Int),.slice A n c] w (Di w o b (Bn y l vs)):=by
 have H:=Hd h;have HV:=Hd hv;have HOO:=Hd ho;have HY:=Hd hy;have HE:=Hd hE;have HM:=Hd hm;have HVL:=Hd (Hb hv);clear h hv ho hE hm hy;go_enter Tryz.func380,Tryz.ntmps380;go_wp2_with fail;go_loopw [10] (fun u wr=>∃k:Nat,k≤n∧u= Aa Ab k∧∃o',Co wr o' b (Bn y l (vs.take k))∧To (fun i=>i=1) w o wr o'∧D9 wr A n (vs.map vv)∧∀ad,A=some ad→o' ad.block≠1) (fun u _=>n-(intOf u).toNat)
 case atStart=>exact⟨0,Atl _,rfl,o,by rw [List.take_zero];exact H.o,To.refl _ _ _,HV.o,HOO.o⟩
 case round=>
  obtain⟨k,hk,rfl,o',hb,ht,hvr,hor⟩:=hrel;have HBR:=Hd hb;have HTR:=Hd ht;have HVR:=Hd hvr;have HOR:=Hd hor;clear H HV HOO hb ht hvr hor;by_cases hlt:k<n
  ·obtain⟨g,off,v,rfl,hvk,h0,h1,h2⟩:=Gt HVR.o hlt;have HLT:=Hd (show g<wr.heap.size from Ar h0);have HT:=Hd (N1 y vs k v l hvk);obtain⟨m,hml⟩:∃m,l.length+k*y=m:=⟨_,rfl⟩;have hme:(Bn y l (vs.take k)).length=m:=by rw [Lg,List.length_take,HVL.o,Nat.min_eq_left (by omega)];exact hml
   have hmy:m+y≤1048576:=by
    have h3:=HM.o;rw [HVL.o] at h3;have h4:(k+1)*y≤n*y:=Nat.mul_le_mul_right y (by omega);rw [Nat.succ_mul] at h4;omega
   have hEk:=HE.o k v hvk;rw [hml] at hEk;obtain⟨q,hq⟩:∃q,B9 y m v=q:=⟨_,rfl⟩;rw [hml,hq] at HT;have HMY:=Hd (show(Bn y l (vs.take k)).length+y≤1048576 by rw [hme];exact hmy);have HME:=Hd hme;have HQ:=Hd hq;have HEK:=Hd hEk;have hk0:(0:Int)≤(k:Int):=by omega
   have hkn:(k:Int)<(n:Int):=by omega
   have hmb:m≤1048576:=by omega
   have hBA:=(Below.refl wr.heap.size wr).alloc (Ath _) (.cells #[Aa Ab (v.t:Int),Aa Ab (v.w:Int),Aa Ac (v.n:Int)] 210);have HBA:=Hd hBA;have HBF:=Hd (HBR.o.fresh hBA 0);have HXA:=Hd (Af.new wr 210 #[Aa Ab (v.t:Int),Aa Ab (v.w:Int),Aa Ac (v.n:Int)]);have HX0:=Hd (show Ak o' wr.heap.size 0 wr.heap.size=0 from Am (Ath _));have HTA0:=Hd (To.fresh (fun i=>i=1) hBA o' 0);obtain⟨iv,hiv⟩:∃x,An (v.t:Int)=x:=⟨_,rfl⟩;have HIV:=Hd hiv;clear hml hme hmy hvk hEk hq hBA hiv;go_wp2_with fail;go_at_call 90;generalize wr.alloc (.cells #[Aa Ab (v.t:Int),Aa Ab (v.w:Int),Aa Ac (v.n:Int)] 210)=wa at HBA HBF HXA HTA0⊢;generalize Ak o' wr.heap.size 0=oa at HBF HX0 HTA0;refine(Ce (v.t:Int) _).mono ?_;rw [HIV.o];rintro e w2 ⟨rfl,hb⟩;have HTA:=Hd (HTA0.o.trans (To.pure _ hb oa));have HB2:=Hd (HBF.o.pure hb);have HX2:=Hd (HXA.o.pure hb);have x2:w2.cell? ⟨wr.heap.size,2,none⟩=some (Aa Ac (v.n:Int)):=HX2.o.cell 2;clear hb h0 h1 h2 HTA0 HBF HXA;cases iv with
   |true=>
    have hin:inl v.t=true:=HIV.o;have HQ2:=Hd (show v.n % 2^(8*y)=q by rw [←HQ.o];unfold B9;rw [if_pos hin]);have hvl:=Alg v.n y w2 HY.o;rw [HQ2.o] at hvl;have HVLW:=Hd hvl;have HFQ:=Hd (show D4 y q=true by rw [←HQ2.o];exact Ji _ _);have HLQ:=Hd (show(q:Int)<18446744073709551616 by rw [←HQ2.o];exact M3 _ HY.o);clear hin hvl;go_wp2_with fail;go_at_call 406;refine HVLW.o.mono ?_;rintro e w' ⟨rfl,rfl⟩;clear x2;go_wp2_with fail;go_at_call 163;refine(Ef b y q _ _ _ HB2.o HY.o HFQ.o HLQ.o HMY.o).mono ?_;rintro e w4 ⟨rfl,o4,hB4,hT4⟩;have HB4:=Hd (show Co w4 o4 b (Bn y l (vs.take (k+1))) by rw [HT.o];exact hB4);have HT4:=Hd ((HTA.o).trans hT4);have HV4:=Hd (HVR.o.fr (HT4.o).fr (fun ad h=>HOR.o ad h));have HO4:=Hd (show ∀ad,(some ⟨g,off,none⟩:Option Addr)=some ad→o4 ad.block≠1 from fun ad h=>by
     rw [HT4.o.ow ad.block (by injection h with h;subst h;exact HLT.o)];exact HOR.o ad h)
    clear hB4 hT4;go_wp2_with fail;go_roundw
    case rel=>exact⟨k+1,by omega,by go_num,o4,HB4.o,HTR.o.trans HT4.o,HV4.o,HO4.o⟩
    case measure=>simp [intOf];omega
   |false=>
    have hin:inl v.t=false:=HIV.o;obtain⟨hle,hfit⟩:=HEK.o hin;have hne:¬inl v.t=true:=by rw [hin];decide
    have hq2:m-v.n=q:=by rw [←HQ.o];unfold B9;rw [if_neg hne]
    have HFQ:=Hd (show D4 y q=true from decide_eq_true (.inr (by rw [←hq2];exact hfit)));have HLQ:=Hd (show(q:Int)<18446744073709551616 by omega);have e1:IntKind.u64.wrap (m:Int)=m:=B8 _ (by omega);have e2:(m:Int)-(v.n:Int)=q:=by omega
    have e3:IntKind.u64.wrap (q:Int)=q:=B8 _ (by omega);clear hin hle hfit hne hq2;go_wp2_with fail;go_region_held3 (fun w'=>w'.cell? ⟨wr.heap.size,2,none⟩=some (Aa Ac (v.n:Int))) (first|with_reducible exact x2|with_reducible exact Ae x2|with_reducible exact Df _ x2|with_reducible exact y2) (first|(go_at_call 159;(with_reducible refine(Dg m (HB2.o.pure (Below.refl _ _).drew) HME.o).mono ?_);rintro e w' ⟨rfl,rfl⟩)|(go_at_call 163;(with_reducible refine(Ef b y q _ _ _ (HB2.o.pure (Below.refl _ _).drew) HY.o HFQ.o HLQ.o HMY.o).mono ?_);rintro e w4 ⟨rfl,o4,hB4,hT4⟩;have y2:w4.cell? ⟨wr.heap.size,2,none⟩=some (Aa Ac (v.n:Int)):=(HX2.o.to_ (To.from_drew hT4) (by rw [HX0.o];omega)).cell 2;have HRAW:=Hd (And.intro hB4 (To.from_drew hT4));clear hB4 hT4));obtain⟨hB4,hT4⟩:=HRAW.o;have HB4:=Hd (show Co w4 o4 b (Bn y l (vs.take (k+1))) by rw [HT.o];exact hB4);have HT4:=Hd ((HTA.o).trans hT4);have HV4:=Hd (HVR.o.fr (HT4.o).fr (fun ad h=>HOR.o ad h));have HO4:=Hd (show ∀ad,(some ⟨g,off,none⟩:Option Addr)=some ad→o4 ad.block≠1 from fun ad h=>by
     rw [HT4.o.ow ad.block (by injection h with h;subst h;exact HLT.o)];exact HOR.o ad h)
    clear hB4 hT4 x2 y2 e1 e2 e3;go_wp2_with fail;go_roundw
    case rel=>exact⟨k+1,by omega,by go_num,o4,HB4.o,HTR.o.trans HT4.o,HV4.o,HO4.o⟩
    case measure=>simp [intOf];omega
  ·have hd1:decide ((k:Int)<(n:Int))=false:=decide_eq_false (by omega);have hd2:decide (k<n)=false:=decide_eq_false (by omega);have HE2:=Hd (show vs.take k=vs from Att (by have:=HVL.o;omega));go_wp2_with fail;go_end0;exact⟨rfl,o',by have h:=HBR.o;rw [HE2.o] at h;exact h,HTR.o⟩
theorem Pp(W:World)(t:UInt8):Cw (W.alloc (.cells #[.int .u8 (t.toNat:Int)] 5)) (some ⟨W.heap.size,0,none⟩) 1 [t]:=by
 refine⟨rfl,fun j u hu=>⟨_,_,rfl,?_⟩⟩;rw [Nat.zero_add,(Af.new W _ _).cell j];simpa [bc] using hu
structure Afp(b g0:Nat)(l:List UInt8)(v:Bv)(w:World)(o:Nat→Nat):Prop where
 m:Co w o b l
 x:Af w g0 210 #[Aa Ab (v.t:Int),Aa Ab (v.w:Int),Aa Ac (v.n:Int)]
 ox:o g0=0
theorem Ak7(b y n c:Nat)(A:Option Addr)(vs:List Bv)(l:List UInt8)(w:World)(o:Nat→Nat)(h:Co w o b l)(hv:D9 w A n (vs.map vv))(ho:∀ad,A=some ad→o ad.block≠1)(hy:Av (y:Int)=true)
  (hE:∀(i:Nat) v,vs[i]?=some v→Be (v.t:Int)=true∧Av (v.w:Int)=true) (hm:l.length+vs.length≤1048576) (hn:n≤1000000):
  Calls Tryz.prog 401 #[.pointer (some ⟨b,0,none⟩),Aa Ab (y:Int),.slice A n c] w (Di w o b (l++vs.map (C3 y))):=by
 have H:=Hd h;have HV:=Hd hv;have HOO:=Hd ho;have HY:=Hd hy;have HE:=Hd hE;have HM:=Hd hm;have HVL:=Hd (Hb hv);clear h hv ho hE hm hy;go_enter Tryz.func401,Tryz.ntmps401;go_wp2_with fail;go_loopw [13] (fun u wr=>∃k:Nat,k≤n∧u= Aa Ab k∧∃o',Co wr o' b (l++(vs.take k).map (C3 y))∧To (fun i=>i=1) w o wr o'∧D9 wr A n (vs.map vv)∧∀ad,A=some ad→o' ad.block≠1) (fun u _=>n-(intOf u).toNat)
 case atStart=>exact⟨0,Atl _,rfl,o,by simpa using H.o,To.refl _ _ _,HV.o,HOO.o⟩
 case round=>
  obtain⟨k,hk,rfl,o',hb,ht,hvr,hor⟩:=hrel;have HBR:=Hd hb;have HTR:=Hd ht;have HVR:=Hd hvr;have HOR:=Hd hor;clear H HV HOO hb ht hvr hor;by_cases hlt:k<n
  ·obtain⟨g,off,v,rfl,hvk,h0,h1,h2⟩:=Gt HVR.o hlt;have HLT:=Hd (show g<wr.heap.size from Ar h0);have HTK:=Hd (show l++(vs.take (k+1)).map (C3 y)=(l++(vs.take k).map (C3 y))++ [C3 y v] by
    obtain⟨q1,q2⟩:=List.getElem?_eq_some_iff.1 hvk;rw [List.take_succ_eq_append_getElem q1,q2,List.map_append,←List.append_assoc];rfl)
   obtain⟨hlg,hww⟩:=HE.o k v hvk;obtain⟨lk,hlk⟩:∃x,l++(vs.take k).map (C3 y)=x:=⟨_,rfl⟩;have HML:=Hd (show lk.length+1≤1048576 by
    rw [←hlk,Atj,List.length_map,List.length_take];have h1:=HM.o;have h2:=HVL.o;omega)
   rw [hlk] at HTK HBR;have HLG:=Hd hlg;obtain⟨ow,how⟩:∃x,(if inl v.t=true then y else v.w)=x:=⟨_,rfl⟩;have HPW:=Hd (show Av (ow:Int)=true by rw [←how];split;exact HY.o;exact hww);have HOW:=Hd how;obtain⟨tb,htb⟩:∃x,UInt8.ofNat (4*v.t+bCode ow)=x:=⟨_,rfl⟩;have HTB:=Hd (show C3 y v=tb by unfold C3;rw [how];exact htb);have HPK:=Hd (fun W=>by have h:=Rh v.t ow W HLG.o HPW.o;rw [htb] at h;exact h);have hk0:(0:Int)≤(k:Int):=by omega
   have hkn:(k:Int)<(n:Int):=by omega
   have hBA:=(Below.refl wr.heap.size wr).alloc (Ath _) (.cells #[Aa Ab (v.t:Int),Aa Ab (v.w:Int),Aa Ac (v.n:Int)] 210);have HZA:=Hd (show Afp b wr.heap.size lk v (wr.alloc (.cells #[Aa Ab (v.t:Int),Aa Ab (v.w:Int),Aa Ac (v.n:Int)] 210)) (Ak o' wr.heap.size 0) from⟨HBR.o.fresh hBA 0,Af.new _ _ _,Am (Ath _)⟩);have HTA0:=Hd (To.fresh (fun i=>i=1) hBA o' 0);obtain⟨iv,hiv⟩:∃x,An (v.t:Int)=x:=⟨_,rfl⟩;have HIV:=Hd hiv;clear hvk hBA hiv hlk hlg hww how htb;go_wp2_with fail;go_at_call 90;generalize wr.alloc (.cells #[Aa Ab (v.t:Int),Aa Ab (v.w:Int),Aa Ac (v.n:Int)] 210)=wa at HZA HTA0⊢;generalize Ak o' wr.heap.size 0=oa at HZA HTA0;refine(Ce (v.t:Int) _).mono ?_;rw [HIV.o];rintro e w2 ⟨rfl,hb⟩;have HTA:=Hd (HTA0.o.trans (To.pure _ hb oa));have HZ2:=Hd (show Afp b wr.heap.size lk v w2 oa from⟨HZA.o.m.pure hb,HZA.o.x.pure hb,HZA.o.ox⟩);have x0:w2.cell? ⟨wr.heap.size,0,none⟩=some (Aa Ab (v.t:Int)):=HZ2.o.x.cell 0;clear hb h0 h1 h2 HTA0 HZA;cases iv with
   |true=>
    obtain rfl:y=ow:=by rw [←HOW.o];exact(if_pos HIV.o).symm
    go_wp2_with fail;go_at_call 162;refine(HPK.o _).mono ?_;rintro e w3 ⟨rfl,hb⟩;have HT3:=Hd (HTA.o.trans (To.pure _ hb oa));have HZ3:=Hd (show Afp b wr.heap.size lk v w3 oa from⟨HZ2.o.m.pure hb,HZ2.o.x.pure hb,HZ2.o.ox⟩);clear hb x0;have hcv:=J3 (c:=1) (Pp w3 tb);have hB9:Below w3.heap.size w3 ((w3.alloc (.cells #[.int .u8 (tb.toNat:Int)] 5)).alloc (.cells #[.string ⟨[tb].toArray⟩] 9)):=Ba _ _ _;have HB9:=Hd (HZ3.o.m.fresh hB9 0);have HT9:=Hd (HT3.o.trans (To.fresh (fun i=>i=1) hB9 oa 0));have hS9:=Oh (w3.alloc (.cells #[.int .u8 (tb.toNat:Int)] 5)) [tb];have eS:(w3.alloc (.cells #[.int .u8 (tb.toNat:Int)] 5)).heap.size=w3.heap.size+1:=by simp
    rw [eS] at hS9;have HS9:=Hd hS9;have HO9:=Hd (show ∀ad,(some ⟨w3.heap.size+1,0,none⟩:Option Addr)=some ad→Ak oa w3.heap.size 0 ad.block≠1 from fun ad h=>by injection h with h;subst h;rw [Am (by show w3.heap.size≤w3.heap.size+1;omega)];omega);clear hB9 hS9 eS;go_wp2_with fail;go_at_call 164;refine(Gm b 1 _ _ [[tb]] lk _ _ HB9.o HS9.o HO9.o HML.o (by omega)).mono ?_;rintro e w4 ⟨rfl,o4,hB4,hT4⟩;have HB4:=Hd (show Co w4 o4 b (l++(vs.take (k+1)).map (C3 y)) by rw [HTK.o,HTB.o];exact hB4);have HT4:=Hd (HT9.o.trans hT4);have HV4:=Hd (HVR.o.fr (HT4.o).fr (fun ad h=>HOR.o ad h));have HO4:=Hd (show ∀ad,(some ⟨g,off,none⟩:Option Addr)=some ad→o4 ad.block≠1 from fun ad h=>by
     rw [HT4.o.ow ad.block (by injection h with h;subst h;exact HLT.o)];exact HOR.o ad h)
    clear hB4 hT4 hcv;go_wp2_with fail;go_roundw
    case rel=>exact⟨k+1,by omega,by go_num,o4,HB4.o,HTR.o.trans HT4.o,HV4.o,HO4.o⟩
    case measure=>simp [intOf];omega
   |false=>
    obtain rfl:ow=v.w:=by rw [←HOW.o];exact if_neg (by rw [show inl v.t=false from HIV.o];decide)
    go_wp2_with fail;go_at_call 162;refine(HPK.o _).mono ?_;rintro e w3 ⟨rfl,hb⟩;have HT3:=Hd (HTA.o.trans (To.pure _ hb oa));have HZ3:=Hd (show Afp b wr.heap.size lk v w3 oa from⟨HZ2.o.m.pure hb,HZ2.o.x.pure hb,HZ2.o.ox⟩);clear hb x0;have hcv:=J3 (c:=1) (Pp w3 tb);have hB9:Below w3.heap.size w3 ((w3.alloc (.cells #[.int .u8 (tb.toNat:Int)] 5)).alloc (.cells #[.string ⟨[tb].toArray⟩] 9)):=Ba _ _ _;have HB9:=Hd (HZ3.o.m.fresh hB9 0);have HT9:=Hd (HT3.o.trans (To.fresh (fun i=>i=1) hB9 oa 0));have hS9:=Oh (w3.alloc (.cells #[.int .u8 (tb.toNat:Int)] 5)) [tb];have eS:(w3.alloc (.cells #[.int .u8 (tb.toNat:Int)] 5)).heap.size=w3.heap.size+1:=by simp
    rw [eS] at hS9;have HS9:=Hd hS9;have HO9:=Hd (show ∀ad,(some ⟨w3.heap.size+1,0,none⟩:Option Addr)=some ad→Ak oa w3.heap.size 0 ad.block≠1 from fun ad h=>by injection h with h;subst h;rw [Am (by show w3.heap.size≤w3.heap.size+1;omega)];omega);clear hB9 hS9 eS;go_wp2_with fail;go_at_call 164;refine(Gm b 1 _ _ [[tb]] lk _ _ HB9.o HS9.o HO9.o HML.o (by omega)).mono ?_;rintro e w4 ⟨rfl,o4,hB4,hT4⟩;have HB4:=Hd (show Co w4 o4 b (l++(vs.take (k+1)).map (C3 y)) by rw [HTK.o,HTB.o];exact hB4);have HT4:=Hd (HT9.o.trans hT4);have HV4:=Hd (HVR.o.fr (HT4.o).fr (fun ad h=>HOR.o ad h));have HO4:=Hd (show ∀ad,(some ⟨g,off,none⟩:Option Addr)=some ad→o4 ad.block≠1 from fun ad h=>by
     rw [HT4.o.ow ad.block (by injection h with h;subst h;exact HLT.o)];exact HOR.o ad h)
    clear hB4 hT4 hcv;go_wp2_with fail;go_roundw
    case rel=>exact⟨k+1,by omega,by go_num,o4,HB4.o,HTR.o.trans HT4.o,HV4.o,HO4.o⟩
    case measure=>simp [intOf];omega
  ·have hd1:decide ((k:Int)<(n:Int))=false:=decide_eq_false (by omega);have hd2:decide (k<n)=false:=decide_eq_false (by omega);have HE2:=Hd (show vs.take k=vs from Att (by have:=HVL.o;omega));go_wp2_with fail;go_end0;exact⟨rfl,o',by have h:=HBR.o;rw [HE2.o] at h;exact h,HTR.o⟩
end Go.Proofs.YtgbjodnegkbfoaaGreat
