/- MinimalKnown, the walk. MinimalKnown: lengths and numbers around the limits of widths, wide maps, and documents corrupted byte by byte are judged as the reference judges them. No conditions. -/
import Derived.Test.YtejpbijeifjdeaaGreatQk31
set_option maxHeartbeats 4000000
set_option maxRecDepth 100000
open Go.Value renaming int→Aa
open Go.IntKind renaming i64→Ab,u64→Ac
open Nat renaming le_refl→Ae,le_trans→Am
open Go.RowKit.Below renaming refl→Af
open Go.IntWalk renaming i64_in→Ag
open List renaming replicate→Ak
open UInt8 renaming ofNat→Ar
open Go.Proofs.Tryz
open Go.Proofs.Tryz renaming prog→Ad
namespace Go.Proofs.YtejpbijeifjdeaaGreat
variable {w:World}{g:Nat}
section
open Go.RowKit Go.Acc
theorem xS(hg:w.heap.size=g):bP (w.alloc (.cells #[Aa Ac 0,Aa Ac 127,Aa Ac 128,Aa Ac 255,Aa Ac 256,Aa Ac 32767,Aa Ac 32768,Aa Ac 65535,Aa Ac 65536,Aa Ac 2147483647,Aa Ac 2147483648,Aa Ac 4294967295,Aa Ac 4294967296,Aa Ac 9223372036854775807,Aa Ac 18446744073709551615,Aa Ac 18446744073709551488,Aa Ac 18446744073709551487,Aa Ac 18446744073709518847] 26)) (some ⟨g,0,none⟩) 18 Kz:=by
 subst hg;refine⟨rfl,fun j u hj=>⟨_,_,rfl,?_⟩⟩;rw [(Bh.new w 26 _).cell,Nat.zero_add,←Array.getElem?_toList];exact hj
theorem pH(A:Option Addr)(n c lo:Nat)(h1:lo≤n)(hc:n≤c):∃X,(∀w,(Instr.sliceAt 28 (.slice A n c) (some (Aa Ab lo)) none none).run Ad w= .ok (.slice X (n-lo) (c-lo)) w)∧
  ∀w l,bP w A n l→bP w X (n-lo) (l.drop lo):=by
 refine⟨if c=lo then A else A.map (·.add lo),fun w=>?_,fun w l h=>?_⟩
 ·have ht:Ad.underlying 28=some (.slice (Ad.elem 28)):=by kernel_rfl
  have a:(sizeOf (Ad.elem 28)).run Ad w= .ok 1 w:=by kernel_rfl
  rw [run_sliceAt_slice (h:=ht),run_slice_l (ht:=ht) (h0:=by omega) (h1:=by omega),a];simp [Result.andThen,sliced]
 ·split
  ·exact h.cut0 (c:=n) (by omega) (Ae _)
  ·have:=h.cut1 fS (k:=lo);simpa [Nat.mul_one] using this
theorem pG(A:Option Addr)(n c lo:Nat)(h1:lo≤n)(hc:n≤c):∃X,(∀w,(Instr.sliceAt 22 (.slice A n c) (some (Aa Ab lo)) none none).run Ad w= .ok (.slice X (n-lo) (c-lo)) w)∧
  ∀w l,Ca w A n l→Ca w X (n-lo) (l.drop lo):=by
 refine⟨if c=lo then A else A.map (·.add lo),fun w=>?_,fun w l h=>?_⟩
 ·have ht:Ad.underlying 22=some (.slice (Ad.elem 22)):=by kernel_rfl
  have a:(sizeOf (Ad.elem 22)).run Ad w= .ok 1 w:=by kernel_rfl
  rw [run_sliceAt_slice (h:=ht),run_slice_l (ht:=ht) (h0:=by omega) (h1:=by omega),a];simp [Result.andThen,sliced]
 ·split
  ·exact h.cut0 (c:=n) (by omega) (Ae _)
  ·have:=h.cut1 Cn (k:=lo);simpa [Nat.mul_one] using this
theorem Aan(v m:Nat)(hm:m<18446744073709551616):∃u:Nat,Go.bits .and .u64 (v:Int) (m:Int)=(u:Int)∧u≤m:=by
 refine⟨(BitVec.ofInt 64 (v:Int)&&&BitVec.ofInt 64 (m:Int)).toNat,?_,?_⟩
 ·show IntKind.u64.wrap ((BitVec.ofInt 64 (v:Int)&&&BitVec.ofInt 64 (m:Int)).toNat:Int)=_;have:=(BitVec.ofInt 64 (v:Int)&&&BitVec.ofInt 64 (m:Int)).isLt;rw [IntKind.wrap_u64];omega
 ·rw [BitVec.toNat_and];refine Am Nat.and_le_right ?_;rw [BitVec.toNat_ofInt];omega
theorem Z0{a b c:Int}{x y z:UInt8}(hg:w.heap.size=g)(ha:a=(x.toNat:Int))(hb:b=(y.toNat:Int))(hc:c=(z.toNat:Int)):Ca (w.alloc (.cells #[.int .u8 a,.int .u8 b,.int .u8 c] 5)) (some ⟨g,0,none⟩) 3 [x,y,z]:=by
 subst ha hb hc hg;refine⟨rfl,fun j u hj=>⟨_,_,rfl,?_⟩⟩;rw [(Bh.new w 5 _).cell,Nat.zero_add,←Array.getElem?_toList];exact hj
theorem Abw(x y:Int):∃b:UInt8,Go.bits .xor .u8 x y=(b.toNat:Int):=by
 obtain⟨b,hb⟩:∃b:UInt8,IntKind.u8.wrap ((BitVec.ofInt 8 x^^^BitVec.ofInt 8 y).toNat:Int)=(b.toNat:Int):=by
  refine⟨Ar (((BitVec.ofInt 8 x^^^BitVec.ofInt 8 y).toNat:Int) % 256).toNat,?_⟩;rw [UInt8.toNat_ofNat',IntKind.wrap_u8];omega
 exact⟨b,hb⟩
theorem iF(w:World):Calls Ad 3 #[] w (Adh (.bool true) w):=by
 have bg:=Hd (Af w.heap.size w);go_enter func3,ntmps3;go_wp2_with fail;go_loopw [1,2,3,4,5,6,7,8,9,10,11,12,13,14] (fun u _ _ _ _ _ _ _ _ _ _ _ _ _ wr=>∃k:Nat,k≤4∧u= Aa Ab k∧Below w.heap.size w wr) (fun u _ _ _ _ _ _ _ _ _ _ _ _ _ _=>4-(intOf u).toNat)
 case atStart=>exact⟨0,by omega,rfl,bg.o⟩
 case round=>
  clear bg;obtain⟨k,hk,rfl,a⟩:=hrel;have r:=Hd a;clear a;by_cases dj:k<4
  ·have fc:(0:Int)≤k:=by omega
   have fd:(k:Int)<4:=by omega
   have fs:IntKind.i64.wrap ((k:Int)+1)=(k:Int)+1:=Ag _ (by omega);obtain⟨W,hW,ci,cl,ck⟩:=zQ dj;have HW:=Hd hW;have aq:=Hd cl;have a7:=Hd ck;have ex:1≤W∧W≤8:=by omega
   clear hW cl ck;go_wp2_with fail;rw [ci];clear ci;go_loopw [3,4,5,6,7,8] (fun u _ _ _ _ _ wr=>∃n:Nat,254≤n∧n≤258∧u= Aa Ab n∧Below w.heap.size w wr) (fun u _ _ _ _ _ _=>258-(intOf u).toNat)
   case atStart=>exact⟨254,by omega,by omega,rfl,r.o⟩
   case round=>
    clear r;obtain⟨n,dm,fg,rfl,a⟩:=hrel;have r:=Hd a;clear a;by_cases fi:n<258
    ·have ff:(0:Int)≤n:=by omega
     have fj:(n:Int)<258:=by omega
     have ft:IntKind.i64.wrap ((n:Int)+1)=(n:Int)+1:=Ag _ (by omega);go_wp2_with fail;go_loopw [4,5,6,7,8] (fun u _ _ _ _ wr=>∃t:Nat,(t=5∨t=25∨t=45)∧u= Aa Ab t∧Below w.heap.size w wr) (fun u _ _ _ _ _=>45-(intOf u).toNat)
     case atStart=>exact⟨5,by omega,rfl,r.o⟩
     case round=>
      clear r;obtain⟨t,ht,rfl,a⟩:=hrel;have r:=Hd a;clear a;by_cases fm:t≤25
      ·have dp:(0:Int)≤t:=by omega
       have dq:(t:Int)≤25:=by omega
       have dw:IntKind.i64.wrap ((t:Int)+20)=(t:Int)+20:=Ag _ (by omega);have ez:IntKind.u64.wrap (n:Int)=n:=by rw [IntKind.wrap_u64];omega
       go_wp2_with fail;go_at_call 6;refine(Ii none 0 0 n W [] _ (Is.nil _ _) (by omega) (by omega) (by omega)).mono ?_;rintro e w1 ⟨A1,n1,c1,rfl,X,a⟩;obtain⟨m,hm⟩:∃m,Gk [] (W:Int) n (Cf (W:Int).toNat n)=m:=⟨_,rfl⟩;obtain⟨er,cd⟩:∃m,Gw (W:Int) (Cf (W:Int).toNat n)=m:=⟨_,rfl⟩;rw [hm] at X;rw [cd];have fe:n1≤8:=by
        have h1:=Py (l:=[]) (W:=W) (u:=n) (b:=Cf W n) (Jn.2 HW.o);rw [Int.toNat_natCast] at hm;rw [hm,X.1] at h1;simpa using h1
       have HO:=Hd (Own.rebase (B':=w.heap.size) X r.o.size);have R:=Hd (Ba r.o a);clear X a hm cd r;by_cases he:er=0
       ·subst he;have fl:n % 2<2:=Nat.mod_lt _ (by decide);have fo:IntKind.i64.wrap ((n:Int)+8)=(n:Int)+8:=Ag _ (by omega);obtain⟨M,hM⟩:∃M,n+8-n % 2=M:=⟨_,rfl⟩;have ev:(n:Int)+8-(n:Int) % 2=(M:Int):=by omega
        have eu:250≤M∧M≤300:=by omega
        have dv:IntKind.i64.wrap (((n1+M:Nat):Int)-(W:Int))=((n1+M-W:Nat):Int):=(Ag _ (by omega)).trans (by omega);have ai:IntKind.u64.wrap ((n1+M-W:Nat):Int)=((n1+M-W:Nat):Int):=by rw [IntKind.wrap_u64];omega
        go_wp2_with (first
         |(at_builtin;refine aS _ rfl (.tmp 47) (.tmp 52) _ _ rfl 5 _ 1 1 _ _ underlying22 underlying3 Gc rfl (by omega) Cn Gs (0:UInt8) rfl _ _ _ _ _ rfl HO.o M _ rfl rfl (by omega) (by omega) R.o.size ?_;intro A2 c2 w2 al aw b9;have bi:=Hd (B8 R.o aw (fun j ⟨ad,e,h⟩=>by rw [h];exact(HO.o.addr ad e).2.1));have a1:=Hd al;clear al aw b9))
        have hU:(n1:Int)+(M:Int)-(W:Int)=((n1+M-W:Nat):Int):=by omega
        obtain⟨U,b5⟩:∃U,n1+M-W=U:=⟨_,rfl⟩;rw [hU,b5];have ew:U≤400:=by omega
        clear hU b5 dv ai;go_at_call 6;refine(Ii A2 (n1+M) c2 U 2 _ _ a1.o.is a1.o.cap.1 (by omega) (by omega)).mono ?_;rintro e w3 ⟨A3,n3,c3,rfl,C,Y⟩;have fh:n3≤400:=by
         have h1:=Py (l:=m++Ak M 0) (W:=2) (u:=U) (b:=Cf (2:Int).toNat U) (by decide);have h2:=C.1;have h4:=a1.o.1;have h3:((2:Nat):Int)=2:=rfl;rw [h3] at h1;omega
        have br:=Hd (Own.rebase (B':=w.heap.size) C bi.o.size);have ay:=Hd (Ba bi.o Y);clear C Y;obtain⟨T,hT⟩:∃T:UInt8,T.toNat=4*t+k:=⟨Ar (4*t+k),by rw [UInt8.toNat_ofNat'];omega⟩;have HT:=Hd hT;have ak:IntKind.i64.wrap (4*(t:Int)+(k:Int))=4*(t:Int)+(k:Int):=Ag _ (by omega);have dl:IntKind.i64.wrap (4*(t:Int))=4*(t:Int):=Ag _ (by omega);clear hT;go_wp2_with (at_builtin;refine Dh _ rfl (.tmp 64) (.tmp 70) _ rfl 5 _ 1 1 underlying22 Gc rfl (by omega) Cn Gs _ _ _ _ _ rfl (br.o.pure ((Af _ _).alloc (Ae _) _)) _ _ _ _ rfl (Tk (x:=T) (y:=2) rfl (by have:=HT.o;omega) rfl) (by omega) (Am ay.o.size (by simp)) ?_;intro A4 c4 w4 B L ag);have G:=Hd B;have O:=Hd (B8 ((ay.o).alloc ay.o.size _) L (fun j ⟨ad,e,h⟩=>by rw [h];exact(br.o.addr ad e).2.1));clear B L ag;go_wp2_with fail;go_at_call 7;refine(Fg A4 (n3+2) c4 9 _ _ G.o.is G.o.cap.1).mono ?_;rintro e w5 ⟨rfl,ah⟩;have H:=Hd (Ba O.o ah);clear ah;go_wp2_with fail;go_roundw
        case rel=>exact⟨t+20,by omega,by go_num,H.o⟩
        case measure=>simp [intOf];omega
       ·have e7:(er==0)=false:=by simpa using he
        clear he;go_wp2_with fail;go_roundw
        case rel=>exact⟨t+20,by omega,by go_num,R.o⟩
        case measure=>simp [intOf];omega
      ·obtain rfl:t=45:=by omega
       go_wp2_with fail;go_roundw
       case rel=>exact⟨n+1,by omega,by omega,by go_num,r.o⟩
       case measure=>simp [intOf];omega
    ·obtain rfl:n=258:=by omega
     rw [show((258:Nat):Int)=258 from rfl];go_upto_region 18 with fail
     have HU:=Hd (xS (w:=wr) rfl);replace r:=Hd (r.o.alloc r.o.size (.cells #[Aa Ac 0,Aa Ac 127,Aa Ac 128,Aa Ac 255,Aa Ac 256,Aa Ac 32767,Aa Ac 32768,Aa Ac 65535,Aa Ac 65536,Aa Ac 2147483647,Aa Ac 2147483648,Aa Ac 4294967295,Aa Ac 4294967296,Aa Ac 9223372036854775807,Aa Ac 18446744073709551615,Aa Ac 18446744073709551488,Aa Ac 18446744073709551487,Aa Ac 18446744073709518847] 26));generalize wr.alloc (.cells #[Aa Ac 0,Aa Ac 127,Aa Ac 128,Aa Ac 255,Aa Ac 256,Aa Ac 32767,Aa Ac 32768,Aa Ac 65535,Aa Ac 65536,Aa Ac 2147483647,Aa Ac 2147483648,Aa Ac 4294967295,Aa Ac 4294967296,Aa Ac 9223372036854775807,Aa Ac 18446744073709551615,Aa Ac 18446744073709551488,Aa Ac 18446744073709551487,Aa Ac 18446744073709518847] 26)=w5 at HU r⊢;generalize wr.heap.size=g at HU⊢;go_wp2_with fail;go_loopw [10,11,12,13,14] (fun u _ _ _ _ wr=>∃i:Nat,i≤18∧u= Aa Ab i∧Below w.heap.size w wr∧bP wr (some ⟨g,0,none⟩) 18 Kz) (fun u _ _ _ _ _=>18-(intOf u).toNat)
     case atStart=>exact⟨0,by omega,rfl,r.o,HU.o⟩
     case round=>
      clear r HU;obtain⟨i,hi,rfl,a,hu⟩:=hrel;have r:=Hd a;have HU:=Hd hu;clear a;by_cases ba:i<18
      ·have dh:(0:Int)≤i:=by omega
       have di:(i:Int)<18:=by omega
       have du:IntKind.i64.wrap ((i:Int)+1)=(i:Int)+1:=Ag _ (by omega);obtain⟨b1,o1,ea,a9,q⟩:=dN hu ba;injection ea with ea
       injection ea with e1 e2
       subst e1 e2;have ar:=Yk Kz[i] (List.getElem_mem a9);obtain⟨v,hv⟩:∃v,Kz[i]=v:=⟨_,rfl⟩;rw [hv,Nat.zero_add] at q;rw [hv] at ar;have HV:=Hd ar;have a3:=Hd (vQ Kz[i] (List.getElem_mem a9) _ a7.o);rw [hv] at a3;have HC:=Hd q;obtain⟨X1,be,am⟩:=pH (some ⟨g,0,none⟩) 18 18 i (by omega) (by omega);have ch:i % 3≤18:=by omega
       have dx:=cJ (some ⟨g,0,none⟩) 18 18 (i % 3) ch;have af:=Hd am;have dn:(0:Int)≤((i % 3:Nat):Int):=by omega
       clear hu ar hv am a9;go_wp2_with fail;go_at_call 8;refine(iD v W k (Ar (4+k)) k 1 _ HV.o aq.o rfl (by rw [UInt8.toNat_ofNat'];omega) a3.o.2).mono ?_;rintro e w6 ⟨rfl,a⟩;replace q:=Bg a q;have I:=Hd (Ba r.o a);have bs:=Hd (HU.o.pure a);clear a r HU HC;go_wp2_with fail;go_at_call 8;refine(iE v W k (Ar (8+k)) k 2 _ HV.o aq.o rfl (by rw [UInt8.toNat_ofNat'];omega) a3.o.1).mono ?_;rintro e w7 ⟨rfl,a⟩;have J:=Hd (Ba I.o a);have a5:=Hd (bs.o.pure a);replace q:=Bg a q;clear a I bs;go_wp2_with fail;go_at_call 9;refine(Xm X1 (18-i) (18-i) W k k _ (Kz.drop i) _ (af.o _ _ a5.o) (Ae _) (by omega) aq.o (fun u hu=>Yk u (List.mem_of_mem_drop hu)) (dY i ba _ a7.o _).1).mono ?_;rintro e w8 ⟨rfl,a⟩;have K:=Hd (Ba J.o a);have a6:=Hd (a5.o.pure a);replace q:=Bg a q;clear a J a5;go_wp2_with fail;go_at_call 9;refine(Xm (some ⟨g,0,none⟩) (i % 3) 18 W k k _ (Kz.take (i % 3)) _ (a6.o.take fS (by omega)) (by omega) (by omega) aq.o (fun u hu=>Yk u (List.mem_of_mem_take hu)) (dY i ba _ a7.o _).2).mono ?_;rintro e w9 ⟨rfl,a⟩;have F:=Hd (Ba K.o a);have cy:=Hd (a6.o.pure a);replace q:=Bg a q;have cu:=Hd (show ∀W,Below w9.heap.size w9 W→W.cell? ⟨g,i,none⟩=some (Aa Ac (v:Int)) from fun W hW=>Bg hW q);clear a K a6 q be dx ch dn af;go_wp2_with fail;go_loopw [11,12,13,14] (fun u _ _ _ wr=>∃t:Nat,(t=6∨t=7∨t=8)∧u= Aa Ab t∧Below w9.heap.size w9 wr) (fun u _ _ _ _=>8-(intOf u).toNat)
       case atStart=>exact⟨6,by omega,rfl,Af _ _⟩
       case round=>
        obtain⟨t,ht,rfl,a⟩:=hrel;have s:=Hd a;have q:=cu.o _ a;clear a;by_cases fn:t≤7
        ·have dp:(0:Int)≤t:=by omega
         have dq:(t:Int)≤7:=by omega
         have dw:IntKind.i64.wrap ((t:Int)+1)=(t:Int)+1:=Ag _ (by omega);have b6:=HW.o;obtain⟨E,hE⟩:∃E:Nat,8*W=E+1:=⟨8*W-1,by omega⟩;have bw:E≤63:=by omega
         obtain⟨P,hP⟩:∃P:Nat,2^E=P:=⟨_,rfl⟩;have dc:1≤P:=by rw [←hP];exact Nat.one_le_two_pow
         have dd:P≤9223372036854775808:=by rw [←hP];exact Nat.pow_le_pow_right (by decide) bw
         have de:P≤2^(8*W):=by rw [←hP,hE];exact Nat.pow_le_pow_right (by decide) (by omega)
         obtain⟨u,ds,dt⟩:=Aan v (P-1) (by omega);have HF:=Hd (show Gw (W:Int) (Cf W u)=0 by
          have hf:Cf W u=true:=by
           unfold Cf;exact decide_eq_true (.inr (by omega))
          rw [hf];exact Ts (Jn.2 b6) rfl)
         have k1:IntKind.i64.wrap (8*(W:Int))=(E:Int)+1:=(Ag _ (by omega)).trans (by omega);have k2:IntKind.i64.wrap (E:Int)=(E:Int):=Ag _ (by omega);have k3:IntKind.u64.wrap ((2:Int)^E)=(P:Int):=by
          have e:(2:Int)^E=(P:Int):=by rw [←hP];simp
          rw [e,IntKind.wrap_u64];omega
         have k4:IntKind.u64.wrap ((P:Int)-1)=((P-1:Nat):Int):=by rw [IntKind.wrap_u64];omega
         have da:(0:Int)≤(E:Int):=by omega
         have db:(E:Int)≤64:=by omega
         have cj:(u:Int)<18446744073709551616:=by omega
         clear b6 hE hP de bw dc dd dt;go_wp2_with fail;go_region_held3 (fun w'=>w'.cell? ⟨g,i,none⟩=some (Aa Ac (v:Int))) (first|with_reducible exact q|with_reducible exact Bj q|with_reducible exact Q) (first
          |(go_at_call 6;(with_reducible refine(Ii none 0 0 u W [] _ (Is.nil _ _) (by omega) (by omega) cj).mono ?_);rintro e w10 ⟨A1,n1,c1,rfl,X,a⟩;have Q:=Bg a (Bj q)))
         rw [HF.o];have ca:Below wr.heap.size wr w10:=((Af wr.heap.size wr).drew).trans a;have D:=Hd (s.o.trans (ca.mono s.o.size));have dm:n1≤8:=by
          have h1:=Py (l:=[]) (W:=W) (u:=u) (b:=Cf (W:Int).toNat u) (Jn.2 HW.o);rw [X.1] at h1;simpa using h1
         have HO:=Hd (Own.rebase (B':=w9.heap.size) X s.o.size);obtain⟨T,hT⟩:∃T:UInt8,T.toNat=4*t+k:=⟨Ar (4*t+k),by rw [UInt8.toNat_ofNat'];omega⟩;have HT:=Hd hT;have ak:IntKind.i64.wrap (4*(t:Int)+(k:Int))=4*(t:Int)+(k:Int):=Ag _ (by omega);have dl:IntKind.i64.wrap (4*(t:Int))=4*(t:Int):=Ag _ (by omega);clear a ca X hT q Q k1 k2 k3 k4 ds da db cj;obtain⟨WB,b7⟩:∃WB:UInt8,WB.toNat=W:=⟨Ar W,by rw [UInt8.toNat_ofNat'];omega⟩;have c0:=Hd b7;clear b7;go_wp2_with (at_builtin;refine Dh _ rfl (.tmp 139) (.tmp 147) _ rfl 5 _ 1 1 underlying22 Gc rfl (by omega) Cn Gs _ _ _ _ _ rfl (HO.o.pure ((Af _ _).alloc (Ae _) _)) _ _ _ _ rfl (Z0 (x:=WB) (y:=T) (z:=1) rfl (by have:=c0.o;omega) (by have:=HT.o;omega) rfl) (by omega) (Am D.o.size (by simp)) ?_;intro A4 c4 bf B L ag);have G:=Hd B;have O:=Hd (B8 (D.o.alloc D.o.size _) L (fun j ⟨ad,e,h⟩=>by rw [h];exact(HO.o.addr ad e).2.1));clear B L ag;go_wp2_with fail;go_at_call 7;refine(Fg A4 (n1+3) c4 9 _ _ G.o.is G.o.cap.1).mono ?_;rintro e cn ⟨rfl,ah⟩;have H:=Hd (Ba O.o ah);clear ah;go_wp2_with fail;go_roundw
         case rel=>exact⟨t+1,by omega,by go_num,H.o⟩
         case measure=>simp [intOf];omega
        ·obtain rfl:t=8:=by omega
         go_wp2_with fail;go_roundw
         case rel=>exact⟨i+1,by omega,by go_num,F.o.trans (s.o.mono F.o.size),cy.o.pure s.o⟩
         case measure=>simp [intOf];omega
      ·obtain rfl:i=18:=by omega
       go_wp2_with fail;go_roundw
       case rel=>exact⟨k+1,by omega,by go_num,r.o⟩
       case measure=>simp [intOf];omega
  ·obtain rfl:k=4:=by omega
   rw [show((4:Nat):Int)=4 from rfl];go_upto_region 32 with fail
   obtain⟨hR,hK,a⟩:=uS wr 15 3 (-129) 0 0 0 0 0 rfl rfl;generalize ((((((((wr.alloc _).alloc _).alloc _).alloc _).alloc _).alloc _).alloc _).alloc _)=w5 at hR hK a⊢;generalize wr.heap.size+1+1+1+1+1+1+1=bt at hK⊢;obtain⟨x,hx⟩:∃x,Mp wr.heap.size=x:=⟨_,rfl⟩;rw [hx] at hR hK;have HR:=Hd (show Ci w5 (fun b=>b<w5.heap.size) x Pu from hR);have HK:=Hd hK;have H:=Hd (r.o.trans (a.mono r.o.size));clear hx hR hK a r;go_wp2_with fail;go_loopw [17,18,19,20,21,22] (fun u _ _ _ _ _ wr=>∃f:Nat,(f=0∨f=7∨f=14)∧u= Aa Ab f∧Below w5.heap.size w5 wr) (fun u _ _ _ _ _ _=>14-(intOf u).toNat)
   case atStart=>exact⟨0,by omega,rfl,Af _ _⟩
   case round=>
    obtain⟨f,hf,rfl,a⟩:=hrel;have s:=Hd a;have a2:=Hd (HR.o.pure a);have bo:=Hd (HK.o.pure a);clear a;by_cases e9:f<8
    ·have e8:(0:Int)≤f:=by omega
     have fa:(f:Int)<8:=by omega
     have fq:IntKind.i64.wrap ((f:Int)+7)=(f:Int)+7:=Ag _ (by omega);obtain⟨aj,ax⟩:=yR (f:=f) (by omega);have cw:=Hd aj;have az:=Hd (Zl (f:Int) a2.o (fun k hk=>Nat.lt_of_lt_of_le hk s.o.size) eI Xn.2 Xn.1);have bk:=Hd (fun W (hW:Below wr.heap.size wr W)=>show Calls Ad 38 #[.agg (Adj x),Aa Ab 80,Aa Ab 300] W (kW W Pu) from by
      have:=tP 300 79 (a2.o.imp.pure hW) (by decide);rw [yQ] at this;exact this)
     have bq:=Hd (fun W (hW:Below wr.heap.size wr W)=>mO x Pu (f:Int) W (fun W2 h2=>bk.o W2 (B4 hW h2)) eI Xn.2 Xn.1 aj (by omega));generalize Ju (bits (f:Int)) (Cs Pu)=l at ax az;obtain ⟨x0,x1,x2,x3,x4,x5⟩:=bo.o.c6;clear aj cw bk a2 bo;go_wp2_with fail;go_at_call 10;refine az.o.mono ?_;intro e w6 hD;obtain⟨A,n,c,rfl,X,a⟩:=hD;have av:=X.cap.1;have fk:n≤60:=by rw [←X.1];exact ax
     have bn:=Hd X.is;have I:=Hd (s.o.trans (a.mono s.o.size));have bp:=Hd (bq.o w6 a);replace x0:=Bg a x0;replace x1:=Bg a x1;replace x2:=Bg a x2;replace x3:=Bg a x3;replace x4:=Bg a x4;replace x5:=Bg a x5;clear a X az bq s;go_wp2_with fail;go_at_call 11;refine bp.o.mono ?_;rintro e w7 ⟨rfl,a⟩;have J:=Hd (Ba I.o a);have ab:=Hd (bn.o.pure a);clear a x0 x1 x2 x3 x4 x5 bp I bn;go_wp2_with fail;go_loopw [20,21,22] (fun u _ _ wr=>∃i:Nat,i≤n∧u= Aa Ab i∧Below w5.heap.size w5 wr∧Ca wr A n l) (fun u _ _ _=>n-(intOf u).toNat)
     case atStart=>exact⟨0,by omega,rfl,J.o,ab.o⟩
     case round=>
      clear J ab;obtain⟨i,hi,rfl,a,hI⟩:=hrel;have r:=Hd a;have HI:=Hd hI;clear a hI;by_cases bd:i<n
      ·have dh:(0:Int)≤i:=by omega
       have di:(i:Int)<n:=by omega
       have du:IntKind.i64.wrap ((i:Int)+1)=(i:Int)+1:=Ag _ (by omega);obtain⟨X1,be,am⟩:=pG A n c i (by omega) av;have af:=Hd am;clear am;go_wp2_with fail;go_at_call 7;refine(Fg X1 (n-i) (c-i) 50 _ _ (af.o _ _ HI.o) (by omega)).mono ?_;rintro e w8 ⟨rfl,a⟩;have K:=Hd (Ba r.o a);have V:=Hd (HI.o.pure a);clear a r HI be af;go_wp2_with fail;go_at_call 7;refine(Fg A n c i _ _ V.o av).mono ?_;rintro e w9 ⟨rfl,a⟩;have F:=Hd (Ba K.o a);have ae:=Hd (V.o.pure a);clear a K V;go_wp2_with fail;go_loopw [21,22] (fun u _ wr=>∃d:Nat,1≤d∧d≤600∧u= Aa Ab d∧Below w5.heap.size w5 wr∧Ca wr A n l) (fun u _ _=>256-(intOf u).toNat)
       case atStart=>exact⟨1,by omega,by omega,rfl,F.o,ae.o⟩
       case round=>
        clear F ae;obtain⟨d,e3,e4,rfl,a,hI⟩:=hrel;have r:=Hd a;have HI:=Hd hI;clear a hI;by_cases e5:d<256
        ·have e0:(0:Int)≤d:=by omega
         have e6:(d:Int)<256:=by omega
         have fp:IntKind.i64.wrap (2*(d:Int))=2*(d:Int):=Ag _ (by omega);have ef:IntKind.i64.wrap (2*(d:Int)+(d:Int) % 3)=2*(d:Int)+(d:Int) % 3:=Ag _ (by omega);have bj:=Hd (Mw A n c l wr HI.o (by omega));go_wp2_with fail;go_at_call 12;refine bj.o.mono ?_;rintro e w10 ⟨A3,n3,c3,rfl,C,Y⟩;obtain rfl:n3=n:=by rw [←C.1,HI.o.1]
         obtain⟨g,rfl,ce⟩:=vD C (by omega);have HO:=Hd C;have R:=Hd (Ba r.o Y);have bm:=Hd (HI.o.pure Y);have bl:=Hd (show w5.heap.size≤g∧∀ad,A=some ad→¬ad.block=g from⟨Am r.o.size ce,fun ad e h=>by
          obtain⟨b',fw,e2,ar⟩:=HI.o.some_ Cn (by omega) (by omega);rw [e2] at e;injection e with e
          subst e;simp only at h;omega⟩)
         obtain⟨bb,oo,ee,dk,q⟩:=Gd C.is bd;injection ee with ee
         injection ee with e1 e2
         subst e1 e2;rw [Nat.zero_add] at q;obtain⟨y,hy⟩:∃y,(l[i].toNat:Int)=y:=⟨_,rfl⟩;rw [hy] at q;obtain⟨⟨dg,u0,dr⟩,_⟩:=eM C bd 0;clear C Y ce bj r HI hy dk;go_wp2_with fail;go_at_call 7;obtain⟨b,a⟩:=Abw y (d:Int);rw [a];have a8:=(eM HO.o bd b).2;have O:=Hd (R.o.setCell (p:=⟨g,i,none⟩) bl.o.1 (.int .u8 (b.toNat:Int)));have a0:=Hd (bm.o.fr (Fr.setCell (S:=fun j=>j=g) (Fr.refl _ w10) (p:=⟨g,i,none⟩) (fun _=>rfl) (.int .u8 (b.toNat:Int))) bl.o.2);clear a dg dr q HO R bm;generalize w10.setCell ⟨g,i,none⟩ (.int .u8 (b.toNat:Int))=bf at a8 O a0⊢;have G:=Hd a8;clear a8;refine(Fg _ n3 c3 100 _ _ G.o.is G.o.cap.1).mono ?_;rintro e cn ⟨rfl,a⟩;have H:=Hd (Ba O.o a);have cv:=Hd (a0.o.pure a);clear a O a0 G;go_wp2_with fail;go_roundw
         case rel=>exact⟨2*d+d % 3,by omega,by omega,by go_num,H.o,cv.o⟩
         case measure=>simp [intOf];omega
        ·go_wp2_with fail;go_roundw
         case rel=>exact⟨i+1,by omega,by go_num,r.o,HI.o⟩
         case measure=>simp [intOf];omega
      ·obtain rfl:i=n:=by omega
       go_wp2_with fail;go_roundw
       case rel=>exact⟨f+7,by omega,by go_num,r.o⟩
       case measure=>simp [intOf];omega
    ·obtain rfl:f=14:=by omega
     have ct:=Hd (H.o.trans (s.o.mono H.o.size));go_wp2_with fail;go_at_call 13;refine(Dy _).mono ?_;rintro e w6 ⟨rfl,a⟩;have I:=Hd (Ba ct.o a);obtain⟨k1,w7,ai,cf,bz,cb⟩:=S9 ⟨#[97,0,1,0,4,0,4,0,2,0,1,0,7,0,5,3,37,1]⟩ w6;have ab:=Hd bz;have J:=Hd (Ba I.o cb);clear a bz cb I;go_wp2_with fail;go_at_call 7;refine(Fg _ _ k1 9 _ _ ab.o cf).mono ?_;rintro e w8 ⟨rfl,a⟩;have K:=Hd (Ba J.o a);clear a J ab ai cf;obtain⟨k2,w9,ai,cg,b0,cc⟩:=S9 ⟨#[97,0,1,0,4,0,4,0,2,0,1,0,7,0,5,3,37,1]⟩ w8;have ae:=Hd b0;have F:=Hd (Ba K.o cc);clear b0 cc K;obtain⟨Z,hZ,b8,ak⟩:=Xe 16 (by omega);replace ak:∀W:World,(Instr.makeSlice 22 (Aa Ab 16) (Aa Ab 16)).run Ad W= .ok (.slice (some ⟨W.heap.size,0,none⟩) 16 16) (W.alloc (.cells Z 5)):=ak;go_wp2_with fail;go_at_call 14;have HZ:=Hd (zA (W:=w9) Z 16 (Ak 16 (0:UInt8)) rfl (by simp) (by omega) b8);have bu:=Hd (F.o.alloc F.o.size (.cells Z 5));have V:=Hd (ae.o.pure ((Af w9.heap.size w9).alloc (Ae _) (.cells Z 5)));refine(iC _ _ 18 k2 16 16 L6 _ _ V.o cg HZ.o.is (Ae _) (fun N h1 h2 _=>nU N h1 h2) aR.1 aR.2).mono ?_;rintro e w10 ⟨rfl,a⟩;have D:=Hd (Ba bu.o a);clear a HZ bu V ae F ai cg hZ b8 ak;go_wp2_with fail;go_at_call 7;refine(Fg none 0 0 (-9223372036854775808) [] _ (Is.nil _ _) (Ae _)).mono ?_;rintro e bf ⟨rfl,a⟩;have aa:=Hd (Ba D.o a);clear a D;go_wp2_with fail;go_at_call 7;refine(Fg (some ⟨bf.heap.size,0,none⟩) 3 3 9223372036854775807 [5,4,1] _ (Z0 (x:=5) (y:=4) (z:=1) rfl rfl rfl rfl) (Ae _)).mono ?_;rintro e cn ⟨rfl,a⟩;have bh:=Hd (Ba (aa.o.alloc aa.o.size _) a);clear a aa;go_wp2_with fail;go_ret;exact⟨rfl,bh.o⟩
end
section
open Go.RowKit Go.Acc Go.ChangeShapes Go.WideShapes Go.ChangeAt
theorem minimalKnown_run(W:World)(_base:Nat):Calls Ad 3 #[] W (Adh (.bool true) W):=iF W
theorem minimalKnown_lifted(os:Os)(started:os.Started)(H:Type)(enc:TypeId×Value→H):
  ReturnsInHanded {} Tryz.checked os 3 .any (Rows.minimalKnownSpec.pre6 enc Ad Tryz.f3 Rows.minimalKnownRow.domain false) (Rows.minimalKnownSpec.post enc Ad Tryz.f3 false true false false):=by
 refine returnsInHanded_of_change (C:=Tryz.checked) xI started (by kernel_rfl) func3
  (ChangeSpec.witness6 (enc:=enc) (C:=Tryz.checked) false ⟨#[],#[],[]⟩ 8 (by kernel_rfl) (by kernel_rfl) (by kernel_rfl) (by kernel_rfl)) ?_
 intro W base b m s d a i k _;have l:∀(j:Nat) t v,Tryz.f3.params[j]?=some t→b[j]?=some v→Value.okWide Ad W .any base t v:=a;have f:=i;obtain⟨p,q,c,n,rfl,o,r⟩:=i;have g:DataW.TrodAll enc Ad W 0 (fun _=>true) true Tryz.f3.params.toList b.toList m p:=c;rw [params3] at g;obtain⟨rfl,rfl,rfl⟩:=trodAll_none g;obtain⟨rfl,rfl⟩:=trodVars_none n;clear c a;refine(minimalKnown_run W base).mono fun e W' ⟨he,bel⟩=>?_
 subst he;exact⟨_,rfl,_,_,_,[],[],[],f,trodAll_mk1 (shut_bool underlying4 _),trodAll_mk0,rfl,bel.frame _,fun h=>by cases h⟩
theorem Xg:laidOutB Ad=true:=by kernel_rfl
theorem Xh:mapsRowed Ad=true:=by kernel_rfl
theorem Xi:(Rows.minimalKnownRow.inPlace==Ad.inPlace 3)=true:=by kernel_rfl
theorem Xj:(Rows.minimalKnownRow.unfollowed==Ad.unfollowed 3)=true:=by kernel_rfl
theorem Xk:(Rows.minimalKnownRow.recurses==Ad.recurses 3)=true:=by kernel_rfl
theorem Xl:(Rows.minimalKnownRow.named==Ad.varsNamed 3)=true:=by kernel_rfl
theorem Ru:joinedFacts Ad 3 Tryz.f3 Rows.minimalKnownSpec Rows.minimalKnownRow=true:=by
 unfold joinedFacts;rw [Xg,Xh,Xi,Xj,Xk,Xl]
 kernel_rfl
theorem minimalKnown_holds:Rows.MinimalKnownSaid:=
 OpenClaim.holds_of_wide 3 Tryz.f3 rfl rfl rfl rfl rfl rfl rfl ⟨rfl,rfl,rfl,rfl,rfl⟩ rfl rfl rfl rfl rfl (by kernel_rfl) func3 Ru
  (of_decide_eq_true (by kernel_rfl)) (by unfold Func.isWrapper;rw [if_neg (of_decide_eq_false (by kernel_rfl))];exact⟨rfl,rfl⟩)
  (fun os started H enc _=>minimalKnown_lifted os started H enc)
#print axioms minimalKnown_holds
end
end Go.Proofs.YtejpbijeifjdeaaGreat
