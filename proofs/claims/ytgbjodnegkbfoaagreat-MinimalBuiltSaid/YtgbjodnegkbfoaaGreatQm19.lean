/- Parts of the proof. -/
import Derived.Test.YtgbjodnegkbfoaaGreatQm18
import Derived.Shelf.SlSortCmp.WholeK
import Derived.Shelf.SlicesG.Cmp
import Derived.Ground.SlsfProg
import Derived.Ground.SlgcProg
import Derived.Ground.NamesProg
import Derived.Lib.SlicesCompact
import Derived.Deep.LoopGhost
set_option maxHeartbeats 2000000
set_option maxRecDepth 100000
open Go.Value renaming int→Aa
open Go.IntKind renaming i64→Ab
open Nat renaming le_refl→Asp
open List renaming append_assoc→Asx
namespace Go.Proofs.YtgbjodnegkbfoaaGreat
open Go.RowKit Go.Acc
def O2(n:Nat):List P3:=(List.range (n+1)).flatMap fun(a:Nat)=>(List.range 64).flatMap fun(t:Nat)=>(List.range 9).map fun(v:Nat)=>((a:Int),(t:Int),(v:Int))
theorem Ajl{n:Nat}{a t v:Int}(ha:0≤a∧a≤n)(ht:0≤t∧t<64)(hv:1≤v∧v≤8):(a,t,v)∈O2 n:=by
 unfold O2;refine List.mem_flatMap.2 ⟨a.toNat,List.mem_range.2 (by omega),List.mem_flatMap.2 ⟨t.toNat,List.mem_range.2 (by omega),List.mem_map.2 ⟨v.toNat,List.mem_range.2 (by omega),?_⟩⟩⟩;rw [Int.toNat_of_nonneg ha.1,Int.toNat_of_nonneg ht.1,Int.toNat_of_nonneg (by omega)]
def Vg(n:Nat)(had:List P3):Nat:=(O2 n).countP fun y=>decide (y∉had)
def Ke(l:List UInt8)(d:Nat)(had:List P3):Prop:=Vg l.length had<d
theorem Zt{α:Type}{p q:α→Bool}:∀(U:List α) (y:α),y∈U→(∀x,p x=true→q x=true)→p y=false→q y=true→U.countP p<U.countP q
 | [],y,h,_,_,_=>absurd h (List.not_mem_nil)
 |x::U,y,h,hpq,h1,h2=>by
  have hle:=List.countP_mono_left (l:=U) (p:=p) (q:=q) (fun x _=>hpq x);rw [List.countP_cons,List.countP_cons];rcases List.mem_cons.1 h with rfl|h
  ·rw [h1,h2];simp;omega
  ·have h4:=Zt U y h hpq h1 h2;have h3:=hpq x;cases e:p x with
   |false=>
    rw [if_neg (by decide)];split <;>omega
   |true=>
    rw [h3 e];simp;exact h4
theorem Vk(n:Nat)(had:List P3)(y:P3)(h:y∈O2 n)(hn:y∉had):Vg n (had++ [y])<Vg n had:=by
 unfold Vg;refine Zt _ y h (fun x hx=>?_) (by simp) (by simp [hn]);have:=of_decide_eq_true hx;exact decide_eq_true fun h=>this (List.mem_append_left _ h)
theorem O5(l:List UInt8)(r:Rq)(hv:Av r.v=true)(go:Rq→List P3→Option (Except Int (List P3)))(Pd:List P3→Prop)(hgo:∀r h,Iz r→Pd h→∃res,go r h=some res∧∀h',res= .ok h'→Pd h'):
  ∀(is:List Nat) (h:List P3),Pd h→∃res,Dz go l r is h=some res∧∀h',res= .ok h'→Pd h'
 | [],h,hp=>⟨.ok h,rfl,fun h' e=>by injection e with e;exact e▸hp⟩
 |i::is,h,hp=>by
  obtain⟨res,h1,h2⟩:=hgo (Bw l r i) h (Ad1 l r hv i) hp;unfold Dz;rw [h1];cases res with
  |error a=>exact⟨_,rfl,fun h' e=>by cases e⟩
  |ok h'=>exact O5 l r hv go Pd hgo is h' (h2 _ rfl)
theorem Ad2{l:List UInt8}{r:Rq}(hok:Iz r)(hi:¬Aw r.t=true):Hb l r∈O2 l.length:=by
 rcases hok with h|h
 ·exact absurd h hi
 ·exact Ajl (Akj l r.p r.q r.t r.v) h.2 (Aiy h.1)
theorem Mm(l:List UInt8):∀(d:Nat) (r:Rq) (h:List P3),Iz r→Ke l d h→∃res,Ei l d r h=some res∧∀h',res= .ok h'→Ke l d h'
 |0,_,_,_,hp=>absurd hp (Nat.not_lt_zero _)
 |d+1,r,h,hok,hp=>by
  unfold Ei;by_cases h1:Aw r.t=true
  ·rw [if_pos h1];exact⟨_,rfl,fun h' e=>by injection e with e;exact e▸hp⟩
  rw [if_neg h1];by_cases h2:Hb l r∈h∨r.t=4
  ·rw [if_pos h2];exact⟨_,rfl,fun h' e=>by injection e with e;exact e▸hp⟩
  rw [if_neg h2];by_cases h3:1<r.v∧Im l r (r.v/2)=true
  ·rw [if_pos h3];exact⟨_,rfl,fun h' e=>by cases e⟩
  rw [if_neg h3];have hv:Av r.v=true:=hok.elim (fun h=>absurd h h1) (fun h=>h.1);have hs:Ke l d (h++ [Hb l r]):=by
   have:=Vk l.length h (Hb l r) (Ad2 hok h1) (fun h'=>h2 (.inl h'));unfold Ke at hp⊢;omega
  have up:∀h',Ke l d h'→Ke l (d+1) h':=fun h' hh=>Nat.lt_succ_of_lt hh
  unfold Ml;by_cases h9:r.t=9
  ·rw [if_pos h9];obtain⟨res,e1,e2⟩:=Mm l d (Cl l r) _ (Aa9 l r) hs;rw [e1];cases res with
   |error a=>exact⟨_,rfl,fun h' e=>by cases e⟩
   |ok h'=>
    obtain⟨res,e3,e4⟩:=O5 l r hv (Ei l d) (Ke l d) (Mm l d) _ h' (e2 _ rfl);exact⟨res,e3,fun h' e=>up _ (e4 _ e)⟩
  ·rw [if_neg h9];obtain⟨res,e3,e4⟩:=O5 l r hv (Ei l d) (Ke l d) (Mm l d) (List.range (lsLen l r.p r.q r.t r.v)) _ hs;exact⟨res,e3,fun h' e=>up _ (e4 _ e)⟩
theorem Xp(E:E0)(m:Nat)(hA:Zc E m):∀d,Ae3 E m (Ei E.l d) (Ke E.l d)
 |0=>fun _ _ _ _ _ _ _ _ _ _ hp _=>absurd hp (Nat.not_lt_zero _)
 |d+1=>Afv E m hA d (Ke E.l d) (Ke E.l (d+1)) (Xp E m hA d) (Mm E.l d) (fun r had hok hi hp hn=>by
   have:=Vk E.l.length had (Hb E.l r) (Ad2 hok (by rw [hi];decide)) hn;unfold Ke at hp⊢;omega)
def Qu(l:List UInt8):Nat:=(l.length+1)*576+1
theorem Ajk(n:Nat):(O2 n).length=(n+1)*576:=by
 unfold O2;rw [List.length_flatMap];simp [List.length_flatMap,List.map_const',List.sum_replicate_nat]
theorem X3(l:List UInt8)(had:List P3):Ke l (Qu l) had:=Nat.lt_succ_of_le (by rw [←Ajk];exact List.countP_le_length)
def O4(l:List UInt8)(r:Rq):Except Int (List P3):=(Ei l (Qu l) r []).getD (.ok [])
theorem Aba{l:List UInt8}{r:Rq}(h:Iz r):Ei l (Qu l) r []=some (O4 l r):=by
 obtain⟨res,h1,_⟩:=Mm l (Qu l) r [] h (X3 l []);unfold O4;rw [h1];rfl
theorem Agk(E:E0)(m:Nat)(hA:Zc E m)(x p q t v:Int)(res:Except Int (List P3))(w:World)(h:Dn E m [] x w)(hok:Iz ⟨p,q,t,v⟩)(hr:O4 E.l ⟨p,q,t,v⟩=res):
  Calls Tryz.prog 46 #[.pointer (some ⟨E.bw,0,none⟩),.agg #[Aa Ab p,Aa Ab q,Aa Ab t,Aa Ab v]] w fun e w'=>Aku E m x w e w' res:=
 Xp E m hA (Qu E.l) [] x p q t v res w h hok (X3 _ _) (hr▸Aba hok)
end Go.Proofs.YtgbjodnegkbfoaaGreat
namespace Go.Proofs.YtgbjodnegkbfoaaGreat
open Go.Shelf Go.RowKit Go.Lib Go.Acc
def Abw:Go.Shelf.Ren:=⟨fun|6=>108|15=>191|14=>190|28=>291|29=>101|20=>283|21=>284|22=>285|23=>286|24=>287|25=>288|26=>289|27=>290|46=>352|47=>353|48=>354|49=>355|50=>356|57=>395|n=>n,fun|22=>45|24=>49|25=>102|3=>3|39=>146|0=>0|53=>335|55=>22|4=>4|46=>329|45=>328|50=>118|5=>5|9=>9|66=>368|70=>372|76=>406|77=>336|n=>n,fun|n=>n⟩
theorem Amz:Go.Proofs.SlLaysF0.n6 Tryz.prog Abw:={
 mixed:=by kernel_rfl
 f6:=⟨Tryz.f108.name,by decide,Tryz.func108.trans (congrArg some (by kernel_rfl))⟩
 f14:=⟨Tryz.f190.name,by decide,Tryz.func190.trans (congrArg some (by kernel_rfl))⟩
 f15:=Tryz.func191.trans (congrArg some (by kernel_rfl))
 f20:=⟨Tryz.f283.name,by decide,Tryz.func283.trans (congrArg some (by kernel_rfl))⟩
 f21:=⟨Tryz.f284.name,by decide,Tryz.func284.trans (congrArg some (by kernel_rfl))⟩
 f22:=⟨Tryz.f285.name,by decide,Tryz.func285.trans (congrArg some (by kernel_rfl))⟩
 f23:=⟨Tryz.f286.name,by decide,Tryz.func286.trans (congrArg some (by kernel_rfl))⟩
 f24:=⟨Tryz.f287.name,by decide,Tryz.func287.trans (congrArg some (by kernel_rfl))⟩
 f25:=⟨Tryz.f288.name,by decide,Tryz.func288.trans (congrArg some (by kernel_rfl))⟩
 f26:=⟨Tryz.f289.name,by decide,Tryz.func289.trans (congrArg some (by kernel_rfl))⟩
 f27:=⟨Tryz.f290.name,by decide,Tryz.func290.trans (congrArg some (by kernel_rfl))⟩
 f28:=Tryz.func291.trans (congrArg some (by kernel_rfl))
 f29:=Tryz.func101.trans (congrArg some (by kernel_rfl))
 f46:=⟨Tryz.f352.name,by decide,Tryz.func352.trans (congrArg some (by kernel_rfl))⟩
 f47:=Tryz.func353.trans (congrArg some (by kernel_rfl))
 f48:=Tryz.func354.trans (congrArg some (by kernel_rfl))
 f49:=⟨Tryz.f355.name,by decide,Tryz.func355.trans (congrArg some (by kernel_rfl))⟩
 f50:=⟨Tryz.f356.name,by decide,Tryz.func356.trans (congrArg some (by kernel_rfl))⟩
 f57:=⟨Tryz.f395.name,by decide,Tryz.func395.trans (congrArg some (by kernel_rfl))⟩
 t0:=Tryz.underlying0
 a0:=Tryz.isAgg0
 z0:=Tryz.sizeOf0
 v0:=Tryz.zeroValue0
 t3:=Tryz.underlying3
 a3:=Tryz.isAgg3
 z3:=Tryz.sizeOf3
 v3:=Tryz.zeroValue3
 t4:=Tryz.underlying4
 a4:=Tryz.isAgg4
 z4:=Tryz.sizeOf4
 v4:=Tryz.zeroValue4
 t5:=Tryz.underlying5
 a5:=Tryz.isAgg5
 z5:=Tryz.sizeOf5
 v5:=Tryz.zeroValue5
 t9:=Tryz.underlying9
 a9:=Tryz.isAgg9
 z9:=Tryz.sizeOf9
 v9:=Tryz.zeroValue9
 t22:=Tryz.underlying45
 a22:=Tryz.isAgg45
 z22:=Tryz.sizeOf45
 v22:=Tryz.zeroValue45
 t25:=Tryz.underlying102
 a25:=Tryz.isAgg102
 z25:=Tryz.sizeOf102
 v25:=Tryz.zeroValue102
 t39:=Tryz.underlying146
 a39:=Tryz.isAgg146
 z39:=Tryz.sizeOf146
 v39:=Tryz.zeroValue146
 t45:=Tryz.underlying328
 a45:=Tryz.isAgg328
 z45:=Tryz.sizeOf328
 v45:=Tryz.zeroValue328
 t46:=Tryz.underlying329
 a46:=Tryz.isAgg329
 z46:=Tryz.sizeOf329
 v46:=Tryz.zeroValue329
 t50:=Tryz.underlying118
 a50:=Tryz.isAgg118
 z50:=Tryz.sizeOf118
 v50:=Tryz.zeroValue118
 t53:=Tryz.underlying335
 a53:=Tryz.isAgg335
 z53:=Tryz.sizeOf335
 v53:=Tryz.zeroValue335
 t55:=Tryz.underlying22
 a55:=Tryz.isAgg22
 z55:=Tryz.sizeOf22
 v55:=Tryz.zeroValue22
 t66:=Tryz.underlying368
 a66:=Tryz.isAgg368
 z66:=Tryz.sizeOf368
 v66:=Tryz.zeroValue368
 t70:=Tryz.underlying372
 a70:=Tryz.isAgg372
 z70:=Tryz.sizeOf372
 v70:=Tryz.zeroValue372
 t76:=Tryz.underlying406
 a76:=Tryz.isAgg406
 z76:=Tryz.sizeOf406
 v76:=Tryz.zeroValue406
 t77:=Tryz.underlying336
 a77:=Tryz.isAgg336
 z77:=Tryz.sizeOf336
 v77:=Tryz.zeroValue336}
def Afr:Go.Shelf.Ren:=⟨fun|5=>65|7=>110|n=>n,fun|22=>3|3=>3|4=>4|n=>n,fun|n=>n⟩
theorem Aqa:Go.Proofs.SlLaysC2.n5 Tryz.prog Afr:={
 mixed:=by kernel_rfl
 f5:=⟨Tryz.f65.name,by decide,Tryz.func65.trans (congrArg some (by kernel_rfl))⟩
 f7:=⟨Tryz.f110.name,by decide,Tryz.func110.trans (congrArg some (by kernel_rfl))⟩
 t3:=Tryz.underlying3
 a3:=Tryz.isAgg3
 z3:=Tryz.sizeOf3
 v3:=Tryz.zeroValue3
 t4:=Tryz.underlying4
 a4:=Tryz.isAgg4
 z4:=Tryz.sizeOf4
 v4:=Tryz.zeroValue4
 t22:=Tryz.underlying3
 a22:=Tryz.isAgg3
 z22:=Tryz.sizeOf3
 v22:=Tryz.zeroValue3}
end Go.Proofs.YtgbjodnegkbfoaaGreat
namespace Go.Acc
open Go.RowKit Go.Sort Go.Proofs
section
variable {α:Type} [Inhabited α] {f:α→List Value} {sz:Nat} {w:World} {B g n c:Nat} {e:TypeId} {l:List α}
theorem Pb{v:Value}{xs:List Value}(h:w.ownsRow B e sz v n xs)(hv:v= .slice (some ⟨g,0,none⟩) n c):∃cur,Ag w g e cur∧cur.size=c*sz∧cur.toList.take (n*sz)=xs∧n≤c∧c≤maxLen∧B≤g:=by
 subst hv;rcases h.2 with⟨hv,_⟩|⟨g',cap,cur,hv,hb,hg,hnc,hcm,hcs,htake⟩
 ·cases hv
 ·injection hv with h1 h2 h3
  injection h1 with h1
  injection h1 with h1
  subst h1 h3;exact⟨cur,hg,hcs,htake,hnc,hcm,hb⟩
theorem Aah(hf:∀x,(f x).length=sz)(hz:0<sz)(d:Array α)(j:Nat)(hj:j<d.size*sz):(d.toList.flatMap f)[j]?=some (flatK f sz d)[j]! :=by
 have hd:j/sz<d.toList.length:=by rw [Array.length_toList];exact Nat.div_lt_of_lt_mul (by rw [Nat.mul_comm];exact hj)
 have hm:j % sz<sz:=Nat.mod_lt _ hz;have h1:=Gr hf d.toList (j/sz) (j % sz) hd hm;rw [show j/sz*sz+j % sz=j by rw [Nat.mul_comm];exact Nat.div_add_mod j sz] at h1;rw [h1,get_flatK _ _ _ _ hj];have e1:d[j/sz]! =d.toList[j/sz]:=by
  rw [getElem!_pos d _ (by rw [←Array.length_toList];exact hd)];rfl
 rw [e1,getElem!_pos _ _ (by rw [hf];exact hm)];exact List.getElem?_eq_getElem _
theorem own_holds(hf:∀x,(f x).length=sz)(hz:0<sz)(h:Own f sz e w B (some ⟨g,0,none⟩) n c l):HoldsK f sz w g 0 l.toArray:=by
 intro j hj;rw [size_flatK] at hj;have h1:=Aah hf hz l.toArray j hj;have h2:=Rd.of_own h.2 j _ h1;obtain⟨b,off,e1,h3⟩:=h2;injection e1 with e1
 injection e1 with e1 e2
 subst e1 e2;refine⟨h3,?_⟩;rw [Nat.zero_add];exact J1 h.2 j
theorem Agn(hf:∀x,(f x).length=sz)(hz:0<sz)(h:Own f sz e w B (some ⟨g,0,none⟩) n c l)(d':Array α)(hd:d'.size=n)(m:Nat)(os:Array Obj):
  Own f sz e (sortWorldK f sz w g 0 m d' os) B (some ⟨g,0,none⟩) n c d'.toList∧Fr (fun k=>k=g) w (sortWorldK f sz w g 0 m d' os):=by
 obtain⟨cur,hK,hsz,htake,hnc,hcm,hb⟩:=Pb h.2 rfl;have hlt:=hK.lt;have hblk:(sortWorldK f sz w g 0 m d' os).heap[g]?=some (.cells (putCells id 0 (flatK f sz d') cur) e (0,0)):=by
  unfold sortWorldK putRowK putRow mapBlock;rw [heap_grow_old _ _ (by simpa [ahead] using hlt)];have hK':w.heap[g]?=some (.cells cur e (0,0)):=hK;simp [Array.getElem?_modify,hK',onCells]
 refine⟨⟨by simp [hd],?_,.inr ⟨g,c,_,rfl,hb,hblk,hnc,hcm,?_,?_⟩⟩,⟨rfl,rfl,rfl,?_,?_⟩⟩
 ·rw [Bi hf,Array.length_toList,hd]
 ·unfold putCells;rw [Array.size_mapIdx];exact hsz
 ·have hncs:n*sz≤cur.size:=by rw [hsz];exact Nat.mul_le_mul_right _ hnc
  apply List.ext_getElem?;intro j;rw [List.getElem?_take];by_cases hj:j<n*sz
  ·rw [if_pos hj,Aah hf hz d' j (by rw [hd];exact hj)];have hjc:j<cur.size:=by omega
   unfold putCells;simp [size_flatK,hd,hj,hjc]
  ·rw [if_neg hj,List.getElem?_eq_none];rw [Bi hf,Array.length_toList,hd];omega
 ·unfold sortWorldK;rw [size_grow];simp [putRowK,putRow,mapBlock]
 ·intro k hk hne;unfold sortWorldK putRowK putRow mapBlock;rw [heap_grow_old _ _ (by simpa [ahead] using hk)];rw [Array.getElem?_modify,if_neg (fun e=>hne e.symm)];rfl
end
end Go.Acc
namespace Go.Proofs.YtgbjodnegkbfoaaGreat
open Go.RowKit Go.Acc
def Vl(x y z:Int):Int:=if x≠0 then x else if y≠0 then y else z
theorem Ao3(b:Nat)(x y z:Int)(w:World)(h0:w.cell? ⟨b,0,none⟩=some (Aa Ab x))(h1:w.cell? ⟨b,1,none⟩=some (Aa Ab y))(h2:w.cell? ⟨b,2,none⟩=some (Aa Ab z)):
  Calls Tryz.prog 64 #[.slice (some ⟨b,0,none⟩) 3 3] w fun e w'=>e= .returned (Aa Ab (Vl x y z))∧w=w':=by
 by_cases hx:x=0
 ·subst hx;by_cases hy:y=0
  ·subst hy;by_cases hz:z=0
   ·subst hz;go_enter Tryz.func64,Tryz.ntmps64;go_wp2;refine wp_loop_rounds 4 ?_
    repeat (rw [rounds_succ];go_wp2)
    all_goals
     go_ret;exact⟨rfl,rfl⟩
   ·have hz':(z != 0)=true:=by simpa using hz
    have e:Vl 0 0 z=z:=rfl;rw [e];clear hz e;go_enter Tryz.func64,Tryz.ntmps64;go_wp2;refine wp_loop_rounds 4 ?_
    repeat (rw [rounds_succ];go_wp2)
    all_goals
     go_ret;exact⟨rfl,rfl⟩
  ·have hy':(y != 0)=true:=by simpa using hy
   have e:Vl 0 y z=y:=by unfold Vl;rw [if_neg (by decide),if_pos hy]
   rw [e];clear hy e;go_enter Tryz.func64,Tryz.ntmps64;go_wp2;refine wp_loop_rounds 4 ?_
   repeat (rw [rounds_succ];go_wp2)
   all_goals
    go_ret;exact⟨rfl,rfl⟩
 ·have hx':(x != 0)=true:=by simpa using hx
  have e:Vl x y z=x:=by unfold Vl;rw [if_pos hx]
  rw [e];clear hx e;go_enter Tryz.func64,Tryz.ntmps64;go_wp2;refine wp_loop_rounds 4 ?_
  repeat (rw [rounds_succ];go_wp2)
  all_goals
   go_ret;exact⟨rfl,rfl⟩
theorem Ol(x y:Int)(r:Int)(hr:Lib.compareInt x y=r)(w:World):Calls Tryz.prog 65 #[Aa Ab x,Aa Ab y] w fun e w'=>e= .returned (Aa Ab r)∧w=w':=by
 subst hr;have h:=AnyG.cmp_Compare_int Aqa x y w;change Calls Tryz.prog 65 _ _ _ at h;exact h.mono fun _ _ ⟨he,hw⟩=>⟨he,hw.symm⟩
def Xk(x y:P3):Int:=Vl (Lib.compareInt x.1 y.1) (Lib.compareInt x.2.1 y.2.1) (Lib.compareInt x.2.2 y.2.2)
theorem Ac6(a b c a' b' c':Int)(w:World):
  Calls Tryz.prog 63 #[.agg #[Aa Ab a,Aa Ab b,Aa Ab c],.agg #[Aa Ab a',Aa Ab b',Aa Ab c']] w fun e w'=>e= .returned (Aa Ab (Xk (a,b,c) (a',b',c')))∧∃q os,w'=Sort.grow (w.drewN q) os:=by
 obtain⟨r,hr⟩:∃r,Lib.compareInt a a'=r:=⟨_,rfl⟩;obtain⟨s,hs⟩:∃r,Lib.compareInt b b'=r:=⟨_,rfl⟩;obtain⟨t,ht⟩:∃r,Lib.compareInt c c'=r:=⟨_,rfl⟩;have e:Xk (a,b,c) (a',b',c')=Vl r s t:=by unfold Xk;simp only [hr,hs,ht]
 rw [e];have HR:=Hd hr;have HS:=Hd hs;have HT:=Hd ht;clear hr hs ht e;go_enter Tryz.func63,Tryz.ntmps63;go_upto_region 1 with fail
 have HX:=Hd ((Ag.new w 49 #[Aa Ab a,Aa Ab b,Aa Ab c]).alloc (.cells #[Aa Ab a',Aa Ab b',Aa Ab c'] 49));have HY:=Hd (Ag.new_ (w:=w.alloc (.cells #[Aa Ab a,Aa Ab b,Aa Ab c] 49)) (g:=w.heap.size+1) (by simp) 49 #[Aa Ab a',Aa Ab b',Aa Ab c']);have HG:=Hd (show ∃q os,(w.alloc (.cells #[Aa Ab a,Aa Ab b,Aa Ab c] 49)).alloc (.cells #[Aa Ab a',Aa Ab b',Aa Ab c'] 49)=Sort.grow (w.drewN q) os from⟨0,_,by rw [Sort.alloc_eq_grow,Sort.alloc_eq_grow,Sort.grow_grow];rfl⟩);generalize (w.alloc (.cells #[Aa Ab a,Aa Ab b,Aa Ab c] 49)).alloc (.cells #[Aa Ab a',Aa Ab b',Aa Ab c'] 49)=w1 at HX HY HG⊢;obtain ⟨x0,x1,x2⟩:=HX.o.c3;obtain ⟨y0,y1,y2⟩:=HY.o.c3;have z0:=Hd (show(w1.alloc (.cells #[Aa Ab r,Aa Ab s,Aa Ab t] 3)).drew.cell? ⟨w1.heap.size,0,none⟩=some (Aa Ab r) from(Ag.new w1 3 _).cell 0);have z1:=Hd (show(w1.alloc (.cells #[Aa Ab r,Aa Ab s,Aa Ab t] 3)).drew.cell? ⟨w1.heap.size,1,none⟩=some (Aa Ab s) from(Ag.new w1 3 _).cell 1);have z2:=Hd (show(w1.alloc (.cells #[Aa Ab r,Aa Ab s,Aa Ab t] 3)).drew.cell? ⟨w1.heap.size,2,none⟩=some (Aa Ab t) from(Ag.new w1 3 _).cell 2);go_region_held3 (fun w'=>w'.cell? ⟨w.heap.size,0,none⟩=some (Aa Ab a)∧w'.cell? ⟨w.heap.size,1,none⟩=some (Aa Ab b)∧w'.cell? ⟨w.heap.size,2,none⟩=some (Aa Ab c)∧w'.cell? ⟨w.heap.size+1,0,none⟩=some (Aa Ab a')∧w'.cell? ⟨w.heap.size+1,1,none⟩=some (Aa Ab b')∧w'.cell? ⟨w.heap.size+1,2,none⟩=some (Aa Ab c'))
  (first|with_reducible exact⟨x0,x1,x2,y0,y1,y2⟩|with_reducible exact⟨Bq x0,Bq x1,Bq x2,Bq y0,Bq y1,Bq y2⟩|with_reducible exact⟨Bq (Fz _ x0),Bq (Fz _ x1),Bq (Fz _ x2),Bq (Fz _ y0),Bq (Fz _ y1),Bq (Fz _ y2)⟩)
  (first
   |(go_at_call 65;(first|(with_reducible refine(Ol a a' r HR.o _).mono ?_)|(with_reducible refine(Ol b b' s HS.o _).mono ?_)|(with_reducible refine(Ol c c' t HT.o _).mono ?_));rintro e w' ⟨rfl,rfl⟩)
   |(go_at_call 64;(with_reducible refine(Ao3 w1.heap.size r s t _ z0.o z1.o z2.o).mono ?_);rintro e w' ⟨rfl,rfl⟩))
 go_wp2_with fail;go_ret;obtain⟨q,os,hg⟩:=HG.o;rw [hg];exact⟨rfl,q+1,_,by rw [Sort.alloc_eq_grow,Sort.grow_grow];rfl⟩
end Go.Proofs.YtgbjodnegkbfoaaGreat
namespace Go.Proofs.YtgbjodnegkbfoaaGreat
open Go.RowKit Go.Acc Go.Sort
def Ic(x y:P3):Prop:=x.1<y.1∨(x.1=y.1∧(x.2.1<y.2.1∨(x.2.1=y.2.1∧x.2.2<y.2.2)))
instance (x y:P3):Decidable (Ic x y):=by unfold Ic;infer_instance
theorem Ald(a b:Int):(a<b∧Lib.compareInt a b= -1)∨(a=b∧Lib.compareInt a b=0)∨(b<a∧Lib.compareInt a b=1):=by
 unfold Lib.compareInt;by_cases h1:a<b
 ·simp [h1]
 ·by_cases h2:b<a
  ·simp [h1,h2]
  ·have:a=b:=by omega
   simp [this]
theorem U5(x y:P3):ltOf Xk x y=decide (Ic x y):=by
 unfold ltOf Xk Vl Ic;rcases Ald x.1 y.1 with⟨h1,e1⟩|⟨h1,e1⟩|⟨h1,e1⟩ <;>rcases Ald x.2.1 y.2.1 with⟨h2,e2⟩|⟨h2,e2⟩|⟨h2,e2⟩ <;>rcases Ald x.2.2 y.2.2 with⟨h3,e3⟩|⟨h3,e3⟩|⟨h3,e3⟩ <;>rw [e1,e2,e3] <;>(apply decide_eq_decide.2;simp;omega)
theorem Asf:SWO (ltOf Xk) where
 irrefl x:=by rw [U5];apply decide_eq_false;unfold Ic;omega
 trans x y z h1 h2:=by rw [U5] at *;have h1:=of_decide_eq_true h1;have h2:=of_decide_eq_true h2;apply decide_eq_true;unfold Ic at *;omega
 ntrans x y z h1 h2:=by rw [U5] at *;have h1:=of_decide_eq_false h1;have h2:=of_decide_eq_false h2;apply decide_eq_false;unfold Ic at *;omega
theorem Al0(x:P3):(pc x).length=3:=rfl
theorem Asd(x:P3):∀v∈pc x,v.oneCell'=true:=Ajr x
def Ahh(l:List P3):Prop:=∀(i j:Nat) (hi:i<l.length) (hj:j<l.length),i<j→¬Ic l[j] l[i]
theorem Agt(B g n c:Nat)(l:List P3)(w:World)(h:I0 w B (some ⟨g,0,none⟩) n c l)(hn:n≤2147483648):
  Calls Tryz.prog 108 #[.slice (some ⟨g,0,none⟩) n c,.func (.func 63) #[] #[]] w fun e w'=>e= .returned (.tuple #[])∧∃m:List P3,m.Perm l∧Ahh m∧I0 w' B (some ⟨g,0,none⟩) n c m∧Fr (fun k=>k=g) w w':=by
 have eg:∀args w,(callFunc 63 args).run Tryz.prog w= .ok (.enter 63 args) w:=enters_of Tryz.func63 (by kernel_rfl) rfl;have hlay:CmpLays Tryz.prog 63 #[] pc 3 Xk g 0 l.toArray.size w:=fun _ _ _ _ x y=>Ac6 x.1 x.2.1 x.2.2 y.1 y.2.1 y.2.2 _
 have hlt:g<w.heap.size:=(Pb h.2 rfl).elim fun _ h=>h.1.lt
 have hn':l.toArray.size=n:=by rw [List.size_toArray];exact h.1
 have hs:=AnyQ.slices_SortFunc Amz 3 Tryz.isAgg49 Tryz.sizeOf49 pc Al0 Asd Xk Asf 63 #[] g 0 c l.toArray w eg hlay (own_holds Al0 (by decide) h) hlt (by omega);rw [hn'] at hs;change Calls Tryz.prog 108 _ _ _ at hs;refine hs.mono ?_;rintro e w' ⟨rfl,d,m,os,hp,hsd,rfl⟩;have hdn:d.size=n:=by rw [hp.1,hn']
 obtain⟨h1,h2⟩:=Agn Al0 (by decide) h d hdn m os;refine⟨rfl,d.toList,?_,?_,h1,h2⟩
 ·have h3:=hp.2.2;rw [show d.extract 0 n=d by rw [←hdn];simp,show l.toArray.extract 0 n=l.toArray by rw [←hn'];simp] at h3;simpa using h3
 ·intro i j hi hj hij;rw [Array.length_toList] at hi hj;have h4:=hsd i j (Nat.zero_le _) hij (by omega);rw [U5,getElem!_pos d j hj,getElem!_pos d i hi] at h4;have h5:=of_decide_eq_false h4;simpa using h5
end Go.Proofs.YtgbjodnegkbfoaaGreat
namespace Go.Acc
open Go.RowKit Go.Sort Go.Proofs
section
variable {α:Type} {f:α→List Value} {sz:Nat} {w:World} {B g n c:Nat} {e:TypeId} {l:List α} {P:Program}
theorem Yv(t ty:TypeId)(z:Value)(ht:P.underlying t=some (.slice e))(hv:∀W,(zeroValue e).run P W= .ok z W)(hzs:z.cells.size=sz)(hz1:∀u∈z.cells.toList,u.oneCell'=true)(hf:∀x,(f x).length=sz)
  (h:Own f sz e w B (some ⟨g,0,none⟩) n c l) (k cc:Nat) (hk:k<n):
  ∃w',(Builtin.clear_ #[t] ty #[.slice (some ⟨g,k*sz,none⟩) (n-k) cc]).run P w= .ok (.tuple #[]) w'∧Own f sz e w' B (some ⟨g,0,none⟩) k c (l.take k)∧Fr (fun k=>k=g) w w':=by
 have hg:∃cur,Ag w g e cur∧cur.size=c*sz∧cur.toList.take (n*sz)=l.flatMap f∧n≤c∧c≤maxLen∧B≤g:=by
  rcases h.2.2 with⟨hv,_⟩|⟨g',cap,cur,hv,hb,hg,hnc,hcm,hcs,htake⟩
  ·cases hv
  ·injection hv with h1 h2 h3
   injection h1 with h1
   injection h1 with h1
   subst h1 h3;exact⟨cur,hg,hcs,htake,hnc,hcm,hb⟩
 obtain⟨cur,hK,hsz,htake,hnc,hcm,hb⟩:=hg;have hm:(Builtin.zeroCells z.cells (n-k)).toList.length=(n-k)*sz:=by rw [Array.length_toList,size_zeroCells,hzs]
 have e1:k*sz+(n-k)*sz=n*sz:=by rw [←Nat.add_mul];congr 1;omega
 have e2:n*sz≤c*sz:=Nat.mul_le_mul_right _ hnc;have hst:=run_storeCells_at P g (k*sz) e (Builtin.zeroCells z.cells (n-k)).toList 0 cur w hK (by rw [hm];omega) (by
  intro u hu;simp only [Builtin.zeroCells,Array.toList_map,List.mem_map] at hu;obtain⟨i,hi,rfl⟩:=hu;have hi':i<(n-k)*z.cells.size:=by simpa using hi
  have h0:0<z.cells.size:=by
   rcases Nat.eq_zero_or_pos z.cells.size with h|h
   ·rw [h] at hi';simp at hi'
   ·exact h
  have hmod:i % z.cells.size<z.cells.size:=Nat.mod_lt _ h0;rw [getElem!_pos z.cells _ hmod];exact hz1 _ (by simp))
 simp only [Nat.add_zero] at hst;obtain⟨m,hm1⟩:∃m,n-k=m+1:=⟨n-k-1,by omega⟩;refine⟨w.setRow g (cur.toList.take (k*sz)++(Builtin.zeroCells z.cells (n-k)).toList++cur.toList.drop (k*sz+(Builtin.zeroCells z.cells (n-k)).toList.length)).toArray,?_,⟨by rw [List.length_take,h.1];omega,?_,.inr ⟨g,c,_,rfl,hb,setRow_heap w g cur _ e _ hK,by omega,hcm,?_,?_⟩⟩,⟨rfl,rfl,rfl,by simp [World.setRow],fun i _ hi=>setRow_other w g i _ (by rintro rfl;exact hi rfl)⟩⟩
 ·rw [hm1] at hst⊢;simp [Builtin.clear_,run_underlying ht,hv,hst]
 ·rw [Bi hf,List.length_take,h.1,Nat.min_eq_left (by omega)]
 ·simp only [List.size_toArray,List.length_append,List.length_take,List.length_drop,Array.length_toList];rw [Array.length_toList] at hm;omega
 ·rw [Lq hf,←htake,List.take_take,Asx,List.take_append_of_le_length (by rw [List.length_take,Array.length_toList];omega),List.take_take]
  congr 1
  omega
end
end Go.Acc
namespace Go.Proofs.YtgbjodnegkbfoaaGreat
open Go.RowKit Go.Acc Go.Lib
theorem Ad8:∀(x y:P3) (W:World),(Op.equal 49 (F7 x) (F7 y)).run Tryz.prog W= .ok (decide (x=y)) W:=by
 rintro⟨a,b,c⟩ ⟨a',b',c'⟩ W;by_cases h1:a=a' <;>by_cases h2:b=b' <;>by_cases h3:c=c' <;>(simp only [F7];(change (Op.equalIn 10000 _ _ _).run Tryz.prog W=_);go_simp)
theorem Abe(x y:P3)(b:Bool)(h:decide (x=y)=b):∀W:World,(binOp .eql 49 (.agg #[Aa Ab x.1,Aa Ab x.2.1,Aa Ab x.2.2]) (.agg #[Aa Ab y.1,Aa Ab y.2.1,Aa Ab y.2.2])).run Tryz.prog W= .ok (.bool b) W:=by
 intro W;subst h;rw [run_eql_struct];have h1:(Op.equalIn 10000 49 (.agg #[Aa Ab x.1,Aa Ab x.2.1,Aa Ab x.2.2]) (.agg #[Aa Ab y.1,Aa Ab y.2.1,Aa Ab y.2.2])).run Tryz.prog W=_:=Ad8 x y W;rw [h1];rfl
theorem Abf(x y:P3)(b:Bool)(h:(!decide (x=y))=b):∀W:World,(binOp .neq 49 (.agg #[Aa Ab x.1,Aa Ab x.2.1,Aa Ab x.2.2]) (.agg #[Aa Ab y.1,Aa Ab y.2.1,Aa Ab y.2.2])).run Tryz.prog W= .ok (.bool b) W:=by
 intro W;subst h;rw [run_neq_struct];have h1:(Op.equalIn 10000 49 (.agg #[Aa Ab x.1,Aa Ab x.2.1,Aa Ab x.2.2]) (.agg #[Aa Ab y.1,Aa Ab y.2.1,Aa Ab y.2.2])).run Tryz.prog W=_:=Ad8 x y W;rw [h1];rfl
theorem tail_run(g n c k:Nat)(hk:k<n)(hc:n≤c):∀w,(Instr.sliceAt 45 (.slice (some ⟨g,0,none⟩) n c) (some (Aa Ab k)) none none).run Tryz.prog w= .ok (.slice (some ⟨g,k*3,none⟩) (n-k) (c-k)) w:=by
 intro w;have ht:Tryz.prog.underlying 45=some (.slice (Tryz.prog.elem 45)):=by kernel_rfl
 have hz:(sizeOf (Tryz.prog.elem 45)).run Tryz.prog w= .ok 3 w:=by kernel_rfl
 rw [run_sliceAt_slice (h:=ht),run_slice_l (ht:=ht) (h0:=by omega) (h1:=by omega),hz];simp [Result.andThen,sliced,G3];omega
theorem head_run(g n c k:Nat)(hk:k≤c):∀w,(Instr.sliceAt 45 (.slice (some ⟨g,0,none⟩) n c) none (some (Aa Ab k)) none).run Tryz.prog w= .ok (.slice (some ⟨g,0,none⟩) k c) w:=by
 intro w;have ht:Tryz.prog.underlying 45=some (.slice (Tryz.prog.elem 45)):=by kernel_rfl
 have hz:(sizeOf (Tryz.prog.elem 45)).run Tryz.prog w= .ok 3 w:=by kernel_rfl
 rw [run_sliceAt_slice (h:=ht),run_slice_h (ht:=ht) (h0:=by omega) (h2:=by omega),hz];simp [Result.andThen,sliced,Addr.add]
theorem Rs{w:World}{B g n c k:Nat}{d:Array P3}{a b e:Int}(h:I0 w B (some ⟨g,0,none⟩) n c d.toList)(hk:k<n)(hx:d[k]! =(a,b,e)):
  (w.cell? ⟨g,k*3,none⟩=some (Aa Ab a)∧w.cell? ⟨g,k*3+1,none⟩=some (Aa Ab b)∧w.cell? ⟨g,k*3+2,none⟩=some (Aa Ab e))∧w.frozen? ⟨g,k*3,none⟩=false∧w.frozen? ⟨g,k*3+1,none⟩=false∧w.frozen? ⟨g,k*3+2,none⟩=false:=by
 obtain⟨b',off,e1,hk',h1⟩:=h.is.at_ J3 (by omega) hk;injection e1 with e1
 injection e1 with e1 e2
 subst e1 e2;have hx':d.toList[k]=(a,b,e):=by
  rw [←hx,getElem!_pos d k (by simpa using hk')];simp
 rw [hx'] at h1;have h0:=h1 0 (by omega);have h2:=h1 1 (by omega);have h3:=h1 2 (by omega);simp only [Nat.zero_add,Nat.add_zero] at h0 h2 h3;exact⟨⟨h0,h2,h3⟩,J1 h.2 _,J1 h.2 _,J1 h.2 _⟩
theorem Ami{w:World}{B g n c k:Nat}{d:Array P3}(h:I0 w B (some ⟨g,0,none⟩) n c d.toList)(hk:k<n)(a b e:Int):
  I0 (((w.setCell ⟨g,k*3,none⟩ (Aa Ab a)).setCell ⟨g,k*3+1,none⟩ (Aa Ab b)).setCell ⟨g,k*3+2,none⟩ (Aa Ab e)) B (some ⟨g,0,none⟩) n c (d.setIfInBounds k (a,b,e)).toList:=by
 have hd:d.toList.length=n:=h.1;refine⟨by simpa using hd,?_⟩;have h1:=((h.2.stored (k*3) (Aa Ab a)).1.stored (k*3+1) (Aa Ab b)).1.stored (k*3+2) (Aa Ab e);have e1:(d.setIfInBounds k (a,b,e)).toList.flatMap pc=(((d.toList.flatMap pc).set (k*3) (Aa Ab a)).set (k*3+1) (Aa Ab b)).set (k*3+2) (Aa Ab e):=by
  apply List.ext_getElem?;intro j;simp only [List.getElem?_set,List.length_set,Bi J3,hd,Array.toList_setIfInBounds];by_cases hj:j<n*3
  ·have hjd:j/3<n:=Nat.div_lt_of_lt_mul (by omega);have hjm:j % 3<3:=Nat.mod_lt _ (by omega);have hjj:j=j/3*3+j % 3:=by omega
   rw [hjj];generalize j/3=q at hjd;generalize j % 3=r at hjm;rw [Gr J3 _ q r (by rw [List.length_set];omega) hjm,Gr J3 _ q r (by omega) hjm,List.getElem_set];by_cases hq:k=q
   ·subst hq;rw [if_pos rfl];have:r=0∨r=1∨r=2:=by omega
    rcases this with rfl|rfl|rfl
    ·simp [pc];omega
    ·simp [pc];omega
    ·simp [pc];omega
   ·rw [if_neg hq,if_neg (by omega),if_neg (by omega),if_neg (by omega)]
  ·rw [List.getElem?_eq_none (by rw [Bi J3,List.length_set];omega),if_neg (by omega),if_neg (by omega),if_neg (by omega),List.getElem?_eq_none (by rw [Bi J3];omega)]
 rw [e1];exact h1.1
end Go.Proofs.YtgbjodnegkbfoaaGreat
namespace Go.Proofs.YtgbjodnegkbfoaaGreat
open Go.RowKit Go.Acc Go.Lib Go.Sort
theorem Ti{w:World}{B g n c k o:Nat}{d:Array P3}{a b e:Int}(h:I0 w B (some ⟨g,0,none⟩) n c d.toList)(hk:k<n)(hx:d[k]! =(a,b,e))(ho:k*3=o):
  w.cell? ⟨g,o,none⟩=some (Aa Ab a)∧w.cell? ⟨g,o+1,none⟩=some (Aa Ab b)∧w.cell? ⟨g,o+2,none⟩=some (Aa Ab e):=by
 subst ho;exact(Rs h hk hx).1
theorem Ao5{w:World}{B g n c:Nat}{d:Array P3}(h:I0 w B (some ⟨g,0,none⟩) n c d.toList)(k:Nat)(hk:k<n):
  (w.frozen? ⟨g,k*3,none⟩=false∧w.frozen? ⟨g,k*3+1,none⟩=false∧w.frozen? ⟨g,k*3+2,none⟩=false):=by
 obtain⟨⟨a,b,e⟩,hx⟩:∃x,d[k]! =x:=⟨_,rfl⟩;exact(Rs h hk hx).2
theorem P2(d:Array P3)(h:∀j,j<d.size→keeps d j=true):compactUpTo d d.size=d.toList:=by
 rw [compactUpTo_all d d.size h,range_map_get]
theorem Acn(d:Array P3)(h:d.size<2):compactUpTo d d.size=d.toList:=by
 rw [compactUpTo_all d d.size (fun j hj=>keeps_lt_one d j (by omega)),range_map_get]
theorem Zp(B g n c:Nat)(d:Array P3)(w:World)(h:I0 w B (some ⟨g,0,none⟩) n c d.toList)(hn:n≤2147483648):
  Calls Tryz.prog 109 #[.slice (some ⟨g,0,none⟩) n c] w fun e w'=>∃k,k=(compactUpTo d d.size).length∧e= .returned (.slice (some ⟨g,0,none⟩) k c)∧I0 w' B (some ⟨g,0,none⟩) k c (compactUpTo d d.size)∧Fr (fun k=>k=g) w w':=by
 have hdn:d.size=n:=by rw [←Array.length_toList];exact h.1
 have hcap:=h.cap.1;by_cases h2:n<2
 ·have hd2:decide ((n:Int)<2)=true:=decide_eq_true (by omega);have HO:=Hd h;have HD:=Hd hdn;have HC:=Hd (Acn d (by omega));clear h hdn;go_enter Tryz.func109,Tryz.ntmps109;go_wp2;go_ret;refine⟨n,?_,rfl,?_,Fr.refl _ _⟩
  ·rw [HC.o,Array.length_toList,HD.o]
  ·rw [HC.o];exact HO.o
 ·have hd2:decide ((n:Int)<2)=false:=decide_eq_false (by omega);have HO:=Hd h;have HD:=Hd hdn;clear h hdn;go_enter Tryz.func109,Tryz.ntmps109;go_wp2;go_loopg [3] n (fun gg s3 wr=>∃k:Nat,1≤k∧k≤n∧n-k≤gg∧s3= Aa Ab k∧I0 wr B (some ⟨g,0,none⟩) n c d.toList∧Fr (fun k=>k=g) w wr∧∀j,j<k→keeps d j=true)
  case atStart=>exact⟨1,Asp _,by omega,by omega,rfl,HO.o,Fr.refl _ _,keeps_lt_one d⟩
  case round=>
   obtain⟨k,hk1,hk,hg,rfl,hO,hF,hall⟩:=hrel;obtain⟨j,rfl⟩:∃j,k=j+1:=⟨k-1,by omega⟩;by_cases hlt:j+1<n
   ·obtain⟨⟨x0,x1,x2⟩,hx⟩:∃x,d[j+1]! =x:=⟨_,rfl⟩;obtain⟨⟨y0,y1,y2⟩,hy⟩:∃x,d[j]! =x:=⟨_,rfl⟩;have A:=Hd hall;have HX:=Hd hx;have HY:=Hd hy;have HO1:=Hd hO;have HF1:=Hd hF;clear hall hx hy hO hF HO;obtain⟨⟨a0,a1,a2⟩,_⟩:=Rs HO1.o hlt HX.o;obtain⟨⟨b0,b1,b2⟩,_⟩:=Rs HO1.o (show j<n by omega) HY.o;have hw1:IntKind.i64.wrap (j:Int)=(j:Int):=IntWalk.i64_in _ (by omega);have hi0:0≤(j:Int)+1:=by omega
    have hi1:(j:Int)+1<(n:Int):=by omega
    have hi2:((j:Int)+1).toNat=j+1:=by omega
    have hj1:j<n:=by omega
    have hw2:IntKind.i64.wrap ((j:Int)+1+1)=(j:Int)+1+1:=IntWalk.i64_in _ (by omega);by_cases hxy:(x0,x1,x2)=(y0,y1,y2)
    ·have heq:=Abe (x0,x1,x2) (y0,y1,y2) true (decide_eq_true hxy);have HEQ:=Hd hxy;have ht:=tail_run g n c (j+1) hlt hcap;simp only [Int.natCast_add,Int.cast_ofNat_Int] at ht;clear hxy;go_wp2_with fail;go_quiet (fail);go_wp2_with fail;have HO2:=Hd (HO1.o.pure (below_drewN (Below.refl _ _) nq));have HF2:=Hd (HF1.o.drewN nq);have hci:CompInv d (j+1+1) (j+1) d:=CompInv.start A.o (keeps_neg (by omega) (by rw [Nat.add_sub_cancel,HX.o,HY.o];exact HEQ.o));have HCI:=Hd hci;generalize wr.drewN nq=wa at HO2 HF2⊢;clear a0 a1 a2 b0 b1 b2 hci heq hw1 hi0 hi1 hi2 hw2;go_loopg [3,5] n (fun gg s3 s5 wr=>∃(m k:Nat) (dk:Array P3),j+1+(m+1)≤n∧n-m≤gg∧s3= Aa Ab k∧s5= Aa Ab ((m:Int)+1)∧CompInv d (j+1+(m+1)) k dk∧I0 wr B (some ⟨g,0,none⟩) n c dk.toList∧Fr (fun k=>k=g) w wr)
     case atStart=>exact⟨0,j+1,d,by omega,by omega,by go_num,by go_num,HCI.o,HO2.o,HF2.o⟩
     case round=>
      clear HCI HO2 HF2;obtain⟨m,k,dk,hm,hg3,rfl,rfl,hci,hO,hF⟩:=hrel;have HO2:=Hd hO;have HF2:=Hd hF;have hklt:=hci.lt;have HCI:=Hd hci;clear hO hF hci;by_cases hlt2:j+1+(m+1)<n
      ·obtain⟨⟨p0,p1,p2⟩,hp⟩:∃x,d[j+1+(m+1)]! =x:=⟨_,rfl⟩;obtain⟨⟨q0,q1,q2⟩,hq⟩:∃x,d[j+1+m]! =x:=⟨_,rfl⟩;obtain⟨a0,a1,a2⟩:=Ti HO2.o hlt2 ((HCI.o.high _ (by omega)).trans hp) (show(j+1+(m+1))*3=(j+1)*3+(m+1)*3 by omega);obtain⟨b0,b1,b2⟩:=Ti HO2.o (show j+1+m<n by omega) ((HCI.o.high _ (by omega)).trans hq) (show(j+1+m)*3=(j+1)*3+m*3 by omega);obtain⟨⟨r0,r1,r2⟩,hr⟩:∃x,dk[k]! =x:=⟨_,rfl⟩;obtain⟨c0,c1,c2⟩:=Ti HO2.o (show k<n by omega) hr rfl;obtain⟨z0,z1,z2⟩:=Ao5 HO2.o k (by omega);clear hr;have HP:=Hd hp;have HQ:=Hd hq;clear hp hq;have hw1:IntKind.i64.wrap (m:Int)=(m:Int):=IntWalk.i64_in _ (by omega);have hi0:0≤(m:Int)+1:=by omega
       have hi1:(m:Int)+1<((n-(j+1):Nat):Int):=by omega
       have hi2:((m:Int)+1).toNat=m+1:=by omega
       have hj1:m<n-(j+1):=by omega
       have hk1:k<n:=by omega
       have hw2:IntKind.i64.wrap ((m:Int)+1+1)=(m:Int)+1+1:=IntWalk.i64_in _ (by omega);have hw3:IntKind.i64.wrap ((k:Int)+1)=(k:Int)+1:=IntWalk.i64_in _ (by omega);by_cases hpq:(p0,p1,p2)=(q0,q1,q2)
       ·have heq:=Abf (p0,p1,p2) (q0,q1,q2) false (by rw [decide_eq_true hpq];rfl);have HPQ:=Hd hpq;clear hpq;go_wp2_with fail;go_quiet (fail);go_wp2_with fail;go_roundg (n-(m+1))
        case measure=>omega
        case rel=>
         refine⟨m+1,k,dk,by omega,by omega,by go_num,by go_num,?_,HO2.o.pure (below_drewN (Below.refl _ _) _),HF2.o.drewN _⟩;exact HCI.o.skip (keeps_neg (by omega) (by rw [HP.o,show j+1+(m+1)-1=j+1+m by omega,HQ.o];exact HPQ.o))
       ·have heq:=Abf (p0,p1,p2) (q0,q1,q2) true (by rw [decide_eq_false hpq];rfl);have HPQ:=Hd hpq;clear hpq;go_wp2_with fail;go_quiet (fail);go_wp2_with fail;have HS:=Hd (Ami (HO2.o.pure (below_drewN (Below.refl _ _) nq)) hk1 p0 p1 p2);have hf:Fr (fun k=>k=g) w ((((wr.drewN nq).setCell ⟨g,k*3,none⟩ (Aa Ab p0)).setCell ⟨g,k*3+1,none⟩ (Aa Ab p1)).setCell ⟨g,k*3+2,none⟩ (Aa Ab p2)):=(((HF2.o.drewN nq).setCell (fun _=>rfl) _).setCell (fun _=>rfl) _).setCell (fun _=>rfl) _;have HFS:=Hd hf;clear hf;go_roundg (n-(m+1))
        case measure=>omega
        case rel=>
         refine⟨m+1,k+1,dk.setIfInBounds k (p0,p1,p2),by omega,by omega,by go_num,by go_num,?_,HS.o,HFS.o⟩;have:=HCI.o.keep (by rw [HD.o];omega) (keeps_pos (by rw [HP.o,show j+1+(m+1)-1=j+1+m by omega,HQ.o];exact HPQ.o));rw [HP.o] at this;exact this
      ·have hj2:j+1+(m+1)=n:=by omega
       have hkn:k<n:=by omega
       have ht2:=tail_run g n c k hkn hcap;have hh2:=head_run g n c k (by omega);have hz:∀W:World,(zeroValue 49).run Tryz.prog W= .ok (.agg #[Aa Ab 0,Aa Ab 0,Aa Ab 0]) W:=by intro W;go_simp
       obtain⟨w',hcl,hO',hF'⟩:=Yv (P:=Tryz.prog) (sz:=3) 45 0 (.agg #[Aa Ab 0,Aa Ab 0,Aa Ab 0]) Tryz.underlying45 hz rfl (by decide) J3 HO2.o k (c-k) hkn;have HOC:=Hd hO';have HFC:=Hd (HF2.o.trans hF' (fun _ _ h=>h));have hlk:(compactUpTo d d.size).length=k:=by rw [HD.o,←hj2];exact HCI.o.len
       have hlow:compactUpTo d d.size=dk.toList.take k:=by
        have hsz:dk.size=n:=by rw [HCI.o.size,HD.o]
        apply List.ext_getElem?;intro i;by_cases hi:i<k
        ·have h1:=HCI.o.low i hi;rw [hj2,←HD.o] at h1;rw [h1,List.getElem?_take_of_lt hi,getElem!_pos dk i (by omega)];simp
        ·rw [List.getElem?_eq_none (by omega),List.getElem?_eq_none (by rw [List.length_take];omega)]
       have HL:=Hd hlow;have HLK:=Hd hlk;clear hO' hF' hz hlk hlow hj2;go_wp2_with fail;go_ret;refine⟨k,HLK.o.symm,rfl,?_,HFC.o⟩;rw [HL.o];exact HOC.o
    ·have heq:=Abe (x0,x1,x2) (y0,y1,y2) false (decide_eq_false hxy);have HNE:=Hd hxy;clear hxy;go_wp2_with fail;go_quiet (fail);go_wp2_with fail;go_roundg (n-(j+2))
     case measure=>omega
     case rel=>
      refine⟨j+2,by omega,by omega,by omega,by go_num,HO1.o.pure (below_drewN (Below.refl _ _) _),HF1.o.drewN _,?_⟩;intro i hi;by_cases e:i=j+1
      ·subst e;exact keeps_pos (by rw [Nat.add_sub_cancel,HX.o,HY.o];exact HNE.o)
      ·exact A.o i (by omega)
   ·obtain rfl:n=j+1:=by omega
    have HA:=Hd hall;clear hall;have HO1:=Hd hO;have HF1:=Hd hF;clear hO hF;go_wp2_with fail;go_ret;refine⟨j+1,?_,rfl,?_,HF1.o⟩
    ·rw [P2 d (by rw [HD.o];exact HA.o),Array.length_toList,HD.o]
    ·rw [P2 d (by rw [HD.o];exact HA.o)];exact HO1.o
theorem O1(x:P3):¬Ic x x:=by unfold Ic;omega
theorem Qt{x y z:P3}(h1:Ic x y)(h2:Ic y z):Ic x z:=by unfold Ic at *;omega
theorem Qs(x y:P3):Ic x y∨x=y∨Ic y x:=by
 obtain⟨a,b,c⟩:=x;obtain⟨a',b',c'⟩:=y;unfold Ic;simp only [Prod.mk.injEq];omega
def Mf(x:P3):List P3→List P3
 | []=>[x]
 |y::l=>if Ic y x then y::Mf x l else if y=x then y::l else x::y::l
def K3(l:List P3):List P3:=l.foldl (fun m x=>Mf x m) []
abbrev I7(l:List P3):Prop:=l.Pairwise Ic
theorem Tb(x y:P3):∀l,y∈Mf x l↔y=x∨y∈l
 | []=>by simp [Mf]
 |z::l=>by
  unfold Mf;split
  ·rw [List.mem_cons,Tb x y l,List.mem_cons];constructor
   ·rintro(h|h|h)
    ·exact .inr (.inl h)
    ·exact .inl h
    ·exact .inr (.inr h)
   ·rintro(h|h|h)
    ·exact .inr (.inl h)
    ·exact .inl h
    ·exact .inr (.inr h)
  ·split
   ·rename_i h;subst h;simp
   ·simp
theorem Si(x:P3):∀l,I7 l→I7 (Mf x l)
 | [],_=>by simp [Mf]
 |y::l,h=>by
  have h':=List.pairwise_cons.1 h;unfold Mf;split
  ·rename_i hyx;refine List.pairwise_cons.2 ⟨fun z hz=>?_,Si x l h'.2⟩;rcases(Tb x z l).1 hz with rfl|hz
   ·exact hyx
   ·exact h'.1 z hz
  ·split
   ·exact h
   ·rename_i h1 h2;have hxy:Ic x y:=by
     rcases Qs x y with h|h|h
     ·exact h
     ·exact absurd h.symm h2
     ·exact absurd h h1
    refine List.pairwise_cons.2 ⟨fun z hz=>?_,h⟩;rcases List.mem_cons.1 hz with rfl|hz
    ·exact hxy
    ·exact Qt hxy (h'.1 z hz)
theorem Sh:∀(l m:List P3),I7 m→I7 (l.foldl (fun m x=>Mf x m) m)
 | [],_,h=>h
 |x::l,m,h=>Sh l (Mf x m) (Si x m h)
theorem Aa8(y:P3):∀(l m:List P3),y∈l.foldl (fun m x=>Mf x m) m↔y∈m∨y∈l
 | [],m=>by simp
 |x::l,m=>by
  rw [List.foldl_cons,Aa8 y l,Tb,List.mem_cons];constructor
  ·rintro((h|h)|h)
   ·exact .inr (.inl h)
   ·exact .inl h
   ·exact .inr (.inr h)
  ·rintro(h|h|h)
   ·exact .inl (.inr h)
   ·exact .inl (.inl h)
   ·exact .inr h
theorem Yw(l:List P3):I7 (K3 l):=Sh l [] List.Pairwise.nil
theorem Agh(y:P3)(l:List P3):y∈K3 l↔y∈l:=by rw [K3,Aa8];simp
theorem Vr:∀(l m:List P3),I7 l→I7 m→(∀x,x∈l↔x∈m)→l=m
 | [],[],_,_,_=>rfl
 | [],y::m,_,_,h=>by have:=(h y).2 (by simp);simp at this
 |x::l,[],_,_,h=>by have:=(h x).1 (by simp);simp at this
 |x::l,y::m,hl,hm,h=>by
  have hl':=List.pairwise_cons.1 hl;have hm':=List.pairwise_cons.1 hm;have hxy:x=y:=by
   rcases List.mem_cons.1 ((h x).1 (by simp)) with e|e
   ·exact e
   ·rcases List.mem_cons.1 ((h y).2 (by simp)) with e'|e'
    ·exact e'.symm
    ·exact absurd (Qt (hl'.1 y e') (hm'.1 x e)) (O1 x)
  subst hxy
  congr 1
  refine Vr l m hl'.2 hm'.2 fun z=>?_
  have hz:=h z;rw [List.mem_cons,List.mem_cons] at hz;constructor
  ·intro hzl;rcases hz.1 (.inr hzl) with e|e
   ·subst e;exact absurd (hl'.1 z hzl) (O1 z)
   ·exact e
  ·intro hzl;rcases hz.2 (.inr hzl) with e|e
   ·subst e;exact absurd (hm'.1 z hzl) (O1 z)
   ·exact e
theorem Nj(d:Array P3):∀m,m≤d.size→∀x,x∈compactUpTo d m↔∃j,j<m∧d[j]! =x
 |0,_,x=>by simp [compactUpTo]
 |m+1,hm,x=>by
  rw [compactUpTo_succ,List.mem_append,Nj d m (by omega) x];constructor
  ·rintro(⟨j,hj,e⟩|h)
   ·exact⟨j,by omega,e⟩
   ·split at h
    ·exact⟨m,by omega,(List.mem_singleton.1 h).symm⟩
    ·cases h
  ·rintro⟨j,hj,e⟩;by_cases hjm:j=m
   ·subst hjm;by_cases hk:keeps d j=true
    ·right;rw [if_pos hk];simp [e]
    ·left;have h0:j≠0:=by rintro rfl;exact hk (by simp [keeps])
     refine⟨j-1,by omega,?_⟩;by_cases he:d[j]! =d[j-1]!
     ·rw [←he,e]
     ·exact absurd (keeps_pos he) hk
   ·exact .inl ⟨j,by omega,e⟩
theorem N5(d:Array P3)(hs:∀i j,i<j→j<d.size→¬Ic d[j]! d[i]!):∀m,m≤d.size→I7 (compactUpTo d m)
 |0,_=>by simp [compactUpTo]
 |m+1,hm=>by
  rw [compactUpTo_succ];refine List.pairwise_append.2 ⟨N5 d hs m (by omega),by split <;>simp,?_⟩;intro x hx y hy;split at hy
  ·rename_i hk;obtain rfl:=List.mem_singleton.1 hy;obtain⟨j,hj,rfl⟩:=(Nj d m (by omega) x).1 hx;have hne:d[m]! ≠d[m-1]! :=by
    unfold keeps at hk;rcases of_decide_eq_true hk with h|h
    ·omega
    ·exact h
   have h1:=hs (m-1) m (by omega) (by omega);have h2:Ic d[m-1]! d[m]! :=by
    rcases Qs d[m-1]! d[m]! with h|h|h
    ·exact h
    ·exact absurd h.symm hne
    ·exact absurd h h1
   by_cases e:j=m-1
   ·subst e;exact h2
   ·have h3:=hs j (m-1) (by omega) (by omega);rcases Qs d[j]! d[m-1]! with h|h|h
    ·exact Qt h h2
    ·rw [h];exact h2
    ·exact absurd h h3
  ·cases hy
theorem V7(l m:List P3)(hp:m.Perm l)(hr:Ahh m):compactUpTo m.toArray m.toArray.size=K3 l:=by
 refine Vr _ _ (N5 _ ?_ _ (Asp _)) (Yw l) fun x=>?_
 ·intro i j hij hj;have hj':j<m.length:=by simpa using hj
  have:=hr i j (by omega) hj' hij;rw [getElem!_pos m.toArray j (by simpa using hj'),getElem!_pos m.toArray i (by simp;omega)];simpa using this
 ·rw [Nj _ _ (Asp _),Agh,←hp.mem_iff,List.mem_iff_getElem];constructor
  ·rintro⟨j,hj,e⟩;have hj':j<m.length:=by simpa using hj
   rw [getElem!_pos m.toArray j hj] at e;exact⟨j,hj',by simpa using e⟩
  ·rintro⟨j,hj,e⟩;refine⟨j,by simpa using hj,?_⟩;rw [getElem!_pos m.toArray j (by simpa using hj)];simpa using e
end Go.Proofs.YtgbjodnegkbfoaaGreat
namespace Go.Proofs.YtgbjodnegkbfoaaGreat
open Go.RowKit Go.Acc
def Arb(n:Nat)(x:P3):Prop:=0≤x.1∧x.1<x.2.1∧x.2.1≤n∧1≤x.2.2∧x.2.2≤14
def Ed(n:Nat)(s s':Ay):Prop:=∃t,s'.o=s.o++t∧∀x∈t,Arb n x
theorem Ed.refl(n:Nat)(s:Ay):Ed n s s:=⟨[],by simp,by simp⟩
theorem Ed.trans{n:Nat}{s s' s'':Ay}(h:Ed n s s')(h':Ed n s' s''):Ed n s s'':=by
 obtain⟨t,e,g⟩:=h;obtain⟨t',e',g'⟩:=h';refine⟨t++t',by rw [e',e,Asx],fun x hx=>?_⟩;rcases List.mem_append.1 hx with hx|hx
 ·exact g x hx
 ·exact g' x hx
theorem Fo{n:Nat}(s:Ay){a b c:Int}(ha:0≤a)(hb:b≤n)(hc:1≤c∧c≤14):Ed n s (s.tell a b c):=by
 unfold Ay.tell;split
 ·rename_i h;exact⟨[(a,b,c)],rfl,fun x hx=>by rw [List.mem_singleton.1 hx];exact⟨ha,h,hb,hc.1,hc.2⟩⟩
 ·exact Ed.refl n s
def Nq(l:List UInt8)(go:Rq→Ay→Ay×Int):Prop:=∀r s,Ly l.length r→Ed l.length s (go r s).1
theorem Af5{l:List UInt8}{p q t v:Int}{ts:List Nat}(h:Dj l p q t v ts=0):Bj l.length p q t v=0∧Hi ts t=true∧Bh l p q t v=0∧(if t=4 then Jy l (Bb l p q t v).toNat else Ff l (Bb l p q t v).toNat v.toNat (if t=5 then 1 else 0))=0:=by
 unfold Dj at h;split at h
 ·rename_i h1;exact absurd h h1
 ·rename_i h1;split at h
  ·cases h
  ·rename_i h2;split at h
   ·rename_i h3;exact absurd h h3
   ·rename_i h3;refine⟨by simpa using h1,by simpa using h2,by simpa using h3,?_⟩;split at h
    ·rename_i h4;rw [if_pos h4];exact h
    ·rename_i h4;rw [if_neg h4];exact h
theorem Aki{l:List UInt8}{p q t v:Int}(h:Dj l p q t v [4,5,25]=0):
  0≤Dr l p q t v [4,5,25]∧Dr l p q t v [4,5,25]+(Ea l p q t v [4,5,25]).length≤l.length∧(t=4∨t=5→Dr l p q t v [4,5,25]+(Ea l p q t v [4,5,25]).length+1≤l.length)∧
  (t≠4→v≤Dr l p q t v [4,5,25])∧1≤v∧Dr l p q t v [4,5,25]=Bb l p q t v:=by
 obtain⟨h1,h2,hv0,hv8,hm⟩:=Lj h;obtain⟨_,_,h3,h4⟩:=Af5 h;have hv:=(U7 hm).2;have ht:=R1 h3;have ea:Dr l p q t v [4,5,25]=Bb l p q t v:=by unfold Dr;rw [if_pos h]
 have eL:Ea l p q t v [4,5,25]=if t=4 then Mh l (Bb l p q t v).toNat else cntL l (Bb l p q t v).toNat v.toNat:=by unfold Ea;rw [if_pos h]
 refine⟨h1,h2,?_,?_,hv.1,ea⟩
 ·intro ht45;by_cases h4':t=4
  ·rw [if_pos h4'] at h4 eL;unfold Jy at h4;split at h4
   ·rename_i hz;rw [ea,eL];unfold Mh;rw [List.length_take,List.length_drop];have hz2:=(Yo (l:=l) (k:=(Bb l p q t v).toNat) (by omega)).1;omega
   ·cases h4
  ·rw [if_neg h4'] at h4 eL;have h5:t=5:=by omega
   rw [if_pos h5] at h4;unfold Ff at h4;split at h4
   ·cases h4
   ·split at h4
    ·cases h4
    ·split at h4
     ·cases h4
     ·rw [ea,eL];unfold cntL;rw [List.length_take,List.length_drop];omega
 ·intro h4';rw [if_neg h4'] at h4;unfold Ff at h4;split at h4
  ·cases h4
  ·split at h4
   ·cases h4
   ·rw [ea];omega
theorem Afc{l:List UInt8}{p q t v:Int}(h:Dk l p q t v=0):0≤E8 l p q t v∧E8 l p q t v+Fg l p q t v≤l.length∧0≤Fg l p q t v:=by
 unfold E8 Fg;rw [if_pos h,if_pos h];rcases Qz l p q t v with⟨hm,e⟩|⟨hm,h'⟩
 ·rw [e] at h;exact absurd h hm
 have hr:=U7 hm;obtain⟨⟨h0,h1,h2,h3⟩,h4,h5⟩:=hr;simp only at h0 h1 h2 h3;rcases h' with⟨_,e⟩|⟨_,hi,_⟩|⟨_,hi,⟨g,e⟩|⟨_,_,e⟩|⟨_,_,_,e⟩|⟨_,_,hb,_⟩⟩
 ·rw [e] at h;cases h
 ·rw [if_pos hi,if_pos hi];omega
 ·rw [e] at h;exact absurd h g
 ·rw [e] at h;cases h
 ·rw [e] at h;cases h
 ·rw [if_neg (by rw [hi];decide),if_neg (by rw [hi];decide)];have:=De.1 hb;omega
section
variable {l:List UInt8} {go:Rq→Ay→Ay×Int} (r:Rq)
theorem Apq(s:Ay):Ed l.length s (D9 l r s).1:=by
 unfold D9;split
 ·exact Ed.refl _ s
 ·rename_i h;obtain⟨h1,h2,h3,h4,h5,_⟩:=Aki (Decidable.of_not_not h);split
  ·rename_i ht;exact Fo s h1 (h3 (.inl ht)) (by omega)
  ·rename_i ht;split
   ·rename_i ht5;exact(Fo s (by have:=h4 ht;omega) (by omega) (by omega)).trans (Fo _ h1 (h3 (.inr ht5)) (by omega))
   ·exact(Fo s (by have:=h4 ht;omega) (by omega) (by omega)).trans (Fo _ h1 h2 (by omega))
theorem Akz(s:Ay):Ed l.length s (En l r s).1:=by
 unfold En;split
 ·rename_i h;obtain⟨h1,h2,_⟩:=Afc h;refine Fo s h1 h2 ?_;split <;>omega
 ·exact Ed.refl _ s
theorem Aoo(hgo:Nq l go)(s:Ay):Ed l.length s (Hr l go r s).1:=by
 unfold Hr;split
 ·exact Ed.refl _ s
 ·rename_i h;obtain⟨_,_,h3,h4,h5,_⟩:=Ans (Decidable.of_not_not h);have h6:=hgo (Cl l r) s h3;split
  ·exact h6
  ·exact h6.trans (Fo _ (by omega) (by omega) (by omega))
theorem Aq4(hl:Bs l r.p r.q r.t r.v=0)(i:Nat)(hi:i<lsLen l r.p r.q r.t r.v)(s:Ay):Ed l.length s (Fh l r i s):=by
 unfold Fh;split
 ·rename_i ht;obtain⟨h1,h2,_,h4⟩:=Kn hl;have e1:tgs r.t=1:=by unfold tgs;rw [if_pos ht]
  rw [e1,Nat.mul_add,Nat.mul_one] at h4;have e2:((lsLen l r.p r.q r.t r.v*r.v.toNat:Nat):Int)=lsLen l r.p r.q r.t r.v*r.v:=by
   rw [Int.natCast_mul,Int.toNat_of_nonneg (by omega)]
  rw [←e2];generalize lsLen l r.p r.q r.t r.v*r.v.toNat=X at*;exact Fo s (by omega) (by omega) (by omega)
 ·exact Ed.refl _ s
theorem Aqk(hl:Bs l r.p r.q r.t r.v=0)(s:Ay):Ed l.length s (Js l r s):=by
 unfold Js;split
 ·rename_i hlt;obtain⟨h1,h2,h3,h4⟩:=Kn hl;have h5:1≤aheadT r.t:=by
   rcases Nat.eq_zero_or_pos (aheadT r.t) with h|h
   ·rw [h] at h3;omega
   ·exact h
  have h6:1*r.v.toNat≤aheadT r.t*r.v.toNat:=Nat.mul_le_mul_right _ h5;generalize aheadT r.t*r.v.toNat=X at*;generalize lsLen l r.p r.q r.t r.v*(r.v.toNat+tgs r.t)=Y at*;exact Fo s (by omega) (by omega) (by omega)
 ·exact Ed.refl _ s
theorem Z2(hgo:Nq l go)(hl:Bs l r.p r.q r.t r.v=0):∀(k i:Nat) (s:Ay),i+k≤lsLen l r.p r.q r.t r.v→Ed l.length s (Ep l go r k i s).1
 |0,i,s,_=>Ed.refl _ s
 |k+1,i,s,hk=>by
  unfold Ep;have ht:=Aq4 r hl i (by omega) s;split
  ·exact ht
  ·rename_i ha;have hg:=hgo (Bw l r i) (Fh l r i s) (Afd hl (by omega) (Decidable.of_not_not ha));split
   ·exact ht.trans hg
   ·exact(ht.trans hg).trans (Z2 hgo hl k (i+1) _ (by omega))
theorem Adu(hgo:Nq l go)(s:Ay):Ed l.length s (Fk l go r s).1:=by
 unfold Fk;split
 ·exact Aoo r hgo s
 ·exact Ed.refl _ s
theorem Aoq(hgo:Nq l go)(s:Ay):Ed l.length s (Fx l go r s).1:=by
 unfold Fx;split
 ·exact Ed.refl _ s
 ·rename_i h;have hl:=Decidable.of_not_not h;split
  ·exact Adu r hgo s
  ·exact((Adu r hgo s).trans (Aqk r hl _)).trans (Z2 r hgo hl _ _ _ (by omega))
theorem Aob(hgo:Nq l go)(s:Ay):Ed l.length s (Eo l go r s).1:=by
 unfold Eo;split
 ·exact Apq r s
 ·split
  ·exact Akz r s
  ·exact Aoq r hgo s
end
theorem Alh(t:Int):1≤Iw t∧Iw t≤14:=by unfold Iw;(repeat' split) <;>omega
theorem Am1{l:List UInt8}(r:Rq)(s:Ay)(hr:Ly l.length r):Ed l.length s (Cz r s):=by
 obtain⟨h0,h1,h2,h3⟩:=hr;exact(show Ed l.length s s.burn from⟨[],by simp [Ay.burn],by simp⟩).trans (Fo _ h0 h3 (Alh _))
theorem Adp(l:List UInt8):∀d,Nq l (Bz l d)
 |0,r,s,_=>Ed.refl _ s
 |d+1,r,s,hr=>by
  unfold Bz;split
  ·exact Ed.refl _ s
  ·have hs:=Am1 r s hr;split
   ·exact hs
   ·split
    ·exact hs
    ·exact(hs.trans (show Ed l.length (Cz r s) ((Cz r s).see (Ht l r)) from⟨[],by simp [Ay.see],by simp⟩)).trans (Aob r (Adp l d) _)
end Go.Proofs.YtgbjodnegkbfoaaGreat
