/- Parts of the proof. -/
import Derived.Test.YtgbjodnegkbfoaaGreatQa25
import Derived.Deep.RegionHeld3
import Derived.Deep.Strs
set_option maxHeartbeats 4000000
set_option maxRecDepth 100000
open Go.Value renaming int→Aa
open Go.IntKind renaming i64→Ab,u64→Ac
open Nat renaming le_refl→Ath,zero_le→Atl,lt_of_lt_of_le→Atr
open List renaming getElem?_eq_getElem→Ati,length_append→Atj,length_cons→Atp,take_of_length_le→Att
namespace Go.Proofs.YtgbjodnegkbfoaaGreat
open Go.RowKit Go.Acc
mutual
def Ec(m:Nat):Tr→Nat→Tr×Nat
 | .mk k n u s ks l,left=>(.mk k n u (s.take m) ((ks.take 64).map fun x=>x.take m) (Ev m l left).1,(Ev m l left).2)
def Ev(m:Nat):List Tr→Nat→List Tr×Nat
 | [],left=>([],left)
 |t::r,left=>if left=0 then([],0) else((Ec m t (left-1)).1::(Ev m r (Ec m t (left-1)).2).1,(Ev m r (Ec m t (left-1)).2).2)
end
theorem Aa3(m:Nat):∀(l:List (List UInt8)),Bb (l.map fun x=>x.take m)≤l.length*(m+20)
 | []=>by simp [Bb]
 |x::r=>by
  have h:=Aa3 m r;have h1:(x.take m).length≤m:=by rw [List.length_take];omega
  simp only [List.map_cons,Bb,Atp,Nat.add_mul,Nat.one_mul];omega
mutual
theorem Qr(m:Nat):∀(t:Tr) (left:Nat),(Ec m t left).2≤left∧(Ec m t left).1.cost≤64+2*m+64*(m+20)+(left-(Ec m t left).2)*(104+2*m+64*(m+20))
 | .mk k n u s ks l,left=>by
  have h:=Xp m l left;rw [Ec];refine⟨h.1,?_⟩;simp only [Tr.cost];have h1:(s.take m).length≤m:=by rw [List.length_take];omega
  have h2:=Aa3 m (ks.take 64);have h3:(ks.take 64).length≤64:=by rw [List.length_take];omega
  have h4:=Nat.mul_le_mul_right (m+20) h3;omega
theorem Xp(m:Nat):∀(l:List Tr) (left:Nat),(Ev m l left).2≤left∧Tr.costL (Ev m l left).1≤(left-(Ev m l left).2)*(104+2*m+64*(m+20))
 | [],left=>by simp [Ev,Tr.costL]
 |t::r,left=>by
  rw [Ev];by_cases h0:left=0
  ·rw [if_pos h0];simp [Tr.costL]
  ·rw [if_neg h0];have h1:=Qr m t (left-1);have h2:=Xp m r (Ec m t (left-1)).2;refine⟨by omega,?_⟩;simp only [Tr.costL];generalize (Ec m t (left-1)).2=a at*;generalize (Ev m r a).2=b at*;have e:left-b=(left-1-a)+(a-b)+1:=by omega
   rw [e,Nat.add_mul,Nat.add_mul];omega
end
mutual
theorem S5(m:Nat):∀(t:Tr) (left d:Nat),(Tr.pre d (Ec m t left).1).length+(Ec m t left).2≤left+1
 | .mk k n u s ks l,left,d=>by
  have h:=Z9 m l left (d+1);rw [Ec,Tr.pre,Atp];omega
theorem Z9(m:Nat):∀(l:List Tr) (left d:Nat),(Tr.pre.Tr.preL d (Ev m l left).1).length+(Ev m l left).2≤left
 | [],left,d=>by simp [Ev,Tr.pre.Tr.preL]
 |t::r,left,d=>by
  rw [Ev];by_cases h0:left=0
  ·rw [if_pos h0];simp [Tr.pre.Tr.preL]
  ·rw [if_neg h0];have h1:=S5 m t (left-1) d;have h2:=Z9 m r (Ec m t (left-1)).2 d;simp only [Tr.pre.Tr.preL,Atj];omega
end
inductive Xc(m:Nat):Tr→Prop
 |mk {k n:Int} {u:Nat} {s:List UInt8} {ks:List (List UInt8)} {l:List Tr} (h1:s.length≤m) (h2:∀x∈ks,x.length≤m) (h:∀t∈l,Xc m t):Xc m (.mk k n u s ks l)
mutual
theorem S4(m:Nat):∀(t:Tr) (left:Nat),Xc m (Ec m t left).1
 | .mk k n u s ks l,left=>by
  rw [Ec];refine .mk (by rw [List.length_take];omega) (fun x hx=>?_) (Z7 m l left);obtain⟨y,_,rfl⟩:=List.mem_map.1 hx;rw [List.length_take];omega
theorem Z7(m:Nat):∀(l:List Tr) (left:Nat),∀t∈(Ev m l left).1,Xc m t
 | [],left,t,h=>by simp [Ev] at h
 |x::r,left,t,h=>by
  rw [Ev] at h;by_cases h0:left=0
  ·rw [if_pos h0] at h;simp at h
  ·rw [if_neg h0] at h;rcases List.mem_cons.1 h with h|h
   ·rw [h];exact S4 m x (left-1)
   ·exact Z7 m r _ t h
end
mutual
theorem Aaa(m:Nat):∀(t:Tr) (left:Nat),Fb t→Fb (Ec m t left).1
 | .mk k n u s ks l,left,h=>by
  cases h with
  |mk h1 h2 h=>
   rw [Ec];exact .mk h1 h2 (Z8 m l left h)
theorem Z8(m:Nat):∀(l:List Tr) (left:Nat),(∀t∈l,Fb t)→∀t∈(Ev m l left).1,Fb t
 | [],left,_,t,h=>by simp [Ev] at h
 |x::r,left,hn,t,h=>by
  rw [Ev] at h;by_cases h0:left=0
  ·rw [if_pos h0] at h;simp at h
  ·rw [if_neg h0] at h;rcases List.mem_cons.1 h with h|h
   ·rw [h];exact Aaa m x (left-1) (hn x (by simp))
   ·exact Z8 m r _ (fun y hy=>hn y (by simp [hy])) t h
end
theorem Aa4(m:Nat):∀(l:List (List UInt8)),(∀x∈l,x.length≤m)→Bb l≤l.length*(m+20)
 | [],_=>by simp [Bb]
 |x::r,h=>by
  have h1:=Aa4 m r (fun y hy=>h y (by simp [hy]));have h2:=h x (by simp);simp only [Bb,Atp,Nat.add_mul,Nat.one_mul];omega
mutual
theorem Z5(m:Nat):∀(t:Tr) (d:Nat),Ff t→Xc m t→t.cost+m+60≤(Tr.pre d t).length*(124+2*m)
 | .mk k n u s ks l,d,hv,hl=>by
  cases hv with
  |mk g1 _ _ _ gl=>
  cases hl with
  |mk l1 l2 l3=>
   have h:=Xn m l (d+1) gl l3;have hk:=Aa4 m ks l2;simp only [Dv,Bool.and_eq_true,decide_eq_true_eq] at g1;obtain⟨⟨⟨⟨⟨_,gks⟩,_⟩,glen⟩,_⟩,_⟩:=g1;have gks:k=17∨ks=[]:=gks;have glen:k=17→ks.length=l.length:=glen;have hkl:ks.length≤l.length:=by
    rcases gks with h|h
    ·rw [glen h];exact Ath _
    ·rw [h];simp
   have hkm:=Nat.mul_le_mul_right (m+20) hkl;rw [Tr.pre,Tr.cost,Atp,Nat.add_mul,Nat.one_mul];omega
theorem Xn(m:Nat):∀(l:List Tr) (d:Nat),(∀t∈l,Ff t)→(∀t∈l,Xc m t)→Tr.costL l+l.length*(m+20)≤(Tr.pre.Tr.preL d l).length*(124+2*m)
 | [],d,_,_=>by simp [Tr.costL,Tr.pre.Tr.preL]
 |t::r,d,hv,hl=>by
  have h1:=Z5 m t d (hv t (by simp)) (hl t (by simp));have h2:=Xn m r d (fun x hx=>hv x (by simp [hx])) (fun x hx=>hl x (by simp [hx]));simp only [Tr.costL,Tr.pre.Tr.preL,Atj,Atp,Nat.add_mul,Nat.one_mul];simp only [Nat.mul_add] at h1 h2⊢;omega
end
theorem Ab8(s:List UInt8)(m:Nat)(w:World):Calls Tryz.prog 85 #[.string ⟨s.toArray⟩,Aa Ab m] w fun e w'=>e= .returned (.string ⟨(s.take m).toArray⟩)∧w=w':=by
 have hs:(⟨s.toArray⟩:ByteArray).size=s.length:=rfl;by_cases h:m<s.length
 ·have hm0:(m:Int)≤s.length:=by omega
  have hd:decide (m<s.length)=true:=decide_eq_true h;have he:(⟨s.toArray⟩:ByteArray).extract 0 m=⟨(s.take m).toArray⟩:=by
   rw [ByteArray.extract_mk,List.drop_zero,Nat.sub_zero]
  have HE:=Hd he;clear he;go_enter Tryz.func85,Tryz.ntmps85;go_wp2;go_ret;refine⟨?_,rfl⟩;show Ending.returned (.string (ByteArray.extract ⟨s.toArray⟩ 0 (min (s.length:Int) (m:Int)).toNat))=_;rw [show(min (s.length:Int) (m:Int)).toNat=m by omega,HE.o]
 ·have hd:decide (m<s.length)=false:=decide_eq_false h;have he:s.take m=s:=Att (by omega);have HE:=Hd he;clear he;go_enter Tryz.func85,Tryz.ntmps85;go_wp2;go_ret;refine⟨?_,rfl⟩;show Ending.returned (.string (ByteArray.extract ⟨s.toArray⟩ 0 (min (s.length:Int) (m:Int)).toNat))=_;rw [show(min (s.length:Int) (m:Int)).toNat=s.length by omega,HE.o,ByteArray.extract_mk];simp
def Aoh(w:World)(n:Nat)(l:List (List UInt8))(e:Ending)(w':World):Prop:=∃A c,e= .returned (.slice A n c)∧Kz w' w.heap.size A n c l∧Below w.heap.size w w'
theorem Ahj(A:Option Addr)(n c:Nat)(l:List (List UInt8))(many long:Nat)(w:World)(h:Ey w A n l)(hm:many≤1000):
  Calls Tryz.prog 86 #[.slice A n c,Aa Ab (many:Int),Aa Ab (long:Int)] w (Aoh w (min n many) ((l.take many).map fun x=>x.take long)):=by
 have HI:=Hd h;have hl:l.length=n:=by have:=h.1;simpa using this
 have HL:=Hd hl;have HSH:=Hd (fun(s:List UInt8) (w:World)=>Ab8 s long w);clear h hl;go_enter Tryz.func86,Tryz.ntmps86;go_wp2_with fail;go_loopw [7,8] (fun s u wr=>∃k:Nat,k≤n∧k≤many∧u= Aa Ab (k:Int)∧∃B d,s= .slice B k d∧Kz wr w.heap.size B k d ((l.take k).map fun x=>x.take long)∧Below w.heap.size w wr) (fun _ u _=>many-(intOf u).toNat)
 case atStart=>exact⟨0,Atl _,Atl _,rfl,none,0,rfl,Own.nil _ _,Below.refl _ _⟩
 case round=>
  obtain⟨k,hk,hkm,rfl,B,d,rfl,ho,hb⟩:=hrel;have HO:=Hd ho;have HB:=Hd hb;have HIR:=Hd (HI.o.pure hb);clear ho hb;by_cases h1:k<n
  ·by_cases h2:k<many
   ·obtain⟨g,off,e,hk',hs⟩:=Gd HIR.o h1;have HT:=Hd (show(l.take (k+1)).map (fun x=>x.take long)=(l.take k).map (fun x=>x.take long)++ [l[k].take long] by
     rw [List.take_succ_eq_append_getElem hk',List.map_append];rfl)
    generalize l[k]=y at hs HT;have hk0:(0:Int)≤(k:Int):=by omega
    have hkn:(k:Int)<(n:Int):=by omega
    have hkM:(k:Int)<(many:Int):=by omega
    rw [e];have HE:=Hd e;clear e hk';go_wp2_with fail;go_at_call 85;refine(HSH.o _ _).mono ?_;rintro e w' ⟨rfl,rfl⟩;have HO1:=Hd (HO.o.pure ((Below.refl wr.heap.size wr).alloc (Ath _) (.cells #[.string ⟨(y.take long).toArray⟩] 9)));have HB1:=Hd (HB.o.alloc HB.o.size (.cells #[.string ⟨(y.take long).toArray⟩] 9));have HI1:=Hd (Sc wr (y.take long));go_wp2_with (at_builtin;refine Dt _ rfl (.tmp 20) (.tmp 27) _ rfl 9 _ 1 16 Tryz.underlying23 R3 rfl (by omega) Dp Ot _ _ _ _ _ rfl HO1.o _ _ _ _ rfl HI1.o (by omega) HB1.o.size ?_;intro A1 c1 w1 hown1 hfr1 hat1);have HO4:=Hd hown1;have HB4:=Hd (Bs HB1.o hfr1 (by rintro j ⟨ad,e,rfl⟩;exact(HO1.o.addr ad e).2.1));clear hown1 hfr1 hat1 hs;go_wp2_with fail;go_roundw
    case rel=>exact⟨k+1,by omega,by omega,by go_num,A1,c1,rfl,by rw [HT.o];exact HO4.o,HB4.o⟩
    case measure=>simp [intOf];omega
   ·obtain rfl:many=k:=by omega
    have hkn:(many:Int)<(n:Int):=by omega
    have hmin:min n many=many:=by omega
    have HM:=Hd hmin;clear hmin;go_wp2_with fail;go_ret;rw [HM.o];exact⟨B,d,rfl,HO.o,HB.o⟩
  ·obtain rfl:n=k:=by omega
   have hmin:min n many=n:=by omega
   have ht:l.take many=l.take n:=by rw [Att (by have:=HL.o;omega),Att (by have:=HL.o;omega)]
   have HM:=Hd (And.intro hmin ht);clear hmin ht;go_wp2_with fail;go_ret;rw [HM.o.1,HM.o.2];exact⟨B,d,rfl,HO.o,HB.o⟩
inductive G5(w:World):Nv→Tr→Prop
 |mk {x:Nv} {ks:List (List UInt8)} {l:List Tr} {vs:List Nv} (h1:Ey w x.A x.an ks) (h2:Fh w x.B x.bn vs) (hn:x.bn≤9223372036854775807) (hl:vs.length=l.length)
   (hc:∀(i:Nat) v t,vs[i]?=some v→l[i]?=some t→G5 w v t):G5 w x (.mk x.k x.n x.u x.s ks l)
theorem G5.pure{w w':World}{x:Nv}{t:Tr}(h:G5 w x t)(hb:Below w.heap.size w w'):G5 w' x t:=by
 induction h with
 |mk h1 h2 hn hl hc ih=>exact .mk (h1.pure hb) (h2.pure hb) hn hl ih
structure Sf(w:World)(B k:Nat)(ts:List Tr)(A:Option Addr)(c:Nat)(vs:List Nv):Prop where
 own:Jg w B A k c vs
 len:ts.length=k
 kids:∀(i:Nat) v t,vs[i]?=some v→ts[i]?=some t→Bk w (fun b=>B≤b∧b<w.heap.size∧∀ad,A=some ad→b≠ad.block) v t
theorem Sf.nil(w:World)(B:Nat):Sf w B 0 [] none 0 []:=⟨Own.nil _ _,rfl,fun i v t hv _=>by simp at hv⟩
theorem Sf.fr{w w':World}{B k rb:Nat}{ts:List Tr}{A:Option Addr}{c:Nat}{vs:List Nv}(h:Sf w B k ts A c vs)(hf:Fr (fun j=>j=rb) w w')(hr:rb<B):Sf w' B k ts A c vs:=
 ⟨h.own.fr hf (fun ad e=>by have:=(h.own.addr ad e).2.1;omega),h.len,fun i v t hv ht=>((h.kids i v t hv ht).keep fun a u hc hp=>By hf hc (by omega)).mono fun b hb=>⟨hb.1,Atr hb.2.1 hf.size,hb.2.2⟩⟩
theorem Sf.step{w W7 W8:World}{B k rb a:Nat}{ts:List Tr}{A A1:Option Addr}{c c1:Nat}{vs:List Nv}{y:Nv}{t:Tr}(h:Sf w B k ts A c vs)(hf:Fr (fun j=>j=rb) w W7)(hr:rb<B)(hB:B≤w.heap.size)(ha:w.heap.size≤a)
  (hx:Bk W7 (fun b=>a≤b∧b<W7.heap.size) y t) (ho:Jg W8 B A1 (k+1) c1 (vs++ [y])) (hF:Fr (fun b=>∃ad,A=some ad∧b=ad.block) W7 W8)
  (hat:A1.map (·.block)=A.map (·.block)∨A1.map (·.block)=some W7.heap.size):Sf W8 B (k+1) (ts++ [t]) A1 c1 (vs++ [y]):=by
 have hA:∀ad,A=some ad→B≤ad.block∧ad.block<w.heap.size:=fun ad e=>(h.own.addr ad e).2
 have hl:vs.length=k:=h.own.1;have hs:=hf.size;have hS:=hF.size;have hA1:∀ad,A1=some ad→(∃ad0,A=some ad0∧ad.block=ad0.block)∨ad.block=W7.heap.size:=by
  rintro ad rfl;rcases hat with e|e
  ·cases A with
   |none=>simp at e
   |some ad0=>simp at e;exact .inl ⟨ad0,rfl,e⟩
  ·simp at e;exact .inr e
 refine⟨ho,by rw [Atj,h.len];rfl,fun i v t' hv ht=>?_⟩;by_cases hi:i<k
 ·rw [List.getElem?_append_left (by omega)] at hv;rw [List.getElem?_append_left (by rw [h.len];exact hi)] at ht;refine((h.kids i v t' hv ht).keep fun b u hc hp=>By hF (By hf hc (by omega)) ?_).mono fun b hb=>⟨hb.1,by omega,fun ad e e2=>?_⟩
  ·rintro⟨ad,e,e2⟩;exact hp.2.2 ad e e2
  ·rcases hA1 ad e with⟨ad0,e3,e4⟩|e3
   ·exact hb.2.2 ad0 e3 (e2.trans e4)
   ·omega
 ·have hik:i=k:=by
   have:=(List.getElem?_eq_some_iff.1 hv).1;simp at this;omega
  subst hik;rw [List.getElem?_append_right (by omega),hl,Nat.sub_self] at hv;rw [List.getElem?_append_right (by rw [h.len];exact Ath _),h.len,Nat.sub_self] at ht;simp at hv ht;subst hv ht;refine(hx.keep fun b u hc hp=>By hF hc ?_).mono fun b hb=>⟨by omega,by omega,fun ad e e2=>?_⟩
  ·rintro⟨ad,e,e2⟩;have:=hA ad e;omega
  ·rcases hA1 ad e with⟨ad0,e3,e4⟩|e3
   ·have:=hA ad0 e3;omega
   ·omega
def Asz(W:World)(rb m:Nat)(t:Tr)(left:Nat)(e:Ending)(W':World):Prop:=
 ∃y:Nv,e= .returned (.agg #[Aa Ab y.k,Aa Ab y.n,Aa Ac (y.u:Int),.string ⟨y.s.toArray⟩,.slice y.A y.an y.ac,.slice y.B y.bn y.bc])∧Bk W' (fun b=>W.heap.size≤b∧b<W'.heap.size) y (Ec m t left).1∧Af W' rb 73 #[Aa Ab ((Ec m t left).2:Int),Aa Ab (m:Int)]∧Fr (fun j=>j=rb) W W'
theorem Aiu{w1:World}{o:Obj}{A:Option Addr}(h:∀ad,A=some ad→(w1.alloc o).drew.heap.size≤ad.block):∀ad,A=some ad→¬ad.block=w1.heap.size:=by
 intro ad e;have h1:(w1.alloc o).heap.size≤ad.block:=h ad e;rw [Jq] at h1;omega
theorem Asm{w1:World}{o:Obj}:w1.heap.size≤(w1.alloc o).drew.heap.size:=by
 show w1.heap.size≤(w1.alloc o).heap.size;rw [Jq];omega
theorem Akt(m:Nat){w0:World}{x:Nv}{t:Tr}(h:G5 w0 x t):∀(W:World) (rb left:Nat),Below w0.heap.size w0 W→w0.heap.size≤rb→left≤1000→Af W rb 73 #[Aa Ab (left:Int),Aa Ab (m:Int)]→
  Calls Tryz.prog 43 #[.pointer (some ⟨rb,0,none⟩),.agg #[Aa Ab x.k,Aa Ab x.n,Aa Ac (x.u:Int),.string ⟨x.s.toArray⟩,.slice x.A x.an x.ac,.slice x.B x.bn x.bc]] W (Asz W rb m t left):=by
 induction h with
 | @mk x ks l vs h1 h2 hn hl hc ih=>
  intro W rb left hW hrb hle hR;obtain⟨xk,xn,xu,xs,XA,xan,xac,XB,xbn,xbc⟩:=x;have HIH:=Hd ih;have HW:=Hd hW;have HRB:=Hd (And.intro hrb hR.lt);replace h1:Ey w0 XA xan ks:=h1;replace h2:Fh w0 XB xbn vs:=h2;replace hn:xbn≤9223372036854775807:=hn;have HI:=Hd h2;have HVL:=Hd hl;have HBN:=Hd (show vs.length=xbn from h2.1);have hba:=Ba W (.cells #[Aa Ab xk,Aa Ab xn,Aa Ac (xu:Int),.string ⟨xs.toArray⟩,.slice XA xan xac,.slice XB xbn xbc] 26) (.cells #[Aa Ab 0,Aa Ab 0,Aa Ac 0,.string ⟨#[]⟩,.slice none 0 0,.slice none 0 0] 26);have HB0:=Hd hba;have HX0:=Hd ((Af.new W 26 #[Aa Ab xk,Aa Ab xn,Aa Ac (xu:Int),.string ⟨xs.toArray⟩,.slice XA xan xac,.slice XB xbn xbc]).alloc (.cells #[Aa Ab 0,Aa Ab 0,Aa Ac 0,.string ⟨#[]⟩,.slice none 0 0,.slice none 0 0] 26));have HZ0:=Hd (Af.new_ (w:=W.alloc (.cells #[Aa Ab xk,Aa Ab xn,Aa Ac (xu:Int),.string ⟨xs.toArray⟩,.slice XA xan xac,.slice XB xbn xbc] 26)) (g:=W.heap.size+1) (by simp) 26 #[Aa Ab 0,Aa Ab 0,Aa Ac 0,.string ⟨#[]⟩,.slice none 0 0,.slice none 0 0]);have HR0:=Hd (hR.pure hba);have HK0:=Hd (h1.pure (Ad hW hba));clear ih h1 h2 hl hc hW hrb hR hba;go_enter Tryz.func43,Tryz.ntmps43;go_upto_region 1 with fail
  generalize (W.alloc (.cells #[Aa Ab xk,Aa Ab xn,Aa Ac (xu:Int),.string ⟨xs.toArray⟩,.slice XA xan xac,.slice XB xbn xbc] 26)).alloc (.cells #[Aa Ab 0,Aa Ab 0,Aa Ac 0,.string ⟨#[]⟩,.slice none 0 0,.slice none 0 0] 26)=w1 at HB0 HX0 HZ0 HR0 HK0⊢;generalize hbt:W.heap.size=bt at HX0 HZ0⊢;generalize hbr:bt+1=br at HZ0⊢;have HT:=Hd (show W.heap.size=bt∧bt+1=br∧br<w1.heap.size∧rb<bt from⟨hbt,hbr,HZ0.o.lt,by rw [←hbt];exact HRB.o.2⟩);clear hbt hbr;obtain ⟨x0,x1,x2,x3,x4⟩:=HX0.o.c5;have r1:w1.cell? ⟨rb,1,none⟩=some (Aa Ab (m:Int)):=HR0.o.cell 1;have HTX:=Hd (show ∀W',Below w1.heap.size w1 W'→Calls Tryz.prog 86 #[.slice XA xan xac,Aa Ab 64,Aa Ab (m:Int)] W' (Aoh W' (min xan 64) ((ks.take 64).map fun x=>x.take m)) from fun W' hb=>Ahj XA xan xac ks 64 m W' (HK0.o.pure hb) (by omega));have hnb:bt≠w1.heap.size:=by have:=HT.o;omega
  have hnr:rb≠w1.heap.size:=by have:=HT.o;omega
  have HBa:=Hd (show Below w1.heap.size w1 w1.drew from(Below.refl _ _).drew);have HBb:=Hd (show Below w1.heap.size w1 (w1.alloc (.cells #[Aa Ab 0,Aa Ab 0,Aa Ac 0,.string ⟨#[]⟩,.slice none 0 0,.slice none 0 0] 26)).drew from((Below.refl _ _).alloc (Ath _) _).drew);go_cut [5] (fun u5 wx=>∃wy,wy=wx∧∃g A c,u5= .pointer (some ⟨g,0,none⟩)∧Af wx g 26 #[Aa Ab xk,Aa Ab xn,Aa Ac (xu:Int),.string ⟨(xs.take m).toArray⟩,.slice A (min xan 64) c,.slice none 0 0]∧Kz wx w1.heap.size A (min xan 64) c ((ks.take 64).map fun x=>x.take m)∧w1.heap.size≤g∧(∀ad,A=some ad→ad.block≠g)∧Below w1.heap.size w1 wx)
  case first=>
   go_region_held3 (fun w'=>w'.cell? ⟨bt,0,none⟩=some (Aa Ab xk)∧w'.cell? ⟨bt,1,none⟩=some (Aa Ab xn)∧w'.cell? ⟨bt,2,none⟩=some (Aa Ac (xu:Int))∧w'.cell? ⟨bt,3,none⟩=some (.string ⟨xs.toArray⟩)∧w'.cell? ⟨bt,4,none⟩=some (.slice XA xan xac)∧w'.cell? ⟨rb,1,none⟩=some (Aa Ab (m:Int)))
    ((with_reducible refine⟨?_,?_,?_,?_,?_,?_⟩) <;>(repeat (first|with_reducible assumption|with_reducible refine Ae ?_|with_reducible refine Al _ ?_|with_reducible refine Aoq ?_ ?_)))
    (first
     |(go_at_call 85;(with_reducible refine(Ab8 xs m _).mono ?_);rintro e w' ⟨rfl,rfl⟩)
     |(go_at_call 86;(with_reducible refine(HTX.o _ HBa.o).mono ?_);rintro e w5 ⟨A5,c5,rfl,hO5,hb5⟩;have y0:=Ag hb5 (Ae x0);have y1:=Ag hb5 (Ae x1);have y2:=Ag hb5 (Ae x2);have y3:=Ag hb5 (Ae x3);have y4:=Ag hb5 (Ae x4);have y5:=Ag hb5 (Ae r1);have HO5:=Hd hO5;have HB5:=Hd (B6 HBa.o hb5);have HQA:=Hd hb5;clear hO5 hb5)
     |(go_at_call 86;(with_reducible refine(HTX.o _ HBb.o).mono ?_);rintro e w5 ⟨A5,c5,rfl,hO5,hb5⟩;have y0:=Ag hb5 (Ae (Al (.cells #[Aa Ab 0,Aa Ab 0,Aa Ac 0,.string ⟨#[]⟩,.slice none 0 0,.slice none 0 0] 26) x0));have y1:=Ag hb5 (Ae (Al (.cells #[Aa Ab 0,Aa Ab 0,Aa Ac 0,.string ⟨#[]⟩,.slice none 0 0,.slice none 0 0] 26) x1));have y2:=Ag hb5 (Ae (Al (.cells #[Aa Ab 0,Aa Ab 0,Aa Ac 0,.string ⟨#[]⟩,.slice none 0 0,.slice none 0 0] 26) x2));have y3:=Ag hb5 (Ae (Al (.cells #[Aa Ab 0,Aa Ab 0,Aa Ac 0,.string ⟨#[]⟩,.slice none 0 0,.slice none 0 0] 26) x3));have y4:=Ag hb5 (Ae (Al (.cells #[Aa Ab 0,Aa Ab 0,Aa Ac 0,.string ⟨#[]⟩,.slice none 0 0,.slice none 0 0] 26) x4));have y5:=Ag hb5 (Ae (Al (.cells #[Aa Ab 0,Aa Ab 0,Aa Ac 0,.string ⟨#[]⟩,.slice none 0 0,.slice none 0 0] 26) r1));have HO5:=Hd hO5;have HB5:=Hd (B6 HBb.o hb5);have HQ:=Hd ((Af.new w1 26 #[Aa Ab 0,Aa Ab 0,Aa Ac 0,.string ⟨#[]⟩,.slice none 0 0,.slice none 0 0]).drew.pure hb5);have q0:=HQ.o.cell 0;have q1:=HQ.o.cell 1;have q2:=HQ.o.cell 2;have q3:=HQ.o.cell 3;have q4:=HQ.o.cell 4;have q5:=HQ.o.cell 5;have p0:=HQ.o.frozen 0;have p1:=HQ.o.frozen 1;have p2:=HQ.o.frozen 2;have p3:=HQ.o.frozen 3;have p4:=HQ.o.frozen 4;have p5:=HQ.o.frozen 5;have HLT:=Hd (show(w1.alloc (.cells #[Aa Ab 0,Aa Ab 0,Aa Ac 0,.string ⟨#[]⟩,.slice none 0 0,.slice none 0 0] 26)).heap.size≤w5.heap.size from hb5.size);clear hO5 hb5))
   all_goals
    go_wp2_with fail;go_meet
    first
     |exact⟨_,rfl,_,A5,c5,rfl,(((((HQ.o.set_ 0 _).set_ 1 _).set_ 2 _).set_ 3 _).set_ 4 _).set_ 5 _,(HO5.o.fr (Fx w5 w1.heap.size _ _ _ _ _ _) (Aiu (fun ad e=>(HO5.o.addr ad e).2.1))).rebase Asm,Ath _,Aiu (fun ad e=>(HO5.o.addr ad e).2.1),Bs HB5.o (Fx w5 w1.heap.size _ _ _ _ _ _) (by rintro j rfl;exact Ath _)⟩
     |exact⟨_,rfl,_,A5,c5,rfl,Af.new _ _ _,HO5.o.pure ((Below.refl w5.heap.size w5).alloc (Ath _) _),HB5.o.size,fun ad e=>Nat.ne_of_lt (HO5.o.addr ad e).2.2,HB5.o.alloc HB5.o.size _⟩
  case rest=>
  obtain⟨w2,rfl,g,A9,c9,rfl,hG,hO9,hgs,hAg,hb2⟩:=hcut;have HG:=Hd hG;have HO9:=Hd hO9;have HB2:=Hd (Ad HB0.o hb2);have HX2:=Hd (HX0.o.pure hb2);have HZ2:=Hd (HZ0.o.pure hb2);have HR2:=Hd (HR0.o.pure hb2);have HS2:=Hd (show br<w1.heap.size∧w1.heap.size≤w2.heap.size∧w1.heap.size≤g∧g<w2.heap.size from⟨HT.o.2.2.1,hb2.size,hgs,hG.lt⟩);have HCAP:=Hd (show min xan 64≤c9 from hO9.cap.1);have HA9:=Hd (show ∀ad,A9=some ad→w1.heap.size≤ad.block∧ad.block<w2.heap.size∧ad.block≠g from fun ad e=>⟨(hO9.addr ad e).2.1,(hO9.addr ad e).2.2,hAg ad e⟩);clear x0 x1 x2 x3 x4 r1 hG hO9 hgs hAg hb2 hnb hnr HTX HBa HBb HX0 HZ0 HR0 HK0 HB0;go_upto_region 4 with fail
  go_wp2_with fail;go_loopw [6,7] (fun s u wr=>∃(k lf:Nat) (A:Option Addr) (c:Nat) (us:List Nv) (rs:List Tr),k≤xbn∧s= .slice A k c∧u= Aa Ab (k:Int)∧Sf wr w2.heap.size k rs A c us∧k+lf≤1000∧Ev m l left=(rs++(Ev m (l.drop k) lf).1,(Ev m (l.drop k) lf).2)∧
   Af wr rb 73 #[Aa Ab (lf:Int),Aa Ab (m:Int)]∧Af wr bt 26 #[Aa Ab xk,Aa Ab xn,Aa Ac (xu:Int),.string ⟨xs.toArray⟩,.slice XA xan xac,.slice XB xbn xbc]∧Af wr br 26 #[Aa Ab 0,Aa Ab 0,Aa Ac 0,.string ⟨#[]⟩,.slice none 0 0,.slice none 0 0]∧Af wr g 26 #[Aa Ab xk,Aa Ab xn,Aa Ac (xu:Int),.string ⟨(xs.take m).toArray⟩,.slice A9 (min xan 64) c9,.slice none 0 0]∧
   Ey wr A9 (min xan 64) ((ks.take 64).map fun x=>x.take m)∧w2.heap.size≤wr.heap.size∧Fr (fun j=>j=rb) W wr) (fun _ u _=>1000-(intOf u).toNat)
  case atStart=>exact⟨0,left,none,0,[],[],Atl _,rfl,rfl,Sf.nil _ _,by omega,by simp,HR2.o,HX2.o,HZ2.o,HG.o,HO9.o.is,Ath _,Fr.of_below HB2.o _⟩
  case round=>
   obtain⟨k,lf,A,c,us,rs,hk,rfl,rfl,hC,hkl,hcu,hr,hx,hz,hg,hks,hsz,hfr⟩:=hrel;have HC:=Hd hC;have HCU:=Hd hcu;have HR:=Hd hr;have HX:=Hd hx;have HZ:=Hd hz;have HGG:=Hd hg;have HKS:=Hd hks;have HSZ:=Hd hsz;have HFR:=Hd hfr;have HKL:=Hd hkl;clear hC hcu hr hx hz hg hks hsz hfr;have x5:wr.cell? ⟨bt,5,none⟩=some (.slice XB xbn xbc):=HX.o.cell 5;have r0:wr.cell? ⟨rb,0,none⟩=some (Aa Ab (lf:Int)):=HR.o.cell 0;by_cases h1:k<xbn
   ·have hkn:(k:Int)<(xbn:Int):=by omega
    by_cases h2:0<lf
    ·obtain⟨l',rfl⟩:∃l',lf=l'+1:=⟨lf-1,by omega⟩;obtain⟨v,hv⟩:∃v,vs[k]?=some v:=⟨_,Ati (by have:=HBN.o;omega)⟩;obtain⟨t',ht'⟩:∃t',l[k]?=some t':=⟨_,Ati (by have:=HBN.o;have:=HVL.o;omega)⟩;have hs5:(wr.setCell ⟨rb,0,none⟩ (Aa Ab (l':Int))).heap.size=wr.heap.size:=by simp [World.setCell]
     have hf5:=Fr.setCell (S:=fun j=>j=rb) (Fr.refl (fun j=>j=rb) wr) (p:=⟨rb,0,none⟩) (fun _=>rfl) (Aa Ab (l':Int));have hb5:Below w0.heap.size w0 (wr.setCell ⟨rb,0,none⟩ (Aa Ab (l':Int))):=HW.o.trans ((HFR.o.trans hf5 (fun _ _ e=>e)).belowB (fun i hi e=>by have h:=HRB.o.1;omega) HW.o.size);have hr5:Af (wr.setCell ⟨rb,0,none⟩ (Aa Ab (l':Int))) rb 73 #[Aa Ab (l':Int),Aa Ab (m:Int)]:=HR.o.set_ 0 _;have HCD:=Hd (HIH.o k v t' hv ht' _ rb l' hb5 HRB.o.1 (by omega) hr5);have HX5:=Hd (HX.o.fr hf5 (by have:=HT.o;omega));have hI5:Fh (wr.setCell ⟨rb,0,none⟩ (Aa Ab (l':Int))) XB xbn vs:=HI.o.pure hb5;obtain⟨gv,off,e,v0,v1,v2,v3,v4,v5⟩:=Gc hI5 hv;have HFF:=Hd hf5;have HSS:=Hd hs5;have HCN:=Hd (show Ev m l left=((rs++ [(Ec m t' l').1])++(Ev m (l.drop (k+1)) (Ec m t' l').2).1,(Ev m (l.drop (k+1)) (Ec m t' l').2).2) by
      obtain⟨q1,q2⟩:=List.getElem?_eq_some_iff.1 ht';rw [HCU.o,List.drop_eq_getElem_cons q1,q2,Ev,if_neg (by omega),Nat.add_sub_cancel];simp)
     have HLF:=Hd (Qr m t' l').1;have r0':wr.cell? ⟨rb,0,none⟩=some (Aa Ab ((l':Int)+1)):=r0;have rf:wr.frozen? ⟨rb,0,none⟩=false:=HR.o.frozen 0;have hl0:(0:Int)<(l':Int)+1:=by omega
     have hl1:(l':Int)+1≤1000:=by have:=HKL.o;omega
     have hk0:(0:Int)≤(k:Int):=by omega
     have hk1:(k:Int)≤1000:=by have:=HKL.o;omega
     clear r0 hf5 hb5 hr5 hI5 hv ht' hs5;go_upto_region 7 with fail
     clear r0' rf x5;generalize wr.setCell ⟨rb,0,none⟩ (Aa Ab (l':Int))=w5 at HCD HX5 v0 v1 v2 v3 v4 v5 HFF HSS⊢;have x5:w5.cell? ⟨bt,5,none⟩=some (.slice XB xbn xbc):=HX5.o.cell 5;rw [e] at x5;have HE:=Hd e;clear e;go_wp2_with fail;go_at_call 43;refine HCD.o.mono ?_;rintro e w6 ⟨y,rfl,hN6,hR6,hF6⟩;have HN6:=Hd hN6;have HR6:=Hd hR6;have hF:=HFF.o.trans hF6 (fun _ _ e=>e);have hal:=(Below.refl w6.heap.size w6).alloc (Ath _) (.cells #[Aa Ab y.k,Aa Ab y.n,Aa Ac (y.u:Int),.string ⟨y.s.toArray⟩,.slice y.A y.an y.ac,.slice y.B y.bn y.bc] 26);have hF7:=hF.trans (Fr.of_below hal (fun _=>False)) (fun _ _ h=>h.elim);have hrb:rb<w2.heap.size:=by have h1:=HT.o;have h2:=HS2.o;omega
     have HF7:=Hd hF7;have HC7:=Hd (HC.o.fr hF7 hrb);have HO7:=HC7.o.own;have HO7:=Hd HO7;have HI7:=Hd (Akg w6 y);have HS7:=Hd (show w2.heap.size≤(w6.alloc (.cells #[Aa Ab y.k,Aa Ab y.n,Aa Ac (y.u:Int),.string ⟨y.s.toArray⟩,.slice y.A y.an y.ac,.slice y.B y.bn y.bc] 26)).heap.size from Nat.le_trans HSZ.o hF7.size);have HRB2:=Hd hrb;clear hN6 hR6 hF hal hF7 hrb v0 v1 v2 v3 v4 v5 x5;go_wp2_with (at_builtin;refine Dt _ rfl (.tmp 51) (.tmp 59) _ rfl 26 _ 6 88 Tryz.underlying24 Wf rfl (by omega) I3 Ael _ _ _ _ _ rfl HO7.o _ _ _ _ rfl HI7.o (by omega) HS7.o ?_;intro A2 c2 w8 hown hfr hat);have hA7:∀ad,A=some ad→w2.heap.size≤ad.block:=fun ad e=>(HC.o.own.addr ad e).2.1
     have hst:=HC.o.step HF7.o HRB2.o HSZ.o (a:=w5.heap.size) (by rw [HSS.o];exact Ath _) ((HN6.o.pure ((Below.refl w6.heap.size w6).alloc (Ath _) _)).mono fun b hb=>⟨hb.1,Atr hb.2 (by simp)⟩) hown hfr hat;have hnb:∀b,b<w2.heap.size→¬(∃ad,A=some ad∧b=ad.block):=by
      rintro b hb ⟨ad,e,rfl⟩;have:=hA7 ad e;omega
     have hbt:=HT.o;have hs2:=HS2.o;have HST:=Hd hst;have HR8:=Hd ((HR6.o.pure ((Below.refl w6.heap.size w6).alloc (Ath _) _)).fr hfr (hnb rb HRB2.o));have HX8:=Hd ((HX.o.fr HF7.o (by omega)).fr hfr (hnb bt (by omega)));have HZ8:=Hd ((HZ.o.fr HF7.o (by omega)).fr hfr (hnb br (by omega)));have HG8:=Hd ((HGG.o.fr HF7.o (by omega)).fr hfr (hnb g (by omega)));have HK8:=Hd ((HKS.o.fr HF7.o (fun ad e=>by have:=HA9.o ad e;omega)).fr hfr (fun ad e=>hnb _ (HA9.o ad e).2.1));have HS8:=Hd (Nat.le_trans HS7.o hfr.size);have HF8:=Hd ((HFR.o.trans HF7.o (fun _ _ e=>e)).trans hfr (fun i hi h=>by
      obtain⟨ad,e,rfl⟩:=h;have h1:=hA7 ad e;have h2:=HB2.o.size;omega))
     clear hown hfr hat hst hnb hA7 hbt hs2;go_wp2_with fail;go_roundw
     case rel=>exact⟨k+1,_,A2,c2,_,_,by omega,rfl,by go_num,HST.o,by have h1:=HLF.o;have h2:=HKL.o;omega,HCN.o,HR8.o,HX8.o,HZ8.o,HG8.o,HK8.o,HS8.o,HF8.o⟩
     case measure=>simp [intOf];omega
    ·obtain rfl:lf=0:=by omega
     have r0:wr.cell? ⟨rb,0,none⟩=some (Aa Ab 0):=HR.o.cell 0;have HFIN:=Hd (show Ev m l left=(rs,0) by rw [HCU.o];cases l.drop k <;>simp [Ev]);have g5:wr.cell? ⟨g,5,none⟩=some (.slice none 0 0):=HGG.o.cell 5;have gf:wr.frozen? ⟨g,5,none⟩=false:=HGG.o.frozen 5;go_upto_region 9 with fail
     have HF8:=Hd (Fr.setCell (S:=fun j=>j=g) (Fr.refl _ wr) (p:=⟨g,5,none⟩) (fun _=>rfl) (.slice A k c));have HG8:=Hd (show Af (wr.setCell ⟨g,5,none⟩ (.slice A k c)) g 26 #[Aa Ab xk,Aa Ab xn,Aa Ac (xu:Int),.string ⟨(xs.take m).toArray⟩,.slice A9 (min xan 64) c9,.slice A k c] from HGG.o.set_ 5 _);generalize wr.setCell ⟨g,5,none⟩ (.slice A k c)=w8 at HF8 HG8⊢;have hbt:=HT.o;have hs2:=HS2.o;have HZ8:=Hd (HZ.o.fr HF8.o (by omega));clear g5 gf x5 r0;obtain ⟨c0,c1,c2,c3,c4,c5⟩:=HG8.o.c6;obtain ⟨q0,q1,q2,q3,q4,q5⟩:=HZ8.o.c6;have hfz:∀j,w8.frozen? ⟨br,j,none⟩=false:=fun j=>HZ8.o.frozen j
     have f0:=hfz 0;have f1:=hfz 1;have f2:=hfz 2;have f3:=hfz 3;have f4:=hfz 4;have f5:=hfz 5;clear hfz hbt hs2;go_wp2_with fail;refine bodyPost_ret (v:= .agg #[Aa Ab xk,Aa Ab xn,Aa Ac (xu:Int),.string ⟨(xs.take m).toArray⟩,.slice A9 (min xan 64) c9,.slice A k c]) (by simp [results,Tryz.results43,go_sem,q0,q1,q2,q3,q4,q5]) rfl ?_;have hF9:=Fx w8 br (Aa Ab xk) (Aa Ab xn) (Aa Ac (xu:Int)) (.string ⟨(xs.take m).toArray⟩) (.slice A9 (min xan 64) c9) (.slice A k c);generalize (((((w8.setCell ⟨br,0,none⟩ (Aa Ab xk)).setCell ⟨br,1,none⟩ (Aa Ab xn)).setCell ⟨br,2,none⟩ (Aa Ac (xu:Int))).setCell ⟨br,3,none⟩ (.string ⟨(xs.take m).toArray⟩)).setCell ⟨br,4,none⟩ (.slice A9 (min xan 64) c9)).setCell ⟨br,5,none⟩ (.slice A k c)=w9 at hF9⊢;have hbt:=HT.o;have hs2:=HS2.o;have hsz:=HSZ.o;have hs8:=HF8.o.size;have hs9:=hF9.size;have hbw:=HB2.o.size;have hkl:=HKL.o;have hA:∀ad,A=some ad→w2.heap.size≤ad.block∧ad.block<wr.heap.size:=fun ad e=>(HC.o.own.addr ad e).2
     have hlu:us.length=k:=HC.o.own.1;refine⟨⟨xk,xn,xu,xs.take m,A9,min xan 64,c9,A,k,c⟩,rfl,?_,?_,?_⟩
     ·rw [Ec,HFIN.o];refine Bk.mk (x:=⟨xk,xn,xu,xs.take m,A9,min xan 64,c9,A,k,c⟩) ((HKS.o.fr HF8.o (fun ad e=>(HA9.o ad e).2.2)).fr hF9 (fun ad e=>by have:=HA9.o ad e;omega)) (fun ad e=>by have:=HA9.o ad e;omega) HCAP.o (show min xan 64≤1099511627776 by omega) ((HC.o.own.is.fr HF8.o (fun ad e=>by have:=hA ad e;omega)).fr hF9 (fun ad e=>by have:=hA ad e;omega)) (fun ad e=>by have:=hA ad e;omega) HC.o.own.cap.1 (show k≤1099511627776 by omega) (by rw [hlu];exact HC.o.len.symm) (fun i v t hv ht=>((HC.o.kids i v t hv ht).keep fun a u hc hp=>By hF9 (By HF8.o hc (by omega)) (by omega)).mono fun b hb=>by omega)
     ·rw [Ec,HFIN.o];exact(HR.o.fr HF8.o (by omega)).fr hF9 (by omega)
     ·exact(HFR.o.trans HF8.o (fun i hi e=>by omega)).trans hF9 (fun i hi e=>by omega)
   ·obtain rfl:xbn=k:=by omega
    have HFIN:=Hd (show Ev m l left=(rs,lf) by rw [HCU.o,List.drop_of_length_le (by have h1:=HBN.o;have h2:=HVL.o;omega)];simp [Ev]);have g5:wr.cell? ⟨g,5,none⟩=some (.slice none 0 0):=HGG.o.cell 5;have gf:wr.frozen? ⟨g,5,none⟩=false:=HGG.o.frozen 5;go_upto_region 9 with fail
    have HF8:=Hd (Fr.setCell (S:=fun j=>j=g) (Fr.refl _ wr) (p:=⟨g,5,none⟩) (fun _=>rfl) (.slice A xbn c));have HG8:=Hd (show Af (wr.setCell ⟨g,5,none⟩ (.slice A xbn c)) g 26 #[Aa Ab xk,Aa Ab xn,Aa Ac (xu:Int),.string ⟨(xs.take m).toArray⟩,.slice A9 (min xan 64) c9,.slice A xbn c] from HGG.o.set_ 5 _);generalize wr.setCell ⟨g,5,none⟩ (.slice A xbn c)=w8 at HF8 HG8⊢;have hbt:=HT.o;have hs2:=HS2.o;have HZ8:=Hd (HZ.o.fr HF8.o (by omega));clear g5 gf x5 r0;obtain ⟨c0,c1,c2,c3,c4,c5⟩:=HG8.o.c6;obtain ⟨q0,q1,q2,q3,q4,q5⟩:=HZ8.o.c6;have hfz:∀j,w8.frozen? ⟨br,j,none⟩=false:=fun j=>HZ8.o.frozen j
    have f0:=hfz 0;have f1:=hfz 1;have f2:=hfz 2;have f3:=hfz 3;have f4:=hfz 4;have f5:=hfz 5;clear hfz hbt hs2;go_wp2_with fail;refine bodyPost_ret (v:= .agg #[Aa Ab xk,Aa Ab xn,Aa Ac (xu:Int),.string ⟨(xs.take m).toArray⟩,.slice A9 (min xan 64) c9,.slice A xbn c]) (by simp [results,Tryz.results43,go_sem,q0,q1,q2,q3,q4,q5]) rfl ?_;have hF9:=Fx w8 br (Aa Ab xk) (Aa Ab xn) (Aa Ac (xu:Int)) (.string ⟨(xs.take m).toArray⟩) (.slice A9 (min xan 64) c9) (.slice A xbn c);generalize (((((w8.setCell ⟨br,0,none⟩ (Aa Ab xk)).setCell ⟨br,1,none⟩ (Aa Ab xn)).setCell ⟨br,2,none⟩ (Aa Ac (xu:Int))).setCell ⟨br,3,none⟩ (.string ⟨(xs.take m).toArray⟩)).setCell ⟨br,4,none⟩ (.slice A9 (min xan 64) c9)).setCell ⟨br,5,none⟩ (.slice A xbn c)=w9 at hF9⊢;have hbt:=HT.o;have hs2:=HS2.o;have hsz:=HSZ.o;have hs8:=HF8.o.size;have hs9:=hF9.size;have hbw:=HB2.o.size;have hkl:=HKL.o;have hA:∀ad,A=some ad→w2.heap.size≤ad.block∧ad.block<wr.heap.size:=fun ad e=>(HC.o.own.addr ad e).2
    have hlu:us.length=xbn:=HC.o.own.1;refine⟨⟨xk,xn,xu,xs.take m,A9,min xan 64,c9,A,xbn,c⟩,rfl,?_,?_,?_⟩
    ·rw [Ec,HFIN.o];refine Bk.mk (x:=⟨xk,xn,xu,xs.take m,A9,min xan 64,c9,A,xbn,c⟩) ((HKS.o.fr HF8.o (fun ad e=>(HA9.o ad e).2.2)).fr hF9 (fun ad e=>by have:=HA9.o ad e;omega)) (fun ad e=>by have:=HA9.o ad e;omega) HCAP.o (show min xan 64≤1099511627776 by omega) ((HC.o.own.is.fr HF8.o (fun ad e=>by have:=hA ad e;omega)).fr hF9 (fun ad e=>by have:=hA ad e;omega)) (fun ad e=>by have:=hA ad e;omega) HC.o.own.cap.1 (show xbn≤1099511627776 by omega) (by rw [hlu];exact HC.o.len.symm) (fun i v t hv ht=>((HC.o.kids i v t hv ht).keep fun a u hc hp=>By hF9 (By HF8.o hc (by omega)) (by omega)).mono fun b hb=>by omega)
    ·rw [Ec,HFIN.o];exact(HR.o.fr HF8.o (by omega)).fr hF9 (by omega)
    ·exact(HFR.o.trans HF8.o (fun i hi e=>by omega)).trans hF9 (fun i hi e=>by omega)
end Go.Proofs.YtgbjodnegkbfoaaGreat
namespace Go.Proofs.YtgbjodnegkbfoaaGreat
open Go.RowKit Go.Acc Go.Deep
def Ng(w:World)(t:Tr)(e:Ending)(w':World):Prop:=
 ∃y:Nv,e= .returned (.agg #[Aa Ab y.k,Aa Ab y.n,Aa Ac (y.u:Int),.string ⟨y.s.toArray⟩,.slice y.A y.an y.ac,.slice y.B y.bn y.bc])∧Bk w' (fun b=>w.heap.size≤b∧b<w'.heap.size) y t∧Below w.heap.size w w'
theorem Amc(m nd:Nat){w:World}{x:Nv}{t:Tr}(h:G5 w x t)(hd:nd≤1000):Calls Tryz.prog 13 #[.agg #[Aa Ab x.k,Aa Ab x.n,Aa Ac (x.u:Int),.string ⟨x.s.toArray⟩,.slice x.A x.an x.ac,.slice x.B x.bn x.bc],Aa Ab ((nd:Int)+1),Aa Ab (m:Int)] w (Ng w (Ec m t nd).1):=by
 obtain⟨xk,xn,xu,xs,XA,xan,xac,XB,xbn,xbc⟩:=x;have HB0:=Hd (Ba w (.cells #[Aa Ab xk,Aa Ab xn,Aa Ac (xu:Int),.string ⟨xs.toArray⟩,.slice XA xan xac,.slice XB xbn xbc] 26) (.cells #[Aa Ab 0,Aa Ab 0,Aa Ac 0,.string ⟨#[]⟩,.slice none 0 0,.slice none 0 0] 26));have HX0:=Hd ((Af.new w 26 #[Aa Ab xk,Aa Ab xn,Aa Ac (xu:Int),.string ⟨xs.toArray⟩,.slice XA xan xac,.slice XB xbn xbc]).alloc (.cells #[Aa Ab 0,Aa Ab 0,Aa Ac 0,.string ⟨#[]⟩,.slice none 0 0,.slice none 0 0] 26));have HZ0:=Hd (Af.new_ (w:=w.alloc (.cells #[Aa Ab xk,Aa Ab xn,Aa Ac (xu:Int),.string ⟨xs.toArray⟩,.slice XA xan xac,.slice XB xbn xbc] 26)) (g:=w.heap.size+1) (by simp) 26 #[Aa Ab 0,Aa Ab 0,Aa Ac 0,.string ⟨#[]⟩,.slice none 0 0,.slice none 0 0]);have HI:=Hd h;have hn0:(0:Int)≤(nd:Int):=by omega
 have hn1:(nd:Int)≤1000:=by omega
 have HD:=Hd hd;clear h hd;go_enter Tryz.func13,Tryz.ntmps13;go_upto_region 1 with fail
 generalize (w.alloc (.cells #[Aa Ab xk,Aa Ab xn,Aa Ac (xu:Int),.string ⟨xs.toArray⟩,.slice XA xan xac,.slice XB xbn xbc] 26)).alloc (.cells #[Aa Ab 0,Aa Ab 0,Aa Ac 0,.string ⟨#[]⟩,.slice none 0 0,.slice none 0 0] 26)=w1 at HB0 HX0 HZ0⊢;generalize hbt:w.heap.size=bt at HX0 HZ0⊢;generalize hbr:bt+1=br at HZ0⊢;have HT:=Hd (And.intro hbt hbr);clear hbt hbr;go_upto_region 2 with fail
 have hal:=(Below.refl w1.heap.size w1).alloc (Ath _) (.cells #[Aa Ab (nd:Int),Aa Ab (m:Int)] 73);have HR:=Hd (Af.new w1 73 #[Aa Ab (nd:Int),Aa Ab (m:Int)]);have HX1:=Hd (HX0.o.pure hal);have HZ1:=Hd (HZ0.o.pure hal);have HB1:=Hd (Ad HB0.o hal);have HS1:=Hd (show br<w1.heap.size from HZ0.o.lt);clear hal;have HC:=Hd (Akt m HI.o _ w1.heap.size nd HB1.o HB0.o.size HD.o HR.o);generalize w1.alloc (.cells #[Aa Ab (nd:Int),Aa Ab (m:Int)] 73)=w2 at HR HX1 HZ1 HB1 HC⊢;obtain ⟨x0,x1,x2,x3,x4,x5⟩:=HX1.o.c6;go_wp2_with fail;go_at_call 43;refine HC.o.mono ?_;rintro e w4 ⟨z,rfl,hN,hR4,hF4⟩;have HN:=Hd hN;have HF4:=Hd hF4;have HZ4:=Hd (HZ1.o.fr hF4 (by have:=HS1.o;omega));have HR2:=Hd (show w1.heap.size<w2.heap.size from HR.o.lt);have HB4:=Hd (Bs HB1.o hF4 (by rintro j rfl;exact HB0.o.size));clear hN hR4 hF4 x0 x1 x2 x3 x4 x5;obtain ⟨r0,r1,r2,r3,r4,r5⟩:=HZ4.o.c6;have hfz:∀j,w4.frozen? ⟨br,j,none⟩=false:=fun j=>HZ4.o.frozen j
 have f0:=hfz 0;have f1:=hfz 1;have f2:=hfz 2;have f3:=hfz 3;have f4:=hfz 4;have f5:=hfz 5;clear hfz;go_wp2_with fail;refine bodyPost_ret (v:= .agg #[Aa Ab z.k,Aa Ab z.n,Aa Ac (z.u:Int),.string ⟨z.s.toArray⟩,.slice z.A z.an z.ac,.slice z.B z.bn z.bc]) (by simp [results,Tryz.results13,go_sem,r0,r1,r2,r3,r4,r5]) rfl ?_;have hf:=Fx w4 br (Aa Ab z.k) (Aa Ab z.n) (Aa Ac (z.u:Int)) (.string ⟨z.s.toArray⟩) (.slice z.A z.an z.ac) (.slice z.B z.bn z.bc);have hs:=HS1.o;have ht:=HT.o;have h4:=HF4.o.size;have h5:=hf.size;have h6:=HR2.o;exact⟨z,rfl,(HN.o.keep fun a u hc hp=>By hf hc (by omega)).mono fun b hb=>⟨by omega,by omega⟩,Bs HB4.o hf (by rintro j rfl;omega)⟩
theorem Adv{H:Type}{enc:TypeId×Value→H}{P:Program}{w:World}{base:Nat}{spare:Nat→Bool}{held:Bool}{t:TypeId}{fs:Array Field}{fuel:Nat}{cs:List Value}{x:DataW H×List MemPlace}
  (he:P.underlying t=some (.struct fs)) (hone:oneCellFields P fs=true) (hC:P.cellsOf t=fs.size) (h:DataW.trod enc P w base spare held fuel t cs=some x):
  ∃n,fuel=n+1∧cs.length=fs.size∧∀(j:Nat) (f:Field),fs[j]?=some f→∃(v:Value) (y:DataW H×List MemPlace),cs[j]?=some v∧DataW.trod enc P w base spare held n f.type [v]=some y:=by
 obtain⟨ys,n,hn,_,hl,hyl,hf⟩:=DataW.trod_struct he h;rw [hC] at hl;refine⟨n,hn,hl,fun j f hj=>?_⟩;obtain⟨ho,hk⟩:=hone_of hone j f hj;have hjl:j<fs.size:=(Array.getElem?_eq_some_iff.1 hj).1;have h1:=hf j f hj;rw [ho,hk] at h1;have hone':(cs.drop j).take 1=[cs[j]'(by omega)]:=by
  rw [List.drop_eq_getElem_cons (by omega)];rfl
 rw [hone'] at h1;have hys:ys[j]?=some (ys[j]'(by omega)):=Ati (by omega);exact⟨_,_,Ati (by omega),h1.trans hys⟩
theorem Af3:Tryz.prog.cellsOf 26=6:=by kernel_rfl
theorem Aih:Tryz.prog.cellsOf 9=1:=by kernel_rfl
theorem Aoj(s:ByteArray):(.string s:Value)= .string ⟨s.data.toList.toArray⟩:=by
 cases s;simp
theorem Abp{H:Type}{enc:TypeId×Value→H}{W:World}{base:Nat}{spare:Nat→Bool}{held:Bool}:∀(fuel:Nat) (cs:List Value) (x:DataW H×List MemPlace),DataW.trod enc Tryz.prog W base spare held fuel 26 cs=some x→
  ∃(nv:Nv) (t:Tr),cs=Ic nv∧G5 W nv t∧Fb t:=by
 intro fuel
 induction fuel using Nat.strongRecOn with
 |ind fuel ih=>
  intro cs x h;obtain⟨n,rfl,hl,hf⟩:=Adv Tryz.underlying26 (by kernel_rfl) (by kernel_rfl) h;obtain⟨v0,y0,e0,t0⟩:=hf 0 _ rfl;obtain⟨v1,y1,e1,t1⟩:=hf 1 _ rfl;obtain⟨v2,y2,e2,t2⟩:=hf 2 _ rfl;obtain⟨v3,y3,e3,t3⟩:=hf 3 _ rfl;obtain⟨v4,y4,e4,t4⟩:=hf 4 _ rfl;obtain⟨v5,y5,e5,t5⟩:=hf 5 _ rfl;clear hf;obtain⟨k,hk,_,_⟩:=DataW.trod_int Tryz.underlying3 t0;obtain⟨m,hm,_,hmw⟩:=DataW.trod_int Tryz.underlying2 t1;obtain⟨u,hu,_,huw⟩:=DataW.trod_int Tryz.underlying22 t2;obtain⟨s,hs,_,_⟩:=DataW.trod_string Tryz.underlying9 t3;have hmb:=Ajg hmw;have hub:=Asa huw;obtain⟨u,rfl⟩:∃u':Nat,u=(u':Int):=⟨u.toNat,by omega⟩;obtain⟨A,an,ac,hA,ks,hks⟩:∃A an ac,v4= .slice A an ac∧∃ks,Ey W A an ks:=by
   rcases open_strs Tryz.underlying23 Tryz.underlying9 Aih t4 with⟨h0,_⟩|⟨a,len,cap,mm,Sx,h0,_,hlc,_,hmm,_,hi⟩
   ·injection h0 with h0
    exact⟨none,0,0,h0,[],Is.nil _ _⟩
   ·injection h0 with h0
    obtain⟨ks,hks,_⟩:=Sl (f:=Jc) Dp (by omega) (w:=W) (a:=a) (n:=len) (fun _=>True) (fun i hil=>⟨(Sx i).data.toList,trivial,fun j hj=>by
     obtain rfl:j=0:=by omega
     rw [Nat.mul_one,Nat.add_zero,(hi i (by rw [hmm];split <;>omega)).1,Aoj];rfl⟩)
    exact⟨some a,len,cap,h0,ks,hks⟩
  obtain⟨B,bn,bc,hB,hbn,vs,hvs,hq⟩:∃B bn bc,v5= .slice B bn bc∧bn≤9223372036854775807∧∃vs,Fh W B bn vs∧∀v∈vs,∃t,G5 W v t∧Fb t:=by
   rcases DataW.trod_slice Tryz.underlying24 t5 with⟨h0,_⟩|⟨a,len,cap,elems,rest,n',hn',h0,_,_,hlc,hcm,hel,hi,_,_⟩
   ·injection h0 with h0
    exact⟨none,0,0,h0,by omega,[],Is.nil _ _,fun v hv=>by simp at hv⟩
   ·injection h0 with h0
    simp only [maxLen] at hcm;obtain⟨vs,hvs,hq⟩:=Sl (f:=Ic) I3 (by omega) (w:=W) (a:=a) (n:=len) (fun v=>∃t,G5 W v t∧Fb t) (fun i hil=>by
     have h1:=hi i hil;rw [Af3,Ati (by omega)] at h1;cases hc:W.cells? base (a.add (i*6)) 6 with
     |none=>rw [hc] at h1;cases h1
     |some cs'=>
      rw [hc] at h1;obtain⟨nv,t,rfl,hN,hT⟩:=ih n' (by omega) _ _ h1;obtain⟨_,hcl,hat⟩:=World.cells?_some hc;exact⟨nv,⟨t,hN,hT⟩,fun j hj=>by rw [←Go.Deep.add_add];exact hat j hj⟩)
    exact⟨some a,len,cap,h0,by omega,vs,hvs,hq⟩
  obtain⟨ts,htl,htp⟩:=Wh (fun i t=>∀v,vs[i]?=some v→G5 W v t∧Fb t) vs.length (fun i hi=>by
   obtain⟨t,h1,h2⟩:=hq vs[i] (List.getElem_mem _);exact⟨t,fun v hv=>by rw [Ati hi] at hv;injection hv with hv;rw [←hv];exact⟨h1,h2⟩⟩)
  refine⟨⟨k,m,u,s.data.toList,A,an,ac,B,bn,bc⟩,.mk k m u s.data.toList ks ts,?_,?_,?_⟩
  ·apply List.ext_getElem?;intro j;have h6:j=0∨j=1∨j=2∨j=3∨j=4∨j=5∨6≤j:=by omega
   rcases h6 with rfl|rfl|rfl|rfl|rfl|rfl|h6
   ·rw [e0];injection hk with hk;rw [hk];rfl
   ·rw [e1];injection hm with hm;rw [hm];rfl
   ·rw [e2];injection hu with hu;rw [hu];rfl
   ·rw [e3];injection hs with hs;rw [hs,Aoj];rfl
   ·rw [e4,hA];rfl
   ·rw [e5,hB];rfl
   ·have hl:cs.length=6:=hl;rw [List.getElem?_eq_none (by omega),List.getElem?_eq_none (by simp [Ic];omega)]
  ·exact G5.mk (x:=⟨k,m,u,s.data.toList,A,an,ac,B,bn,bc⟩) hks hvs hbn htl.symm (fun i v t hv ht=>by
    obtain⟨hi,e⟩:=List.getElem?_eq_some_iff.1 ht;rw [←e];exact(htp i hi v hv).1)
  ·refine .mk hmb (by omega) (fun t ht=>?_);obtain⟨i,hi,e⟩:=List.getElem_of_mem ht;rw [←e];exact(htp i hi vs[i] (Ati (by omega))).2
theorem Abo{H:Type}{enc:TypeId×Value→H}{W:World}{base:Nat}{v:Value}{d:DataW H}{p:List MemPlace}(k:Value.okWide Tryz.prog W .any base 26 v)(h:DataW.Trod enc Tryz.prog W 0 (fun _=>true) true 26 v d p):
  ∃(x:Nv) (t:Tr),v= .agg #[Aa Ab x.k,Aa Ab x.n,Aa Ac (x.u:Int),.string ⟨x.s.toArray⟩,.slice x.A x.an x.ac,.slice x.B x.bn x.bc]∧G5 W x t∧Fb t:=by
 obtain⟨fuel,hf⟩:=h;obtain⟨x,t,hc,hI,hN⟩:=Abp fuel _ _ hf;obtain⟨cs,rfl⟩:∃cs,v= .agg cs:=by
  unfold Value.okWide at k;rw [Tryz.underlying26] at k;obtain⟨cs,e,_⟩:=k;exact⟨cs,e⟩
 refine⟨x,t,?_,hI,hN⟩;have hc:cs.toList=Ic x:=hc;have:cs=#[Aa Ab x.k,Aa Ab x.n,Aa Ac (x.u:Int),.string ⟨x.s.toArray⟩,.slice x.A x.an x.ac,.slice x.B x.bn x.bc]:=by
  cases cs;simp only at hc;rw [hc];rfl
 rw [this]
end Go.Proofs.YtgbjodnegkbfoaaGreat
namespace Go.Proofs.YtgbjodnegkbfoaaGreat
open Go.RowKit Go.Acc
theorem Amb(m nd:Nat)(t:Tr)(h:(124+2*m)*(nd+1)≤65000):(Ec m t nd).1.cost≤64+2*m+64*(m+20)+nd*(104+2*m+64*(m+20))∧(Ff (Ec m t nd).1→(Ec m t nd).1.cost≤65000):=by
 have h1:=Qr m t nd;have h2:=S5 m t nd 0;refine⟨?_,fun hv=>?_⟩
 ·have h3:(nd-(Ec m t nd).2)*(104+2*m+64*(m+20))≤nd*(104+2*m+64*(m+20)):=Nat.mul_le_mul_right _ (Nat.sub_le _ _);exact Nat.le_trans h1.2 (Nat.add_le_add_left h3 _)
 ·have h3:=Z5 m _ 0 hv (S4 m t nd);have h4:(Tr.pre 0 (Ec m t nd).1).length*(124+2*m)≤(nd+1)*(124+2*m):=Nat.mul_le_mul_right _ (by omega);rw [Nat.mul_comm (124+2*m)] at h;omega
mutual
theorem Aes{m:Nat}:∀(t:Tr) (d:Nat),Xc m t→∀y∈Tr.pre d t,∀s∈y.2.ks,s.length≤m
 | .mk k n u s ks l,d,h,y,hy=>by
  cases h with
  |mk l1 l2 l3=>
   rw [Tr.pre] at hy;rcases List.mem_cons.1 hy with rfl|hy
   ·exact l2
   ·exact Abx l (d+1) l3 y hy
theorem Abx{m:Nat}:∀(l:List Tr) (d:Nat),(∀t∈l,Xc m t)→∀y∈Tr.pre.Tr.preL d l,∀s∈y.2.ks,s.length≤m
 | [],_,_,y,hy=>by simp [Tr.pre.Tr.preL] at hy
 |t::r,d,h,y,hy=>by
  rw [Tr.pre.Tr.preL] at hy;rcases List.mem_append.1 hy with hy|hy
  ·exact Aes t d (h t (by simp)) y hy
  ·exact Abx r d (fun x hx=>h x (by simp [hx])) y hy
end
theorem Xq(m nd:Nat){x:Nv}{t:Tr}{w:World}(h:G5 w x t)(hN:Fb t)(h1:(124+2*m)*(nd+1)≤65000):
  ∃T,(∀W,Below w.heap.size w W→Calls Tryz.prog 13 #[.agg #[Aa Ab x.k,Aa Ab x.n,Aa Ac (x.u:Int),.string ⟨x.s.toArray⟩,.slice x.A x.an x.ac,.slice x.B x.bn x.bc],Aa Ab ((nd:Int)+1),Aa Ab (m:Int)] W (Ng W T))∧Fb T∧Ou T∧(Ff T→T.cost≤65000)∧(Tr.pre 0 T).length≤nd+1:=by
 have hc:=Amb m nd t h1;have hp:=S5 m t nd 0;refine⟨(Ec m t nd).1,fun W hb=>?_,Aaa m t nd hN,⟨fun y hy s hs=>?_,?_⟩,hc.2,by omega⟩
 ·have h2:124*(nd+1)≤(124+2*m)*(nd+1):=Nat.mul_le_mul_right _ (by omega);exact Amc m nd (h.pure hb) (by omega)
 ·have:=Aes _ 0 (S4 m t nd) y hy s hs;have:124+2*m≤(124+2*m)*(nd+1):=Nat.le_mul_of_pos_right _ (by omega);omega
 ·have:nd+1≤(124+2*m)*(nd+1):=Nat.le_mul_of_pos_left _ (by omega);omega
end Go.Proofs.YtgbjodnegkbfoaaGreat
