/- Parts of the proof. -/
import Derived.Test.YtgbjodnegkbfoaaGreatQm07
import Derived.Maps.Own
import Derived.Shelf.Strconv.Itoa0
import Derived.Ground.NamesProg
import Derived.Laws.DeepNot64
set_option maxHeartbeats 1500000
set_option maxRecDepth 100000
open Go.Value renaming int→Aa
open Go.IntKind renaming i64→Ab,u64→Ac
open Nat renaming le_refl→Asp
namespace Go.Proofs.YtgbjodnegkbfoaaGreat
open Go.RowKit Go.Acc
def Ap3(w:World)(m:List V3)(x:Value)(e:Ending)(w':World):Prop:=
 ∃A n c,e= .returned (.tuple #[.slice A n c,x])∧E3 w' w.heap.size A n c m∧Below w.heap.size w w'
def I8(w:World)(B b:Nat)(g:Option Nat)(l:List V3):Prop:=
 ∃A n c,Ag w b 261 #[.slice A n c,.bool true]∧E3 w B A n c l∧A.map (·.block)=g∧n≤65536∧B≤b
def Uq(l:List V3)(s:Int):List V3:=if 0≤s∧s≤l.length then l.drop s.toNat else []
def Af6(l:List V3)(s:Int):Bool:=decide (0≤s∧s≤l.length)
def Af7(l:List V3)(s:Int):Int:=if 0≤s∧s≤l.length then 0 else 140
theorem Om(l:List V3)(k:Nat)(h:k≤l.length):Uq l k=l.drop k∧Af6 l k=true∧Af7 l k=0:=
 ⟨by unfold Uq;rw [if_pos (by omega)];simp,decide_eq_true (by omega),if_pos (by omega)⟩
theorem Rl(l:List V3)(s:Int)(h:s<0∨(l.length:Int)<s):Uq l s=[]∧Af6 l s=false∧Af7 l s=140:=
 ⟨if_neg (by omega),decide_eq_false (by omega),if_neg (by omega)⟩
theorem M5(b:Nat)(w:World)(h:w.cell? ⟨b,1,none⟩=some (.bool true)):
  Calls Tryz.prog 250 #[.pointer (some ⟨b,0,none⟩)] w fun e w'=>e= .returned (.bool false)∧w=w':=by
 go_enter Tryz.func250,Tryz.ntmps250;go_wp2;go_ret;exact⟨rfl,rfl⟩
theorem Up(B b:Nat)(g:Option Nat)(l:List V3)(s:Int)(w:World)(h:I8 w B b g l):
  Calls Tryz.prog 251 #[.pointer (some ⟨b,0,none⟩),Aa Ab s] w (Ap3 w (Uq l s) (.bool (Af6 l s))):=by
 obtain⟨A,n,c,hb,hown,_,hl,_⟩:=h;have c0:w.cell? ⟨b,0,none⟩=some (.slice A n c):=hb.cell 0;have hr:=hown.is;have hc:=hown.cap.1;have hlen:=hown.1;clear hb hown;by_cases h1:s<0∨(n:Int)<s
 ·obtain⟨e1,e2,_⟩:=Rl l s (by rw [hlen];exact h1);rw [e1,e2];clear hr hlen e1 e2;rcases h1 with h1|h1
  ·go_enter Tryz.func251,Tryz.ntmps251;go_wp2;go_ret2;exact⟨none,0,0,rfl,Own.nil _ _,Below.refl _ _⟩
  ·have h0:¬s<0:=by omega
   go_enter Tryz.func251,Tryz.ntmps251;go_wp2;go_ret2;exact⟨none,0,0,rfl,Own.nil _ _,Below.refl _ _⟩
 ·obtain⟨k,rfl⟩:=Int.eq_ofNat_of_zero_le (a:=s) (by omega);have hk:k≤n:=by omega
  obtain⟨e1,e2,_⟩:=Om l k (by rw [hlen];exact hk);rw [e1,e2];have HR:=Hd hr;clear hr h1 e1 e2 hlen;go_enter Tryz.func251,Tryz.ntmps251;go_wp2_with fail
  ·refine(Uc A _ _ (l.drop k) w (HR.o.cut0 (by assumption) hc) (by omega)).mono ?_;rintro e w' ⟨A',n',c',rfl,ho,hbw⟩;go_wp2;go_ret2;exact⟨A',n',c',rfl,ho,hbw⟩
  ·refine(Uc _ _ _ (l.drop k) w (HR.o.cut1 Gl) (by omega)).mono ?_;rintro e w' ⟨A',n',c',rfl,ho,hbw⟩;go_wp2;go_ret2;exact⟨A',n',c',rfl,ho,hbw⟩
theorem My(B b:Nat)(g:Option Nat)(l:List V3)(s:Int)(w:World)(h:I8 w B b g l):
  Calls Tryz.prog 156 #[.pointer (some ⟨b,0,none⟩),Aa Ab s] w (Ap3 w (Uq l s) (Aa Ab (Af7 l s))):=by
 have HS:=Hd h;obtain⟨A,n,c,hb,hown,_,hl,_⟩:=h;have c1:w.cell? ⟨b,1,none⟩=some (.bool true):=hb.cell 1;have hlen:=hown.1;clear hb hown;by_cases h1:s<0∨(n:Int)<s
 ·obtain⟨e1,e2,e3⟩:=Rl l s (by rw [hlen];exact h1);rw [e1,e3];have E1:=Hd e1;have E2:=Hd e2;clear hlen e1 e2 e3 h1;go_enter Tryz.func156,Tryz.ntmps156;go_wp2_with (go_at_call 250;refine(M5 b _ (by assumption)).mono ?_;rintro e w' ⟨rfl,rfl⟩);refine(Up B b g l s w HS.o).mono ?_;rw [E1.o,E2.o];rintro e w' ⟨A',n',c',rfl,ho,hbw⟩;go_wp2;go_ret2;exact⟨none,0,0,rfl,Own.nil _ _,hbw⟩
 ·obtain⟨k,rfl⟩:=Int.eq_ofNat_of_zero_le (a:=s) (by omega);have hk:k≤n:=by omega
  obtain⟨e1,e2,e3⟩:=Om l k (by rw [hlen];exact hk);rw [e3];have E2:=Hd e2;clear h1 e1 e2 e3 hlen;go_enter Tryz.func156,Tryz.ntmps156;go_wp2_with (go_at_call 250;refine(M5 b _ (by assumption)).mono ?_;rintro e w' ⟨rfl,rfl⟩);refine(Up B b g l k w HS.o).mono ?_;rw [E2.o];rintro e w' ⟨A',n',c',rfl,ho,hbw⟩;go_wp2;go_ret2;exact⟨A',n',c',rfl,ho,hbw⟩
theorem Ot(B b:Nat)(g:Option Nat)(l:List V3)(w:World)(h:I8 w B b g l):
  Calls Tryz.prog 326 #[.pointer (some ⟨b,0,none⟩)] w fun e w'=>e= .returned (Aa Ab l.length)∧w=w':=by
 obtain⟨A,n,c,hb,hown,_,hl,_⟩:=h;obtain ⟨c0,c1⟩:=hb.c2;rw [hown.1];clear hb hown;go_enter Tryz.func326,Tryz.ntmps326;go_wp2_with (go_at_call 250;refine(M5 b _ (by assumption)).mono ?_;rintro e w' ⟨rfl,rfl⟩);go_ret;exact⟨rfl,rfl⟩
def Ap6(w:World)(b:Nat)(g:Option Nat)(T:World→Option Nat→Prop)(er:Int)(e:Ending)(w':World):Prop:=
 e= .returned (Aa Ab er)∧∃g',T w' g'∧(g'=g∨g'=some w.heap.size)∧Fr (fun k=>k=b∨some k=g) w w'
theorem I8.pure{w w':World}{B b:Nat}{g:Option Nat}{l:List V3}(h:I8 w B b g l)(hb:Below w.heap.size w w'):I8 w' B b g l:=by
 obtain⟨A,n,c,h1,h2,h3⟩:=h;exact⟨A,n,c,h1.pure hb,h2.pure hb,h3⟩
theorem I8.fr{w w':World}{B b:Nat}{g:Option Nat}{l:List V3}{S:Nat→Prop}(h:I8 w B b g l)(hb:Fr S w w')(h1:¬S b)(h2:∀k,g=some k→¬S k):I8 w' B b g l:=by
 obtain⟨A,n,c,b1,b2,b3,b4⟩:=h;exact⟨A,n,c,b1.fr hb h1,b2.fr hb (fun ad h=>h2 _ (by rw [←b3,h];rfl)),b3,b4⟩
theorem Ao9{w:World}{b:Nat}{T:TypeId}{u v:Value}{cs:List Value}(hb:Ag w b T (u::cs).toArray):Ag (w.setCell ⟨b,0,none⟩ v) b T (v::cs).toArray:=by
 have:=hb.set_ 0 v;simpa using this
theorem Apa{w:World}{A:Option Addr}{B b n c k:Nat}{l:List V3}{T:TypeId}{u:Value}{cs:List Value}{v:Value}(hT:210≠T)(hb:Ag w b T (u::cs).toArray)(ho:E3 w B A n c l):E3 (w.setCell ⟨b,0,none⟩ v) B A (n-k) c (l.take (n-k)):=by
 refine(ho.fr (Fr.setCell (S:=fun k=>k=b) (Fr.refl _ _) (fun _=>rfl) v) ?_).take Gl (by omega);rintro ad rfl rfl;exact G8 ho.2 hb hT (by simp [Value.ownBlock])
theorem Amp{w w':World}{A A':Option Addr}{B b n c n' c':Nat}{l m:List V3}{T:TypeId}{u:Value}{cs:List Value}{v:Value}(hT:210≠T)(hb:Ag w' b T (u::cs).toArray)(_ho:E3 w' B A n c l)(ho:E3 w' w.heap.size A' n' c' m)(_hbw:Below w.heap.size w w')(hlt:b<w.heap.size):
  E3 (w'.setCell ⟨b,0,none⟩ v) w.heap.size A' n' c' m:=by
 have _:=hT;have _:=hb;refine ho.fr (Fr.setCell (S:=fun k=>k=b) (Fr.refl _ _) (fun _=>rfl) v) ?_;rintro ad rfl rfl;have:=(ho.addr ad rfl).2.1;omega
theorem Ajv{w w1:World}{A A1:Option Addr}{B b n c n2 c1:Nat}{g:Option Nat}{l:List V3}(hg:A.map (·.block)=g)(hb:Ag w1 b 261 #[.slice A n c,.bool true])(ho:E3 w1 B A1 (n+n2) c1 l)
  (hf:Fr (fun k=>∃ad,A=some ad∧k=ad.block) w w1) (hat:A1.map (·.block)=A.map (·.block)∨A1.map (·.block)=some w.heap.size) (hn:n+n2≤65536) (hB:B≤b) (hlt:b<w.heap.size):
  ∃g',I8 (w1.setCell ⟨b,0,none⟩ (.slice A1 (n+n2) c1)) B b g' l∧(g'=g∨g'=some w.heap.size)∧Fr (fun k=>k=b∨some k=g) w (w1.setCell ⟨b,0,none⟩ (.slice A1 (n+n2) c1)):=by
 have hset:Fr (fun k=>k=b) w1 (w1.setCell ⟨b,0,none⟩ (.slice A1 (n+n2) c1)):=Fr.setCell (S:=fun k=>k=b) (Fr.refl _ _) (fun _=>rfl) _;refine⟨A1.map (·.block),⟨A1,n+n2,c1,hb.set_ 0 _,ho.fr hset ?_,rfl,hn,hB⟩,?_,?_⟩
 ·rintro ad rfl rfl;exact G8 ho.2 hb (by decide) (by simp [Value.ownBlock])
 ·rw [←hg];exact hat
 ·refine(hf.mono ?_).setCell (fun _=> .inl rfl) _;rintro i _ ⟨ad,rfl,rfl⟩;exact .inr (by rw [←hg];rfl)
theorem Ajx(B b:Nat)(g:Option Nat)(l m:List V3)(A2:Option Addr)(n2 c2:Nat)(w:World)(h:I8 w B b g l)(hm:Dx w A2 n2 m)(hlm:l.length+m.length≤65536)(hB:B≤w.heap.size):
  Calls Tryz.prog 327 #[.pointer (some ⟨b,0,none⟩),.slice A2 n2 c2] w (Ap6 w b g (fun w' g'=>I8 w' B b g' (l++m)) 0):=by
 obtain⟨A,n,c,hb,hown,hg,hl,hBb⟩:=h;obtain ⟨c0,c1⟩:=hb.c2;rw [hown.1,hm.1] at hlm;have hne:∀ad,A=some ad→ad.block≠b:=by
  rintro ad rfl e;exact G8 hown.2 hb (by decide) (by simp [Value.ownBlock,e])
 have HO:=Hd hown;have HM:=Hd hm;have HB:=Hd hb;have HN:=Hd hne;have hlt:=hb.lt;clear hb hown hm hne;go_enter Tryz.func327,Tryz.ntmps327;go_wp2_with (first|(go_at_call 250;refine(M5 b _ (by assumption)).mono ?_;rintro e w' ⟨rfl,rfl⟩)|((at_builtin;refine Dm _ rfl (.tmp 24) (.tmp 25) _ rfl 210 _ 3 24 Tryz.underlying185 Jv rfl (by omega) Gl J9 _ _ _ _ _ rfl HO.o _ _ _ _ rfl HM.o (by omega) hB ?_;intro A1 c1 w1 hown1 hfr1 hat1);have B1:=HB.o.fr hfr1 (by rintro⟨ad,h,h'⟩;exact HN.o ad h h'.symm);have d0:w1.cell? ⟨b,0,none⟩=some (.slice A n c):=B1.cell 0;have f0:=B1.frozen 0;have HB1:=Hd B1;clear B1));go_ret;exact⟨rfl,Ajv hg HB1.o hown1 hfr1 hat1 hlm hBb hlt⟩
def Amo(l:List V3)(s:Int):Int:=if 0≤s∧s≤l.length then 0 else 140
def Agr(l:List V3)(s:Int):List V3:=if 0≤s∧s≤l.length then l.drop (l.length-s.toNat) else []
def Ags(l:List V3)(s:Int):List V3:=if 0≤s∧s≤l.length then l.take (l.length-s.toNat) else l
theorem Ad9(l:List V3)(k:Nat)(h:k≤l.length):Agr l k=l.drop (l.length-k)∧Ags l k=l.take (l.length-k)∧Amo l k=0:=
 ⟨by unfold Agr;rw [if_pos (by omega)];simp,by unfold Ags;rw [if_pos (by omega)];simp,if_pos (by omega)⟩
theorem Aqt(l:List V3)(s:Int)(h:s<0∨(l.length:Int)<s):Agr l s=[]∧Ags l s=l∧Amo l s=140:=
 ⟨if_neg (by omega),if_neg (by omega),if_neg (by omega)⟩
def Ap4(w:World)(b:Nat)(T:World→Prop)(m:List V3)(er:Int)(e:Ending)(w':World):Prop:=
 ∃A n c,e= .returned (.tuple #[.slice A n c,Aa Ab er])∧E3 w' w.heap.size A n c m∧T w'∧Fr (fun k=>k=b) w w'
theorem Amq(B b:Nat)(g:Option Nat)(l:List V3)(s:Int)(w:World)(h:I8 w B b g l)(hs: -9223372036854775808≤s)(hs2:s≤9223372036854775807):
  Calls Tryz.prog 233 #[.pointer (some ⟨b,0,none⟩),Aa Ab s] w (Ap4 w b (fun w'=>I8 w' B b g (Ags l s)) (Agr l s) (Amo l s)):=by
 have HS:=Hd h;obtain⟨n,hlen,hl⟩:∃n,l.length=n∧n≤65536:=by obtain⟨A,n,c,hb,hown,hg,hl,hBb⟩:=h;exact⟨n,hown.1,hl⟩
 clear h;by_cases h1:s<0∨(n:Int)<s
 ·obtain⟨e1,e2,e3⟩:=Aqt l s (by rw [hlen];exact h1);rw [e1,e2,e3];clear e1 e2 e3;rcases h1 with h1|h1
  ·obtain⟨f1,f2,f3⟩:=Rl l (-1) (.inl (by omega));have F1:=Hd f1;have F3:=Hd f3;have HL:=Hd hlen;clear f1 f2 f3 hlen;go_enter Tryz.func233,Tryz.ntmps233;go_wp2_with (go_at_call 326;refine(Ot B b g l _ HS.o).mono ?_;rw [HL.o];rintro e w' ⟨rfl,rfl⟩);refine(My B b g l (-1) w HS.o).mono ?_;rw [F1.o,F3.o];rintro e w' ⟨A',n',c',rfl,ho,hbw⟩;go_wp2;go_ret2;exact⟨A',n',c',rfl,ho,HS.o.pure hbw,Fr.of_below hbw _⟩
  ·obtain⟨f1,f2,f3⟩:=Rl l ((n:Int)-s) (.inl (by omega));have F1:=Hd f1;have F3:=Hd f3;have HL:=Hd hlen;have h0:¬s<0:=by omega
   clear f1 f2 f3 hlen;go_enter Tryz.func233,Tryz.ntmps233;go_wp2_with (go_at_call 326;refine(Ot B b g l _ HS.o).mono ?_;rw [HL.o];rintro e w' ⟨rfl,rfl⟩);refine(My B b g l _ w HS.o).mono ?_;rw [F1.o,F3.o];rintro e w' ⟨A',n',c',rfl,ho,hbw⟩;go_wp2;go_ret2;exact⟨A',n',c',rfl,ho,HS.o.pure hbw,Fr.of_below hbw _⟩
 ·obtain⟨k,rfl⟩:=Int.eq_ofNat_of_zero_le (a:=s) (by omega);have hk:k≤n:=by omega
  obtain⟨e1,e2,e3⟩:=Ad9 l k (by rw [hlen];exact hk);rw [e1,e2,e3];obtain⟨f1,f2,f3⟩:=Om l (n-k) (by omega);have ek:((n-k:Nat):Int)=(n:Int)-k:=by omega
  rw [ek] at f1 f3;have F1:=Hd f1;have F3:=Hd f3;have HL:=Hd hlen;clear e1 e2 e3 f1 f2 f3 ek h1 hlen;obtain⟨A,n0,c,hb,hown,hg,hl,hBb⟩:=HS.o;obtain rfl:n=n0:=HL.o.symm.trans hown.1;have HB:=Hd hb;have HO:=Hd hown;have hlt:=hb.lt;have hcap:=hown.cap.1;clear hb hown;go_enter Tryz.func233,Tryz.ntmps233;go_wp2_with (go_at_call 326;refine(Ot B b g l _ HS.o).mono ?_;rw [HL.o];rintro e w' ⟨rfl,rfl⟩);refine(My B b g l _ w HS.o).mono ?_;rw [F1.o,F3.o];rintro e w' ⟨A',n',c',rfl,ho,hbw⟩;have B1:=HB.o.pure hbw;have d0:w'.cell? ⟨b,0,none⟩=some (.slice A n c):=B1.cell 0;have f0:=B1.frozen 0;have HB1:=Hd B1;clear B1;go_wp2;go_ret2;rw [HL.o];exact⟨A',n',c',rfl,Amp (T:=261) (by decide) (cs:=[.bool true]) HB1.o (HO.o.pure hbw) ho hbw hlt,⟨A,n-k,c,Ao9 HB1.o,Apa (by decide) HB1.o (HO.o.pure hbw),hg,by omega,hBb⟩,Fr.setCell (S:=fun k=>k=b) (Fr.of_below hbw _) (fun _=>rfl) _⟩
theorem I8.ge{w:World}{B b:Nat}{g:Option Nat}{l:List V3}(h:I8 w B b g l):B≤b∧b<w.heap.size∧∀k,g=some k→B≤k∧k<w.heap.size∧k≠b:=by
 obtain⟨A,n,c,h1,h2,rfl,_,h4⟩:=h;refine⟨h4,h1.lt,fun k hk=>?_⟩;cases A with
 |none=>cases hk
 |some ad=>
  injection hk with hk
  subst hk;exact⟨(h2.addr ad rfl).2.1,(h2.addr ad rfl).2.2,fun e=>G8 h2.2 h1 (by decide) (by simp [Value.ownBlock,e])⟩
theorem I8.rebase{w:World}{B B' b:Nat}{g:Option Nat}{l:List V3}(h:I8 w B b g l)(hB:B'≤B):I8 w B' b g l:=by
 obtain⟨A,n,c,h1,h2,h3,h4,h5⟩:=h;exact⟨A,n,c,h1,h2.rebase hB,h3,h4,by omega⟩
def vv(v:Bv):V3:=(v.t,v.w,v.n)
def Lz(w:World)(o:Nat→Nat)(b:Nat)(s:List Bv):Prop:=∃g,I8 w 0 b g (s.map vv)∧o b=3∧∀k,g=some k→o k=3
def Jc(n:Nat):List Value:=[Aa Ab (n:Int)]
theorem E6(x:Nat):(Jc x).length=1:=rfl
theorem Adv(x:Nat):∀u∈Jc x,u.oneCell'=true:=by
 intro u hu;simp [Jc] at hu;subst hu;rfl
abbrev Kg:=Go.Acc.Own It 1 9
abbrev Px:=Go.Acc.Own Jc 1 3
def F5(w:World)(o:Nat→Nat)(i p:Nat)(m:List (List UInt8×Nat)):Prop:=
 ∃A1 A2 n c1 c2 ks ns,Ag w p 265 #[.slice A1 n c1,.slice A2 n c2,.bool true]∧Kg w 0 A1 n c1 ks∧Px w 0 A2 n c2 ns∧Of o A1 i∧Of o A2 i∧o p=i∧
  ks.Pairwise (fun x y=>Op.bytesLess x y=true)∧(∀s,Bn m s=Bn (ks.zip ns) s)∧n≤m.length∧∀a∈ns,a≤1048576
def K0(w:World)(o:Nat→Nat)(p:Nat)(m:List (Nat×List UInt8)):Prop:=
 o p=7∧∃n D,w.ownsMap (H:=Unit) Tryz.prog 22 (plainElem Tryz.prog 9) p n D∧n≤m.length∧∀a s,m.find? (fun x=>x.1==a)=some (a,s)→D.atKey (.int .u64 a) (.lit (.string []))= .lit (.string s)
structure Bp where
 β:Nat
 bb:Nat
 sb:Nat
 kb:Nat
 tb:Nat
 lb:Nat
 mb:Nat
def F2(M:Bp)(fl:Int)(w:World)(o:Nat→Nat)(vals:List Bv):Prop:=
 ∃A n c,Ag w M.β 189 #[.pointer (some ⟨M.bb,0,none⟩),.pointer (some ⟨M.sb,0,none⟩),Aa Ab 0,Aa Ab fl,.pointer (some ⟨M.kb,0,none⟩),.pointer (some ⟨M.tb,0,none⟩),.pointer (some ⟨M.lb,0,none⟩),.map (some M.mb),.slice A n c,.bool true]∧
  E3 w 0 A n c (vals.map vv)∧Of o A 8∧o M.β=2
structure BM(M:Bp)(fl:Int)(w:World)(o:Nat→Nat)(b:Bd):Prop where
 head:F2 M fl w o b.vals
 buf:Cg w o M.bb b.b
 stk:Lz w o M.sb b.s
 keys:F5 w o 4 M.kb b.keys
 texts:F5 w o 5 M.tb b.texts
 lists:F5 w o 6 M.lb b.lists
 names:K0 w o M.mb b.names
def B6(i:Nat):Prop:=1≤i∧i≤8
def Ck(M:Bp)(fl:Int)(b:Bd)(w:World)(o:Nat→Nat)(e:Ending)(w':World):Prop:=
 e= .returned (.tuple #[])∧∃o',BM M fl w' o' b∧To B6 w o w' o'
section
variable {I:Nat→Prop} {w w':World} {o o':Nat→Nat} {M:Bp} {fl:Int} {b:Bd}
theorem Lz.to_{p:Nat}{s:List Bv}(h:Lz w o p s)(ht:To I w o w' o')(hI:¬I 3):Lz w' o' p s:=by
 obtain⟨g,hs,h1,h2⟩:=h;have hg:=hs.ge;refine⟨g,hs.fr ht.fr (by rw [h1];exact hI) (fun k hk=>by rw [h2 k hk];exact hI),by rw [ht.ow _ hg.2.1];exact h1,fun k hk=>by rw [ht.ow _ (hg.2.2 k hk).2.1];exact h2 k hk⟩
theorem F5.to_{i p:Nat}{m:List (List UInt8×Nat)}(h:F5 w o i p m)(ht:To I w o w' o')(hI:¬I i):F5 w' o' i p m:=by
 obtain⟨A1,A2,n,c1,c2,ks,ns,hb,h1,h2,o1,o2,op,rest⟩:=h;exact⟨A1,A2,n,c1,c2,ks,ns,hb.to_ ht (by rw [op];exact hI),h1.to_ o1 ht hI,h2.to_ o2 ht hI,o1.to_ h1 ht,o2.to_ h2 ht,by rw [ht.ow _ hb.lt];exact op,rest⟩
theorem K0.to_{p:Nat}{m:List (Nat×List UInt8)}(h:K0 w o p m)(ht:To I w o w' o')(hI:¬I 7):K0 w' o' p m:=by
 obtain⟨op,n,D,hm,rest⟩:=h;have hlt:=hm.lt;refine⟨by rw [ht.ow _ hlt];exact op,n,D,?_,rest⟩;obtain⟨es,clock,hb,F⟩:=hm;exact⟨es,clock,(ht.keep hlt (by rw [op];exact hI)).trans hb,F⟩
theorem F2.to_{vals:List Bv}(h:F2 M fl w o vals)(ht:To I w o w' o')(h2:¬I 2)(h8:¬I 8):F2 M fl w' o' vals:=by
 obtain⟨A,n,c,hb,ho,h1,op⟩:=h;exact⟨A,n,c,hb.to_ ht (by rw [op];exact h2),ho.to_ h1 ht h8,h1.to_ ho ht,by rw [ht.ow _ hb.lt];exact op⟩
theorem BM.to_(h:BM M fl w o b)(ht:To I w o w' o')(hI:∀i,B6 i→¬I i):BM M fl w' o' b:=
 ⟨h.head.to_ ht (hI _ ⟨by omega,by omega⟩) (hI _ ⟨by omega,by omega⟩),h.buf.to_ ht (hI _ ⟨by omega,by omega⟩),h.stk.to_ ht (hI _ ⟨by omega,by omega⟩),h.keys.to_ ht (hI _ ⟨by omega,by omega⟩),
  h.texts.to_ ht (hI _ ⟨by omega,by omega⟩),h.lists.to_ ht (hI _ ⟨by omega,by omega⟩),h.names.to_ ht (hI _ ⟨by omega,by omega⟩)⟩
theorem BM.pure(h:BM M fl w o b)(hb:Below w.heap.size w w'):BM M fl w' o b:=h.to_ (To.pure (fun _=>False) hb o) (fun _ _ h=>h)
theorem BM.fresh(h:BM M fl w o b)(hb:Below w.heap.size w w')(i:Nat):BM M fl w' (Aq o w.heap.size i) b:=h.to_ (To.fresh (fun _=>False) hb o i) (fun _ _ h=>h)
theorem BM.buf_(h:BM M fl w o b){l:List UInt8}(ht:To (fun i=>i=1) w o w' o')(hb:Cg w' o' M.bb l):BM M fl w' o' { b with b:=l}:=
 ⟨h.head.to_ ht (by omega) (by omega),hb,h.stk.to_ ht (by omega),h.keys.to_ ht (by omega),h.texts.to_ ht (by omega),h.lists.to_ ht (by omega),h.names.to_ ht (by omega)⟩
theorem BM.stk_(h:BM M fl w o b){s:List Bv}(ht:To (fun i=>i=3) w o w' o')(hb:Lz w' o' M.sb s):BM M fl w' o' { b with s:=s}:=
 ⟨h.head.to_ ht (by omega) (by omega),h.buf.to_ ht (by omega),hb,h.keys.to_ ht (by omega),h.texts.to_ ht (by omega),h.lists.to_ ht (by omega),h.names.to_ ht (by omega)⟩
theorem BM.keys_(h:BM M fl w o b){m:List (List UInt8×Nat)}(ht:To (fun i=>i=4) w o w' o')(hb:F5 w' o' 4 M.kb m):BM M fl w' o' { b with keys:=m}:=
 ⟨h.head.to_ ht (by omega) (by omega),h.buf.to_ ht (by omega),h.stk.to_ ht (by omega),hb,h.texts.to_ ht (by omega),h.lists.to_ ht (by omega),h.names.to_ ht (by omega)⟩
theorem BM.texts_(h:BM M fl w o b){m:List (List UInt8×Nat)}(ht:To (fun i=>i=5) w o w' o')(hb:F5 w' o' 5 M.tb m):BM M fl w' o' { b with texts:=m}:=
 ⟨h.head.to_ ht (by omega) (by omega),h.buf.to_ ht (by omega),h.stk.to_ ht (by omega),h.keys.to_ ht (by omega),hb,h.lists.to_ ht (by omega),h.names.to_ ht (by omega)⟩
theorem BM.lists_(h:BM M fl w o b){m:List (List UInt8×Nat)}(ht:To (fun i=>i=6) w o w' o')(hb:F5 w' o' 6 M.lb m):BM M fl w' o' { b with lists:=m}:=
 ⟨h.head.to_ ht (by omega) (by omega),h.buf.to_ ht (by omega),h.stk.to_ ht (by omega),h.keys.to_ ht (by omega),h.texts.to_ ht (by omega),hb,h.names.to_ ht (by omega)⟩
theorem BM.names_(h:BM M fl w o b){m:List (Nat×List UInt8)}(ht:To (fun i=>i=7) w o w' o')(hb:K0 w' o' M.mb m):BM M fl w' o' { b with names:=m}:=
 ⟨h.head.to_ ht (by omega) (by omega),h.buf.to_ ht (by omega),h.stk.to_ ht (by omega),h.keys.to_ ht (by omega),h.texts.to_ ht (by omega),h.lists.to_ ht (by omega),hb⟩
theorem BM.head_(h:BM M fl w o b){vals:List Bv}(ht:To (fun i=>i=2∨i=8) w o w' o')(hb:F2 M fl w' o' vals):BM M fl w' o' { b with vals:=vals}:=
 ⟨hb,h.buf.to_ ht (by omega),h.stk.to_ ht (by omega),h.keys.to_ ht (by omega),h.texts.to_ ht (by omega),h.lists.to_ ht (by omega),h.names.to_ ht (by omega)⟩
theorem Ck.from_pure{w0:World}{e:Ending}(hb:Below w0.heap.size w0 w)(h:Ck M fl b w o e w'):Ck M fl b w0 o e w':=by
 obtain⟨h1,o',h2,h3⟩:=h;exact⟨h1,o',h2,h3.from_pure hb⟩
theorem Ck.from_fresh{w0:World}{i:Nat}{e:Ending}(hb:Below w0.heap.size w0 w)(h:Ck M fl b w (Aq o w0.heap.size i) e w'):Ck M fl b w0 o e w':=by
 obtain⟨h1,o',h2,h3⟩:=h;exact⟨h1,o',h2,(To.fresh _ hb o i).trans h3⟩
theorem Hj{i:Nat}(h:i=1):B6 i:=by subst h;exact⟨by omega,by omega⟩
theorem Afh{i:Nat}(h:i=3):B6 i:=by subst h;exact⟨by omega,by omega⟩
theorem F2.cells{vals:List Bv}(h:F2 M fl w o vals):w.cell? ⟨M.β,0,none⟩=some (.pointer (some ⟨M.bb,0,none⟩))∧w.cell? ⟨M.β,1,none⟩=some (.pointer (some ⟨M.sb,0,none⟩))∧w.cell? ⟨M.β,2,none⟩=some (Aa Ab 0)∧w.cell? ⟨M.β,9,none⟩=some (.bool true)∧
  w.frozen? ⟨M.β,2,none⟩=false:=by
 obtain⟨A,n,c,hb,_⟩:=h;exact⟨hb.cell 0,hb.cell 1,hb.cell 2,hb.cell 9,hb.frozen 2⟩
end
theorem Am0(b:Nat)(s l:List Bv)(A2:Option Addr)(n2 c2:Nat)(w:World)(o:Nat→Nat)(h:Lz w o b s)(hm:Dx w A2 n2 (l.map vv))(hl:s.length+l.length≤65536):
  Calls Tryz.prog 327 #[.pointer (some ⟨b,0,none⟩),.slice A2 n2 c2] w fun e w'=>e= .returned (Aa Ab 0)∧∃o',Lz w' o' b (s++l)∧To (fun i=>i=3) w o w' o':=by
 obtain⟨g,hs,h1,h2⟩:=h;have hge:=hs.ge;refine(Ajx 0 b g (s.map vv) (l.map vv) A2 n2 c2 w hs hm (by simpa using hl) (Nat.zero_le _)).mono ?_;rintro e w' ⟨rfl,g',hs',hg',hf⟩;refine⟨rfl,Aq o w.heap.size 3,⟨g',by rw [List.map_append];exact hs',by rw [Ax hge.2.1];exact h1,?_⟩,To.of_fr hf ?_ 3⟩
 ·intro k hk;rcases hg' with e|e
  ·rw [e] at hk;rw [Ax (hge.2.2 k hk).2.1];exact h2 k hk
  ·rw [e] at hk;injection hk with hk
   rw [←hk,As (Asp _)]
 ·rintro k hk (rfl|e)
  ·exact h1
  ·exact h2 k e.symm
theorem Apj(b n:Nat)(s:List Bv)(w:World)(o:Nat→Nat)(h:Lz w o b s)(hn:s.length=n):
  Calls Tryz.prog 326 #[.pointer (some ⟨b,0,none⟩)] w fun e w'=>e= .returned (Aa Ab n)∧w=w':=by
 obtain⟨g,hs,h1,h2⟩:=h;have:=Ot 0 b g (s.map vv) w hs;rw [List.length_map,hn] at this;exact this
theorem Abs(b k:Nat)(s:List Bv)(w:World)(o:Nat→Nat)(h:Lz w o b s)(hk:k≤s.length):
  Calls Tryz.prog 156 #[.pointer (some ⟨b,0,none⟩),Aa Ab (k:Int)] w fun e w'=>∃A n c,e= .returned (.tuple #[.slice A n c,Aa Ab 0])∧E3 w' w.heap.size A n c ((s.drop k).map vv)∧Below w.heap.size w w':=by
 obtain⟨g,hs,h1,h2⟩:=h;obtain⟨e1,_,e3⟩:=Om (s.map vv) k (by simpa using hk);have:=My 0 b g (s.map vv) k w hs;rw [e1,e3,←List.map_drop] at this;exact this
theorem Aeq(b k:Nat)(s:List Bv)(w:World)(o:Nat→Nat)(h:Lz w o b s)(hk:k≤s.length)(hk2:k≤65536):
  Calls Tryz.prog 233 #[.pointer (some ⟨b,0,none⟩),Aa Ab (k:Int)] w fun e w'=>(∃A n c,e= .returned (.tuple #[.slice A n c,Aa Ab 0]))∧∃o',Lz w' o' b (s.take (s.length-k))∧To (fun i=>i=3) w o w' o':=by
 obtain⟨g,hs,h1,h2⟩:=h;have hge:=hs.ge;obtain⟨e1,e2,e3⟩:=Ad9 (s.map vv) k (by simpa using hk);refine(Amq 0 b g (s.map vv) k w hs (by omega) (by omega)).mono ?_;rintro e w' ⟨A,n,c,rfl,_,hs',hf⟩;rw [e3];rw [e2,←List.map_take,List.length_map] at hs';refine⟨⟨A,n,c,rfl⟩,Aq o w.heap.size 3,⟨g,hs',by rw [Ax hge.2.1];exact h1,fun k' hk'=>by rw [Ax (hge.2.2 k' hk').2.1];exact h2 k' hk'⟩,To.of_fr hf ?_ 3⟩;rintro k' _ rfl;exact h1
theorem Oj(b:Nat)(w:World)(h:w.cell? ⟨b,9,none⟩=some (.bool true)):
  Calls Tryz.prog 155 #[.pointer (some ⟨b,0,none⟩)] w fun e w'=>e= .returned (.bool false)∧w=w':=by
 go_enter Tryz.func155,Tryz.ntmps155;go_wp2;go_ret;exact⟨rfl,rfl⟩
theorem An8{M:Bp}{fl:Int}{w:World}{o:Nat→Nat}{vals:List Bv}(h:F2 M fl w o vals):Calls Tryz.prog 320 #[.pointer (some ⟨M.β,0,none⟩)] w fun e w'=>e= .returned (Aa Ab 0)∧w=w':=by
 obtain⟨c0,c1,c2,c9,_⟩:=h.cells;clear h;go_enter Tryz.func320,Tryz.ntmps320;go_wp2_with (go_at_call 155;refine(Oj M.β _ (by assumption)).mono ?_;rintro e w' ⟨rfl,rfl⟩);go_ret;exact⟨rfl,rfl⟩
theorem F2.same{M:Bp}{fl:Int}{w:World}{o:Nat→Nat}{vals:List Bv}(h:F2 M fl w o vals):F2 M fl (w.setCell ⟨M.β,2,none⟩ (Aa Ab 0)) o vals∧To (fun i=>i=2∨i=8) w o (w.setCell ⟨M.β,2,none⟩ (Aa Ab 0)) o:=by
 obtain⟨A,n,c,hb,ho,h1,op⟩:=h;have hT:To (fun i=>i=2∨i=8) w o (w.setCell ⟨M.β,2,none⟩ (Aa Ab 0)) o:=To.of_fr0 (Fr.setCell (S:=fun k=>k=M.β) (Fr.refl _ w) (fun _=>rfl) _) (by rintro k _ rfl;exact .inl op);refine⟨⟨A,n,c,by have:=hb.set_ 2 (Aa Ab 0);simpa using this,ho.fr (Fr.setCell (S:=fun k=>k=M.β) (Fr.refl _ w) (fun _=>rfl) _) ?_,h1,op⟩,hT⟩;rintro ad rfl hk;exact G8 ho.2 hb (by decide) (by simp [Value.ownBlock,hk])
theorem Gs{M:Bp}{fl:Int}{w:World}{o:Nat→Nat}{b:Bd}(h:BM M fl w o b):Calls Tryz.prog 157 #[.pointer (some ⟨M.β,0,none⟩),Aa Ab 0] w (Ck M fl b w o):=by
 have H:=Hd h;obtain⟨c0,c1,c2,c9,f2⟩:=h.head.cells;clear h;go_enter Tryz.func157,Tryz.ntmps157;go_wp2;go_end0;obtain⟨h1,h2⟩:=H.o.head.same;refine⟨rfl,o,H.o.head_ h2 h1,h2.mono ?_⟩;rintro i (rfl|rfl) <;>exact⟨by omega,by omega⟩
theorem Aol(W:World)(v:V3):Dx (W.alloc (.cells #[Aa Ab v.1,Aa Ab v.2.1,Aa Ac v.2.2] 210)) (some ⟨W.heap.size,0,none⟩) 1 [v]:=by
 refine⟨rfl,fun j u hu=>⟨_,_,rfl,?_⟩⟩;rw [Nat.zero_add,(Ag.new W _ _).cell j];simpa [vc] using hu
theorem F2.own{M:Bp}{fl:Int}{w:World}{o:Nat→Nat}{vals:List Bv}(h:F2 M fl w o vals):o M.β=2:=by obtain⟨A,n,c,_,_,_,h⟩:=h;exact h
theorem Bg:¬B6 0:=by rintro⟨h,_⟩;omega
theorem Ll(M:Bp)(fl:Int)(b:Bd)(v:Bv)(w:World)(o:Nat→Nat)(h:BM M fl w o b)(hs:b.s.length<65536):
  Calls Tryz.prog 235 #[.pointer (some ⟨M.β,0,none⟩),.agg #[Aa Ab (v.t:Int),Aa Ab (v.w:Int),Aa Ac (v.n:Int)]] w (Ck M fl (b.push v) w o):=by
 have HS:=Hd hs;have hB1:Below w.heap.size w (w.alloc (.cells #[Aa Ab (v.t:Int),Aa Ab (v.w:Int),Aa Ac (v.n:Int)] 210)):=(Below.refl _ _).alloc (Asp _) _;have HB1:=Hd hB1;have HM1:=Hd (h.fresh hB1 0);have HX1:=Hd (Ag.new w 210 #[Aa Ab (v.t:Int),Aa Ab (v.w:Int),Aa Ac (v.n:Int)]);have HO1:=Hd (show Aq o w.heap.size 0 w.heap.size=0 from As (Asp _));obtain⟨β,hβ⟩:∃x,M.β=x:=⟨_,rfl⟩;obtain⟨bb,hbb⟩:∃x,M.bb=x:=⟨_,rfl⟩;obtain⟨sb,hsb⟩:∃x,M.sb=x:=⟨_,rfl⟩;obtain⟨a0,a1,a2,a9,f2⟩:=HM1.o.head.cells;rw [hβ] at a0 a1 a2 f2;rw [hbb] at a0;rw [hβ];have Hβ:=Hd hβ;have Hbb:=Hd hbb;have Hsb:=Hd hsb;clear h hs a1 a2 a9 f2 hβ hbb hsb hB1;go_enter Tryz.func235,Tryz.ntmps235;go_wp2_with fail;go_at_call 262;rw [←Hbb.o];refine(Fq HM1.o.buf).mono ?_;rintro e w' ⟨rfl,rfl⟩;go_wp2_with fail;go_at_call 157;rw [←Hβ.o];refine(Gs HM1.o).mono ?_;rintro e W2 ⟨rfl,o2,hM2,hT2⟩;have hX2:=HX1.o.to_ hT2 (by rw [HO1.o];exact Bg);have HO2:=Hd (show o2 w.heap.size=0 by rw [hT2.ow _ HX1.o.lt];exact HO1.o);obtain⟨b0,b1,b2,b9,f2⟩:=hM2.head.cells;rw [Hβ.o] at b1 b2;rw [Hsb.o] at b1;rw [Hβ.o];obtain ⟨x0,x1,x2⟩:=hX2.c3;have HM2:=Hd hM2;have HT2:=Hd hT2;have HX2:=Hd hX2;clear hX2 b0 b9 f2 hM2 hT2 a0;go_wp2_with fail;have HL:=Hd (show b.s.length+ [v].length≤65536 from HS.o);have hB3:Below W2.heap.size W2 (W2.alloc (.cells #[Aa Ab (v.t:Int),Aa Ab (v.w:Int),Aa Ac (v.n:Int)] 210)).drew:=((Below.refl _ _).alloc (Asp _) _).drew;have HB3:=Hd hB3;have HM3:=Hd (HM2.o.pure hB3);have HI:=Hd (show Dx (W2.alloc (.cells #[Aa Ab (v.t:Int),Aa Ab (v.w:Int),Aa Ac (v.n:Int)] 210)).drew (some ⟨W2.heap.size,0,none⟩) 1 ([v].map vv) from Aol W2 (vv v));have hlt:=Nat.ne_of_lt (Ao b1);simp only at hlt;have hltx:=Nat.ne_of_lt (Ao x0);simp only at hltx;clear hB3;rw [←Hsb.o] at b1;go_region_held3 (fun w'=>w'.cell? ⟨β,1,none⟩=some (.pointer (some ⟨M.sb,0,none⟩))∧w'.cell? ⟨w.heap.size,0,none⟩=some (Aa Ab (v.t:Int))∧w'.cell? ⟨w.heap.size,1,none⟩=some (Aa Ab (v.w:Int))∧w'.cell? ⟨w.heap.size,2,none⟩=some (Aa Ac (v.n:Int))) (first|with_reducible exact⟨b1,x0,x1,x2⟩|with_reducible exact⟨Af b1,Af x0,Af x1,Af x2⟩|with_reducible exact⟨Af (Ar _ b1),Af (Ar _ x0),Af (Ar _ x1),Af (Ar _ x2)⟩|with_reducible exact⟨y1,y2,y3,y4⟩|with_reducible exact⟨z1,z2,z3,z4⟩) (first|(go_at_call 327;(with_reducible refine(Am0 M.sb b.s [v] _ _ _ _ o2 HM3.o.stk HI.o HL.o).mono ?_);rintro e W4 ⟨rfl,o4,hS4,hT4⟩;have hM4:=HM3.o.stk_ hT4 hS4;have y1:=hT4.cell (Af (Ar _ b1)) (by rw [show o2 β=2 by rw [←Hβ.o];exact HM2.o.head.own];omega);have y2:=hT4.cell (Af (Ar _ x0)) (by rw [HO2.o];omega);have y3:=hT4.cell (Af (Ar _ x1)) (by rw [HO2.o];omega);have y4:=hT4.cell (Af (Ar _ x2)) (by rw [HO2.o];omega);have HM4:=Hd hM4;have HT4:=Hd hT4;have HO4:=Hd (show o4 w.heap.size=0 by rw [hT4.ow _ (Nat.lt_of_lt_of_le (Ao x0) HB3.o.size)];exact HO2.o);clear hS4 hT4 hM4)|(go_at_call 157;rw [←Hβ.o];(with_reducible refine(Gs HM4.o).mono ?_);rintro e W5 ⟨rfl,o5,hM5,hT5⟩;have z1:=hM5.head.cells.2.1;rw [Hβ.o] at z1;have z2:=hT5.cell y2 (by rw [HO4.o];exact Bg);have z3:=hT5.cell y3 (by rw [HO4.o];exact Bg);have z4:=hT5.cell y4 (by rw [HO4.o];exact Bg);have HM5:=Hd hM5;have HT5:=Hd hT5;clear hM5 hT5));go_end0;refine⟨rfl,o5,HM5.o,?_⟩;exact(To.fresh _ HB1.o o 0).trans (HT2.o.trans (To.from_pure HB3.o ((HT4.o.mono fun _ h=>Afh h).trans HT5.o)))
end Go.Proofs.YtgbjodnegkbfoaaGreat
namespace Go.Proofs.YtgbjodnegkbfoaaGreat
open Go.Shelf Go.RowKit Go.Acc
def Ai6:Go.Shelf.Ren:=⟨fun|129=>101|n=>n,fun|3=>3|4=>4|5=>5|9=>9|46=>146|53=>22|n=>n,fun|n=>n⟩
theorem Ai5:Go.Proofs.Lays.n129 Tryz.prog Ai6:={
 mixed:=by kernel_rfl
 f129:=Tryz.func101.trans (congrArg some (by kernel_rfl))
 t3:=Tryz.underlying3
 a3:=Tryz.isAgg3
 z3:=Tryz.sizeOf3
 v3:=Tryz.zeroValue3
 t4:=Tryz.underlying4
 a4:=Tryz.isAgg4
 z4:=Tryz.sizeOf4
 v4:=Tryz.zeroValue4
 t5:=Tryz.underlying5
 a5:=Tryz.isAgg5
 z5:=Tryz.sizeOf5
 v5:=Tryz.zeroValue5
 t9:=Tryz.underlying9
 a9:=Tryz.isAgg9
 z9:=Tryz.sizeOf9
 v9:=Tryz.zeroValue9
 t46:=Tryz.underlying146
 a46:=Tryz.isAgg146
 z46:=Tryz.sizeOf146
 v46:=Tryz.zeroValue146
 t53:=Tryz.underlying22
 a53:=Tryz.isAgg22
 z53:=Tryz.sizeOf22
 v53:=Tryz.zeroValue22}
theorem Ux(u:Nat)(w:World)(h:u<18446744073709551616):Calls Tryz.prog 101 #[Aa Ac u] w fun e w'=>e= .returned (Aa Ab (Lib.bitLen u))∧w=w':=by
 have h:=Any.bits_Len64 Ai5 (u:Int) w (by omega) (by omega);change Calls Tryz.prog 101 _ _ _ at h;exact h.mono fun _ _ ⟨he,hw⟩=>⟨by rw [he,Int.toNat_natCast],hw.symm⟩
def wdN(m:Int):Int:=if m≤8 then 1 else if m≤16 then 2 else if m≤32 then 4 else 8
theorem Aaz(m r:Int)(w:World)(h:wdN m=r):Calls Tryz.prog 100 #[Aa Ab m] w fun e w'=>e= .returned (Aa Ab r)∧w=w':=by
 unfold wdN at h;by_cases h1:m≤8
 ·rw [if_pos h1] at h;subst h;go_enter Tryz.func100,Tryz.ntmps100;go_wp2;refine wp_loop_rounds 5 ?_
  repeat (rw [rounds_succ];go_wp2)
  all_goals
   go_ret;exact⟨rfl,rfl⟩
 ·rw [if_neg h1] at h;by_cases h2:m≤16
  ·rw [if_pos h2] at h;subst h;go_enter Tryz.func100,Tryz.ntmps100;go_wp2;refine wp_loop_rounds 5 ?_
   repeat (rw [rounds_succ];go_wp2)
   all_goals
    go_ret;exact⟨rfl,rfl⟩
  ·rw [if_neg h2] at h;by_cases h3:m≤32
   ·rw [if_pos h3] at h;subst h;go_enter Tryz.func100,Tryz.ntmps100;go_wp2;refine wp_loop_rounds 5 ?_
    repeat (rw [rounds_succ];go_wp2)
    all_goals
     go_ret;exact⟨rfl,rfl⟩
   ·rw [if_neg h3] at h;subst h;by_cases h4:m≤64
    ·go_enter Tryz.func100,Tryz.ntmps100;go_wp2;refine wp_loop_rounds 5 ?_
     repeat (rw [rounds_succ];go_wp2)
     all_goals
      go_ret;exact⟨rfl,rfl⟩
    ·go_enter Tryz.func100,Tryz.ntmps100;go_wp2;refine wp_loop_rounds 5 ?_
     repeat (rw [rounds_succ];go_wp2)
     all_goals
      go_ret;exact⟨rfl,rfl⟩
def Kc(u:Nat):Int:=if u<256 then 1 else if u<65536 then 2 else if u<4294967296 then 4 else 8
def Rc(n:Int):Int:=if -128≤n∧n<128 then 1 else if -32768≤n∧n<32768 then 2 else if -2147483648≤n∧n<2147483648 then 4 else 8
theorem Ns(u k:Nat)(hk:k≤63)(hu:u<18446744073709551616):Lib.bitLen u≤k↔u<2^k:=by
 constructor
 ·intro h;refine Decidable.byContradiction fun hn=>?_
  have h1:=Lib.bitLen_shift k u (by omega) hu;have hp:0<2^k:=Nat.two_pow_pos k;have h2:u/2^k≠0:=by
   intro e;have:=(Nat.div_eq_zero_iff).1 e;omega
  have h3:=Lib.bitLen_half (u/2^k) h2 (Nat.lt_of_le_of_lt (Nat.div_le_self _ _) hu);omega
 ·intro h;exact Lib.bitLen_le u k (by omega) h
theorem Ang(u:Nat)(hu:u<18446744073709551616):wdN (Lib.bitLen u)=Kc u:=by
 have h1:=Ns u 8 (by omega) hu;have h2:=Ns u 16 (by omega) hu;have h3:=Ns u 32 (by omega) hu;simp only [Nat.reducePow] at h1 h2 h3;unfold wdN Kc;by_cases c1:u<256
 ·rw [if_pos c1,if_pos (by have:=h1.2 c1;omega)]
 ·rw [if_neg c1,if_neg (by have:=mt h1.1 c1;omega)];by_cases c2:u<65536
  ·rw [if_pos c2,if_pos (by have:=h2.2 c2;omega)]
  ·rw [if_neg c2,if_neg (by have:=mt h2.1 c2;omega)];by_cases c3:u<4294967296
   ·rw [if_pos c3,if_pos (by have:=h3.2 c3;omega)]
   ·rw [if_neg c3,if_neg (by have:=mt h3.1 c3;omega)]
theorem Hc(u:Nat)(r:Int)(w:World)(hu:u<18446744073709551616)(h:Kc u=r):Calls Tryz.prog 54 #[Aa Ac u] w fun e w'=>e= .returned (Aa Ab r)∧w=w':=by
 obtain⟨k,hk⟩:∃k,Lib.bitLen u=k:=⟨_,rfl⟩;have hw:=Ang u hu;rw [hk,h] at hw;have hl:=Ux u w hu;rw [hk] at hl;have HW:=Hd hw;have HL:=Hd hl;clear hk hw hl h hu;go_enter Tryz.func54,Tryz.ntmps54;go_wp2_with fail;go_at_call 101;refine HL.o.mono ?_;rintro e w' ⟨rfl,rfl⟩;go_wp2_with fail;go_at_call 100;refine(Aaz k r _ HW.o).mono ?_;rintro e w' ⟨rfl,rfl⟩;go_wp2;go_ret;exact⟨rfl,rfl⟩
theorem Aez(u:Nat)(hu:u<9223372036854775808):wdN (1+Lib.bitLen u)=Rc (u:Int)∧Rc (-(u:Int)-1)=Rc (u:Int):=by
 have h1:=Ns u 7 (by omega) (by omega);have h2:=Ns u 15 (by omega) (by omega);have h3:=Ns u 31 (by omega) (by omega);simp only [Nat.reducePow] at h1 h2 h3;constructor
 ·unfold wdN Rc;by_cases c1:u<128
  ·rw [if_pos (show(-128:Int)≤u∧(u:Int)<128 by omega),if_pos (by have:=h1.2 c1;omega)]
  ·rw [if_neg (show ¬((-128:Int)≤u∧(u:Int)<128) by omega),if_neg (by have:=mt h1.1 c1;omega)];by_cases c2:u<32768
   ·rw [if_pos (show(-32768:Int)≤u∧(u:Int)<32768 by omega),if_pos (by have:=h2.2 c2;omega)]
   ·rw [if_neg (show ¬((-32768:Int)≤u∧(u:Int)<32768) by omega),if_neg (by have:=mt h2.1 c2;omega)];by_cases c3:u<2147483648
    ·rw [if_pos (show(-2147483648:Int)≤u∧(u:Int)<2147483648 by omega),if_pos (by have:=h3.2 c3;omega)]
    ·rw [if_neg (show ¬((-2147483648:Int)≤u∧(u:Int)<2147483648) by omega),if_neg (by have:=mt h3.1 c3;omega)]
 ·unfold Rc
  (repeat' split) <;>omega
theorem xor_zero(a:Nat)(ha:a<9223372036854775808):Go.bits .xor .i64 (a:Int) 0=a:=by
 show IntKind.i64.wrap ((BitVec.ofInt 64 (a:Int)^^^BitVec.ofInt 64 0).toNat:Int)=_;have h1:BitVec.ofInt 64 0=0#64:=by decide
 rw [h1,BitVec.xor_zero,ofInt_u64 a (by omega)];simp [IntKind.wrap,IntKind.bits,IntKind.signed];omega
theorem Anh(a:Nat)(ha:a<9223372036854775808):Go.bits .xor .i64 (-(a:Int)-1) (-1)=a:=by
 show IntKind.i64.wrap ((BitVec.ofInt 64 (-(a:Int)-1)^^^BitVec.ofInt 64 (-1)).toNat:Int)=_;have h1:BitVec.ofInt 64 (-1)=BitVec.allOnes 64:=by decide
 have h2:(BitVec.ofInt 64 (-(a:Int)-1)).toNat=18446744073709551615-a:=by
  rw [BitVec.toNat_ofInt];omega
 rw [h1,BitVec.xor_allOnes,BitVec.toNat_not,h2];simp [IntKind.wrap,IntKind.bits,IntKind.signed];omega
theorem Ae1(n r:Int)(w:World)(h0: -9223372036854775808≤n∧n≤9223372036854775807)(h:Rc n=r):Calls Tryz.prog 56 #[Aa Ab n] w fun e w'=>e= .returned (Aa Ab r)∧w=w':=by
 obtain⟨u,hu,hn,hx⟩:∃u:Nat,u<9223372036854775808∧Rc (u:Int)=r∧Go.bits .xor .i64 n (n/9223372036854775808)=u:=by
  by_cases hn:0≤n
  ·obtain⟨u,rfl⟩:=Int.eq_ofNat_of_zero_le hn;refine⟨u,by omega,h,?_⟩;rw [show(u:Int)/9223372036854775808=0 by omega];exact xor_zero u (by omega)
  ·obtain⟨u,rfl⟩:∃u:Nat,n= -(u:Int)-1:=⟨(-n-1).toNat,by omega⟩;refine⟨u,by omega,by rw [←(Aez u (by omega)).2];exact h,?_⟩;rw [show(-(u:Int)-1)/9223372036854775808= -1 by omega];exact Anh u (by omega)
 obtain⟨k,hk⟩:∃k,Lib.bitLen u=k:=⟨_,rfl⟩;have hw:=(Aez u hu).1;rw [hk,hn] at hw;have hl:=Ux u w (by omega);rw [hk] at hl;have hk2:k≤64:=by rw [←hk];exact Lib.bitLen_le u 64 (by omega) (by omega)
 have hwr:IntKind.u64.wrap (u:Int)=u:=by rw [IntKind.wrap_u64];omega
 have HW:=Hd hw;have HL:=Hd hl;have HX:=Hd hx;clear hk hw hl h hn hx;go_enter Tryz.func56,Tryz.ntmps56;go_wp2_with fail;go_at_call 101;rw [HX.o,hwr];refine HL.o.mono ?_;rintro e w' ⟨rfl,rfl⟩;go_wp2_with fail;go_at_call 100;refine(Aaz (1+(k:Int)) r _ HW.o).mono ?_;rintro e w' ⟨rfl,rfl⟩;go_wp2;go_ret;exact⟨rfl,rfl⟩
end Go.Proofs.YtgbjodnegkbfoaaGreat
namespace Go.Proofs.YtgbjodnegkbfoaaGreat
open Go.RowKit Go.Acc
theorem Dh(M:Bp)(fl:Int)(F:Nat)(caps:Array Value)(w:World)(o:Nat→Nat)(vals:List Bv)(R:Ending→World→Prop)(h:F2 M fl w o vals)
  (hF:∀(args:Array Value) (w:World),(callFunc F args).run Tryz.prog w= .ok (.enter F args) w)
  (hc:Calls Tryz.prog F caps w fun e w'=>e= .returned (.tuple #[])∧R e w'):
  Calls Tryz.prog 225 #[.pointer (some ⟨M.β,0,none⟩),.func (.func F) #[] caps] w R:=by
 have H:=Hd h;have HC:=Hd hc;clear h hc;go_enter Tryz.func225,Tryz.ntmps225;go_wp2_with (go_at_call 320;refine(An8 H.o).mono ?_;rintro e w' ⟨rfl,rfl⟩);refine HC.o.mono ?_;rintro e w' ⟨rfl,hR⟩;have HR:=Hd hR;clear hR hF;go_wp2;go_end0;exact HR.o
theorem Ky(u:Nat):Kc u=(bWidth u:Nat):=by unfold Kc bWidth;(repeat' split) <;>rfl
theorem Ag6(n:Int):Rc n=(bWidthI n:Nat):=by unfold Rc bWidthI;(repeat' split) <;>rfl
theorem Ak1(n:Int):IntKind.u64.wrap n=(bits n:Nat):=An2 n
theorem Tf(n:Int)(w:World)(h: -9223372036854775808≤n∧n≤9223372036854775807):
  Calls Tryz.prog 220 #[Aa Ab n] w fun e w'=>e= .returned (.agg #[Aa Ab ((Cq n).t:Int),Aa Ab ((Cq n).w:Int),Aa Ac ((Cq n).n:Int)])∧Below w.heap.size w w':=by
 have HB:=Hd (Ak1 n);have HW:=Hd (Ag6 n);have H:=Hd h;clear h;go_enter Tryz.func220,Tryz.ntmps220;go_wp2_with fail;go_at_call 56;refine(Ae1 n _ _ H.o HW.o).mono ?_;rintro e w' ⟨rfl,rfl⟩;go_wp2_with fail;refine bodyPost_ret (v:= .agg #[Aa Ab ((Cq n).t:Int),Aa Ab ((Cq n).w:Int),Aa Ac ((Cq n).n:Int)]) (by simp [results,Tryz.results220,go_sem,HB.o,Cq]) rfl ⟨rfl,?_⟩;exact(Below.refl _ _).alloc (Asp _) _
theorem Tu(u:Nat)(w:World)(h:u<18446744073709551616):
  Calls Tryz.prog 222 #[Aa Ac (u:Int)] w fun e w'=>e= .returned (.agg #[Aa Ab ((Cu u).t:Int),Aa Ab ((Cu u).w:Int),Aa Ac ((Cu u).n:Int)])∧Below w.heap.size w w':=by
 have HW:=Hd (Ky u);have H:=Hd h;clear h;go_enter Tryz.func222,Tryz.ntmps222;go_wp2_with fail;go_at_call 54;refine(Hc u _ _ H.o HW.o).mono ?_;rintro e w' ⟨rfl,rfl⟩;go_wp2_with fail;refine bodyPost_ret (v:= .agg #[Aa Ab ((Cu u).t:Int),Aa Ab ((Cu u).w:Int),Aa Ac ((Cu u).n:Int)]) (by simp [results,Tryz.results222,go_sem,Cu]) rfl ⟨rfl,?_⟩;exact(Below.refl _ _).alloc (Asp _) _
theorem Pj(n:Int)(t:Bool)(w:World)(h:decide (n=1)=t):
  Calls Tryz.prog 224 #[.bool t] w fun e w'=>e= .returned (.agg #[Aa Ab ((C8 n).t:Int),Aa Ab ((C8 n).w:Int),Aa Ac ((C8 n).n:Int)])∧Below w.heap.size w w':=by
 cases t with
 |true=>
  have e:C8 n=⟨26,1,1⟩:=by unfold C8;rw [if_pos (of_decide_eq_true h)]
  rw [e];clear h e;go_enter Tryz.func224,Tryz.ntmps224;go_wp2_with fail;refine bodyPost_ret (v:= .agg #[Aa Ab 26,Aa Ab 1,Aa Ac 1]) (by simp [results,Tryz.results224,go_sem]) rfl ⟨rfl,?_⟩;exact((Below.refl _ _).alloc (Asp _) _).alloc (by simp) _
 |false=>
  have e:C8 n=⟨26,1,0⟩:=by unfold C8;rw [if_neg (of_decide_eq_false h)]
  rw [e];clear h e;go_enter Tryz.func224,Tryz.ntmps224;go_wp2_with fail;refine bodyPost_ret (v:= .agg #[Aa Ab 26,Aa Ab 1,Aa Ac 0]) (by simp [results,Tryz.results224,go_sem]) rfl ⟨rfl,?_⟩;exact((Below.refl _ _).alloc (Asp _) _).alloc (by simp) _
theorem Ga(n k:Nat)(hk:k≤64):IntKind.u64.wrap ((n:Int)*2^(64-k))/2^(64-k)=(n % 2^k:Nat):=by
 have e:((n:Int)*2^(64-k))=((n*2^(64-k):Nat):Int):=by simp
 rw [e,An2];have h2:(2:Nat)^64=2^k*2^(64-k):=by rw [←Nat.pow_add];congr 1;omega
 have h3:(((n*2^(64-k):Nat):Int) % 18446744073709551616).toNat=(n % 2^k)*2^(64-k):=by
  have:(((n*2^(64-k):Nat):Int) % 18446744073709551616).toNat=(n*2^(64-k)) % 2^64:=by
   show _=(n*2^(64-k)) % 18446744073709551616;omega
  rw [this,h2,Nat.mul_mod_mul_right]
 rw [h3];have hp:0<2^(64-k):=Nat.two_pow_pos _;rw [show((2:Int)^(64-k))=((2^(64-k):Nat):Int) by simp,←Int.natCast_ediv,Nat.mul_div_cancel _ hp]
theorem Al3(n y:Nat)(w:World)(hy:Av (y:Int)=true):
  Calls Tryz.prog 161 #[Aa Ac (n:Int),Aa Ab (y:Int)] w fun e w'=>e= .returned (Aa Ac ((n % 2^(8*y):Nat):Int))∧w=w':=by
 rcases C1 hy with rfl|rfl|rfl|rfl
 ·have HL:=Hd (show IntKind.u64.wrap ((n:Int)*72057594037927936)/72057594037927936=((n % 2^(8*1):Nat):Int) from Ga n 8 (by omega));clear hy;go_enter Tryz.func161,Tryz.ntmps161;go_wp2_with fail;go_ret;exact⟨Gv HL.o,rfl⟩
 ·have HL:=Hd (show IntKind.u64.wrap ((n:Int)*281474976710656)/281474976710656=((n % 2^(8*2):Nat):Int) from Ga n 16 (by omega));clear hy;go_enter Tryz.func161,Tryz.ntmps161;go_wp2_with fail;go_ret;exact⟨Gv HL.o,rfl⟩
 ·have HL:=Hd (show IntKind.u64.wrap ((n:Int)*4294967296)/4294967296=((n % 2^(8*4):Nat):Int) from Ga n 32 (by omega));clear hy;go_enter Tryz.func161,Tryz.ntmps161;go_wp2_with fail;go_ret;exact⟨Gv HL.o,rfl⟩
 ·have HL:=Hd (show IntKind.u64.wrap (n:Int)=((n % 2^(8*8):Nat):Int) by have h:=Ga n 64 (by omega);simpa using h);clear hy;go_enter Tryz.func161,Tryz.ntmps161;go_wp2_with fail;go_ret;exact⟨Gv HL.o,rfl⟩
theorem Aal(M:Bp)(fl:Int)(b:Bd)(v:Bv)(bx bv:Nat)(w:World)(o:Nat→Nat)(h:BM M fl w o b)(hs:b.s.length<65536)
  (hx:Ag w bx 120 #[.pointer (some ⟨M.β,0,none⟩)]) (hv:Ag w bv 210 #[Aa Ab (v.t:Int),Aa Ab (v.w:Int),Aa Ac (v.n:Int)]) (ox:o bx=0) (ov:o bv=0):
  Calls Tryz.prog 388 #[.pointer (some ⟨bx,0,none⟩),.pointer (some ⟨bv,0,none⟩)] w (Ck M fl (b.push v) w o):=by
 have H:=Hd h;have HS:=Hd hs;have x0:w.cell? ⟨bx,0,none⟩=some (.pointer (some ⟨M.β,0,none⟩)):=hx.cell 0;obtain ⟨v0,v1,v2⟩:=hv.c3;have HD:=Hd (h.pure (Below.refl _ _).drew);have n1:¬B6 (o bx):=by rw [ox];exact Bg
 have n2:¬B6 (o bv):=by rw [ov];exact Bg
 have HN1:=Hd n1;have HN2:=Hd n2;clear h hs hx hv n1 n2 ox ov;go_enter Tryz.func388,Tryz.ntmps388;go_region_held3 (fun w'=>w'.cell? ⟨bx,0,none⟩=some (.pointer (some ⟨M.β,0,none⟩))∧w'.cell? ⟨bv,0,none⟩=some (Aa Ab (v.t:Int))∧w'.cell? ⟨bv,1,none⟩=some (Aa Ab (v.w:Int))∧w'.cell? ⟨bv,2,none⟩=some (Aa Ac (v.n:Int))) (first|with_reducible exact⟨x0,v0,v1,v2⟩|with_reducible exact⟨Af x0,Af v0,Af v1,Af v2⟩|with_reducible exact⟨y1,y2,y3,y4⟩) (first|(go_at_call 235;(with_reducible refine(Ll M fl b v _ o HD.o HS.o).mono ?_);rintro e W4 ⟨rfl,o4,hS4,hT4⟩;have y1:=hT4.cell (Af x0) HN1.o;have y2:=hT4.cell (Af v0) HN2.o;have y3:=hT4.cell (Af v1) HN2.o;have y4:=hT4.cell (Af v2) HN2.o;have HR:=Hd (And.intro hS4 hT4);clear hS4 hT4));go_end0;exact⟨rfl,o4,HR.o.1,HR.o.2.from_drew⟩
theorem Ba(w:World)(x y:Obj):Below w.heap.size w ((w.alloc x).alloc y):=((Below.refl _ _).alloc (Asp _) _).alloc (by simp) _
theorem Jq(M:Bp)(fl:Int)(b:Bd)(v:Bv)(w:World)(o:Nat→Nat)(h:BM M fl w o b)(hs:b.s.length<65536):
  Calls Tryz.prog 332 #[.pointer (some ⟨M.β,0,none⟩),.agg #[Aa Ab (v.t:Int),Aa Ab (v.w:Int),Aa Ac (v.n:Int)]] w (Ck M fl (b.push v) w o):=by
 have HS:=Hd hs;have hB:=Ba w (.cells #[.pointer (some ⟨M.β,0,none⟩)] 120) (.cells #[Aa Ab (v.t:Int),Aa Ab (v.w:Int),Aa Ac (v.n:Int)] 210);have HB:=Hd hB;have HM:=Hd (h.fresh hB 0);have HK1:=Hd ((Ag.new w 120 #[.pointer (some ⟨M.β,0,none⟩)]).alloc (.cells #[Aa Ab (v.t:Int),Aa Ab (v.w:Int),Aa Ac (v.n:Int)] 210));have HK2:=Hd (B3 w (.cells #[.pointer (some ⟨M.β,0,none⟩)] 120) 210 #[Aa Ab (v.t:Int),Aa Ab (v.w:Int),Aa Ac (v.n:Int)]);clear h hs hB;go_enter Tryz.func332,Tryz.ntmps332;go_wp2_with fail;go_at_call 225;refine(Dh M fl 388 _ _ (Aq o w.heap.size 0) b.vals _ HM.o.head Tryz.call388 ((Aal M fl b v w.heap.size (w.heap.size+1) _ (Aq o w.heap.size 0) HM.o HS.o HK1.o HK2.o (As (Asp _)) (As (Nat.le_succ _))).mono fun e w' h=>⟨h.1,h⟩)).mono ?_;rintro e w' hR;obtain rfl:=hR.1;have HR:=Hd (hR.from_fresh HB.o);clear hR;go_wp2;go_end0;exact HR.o
theorem Aft(M:Bp)(fl:Int)(b:Bd)(w:World)(o:Nat→Nat)(h:BM M fl w o b)(hs:b.s.length<65536):
  Calls Tryz.prog 242 #[.pointer (some ⟨M.β,0,none⟩)] w (Ck M fl (b.push ⟨0,1,0⟩) w o):=by
 have H:=Hd h;have HS:=Hd hs;clear h hs;go_enter Tryz.func242,Tryz.ntmps242;go_wp2_with fail;go_at_call 332;refine(Jq M fl b ⟨0,1,0⟩ _ o H.o HS.o).mono ?_;intro e w2 hR;obtain rfl:=hR.1;have HR:=Hd hR;clear hR;go_wp2;go_end0;exact HR.o
theorem Ahz(M:Bp)(fl:Int)(b:Bd)(n:Int)(w:World)(o:Nat→Nat)(h:BM M fl w o b)(hs:b.s.length<65536)(hn: -9223372036854775808≤n∧n≤9223372036854775807):
  Calls Tryz.prog 244 #[.pointer (some ⟨M.β,0,none⟩),Aa Ab n] w (Ck M fl (b.push (Cq n)) w o):=by
 have H:=Hd h;have HS:=Hd hs;have HN:=Hd hn;clear h hs hn;go_enter Tryz.func244,Tryz.ntmps244;go_wp2_with fail;go_at_call 220;refine(Tf n _ HN.o).mono ?_;rintro e w1 ⟨rfl,hB⟩;have HB:=Hd hB;clear hB;go_wp2_with fail;go_at_call 332;refine(Jq M fl b (Cq n) _ o (H.o.pure HB.o) HS.o).mono ?_;intro e w2 hR;obtain rfl:=hR.1;have HR:=Hd (hR.from_pure HB.o);clear hR;go_wp2;go_end0;exact HR.o
theorem Afy(M:Bp)(fl:Int)(b:Bd)(u:Nat)(w:World)(o:Nat→Nat)(h:BM M fl w o b)(hs:b.s.length<65536)(hu:u<18446744073709551616):
  Calls Tryz.prog 245 #[.pointer (some ⟨M.β,0,none⟩),Aa Ac (u:Int)] w (Ck M fl (b.push (Cu u)) w o):=by
 have H:=Hd h;have HS:=Hd hs;have HN:=Hd hu;clear h hs hu;go_enter Tryz.func245,Tryz.ntmps245;go_wp2_with fail;go_at_call 222;refine(Tu u _ HN.o).mono ?_;rintro e w1 ⟨rfl,hB⟩;have HB:=Hd hB;clear hB;go_wp2_with fail;go_at_call 332;refine(Jq M fl b (Cu u) _ o (H.o.pure HB.o) HS.o).mono ?_;intro e w2 hR;obtain rfl:=hR.1;have HR:=Hd (hR.from_pure HB.o);clear hR;go_wp2;go_end0;exact HR.o
theorem Afm(M:Bp)(fl:Int)(b:Bd)(n:Int)(t:Bool)(w:World)(o:Nat→Nat)(h:BM M fl w o b)(hs:b.s.length<65536)(ht:decide (n=1)=t):
  Calls Tryz.prog 243 #[.pointer (some ⟨M.β,0,none⟩),.bool t] w (Ck M fl (b.push (C8 n)) w o):=by
 have H:=Hd h;have HS:=Hd hs;have HN:=Hd ht;clear h hs ht;go_enter Tryz.func243,Tryz.ntmps243;go_wp2_with fail;go_at_call 224;refine(Pj n t _ HN.o).mono ?_;rintro e w1 ⟨rfl,hB⟩;have HB:=Hd hB;clear hB;go_wp2_with fail;go_at_call 332;refine(Jq M fl b (C8 n) _ o (H.o.pure HB.o) HS.o).mono ?_;intro e w2 hR;obtain rfl:=hR.1;have HR:=Hd (hR.from_pure HB.o);clear hR;go_wp2;go_end0;exact HR.o
end Go.Proofs.YtgbjodnegkbfoaaGreat
