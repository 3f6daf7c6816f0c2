/- Parts of the proof. -/
import Derived.Test.YtgbjodnegkbfoaaGreatQm04
set_option maxHeartbeats 1500000
set_option maxRecDepth 100000
open Go.Value renaming int→Aa
open Go.IntKind renaming i64→Ab,u64→Ac
open Nat renaming le_refl→Asp
open List renaming length_append→Ass,replicate→Ast,length_cons→Asw,take_of_length_le→Asy
namespace Go.Acc
open Go.RowKit
structure To(I:Nat→Prop)(w:World)(o:Nat→Nat)(w':World)(o':Nat→Nat):Prop where
 fr:Fr (fun k=>I (o k)) w w'
 ow:∀k,k<w.heap.size→o' k=o k
section
variable {I J:Nat→Prop} {w w' w'':World} {o o' o'':Nat→Nat}
theorem To.refl(I:Nat→Prop)(w:World)(o:Nat→Nat):To I w o w o:=⟨Fr.refl _ _,fun _ _=>rfl⟩
theorem To.pure(I:Nat→Prop)(h:Below w.heap.size w w')(o:Nat→Nat):To I w o w' o:=⟨Fr.of_below h _,fun _ _=>rfl⟩
def Aq(o:Nat→Nat)(N i:Nat):Nat→Nat:=fun k=>if k<N then o k else i
theorem Ax{N i k:Nat}(h:k<N):Aq o N i k=o k:=if_pos h
theorem As{N i k:Nat}(h:N≤k):Aq o N i k=i:=if_neg (by omega)
theorem To.fresh(I:Nat→Prop)(h:Below w.heap.size w w')(o:Nat→Nat)(i:Nat):To I w o w' (Aq o w.heap.size i):=⟨Fr.of_below h _,fun _ hk=>Ax hk⟩
theorem To.of_fr{S:Nat→Prop}(h:Fr S w w')(hS:∀k,k<w.heap.size→S k→I (o k))(i:Nat):To I w o w' (Aq o w.heap.size i):=⟨h.mono hS,fun _ hk=>Ax hk⟩
theorem To.of_fr0{S:Nat→Prop}(h:Fr S w w')(hS:∀k,k<w.heap.size→S k→I (o k)):To I w o w' o:=⟨h.mono hS,fun _ _=>rfl⟩
theorem To.trans(h:To I w o w' o')(k:To I w' o' w'' o''):To I w o w'' o'':=
 ⟨h.fr.trans k.fr fun i hi hI=>by rw [h.ow i hi] at hI;exact hI,fun i hi=>(k.ow i (Nat.lt_of_lt_of_le hi h.fr.size)).trans (h.ow i hi)⟩
theorem To.mono(h:To I w o w' o')(hJ:∀i,I i→J i):To J w o w' o':=⟨h.fr.mono fun _ _ hi=>hJ _ hi,h.ow⟩
theorem To.size(h:To I w o w' o'):w.heap.size≤w'.heap.size:=h.fr.size
theorem To.below(h:To I w o w' o')(hI:∀k,k<w.heap.size→¬I (o k)):Below w.heap.size w w':=h.fr.below hI
theorem To.keep{k:Nat}(h:To I w o w' o')(hk:k<w.heap.size)(hI:¬I (o k)):w'.heap[k]?=w.heap[k]?:=h.fr.block k hk hI
theorem Ag.to_{g:Nat}{t:TypeId}{cs:Array Value}(hb:Ag w g t cs)(h:To I w o w' o')(hI:¬I (o g)):Ag w' g t cs:=hb.fr h.fr hI
def Of(o:Nat→Nat)(A:Option Addr)(i:Nat):Prop:=∀ad,A=some ad→o ad.block=i
theorem Of.none_(i:Nat):Of o none i:=fun _ h=>by cases h
variable {α:Type} {f:α→List Value} {sz n c B i:Nat} {e:TypeId} {A:Option Addr} {l:List α}
theorem Of.to_(h:Of o A i)(ho:Own f sz e w B A n c l)(ht:To I w o w' o'):Of o' A i:=fun ad hA=>by
 rw [ht.ow _ (ho.addr ad hA).2.2];exact h ad hA
theorem Own.to_(ho:Own f sz e w B A n c l)(h:Of o A i)(ht:To I w o w' o')(hI:¬I i):Own f sz e w' B A n c l:=
 ho.fr ht.fr fun ad hA=>by rw [h ad hA];exact hI
theorem Is.to_(ho:Is f w A n l)(h:Of o A i)(ht:To I w o w' o')(hI:¬I i):Is f w' A n l:=
 ho.fr ht.fr fun ad hA=>by rw [h ad hA];exact hI
theorem Of.grown{A':Option Addr}{N:Nat}(h:Of o A i)(ho:Own f sz e w B A n c l)(hN:w.heap.size≤N)(hat:A'.map (·.block)=A.map (·.block)∨A'.map (·.block)=some N)(hw:N=w.heap.size):Of (Aq o w.heap.size i) A' i:=by
 intro ad hA;subst hA hw;rcases hat with e|e
 ·cases hA:A with
  |none=>subst hA;simp at e
  |some a=>
   subst hA;simp at e;rw [e,Ax (ho.addr a rfl).2.2];exact h a rfl
 ·simp at e;rw [e,As (Asp _)]
theorem To.cell{p:Addr}{u:Value}(h:To I w o w' o')(hc:w.cell? p=some u)(hI:¬I (o p.block)):w'.cell? p=some u:=B4 h.fr hc hI
theorem Af{p:Addr}{u:Value}(h:w.cell? p=some u):w.drew.cell? p=some u:=h
theorem C7{p:Addr}{u:Value}(n:Nat)(h:w.cell? p=some u):(w.drewN n).cell? p=some u:=h
theorem Ar{p:Addr}{u:Value}(b:Obj)(h:w.cell? p=some u):(w.alloc b).cell? p=some u:=Ae ((Below.refl _ _).alloc (Asp _) b) h
theorem To.from_drew(h:To I w.drew o w' o'):To I w o w' o':=⟨(Fr.refl _ w).drew.trans h.fr fun _ _ h=>h,h.ow⟩
theorem To.from_pure{I:Nat→Prop}(hb:Below w.heap.size w w')(h:To I w' o w'' o''):To I w o w'' o'':=(To.pure I hb o).trans h
end
end Go.Acc
namespace Go.Proofs.YtgbjodnegkbfoaaGreat
open Go.RowKit Go.Acc
def Cg(w:World)(o:Nat→Nat)(b:Nat)(l:List UInt8):Prop:=
 ∃A n c,Ag w b 257 #[.bool true,.slice A n c,Aa Ab 1048576,Aa Ab 0]∧Kf w 0 A n c l∧Of o A 1∧o b=1
def Db(w:World)(o:Nat→Nat)(b:Nat)(l:List UInt8)(e:Ending)(w':World):Prop:=
 e= .returned (.tuple #[])∧∃o',Cg w' o' b l∧To (fun i=>i=1) w o w' o'
section
variable {I:Nat→Prop} {w w':World} {o o':Nat→Nat} {b:Nat} {l:List UInt8}
theorem Cg.to_(h:Cg w o b l)(ht:To I w o w' o')(hI:¬I 1):Cg w' o' b l:=by
 obtain⟨A,n,c,hb,ho,h1,h2⟩:=h;exact⟨A,n,c,hb.to_ ht (by rw [h2];exact hI),ho.to_ h1 ht hI,h1.to_ ho ht,by rw [ht.ow _ hb.lt];exact h2⟩
theorem Cg.pure(h:Cg w o b l)(ht:Below w.heap.size w w'):Cg w' o b l:=h.to_ (To.pure (fun _=>False) ht o) id
theorem Cg.drew(h:Cg w o b l):Cg w.drew o b l:=h
theorem Cg.drewN(n:Nat)(h:Cg w o b l):Cg (w.drewN n) o b l:=h
theorem Cg.alloc(h:Cg w o b l)(x:Obj):Cg (w.alloc x) o b l:=h.pure ((Below.refl _ _).alloc (Asp _) x)
theorem Db.from_pure{w0:World}{e:Ending}(hb:Below w0.heap.size w0 w)(h:Db w o b l e w'):Db w0 o b l e w':=by
 obtain⟨h1,o',h2,h3⟩:=h;exact⟨h1,o',h2,h3.from_pure hb⟩
theorem Cg.fresh(h:Cg w o b l)(hb:Below w.heap.size w w')(i:Nat):Cg w' (Aq o w.heap.size i) b l:=h.to_ (To.fresh (fun _=>False) hb o i) id
theorem Db.from_fresh{w0:World}{i:Nat}{e:Ending}(hb:Below w0.heap.size w0 w)(h:Db w (Aq o w0.heap.size i) b l e w'):Db w0 o b l e w':=by
 obtain⟨h1,o',h2,h3⟩:=h;exact⟨h1,o',h2,(To.fresh _ hb o i).trans h3⟩
theorem Cg.lt(h:Cg w o b l):b<w.heap.size:=by obtain⟨A,n,c,hb,_⟩:=h;exact hb.lt
theorem Cg.own(h:Cg w o b l):o b=1:=by obtain⟨A,n,c,_,_,_,h⟩:=h;exact h
end
theorem T8(b:Nat)(w:World)(h:w.cell? ⟨b,0,none⟩=some (.bool true)):
  Calls Tryz.prog 256 #[.pointer (some ⟨b,0,none⟩)] w fun e w'=>e= .returned (.bool false)∧w=w':=by
 go_enter Tryz.func256,Tryz.ntmps256;go_wp2;go_ret;exact⟨rfl,rfl⟩
theorem Xi(b:Nat)(w:World)(h:w.cell? ⟨b,0,none⟩=some (.bool true))(h3:w.cell? ⟨b,3,none⟩=some (Aa Ab 0)):
  Calls Tryz.prog 262 #[.pointer (some ⟨b,0,none⟩)] w fun e w'=>e= .returned (Aa Ab 0)∧w=w':=by
 go_enter Tryz.func262,Tryz.ntmps262;go_wp2_with (go_at_call 256;refine(T8 b _ (by assumption)).mono ?_;rintro e w' ⟨rfl,rfl⟩);go_ret;exact⟨rfl,rfl⟩
theorem Ahq(b n c:Nat)(A:Option Addr)(w:World)(h:w.cell? ⟨b,0,none⟩=some (.bool true))(h3:w.cell? ⟨b,1,none⟩=some (.slice A n c)):
  Calls Tryz.prog 159 #[.pointer (some ⟨b,0,none⟩)] w fun e w'=>e= .returned (Aa Ab n)∧w=w':=by
 go_enter Tryz.func159,Tryz.ntmps159;go_wp2_with (go_at_call 256;refine(T8 b _ (by assumption)).mono ?_;rintro e w' ⟨rfl,rfl⟩);go_ret;exact⟨rfl,rfl⟩
theorem Fq{w:World}{o:Nat→Nat}{b:Nat}{l:List UInt8}(h:Cg w o b l):Calls Tryz.prog 262 #[.pointer (some ⟨b,0,none⟩)] w fun e w'=>e= .returned (Aa Ab 0)∧w=w':=by
 obtain⟨A,n,c,hb,_⟩:=h;exact Xi b w (hb.cell 0) (hb.cell 3)
theorem C9{w:World}{o:Nat→Nat}{b:Nat}{l:List UInt8}(n:Nat)(h:Cg w o b l)(hn:l.length=n):Calls Tryz.prog 159 #[.pointer (some ⟨b,0,none⟩)] w fun e w'=>e= .returned (Aa Ab n)∧w=w':=by
 obtain⟨A,n',c,hb,ho,_⟩:=h;obtain rfl:n=n':=by rw [←hn,ho.1]
 exact Ahq b n c A w (hb.cell 0) (hb.cell 1)
theorem Amu{w w1:World}{o:Nat→Nat}{A A1:Option Addr}{b n c n2 c1:Nat}{l x:List UInt8}(hb:Ag w b 257 #[.bool true,.slice A n c,Aa Ab 1048576,Aa Ab 0])(ho:Kf w 0 A n c l)(h1:Of o A 1)(h2:o b=1)
  (hw:Kf w1 0 A1 (n+n2) c1 (l++x)) (hf:Fr (fun k=>∃ad,A=some ad∧k=ad.block) w w1) (hat:A1.map (·.block)=A.map (·.block)∨A1.map (·.block)=some w.heap.size)
  (hb1:Ag w1 b 257 #[.bool true,.slice A n c,Aa Ab 1048576,Aa Ab 0]):
  ∃o',Cg (w1.setCell ⟨b,1,none⟩ (.slice A1 (n+n2) c1)) o' b (l++x)∧To (fun i=>i=1) w o (w1.setCell ⟨b,1,none⟩ (.slice A1 (n+n2) c1)) o':=by
 have hset:Fr (fun k=>k=b) w1 (w1.setCell ⟨b,1,none⟩ (.slice A1 (n+n2) c1)):=Fr.setCell (S:=fun k=>k=b) (Fr.refl _ _) (fun _=>rfl) _;refine⟨Aq o w.heap.size 1,⟨A1,n+n2,c1,by have:=hb1.set_ 1 (.slice A1 (n+n2) c1);simpa using this,hw.fr hset ?_,h1.grown ho (Asp _) hat rfl,by rw [Ax hb.lt];exact h2⟩,To.of_fr ((hf.mono (T:=fun k=>o k=1) ?_).setCell (fun _=>h2) _) (fun _ _ h=>h) 1⟩
 ·rintro ad rfl rfl;exact G8 hw.2 hb1 (by decide) (by simp [Value.ownBlock])
 ·rintro i _ ⟨ad,rfl,rfl⟩;exact h1 ad rfl
theorem P0(b m d:Nat)(X:Option Addr)(l x:List UInt8)(w:World)(o:Nat→Nat)(h:Cg w o b l)(hx:Cd w X m x)(hm:l.length+m≤1048576):
  Calls Tryz.prog 259 #[.pointer (some ⟨b,0,none⟩),.slice X m d] w (Db w o b (l++x)):=by
 obtain⟨A,n,c,hb,ho,h1,h2⟩:=h;obtain ⟨c0,c1,c2,c3⟩:=hb.c4;rw [ho.1] at hm;have hne:∀ad,A=some ad→ad.block≠b:=by
  rintro ad rfl e;exact G8 ho.2 hb (by decide) (by simp [Value.ownBlock,e])
 have HO:=Hd ho;have HX:=Hd hx;have HB:=Hd hb;have HN:=Hd hne;have H1:=Hd h1;have H2:=Hd h2;have hlt:=hb.lt;clear hb ho hx hne h1 h2;go_enter Tryz.func259,Tryz.ntmps259;go_wp2_with (go_at_call 262;refine(Xi b _ (by assumption) (by assumption)).mono ?_;rintro e w' ⟨rfl,rfl⟩);go_quiet (fail);go_wp2_with (at_builtin;refine Dm _ rfl (.tmp 8) (.tmp 9) _ rfl 5 _ 1 1 Tryz.underlying28 Qi rfl (by omega) C6 T7 _ _ _ _ _ rfl HO.o _ _ _ _ rfl HX.o (by omega) (Nat.zero_le _) ?_;intro A1 d1 w1 hown1 hfr0 hat1;have hfr1:=((Fr.refl _ w).drewN _).trans hfr0 (fun _ _ h=>h);have B1:=HB.o.fr hfr1 (by rintro⟨ad,h,h'⟩;exact HN.o ad h h'.symm);have f1:=B1.frozen 1;have d1:w1.cell? ⟨b,1,none⟩=some (.slice A n c):=B1.cell 1;have HB1:=Hd B1;clear B1 c0 c1 c2 c3);go_end0;exact⟨rfl,Amu HB.o HO.o H1.o H2.o hown1 hfr1 hat1 HB1.o⟩
theorem Aou(n:Nat):(madeCells #[.int .u8 0] n).toList=(Ast n (0:UInt8)).flatMap bc:=by
 apply List.ext_getElem?;intro j;by_cases hj:j<n
 ·have h1:=Gr C6 (Ast n (0:UInt8)) j 0 (by simpa using hj) (by omega);rw [Nat.mul_one,Nat.add_zero,List.getElem_replicate] at h1;rw [h1];simp [madeCells,hj,bc,Nat.mod_one]
 ·rw [List.getElem?_eq_none (by simp [madeCells];omega),List.getElem?_eq_none (by rw [Bi C6];simp;omega)]
theorem Aa4(n:Nat)(hn:n≤1099511627776):∃Z:Array Value,Z.size=n∧Z.toList=(Ast n (0:UInt8)).flatMap bc∧∀W:World,(Instr.makeSlice 28 (Aa Ab (n:Int)) (Aa Ab (n:Int))).run Tryz.prog W= .ok (.slice (some ⟨W.heap.size,0,none⟩) n n) (W.alloc (.cells Z 5)):=by
 obtain⟨i,hi,hz,hs,hb⟩:=info_parts Qi;have hm:=Aou n;refine⟨_,?_,hm,fun W=>?_⟩
 ·have:=congrArg List.length hm;rw [Bi C6] at this;simpa using this
 ·have hr:=run_make (P:=Tryz.prog) W 28 5 i _ Tryz.underlying28 hi hz .i64 .i64 n n (by omega) (Int.le_refl _) (by rw [hb];omega) (by omega);simp only [Int.toNat_natCast,hs,Nat.mul_one] at hr;exact hr
theorem Aml(W:World)(Z:Array Value)(n B:Nat)(l:List UInt8)(hB:B≤W.heap.size)(hn:l.length=n)(hm:n≤1099511627776)(hZ:Z.toList=l.flatMap bc):Kf (W.alloc (.cells Z 5)) B (some ⟨W.heap.size,0,none⟩) n n l:=by
 refine⟨hn,?_⟩;have hs:Z.size=n*1:=by rw [←Array.length_toList,hZ,Bi C6,hn]
 have:=World.ownsRow_lit (base:=B) (e:=5) (size:=1) W Z n hB (by simp only [maxLen];omega) hs;rw [hZ] at this;exact this
theorem Lm(x:Int)(w:World)(h:Av x=true):Calls Tryz.prog 53 #[Aa Ab x] w fun e w'=>(∃c:Int,e= .returned (.tuple #[Aa Ab c,Aa Ab 0]))∧w=w':=by
 rcases By.1 h with rfl|rfl|rfl|rfl
 all_goals
  clear h;go_enter Tryz.func53,Tryz.ntmps53;go_wp2;refine wp_loop_rounds 5 ?_
  repeat (rw [rounds_succ];go_wp2)
  all_goals
   go_ret2;exact⟨⟨_,rfl⟩,rfl⟩
theorem T9(b:Nat)(x:Int)(F:Nat)(caps:Array Value)(w:World)(R:Ending→World→Prop)(hx:Av x=true)
  (hF:∀(args:Array Value) (w:World),(callFunc F args).run Tryz.prog w= .ok (.enter F args) w)
  (h:Calls Tryz.prog F caps w fun e w'=>e= .returned (.tuple #[])∧R e w'):
  Calls Tryz.prog 257 #[.pointer (some ⟨b,0,none⟩),Aa Ab x,.func (.func F) #[] caps] w R:=by
 have HX:=Hd hx;have HC:=Hd h;clear hx h;go_enter Tryz.func257,Tryz.ntmps257;go_wp2_with (go_at_call 53;refine(Lm x _ HX.o).mono ?_;rintro e w' ⟨⟨c,rfl⟩,rfl⟩);refine HC.o.mono ?_;rintro e w' ⟨rfl,hR⟩;have HR:=Hd hR;clear hR hF;go_wp2;go_end0;exact HR.o
end Go.Proofs.YtgbjodnegkbfoaaGreat
namespace Go.Proofs.YtgbjodnegkbfoaaGreat
open Go.Acc
def A6:List (List UInt8)→Nat
 | []=>0
 |s::r=>s.length+20+A6 r
mutual
def Tr.cost:Tr→Nat
 | .mk _ _ _ s ks l=>64+s.length+A6 ks+Tr.costL l
def Tr.costL:List Tr→Nat
 | []=>0
 |t::r=>40+Tr.cost t+Tr.costL r
end
def Bd.size(b:Bd):Nat:=b.b.length+b.s.length+b.keys.length+b.texts.length+b.lists.length+b.names.length+b.vals.length
theorem Ad7{w:Nat}(n:Nat)(hw:w≤8):Lc w n≤7:=by
 unfold Lc;rcases Nat.eq_zero_or_pos w with rfl|h
 ·simp
 ·have:=Nat.mod_lt (w-n % w) h;omega
theorem Cy{w:Nat}(b:List UInt8)(hw:w≤8):(An w b).length≤b.length+7:=by
 have:=Ad7 b.length hw;simp [An];omega
theorem Uh{w:Nat}(vs:List Bv)(l:List UInt8)(hw:w≤8):(Bt w l vs).length≤l.length+8*vs.length:=by
 obtain⟨m,e,h⟩:=Fa w vs l;have:=Nat.mul_le_mul_right vs.length hw;rw [e,Ass];omega
theorem Oc(t:Nat)(len tags:Bool)(l:List Bv)(b:List UInt8):(Bk t len tags l b).1.length≤b.length+15+9*l.length:=by
 have h8:Bl b.length (if len=true then 1 else 0) none l≤8:=K6 _;have h1:=Cy b h8;unfold Bk;simp only [Ass];have h2:=Uh l (An (Bl b.length (if len=true then 1 else 0) none l) b++(if len=true then Ai (Bl b.length (if len=true then 1 else 0) none l) l.length else [])) h8;have h3:(if len=true then Ai (Bl b.length (if len=true then 1 else 0) none l) l.length else []).length≤8:=by
  split
  ·rw [Au];exact K6 _
  ·simp
 have h4:(if tags=true then l.map (C5 (Bl b.length (if len=true then 1 else 0) none l)) else []).length≤l.length:=by
  split <;>simp
 rw [Ass] at h2;omega
theorem Aa7(k:Bv)(l:List Bv)(b:List UInt8):(E7 k l b).1.length≤b.length+31+9*l.length:=by
 have h8:Bl b.length 3 (some k) l≤8:=K6 _;have h1:=Cy b h8;unfold E7;simp only [Ass,List.length_map];generalize hw:Bl b.length 3 (some k) l=w at*;have h2:=Uh l (An w b++Ai w ((An w b).length-k.n)++Ai w k.w++Ai w l.length) h8;simp only [Ass,Au] at h2;omega
theorem Pc(l:List (List UInt8×Nat))(k:List UInt8)(a:Nat):(E4 l k a).length≤l.length+1:=by
 unfold E4;split <;>simp
theorem Abn(f:Nat)(s:List UInt8)(b:Bd):(b.put f s).1.size≤b.size+s.length+3∧(b.put f s).1.s=b.s:=by
 unfold Bd.put;have h:=Pc b.keys s b.b.length;cases(if Ir f 1=true then Bn b.keys s else none) with
 |some a=>exact⟨by simp;omega,rfl⟩
 |none=>exact⟨by simp [Bd.size];omega,rfl⟩
theorem S4(f:Nat)(s:List UInt8)(b:Bd):(b.key f s).size≤b.size+s.length+4:=by
 have h:=(Abn f s b).1;simp only [Bd.key,Bd.push,Bd.size,Ass,Asw,List.length_nil] at h⊢;omega
theorem Yd(f:Nat):∀(l:List Tr) (b:Bd),(b.puts f (l.map Tr.s)).1.size+90*l.length≤b.size+Tr.costL l
 | [],b=>by simp [Bd.puts,Tr.costL]
 | .mk k n u s ks c::r,b=>by
  have h1:=(Abn f s b).1;have h2:=Yd f r (b.put f s).1;simp only [List.map_cons,Bd.puts,Tr.costL,Tr.cost,Tr.s,Asw];omega
theorem Abo(f:Nat):∀(l:List (List UInt8)) (b:Bd),(b.puts f l).2.length=l.length
 | [],b=>by simp [Bd.puts]
 |s::r,b=>by simp [Bd.puts,Abo f r]
theorem Ab9(t:Nat)(len tags:Bool)(l:List Bv)(b:Bd):(b.vec t len tags l).size≤b.size+16+9*l.length:=by
 have h:=Oc t len tags l b.b;simp only [Bd.vec,Bd.size,Ass,Asw,List.length_nil];omega
theorem Jb(l:List Tr):40*l.length≤Tr.costL l:=by
 induction l with
 |nil=>simp
 |cons t r ih=>simp only [Tr.costL,Asw];omega
theorem Am2(f:Nat)(s:List UInt8)(b:Bd):(b.str f s).size≤b.size+s.length+20:=by
 have h8:bWidth s.length≤8:=Fe _;have h1:=Cy b.b h8;unfold Bd.str;cases(if Ir f 2=true then Bn b.texts s else none) with
 |some a=>simp [Bd.push,Bd.size];omega
 |none=>
  have h:=Pc b.texts s (An (bWidth s.length) b.b++Ai (bWidth s.length) s.length).length;simp only [Bd.size,Ass,Au,Asw,List.length_nil] at h⊢;omega
theorem Ahr(s:List UInt8)(b:Bd):(b.blob s).size≤b.size+s.length+20:=by
 have h8:bWidth s.length≤8:=Fe _;have h1:=Cy b.b h8;unfold Bd.blob;simp only [Bd.size,Ass,Au,Asw,List.length_nil];omega
theorem T3(t w n:Nat)(b:Bd)(hw:w≤8):(b.apart t w n).size≤b.size+20:=by
 have h1:=Cy b.b hw;unfold Bd.apart;simp only [Bd.size,Ass,Au,Asw,List.length_nil];omega
theorem Ajw(b:Bd)(v:Bv):(b.push v).size=b.size+1:=by
 simp [Bd.push,Bd.size];omega
theorem Ai3(f:Nat)(k n:Int)(u:Nat)(s:List UInt8)(b:Bd):(b.leaf f k n u s).size≤b.size+64+s.length:=by
 have h1:=S4 f s b;have h2:=Am2 f s b;have h3:=Ahr s b;have h4:=T3 6 (bWidthI n) (bits n) b (Od _);have h5:=T3 7 (bWidth u) u b (Fe _);unfold Bd.leaf
 (repeat' split) <;>(try rw [Ajw]) <;>omega
theorem Ail(f:Nat)(k:Int)(l:List Tr)(b:Bd):(b.flat f k l).size≤b.size+64+Tr.costL l:=by
 have hl:=Jb l;have hp:=Yd f l b;have hn:=Abo f (l.map Tr.s) b;rw [List.length_map] at hn;have hv:∀(t:Nat) (len tags:Bool) (x:List Bv),x.length=l.length→(b.vec t len tags x).size≤b.size+64+Tr.costL l:=by
  intro t len tags x hx;have:=Ab9 t len tags x b;omega
 unfold Bd.flat;split
 ·exact hv _ _ _ _ (by simp)
 split
 ·exact hv _ _ _ _ (by simp)
 split
 ·exact hv _ _ _ _ (by simp)
 split
 ·
  have h:=Ab9 14 true false (b.puts f (l.map Tr.s)).2 (b.puts f (l.map Tr.s)).1;show(Bd.vec 14 true false (b.puts f (l.map Tr.s)).2 (b.puts f (l.map Tr.s)).1).size≤_;omega
 split
 ·exact hv _ _ _ _ (by simp)
 ·exact hv _ _ _ _ (by simp)
theorem Acx(start:Nat)(b:Bd)(n:Nat)(h:(b.s.drop start).length=n):(b.endVec start).size≤b.size+16+9*n:=by
 have h1:=Oc 10 true true (b.s.drop start) b.b;have h3:(b.s.take start).length≤b.s.length:=by rw [List.length_take];omega
 simp only [Bd.endVec,Bd.vec,Bd.size,Ass,Asw,List.length_nil];omega
theorem Ku(f:Nat):∀(c:List Tr),(∀t∈c,Nb f t)→(∀t∈c,∀b,Cp b→(Bd.calls f t b).size≤b.size+t.cost)→∀b,Cp b→(Bd.callsL f c b).size+40*c.length≤b.size+Tr.costL c
 | [],_,_,b,h=>by simp [Bd.callsL,Tr.costL]
 |t::r,hd,hc,b,h=>by
  obtain⟨v,e1,s1,r1⟩:=hd t (by simp) b h;have h1:=hc t (by simp) b h;have h2:=Ku f r (fun t ht=>hd t (by simp [ht])) (fun t ht=>hc t (by simp [ht])) (Bd.calls f t b) s1.2;simp only [Bd.callsL,Tr.costL,Asw];omega
theorem Kv(f:Nat):∀(c:List Tr) (ks:List (List UInt8)),ks.length=c.length→(∀t∈c,Nb f t)→(∀t∈c,∀b,Cp b→(Bd.calls f t b).size≤b.size+t.cost)→∀b,Cp b→(Bd.callsM f ks c b).size+50*c.length≤b.size+A6 ks+Tr.costL c
 | [],ks,hk,_,_,b,h=>by simp [Bd.callsM,Tr.costL]
 |t::r,[],hk,_,_,_,_=>by simp at hk
 |t::r,s::ks,hk,hd,hc,b,h=>by
  obtain⟨kv,e0,s0,k0⟩:=Nx f s b h;have h0:=S4 f s b;obtain⟨v,e1,s1,r1⟩:=hd t (by simp) (b.key f s) s0.2;have h1:=hc t (by simp) (b.key f s) s0.2;have h2:=Kv f r ks (by simpa using hk) (fun t ht=>hd t (by simp [ht])) (fun t ht=>hc t (by simp [ht])) (Bd.calls f t (b.key f s)) s1.2;have ee:Bd.callsM f (s::ks) (t::r) b=Bd.callsM f ks r (Bd.calls f t (b.key f s)):=by rw [Bd.callsM];rfl
  rw [ee];simp only [Tr.costL,Asw,A6];omega
theorem Acw(f:Nat)(ks:List (List UInt8))(start:Nat)(b:Bd)(n:Nat)(h1:(Jt (b.s.drop start)).length=n)(h2:(O7 (b.s.drop start)).length=n):
  (b.endMap f ks start).size≤b.size+50+18*n:=by
 have h3:(b.s.take start).length≤b.s.length:=by rw [List.length_take];omega
 unfold Bd.endMap;simp only [];cases(if Ir f 4=true then Bn b.lists (ks.flatMap fun s=>s++ [0]) else none) with
 |some i=>
  have h:=Aa7 (b.vals.getD i ⟨0,0,0⟩) (O7 (b.s.drop start)) b.b;simp only [Bd.size,Ass,Asw,List.length_nil] at h⊢;omega
 |none=>
  have h4:=Oc 14 true false (Jt (b.s.drop start)) b.b;have h:=Aa7 (Bk 14 true false (Jt (b.s.drop start)) b.b).2 (O7 (b.s.drop start)) (Bk 14 true false (Jt (b.s.drop start)) b.b).1;have h5:=Pc b.lists (ks.flatMap fun s=>s++ [0]) b.vals.length;simp only [Bd.size,Ass,Asw,List.length_nil] at h⊢;omega
theorem H8(f:Nat)(t:Tr)(h:Ok t):∀b,Cp b→(Bd.calls f t b).size≤b.size+t.cost:=by
 induction h with
 |leaf n u s ks c h1 h2=>
  intro b hg;rename_i k;have e:Bd.calls f (.mk k n u s ks c) b=b.leaf f k n u s:=by
   rw [Bd.calls,if_neg (by omega),if_neg (by omega),if_pos h2]
  rw [e,Tr.cost];have:=Ai3 f k n u s b;omega
 |flat n u s ks c h1 h2=>
  intro b hg;rename_i k;have e:Bd.calls f (.mk k n u s ks c) b=b.flat f k c:=by
   rw [Bd.calls,if_neg (by omega),if_neg (by omega),if_neg (by omega)]
  rw [e,Tr.cost];have:=Ail f k c b;omega
 |vec n u s ks hd ih=>
  intro b hg;rename_i c;obtain⟨vs,e1,l1,s1,r1⟩:=Jo f c (fun t ht=>Em f t (hd t ht)) b hg;have h1:=Ku f c (fun t ht=>Em f t (hd t ht)) ih b hg;have e:Bd.calls f (.mk 10 n u s ks c) b=(Bd.callsL f c b).endVec b.s.length:=by rw [Bd.calls,if_pos rfl]
  have hv:(Bd.callsL f c b).s.drop b.s.length=vs:=by rw [e1];simp
  have h2:=Acx b.s.length (Bd.callsL f c b) c.length (by rw [hv,l1]);rw [e,Tr.cost];omega
 |map n u s hl h0 hd ih=>
  intro b hg;rename_i c ks;obtain⟨kvs,vs,e1,l1,s1,k1,r1⟩:=H7 f c ks hl (fun t ht=>Em f t (hd t ht)) b hg;have h1:=Kv f c ks hl (fun t ht=>Em f t (hd t ht)) ih b hg;have e:Bd.calls f (.mk 17 n u s ks c) b=(Bd.callsM f ks c b).endMap f ks b.s.length:=by
   rw [Bd.calls,if_neg (by omega),if_pos rfl]
  have hv:(Bd.callsM f ks c b).s.drop b.s.length=Ew kvs vs:=by rw [e1];simp
  obtain⟨ev,od⟩:=H9 kvs vs (by rw [k1.1,l1,hl]);have h2:=Acw f ks b.s.length (Bd.callsM f ks c b) c.length (by rw [hv,ev,k1.1,hl]) (by rw [hv,od,l1]);rw [e,Tr.cost];omega
end Go.Proofs.YtgbjodnegkbfoaaGreat
namespace Go.Proofs.YtgbjodnegkbfoaaGreat
open Go.RowKit Go.Acc
theorem Amm(n y:Nat)(hy:0<y):∃r p:Nat,(n:Int).tmod y=r∧r<y∧((y:Int)-(r:Int)).tmod y=p∧Lc y n=p:=by
 have h1:(n:Int).tmod y=((n % y:Nat):Int):=by rw [Int.tmod_eq_emod_of_nonneg (by omega)];rfl
 have h2:=Nat.mod_lt n hy;refine⟨n % y,Lc y n,h1,h2,?_,rfl⟩;rw [show(y:Int)-((n % y:Nat):Int)=((y-n % y:Nat):Int) by omega,Int.tmod_eq_emod_of_nonneg (by omega)];rfl
theorem Ae2(n:Int)(h: -9223372036854775808≤n∧n≤9223372036854775807):IntKind.i64.wrap n=n:=by rw [IntKind.wrap_i64];omega
theorem Aho{w:World}{A:Option Addr}{n:Nat}{l:List UInt8}(h:Cd w A n l):Cd w.drew A n l:=h
theorem Zg(bx bw b y:Nat)(l:List UInt8)(w:World)(o:Nat→Nat)(h:Cg w o b l)(hx:Ag w bx 176 #[.pointer (some ⟨b,0,none⟩)])(hw:Ag w bw 3 #[Aa Ab (y:Int)])(hy:Av (y:Int)=true)(ox:o bx≠1)(ow:o bw≠1)(hm:l.length+7≤1048576):
  Calls Tryz.prog 258 #[.pointer (some ⟨bx,0,none⟩),.pointer (some ⟨bw,0,none⟩)] w (Db w o b (An y l)):=by
 have x0:w.cell? ⟨bx,0,none⟩=some (.pointer (some ⟨b,0,none⟩)):=hx.cell 0;have w0:w.cell? ⟨bw,0,none⟩=some (Aa Ab (y:Int)):=hw.cell 0;obtain⟨n,hn⟩:∃n,l.length=n:=⟨_,rfl⟩;have hn':n≤1048576:=by omega
 have hy8:1≤y∧y≤8:=by have:=By.1 hy;omega
 obtain⟨r,p,e1,hr,e2,e3⟩:=Amm n y (by omega);have hp7:p≤7:=by rw [←e3];exact Ad7 n hy8.2
 have hy0:(0:Int)<(y:Int):=by omega
 have hyn:¬y=0:=by omega
 have hy9:(y:Int)≤8:=by omega
 have hr0:(0:Int)≤(r:Int):=by omega
 have hr1:(r:Int)<(y:Int):=by omega
 have hp0:(0:Int)≤(p:Int):=by omega
 have hp1:(p:Int)≤7:=by omega
 obtain⟨Z,hZ1,hZ2,hmk⟩:=Aa4 p (by omega);have HZ2:=Hd hZ2;have HZ1:=Hd hZ1;clear hZ1 hZ2;have HY:=Hd hy;have H:=Hd h;have HNN:=Hd hn;have HP:=Hd e3;have HL:=Hd (show l.length+p≤1048576 by omega);clear hx hw hy h hn hm e3;have hwr:IntKind.i64.wrap ((y:Int)-(r:Int))=(y:Int)-(r:Int):=Ae2 ((y:Int)-(r:Int)) (by omega);go_enter Tryz.func258,Tryz.ntmps258;have HI:=Hd (Aml w Z p 0 (Ast p (0:UInt8)) (Nat.zero_le _) (by simp) (by omega) HZ2.o).is;go_region_held3 (fun w'=>w'.cell? ⟨bx,0,none⟩=some (.pointer (some ⟨b,0,none⟩))∧w'.cell? ⟨bw,0,none⟩=some (Aa Ab (y:Int))) (first|with_reducible exact⟨x0,w0⟩|with_reducible exact⟨Af x0,Af w0⟩|with_reducible exact⟨Af (Ar _ x0),Af (Ar _ w0)⟩|with_reducible exact⟨x1,w1⟩) (first|(go_at_call 159;(with_reducible refine(C9 n H.o.drew HNN.o).mono ?_);rintro e w' ⟨rfl,rfl⟩)|(go_at_call 259;(with_reducible refine(P0 b p p _ l (Ast p (0:UInt8)) _ o (H.o.alloc _).drew (Aho HI.o) HL.o).mono ?_);rintro e w' ⟨rfl,o',hB,hT⟩;have x1:=hT.cell (Af (Ar _ x0)) ox;have w1:=hT.cell (Af (Ar _ w0)) ow;have HB:=Hd hB;have HT:=Hd hT;clear hB hT));go_end0;have e3:An y l=l++Ast p 0:=by unfold An;rw [HNN.o,HP.o]
 rw [e3];exact⟨rfl,o',HB.o,To.from_pure ((Below.refl _ _).alloc (Asp _) _) HT.o.from_drew⟩
theorem Gm(b y:Nat)(l:List UInt8)(w:World)(o:Nat→Nat)(h:Cg w o b l)(hy:Av (y:Int)=true)(hm:l.length+7≤1048576):
  Calls Tryz.prog 160 #[.pointer (some ⟨b,0,none⟩),Aa Ab (y:Int)] w (Db w o b (An y l)):=by
 have H:=Hd h;have HY:=Hd hy;clear h hy;go_enter Tryz.func160,Tryz.ntmps160;go_wp2_with fail;have hB:Below w.heap.size w ((w.alloc (.cells #[.pointer (some ⟨b,0,none⟩)] 176)).alloc (.cells #[Aa Ab (y:Int)] 3)):=((Below.refl _ _).alloc (Asp _) _).alloc (by simp) _;have hK1:=(Ag.new w 176 #[.pointer (some ⟨b,0,none⟩)]).alloc (.cells #[Aa Ab (y:Int)] 3);have hK2:=B3 w (.cells #[.pointer (some ⟨b,0,none⟩)] 176) 3 #[Aa Ab (y:Int)];have HBW:=Hd hB;refine(T9 b y 258 _ _ _ HY.o Tryz.call258 ((Zg w.heap.size (w.heap.size+1) b y l _ (Aq o w.heap.size 0) (H.o.fresh hB 0) hK1 hK2 HY.o (by rw [As (by omega)];omega) (by rw [As (by omega)];omega) hm).mono fun e w' h=>⟨h.1,h⟩)).mono ?_;rintro e w' ⟨rfl,o',hB',hT⟩;have HE:=Hd (show Db w o b (An y l) (.returned (.tuple #[])) w' from Db.from_fresh HBW.o ⟨rfl,o',hB',hT⟩);clear hB hK1 hK2 hB' hT HBW;go_wp2;go_end0;exact HE.o
theorem Ki(w:World)(o o':Obj)(t:TypeId)(cs:Array Value):Ag (((w.alloc o).alloc o').alloc (.cells cs t)) (w.heap.size+1+1) t cs:=by
 have h:=B3 (w.alloc o) o' t cs;have e:(w.alloc o).heap.size=w.heap.size+1:=by simp
 rw [e] at h;exact h
theorem Afi(bx bw bu b y u:Nat)(l:List UInt8)(w:World)(o:Nat→Nat)(h:Cg w o b l)(hx:Ag w bx 176 #[.pointer (some ⟨b,0,none⟩)])(hw:Ag w bw 3 #[Aa Ab (y:Int)])(hu:Ag w bu 22 #[Aa Ac (u:Int)])
  (hy:Av (y:Int)=true) (hf:Dv y u=true) (hu64:(u:Int)<18446744073709551616) (hm:l.length+y≤1048576):
  Calls Tryz.prog 260 #[.pointer (some ⟨bw,0,none⟩),.pointer (some ⟨bu,0,none⟩),.pointer (some ⟨bx,0,none⟩)] w (Db w o b (l++Ai y u)):=by
 have w0:w.cell? ⟨bw,0,none⟩=some (Aa Ab (y:Int)):=hw.cell 0;have u0:w.cell? ⟨bu,0,none⟩=some (Aa Ac (u:Int)):=hu.cell 0;have H:=Hd h;have HX:=Hd hx;have HU:=Hd hu64;have e1:Nl (y:Int) (Dv (y:Int).toNat u)=0:=by
  rw [show(y:Int).toNat=y from rfl,hf];simp [Nl,hy]
 have e2:Nk [] (y:Int) u (Dv (y:Int).toNat u)=Ai y u:=by
  rw [show(y:Int).toNat=y from rfl,hf];simp [Nk,hy]
 have hP:=Amv none 0 0 u (y:Int) [] w (Is.nil _ _) (Asp _) (by omega) hu64;rw [e1,e2] at hP;have HP:=Hd hP;clear h hx hw hu hy hf hu64 e1 e2 hP;go_enter Tryz.func260,Tryz.ntmps260;go_wp2_with fail;go_at_call 15;refine HP.o.mono ?_;rintro e w1 ⟨A,n,c,rfl,hO,hB⟩;have hn:n=y:=by rw [←hO.1,Au]
 have x1:w1.cell? ⟨bx,0,none⟩=some (.pointer (some ⟨b,0,none⟩)):=(HX.o.pure hB).cell 0;have HI:=Hd (show Cd w1 A y (Ai y u) by have h:=hO.is;rw [hn] at h;exact h);have HN:=Hd hn;have H1:=Hd (H.o.pure hB);have HB:=Hd hB;clear hO hB w0 u0 hn;rw [HN.o];go_wp2_with fail;go_at_call 259;refine(P0 b y _ _ l (Ai y u) _ o H1.o HI.o hm).mono ?_;intro e w2 hB2;obtain rfl:=hB2.1;have HB2:=Hd hB2;clear hB2;go_wp2;go_end0;exact HB2.o.from_pure HB.o
theorem D2(b y u:Nat)(l:List UInt8)(w:World)(o:Nat→Nat)(h:Cg w o b l)(hy:Av (y:Int)=true)(hf:Dv y u=true)(hu64:(u:Int)<18446744073709551616)(hm:l.length+y≤1048576):
  Calls Tryz.prog 163 #[.pointer (some ⟨b,0,none⟩),Aa Ab (y:Int),Aa Ac (u:Int)] w (Db w o b (l++Ai y u)):=by
 have H:=Hd h;have HY:=Hd hy;have HF:=Hd hf;have HU:=Hd hu64;clear h hy hf hu64;go_enter Tryz.func163,Tryz.ntmps163;go_wp2_with fail;have hB:Below w.heap.size w (((w.alloc (.cells #[.pointer (some ⟨b,0,none⟩)] 176)).alloc (.cells #[Aa Ab (y:Int)] 3)).alloc (.cells #[Aa Ac (u:Int)] 22)):=(((Below.refl _ _).alloc (Asp _) _).alloc (by simp) _).alloc (by simp;omega) _;have hK1:=((Ag.new w 176 #[.pointer (some ⟨b,0,none⟩)]).alloc (.cells #[Aa Ab (y:Int)] 3)).alloc (.cells #[Aa Ac (u:Int)] 22);have hK2:=(B3 w (.cells #[.pointer (some ⟨b,0,none⟩)] 176) 3 #[Aa Ab (y:Int)]).alloc (.cells #[Aa Ac (u:Int)] 22);have hK3:=Ki w (.cells #[.pointer (some ⟨b,0,none⟩)] 176) (.cells #[Aa Ab (y:Int)] 3) 22 #[Aa Ac (u:Int)];have HBW:=Hd hB;refine(T9 b y 260 _ _ _ HY.o Tryz.call260 ((Afi w.heap.size (w.heap.size+1) (w.heap.size+1+1) b y u l _ o (H.o.pure hB) hK1 hK2 hK3 HY.o HF.o HU.o hm).mono fun e w' h=>⟨h.1,h⟩)).mono ?_;rintro e w' ⟨rfl,o',hB',hT⟩;have HE:=Hd (show Db w o b (l++Ai y u) (.returned (.tuple #[])) w' from Db.from_pure HBW.o ⟨rfl,o',hB',hT⟩);clear hB hK1 hK2 hK3 hB' hT HBW;go_wp2;go_end0;exact HE.o
def It(s:List UInt8):List Value:=[.string ⟨s.toArray⟩]
theorem Dg(s:List UInt8):(It s).length=1:=rfl
theorem N6(s:List UInt8):∀u∈It s,u.oneCell'=true:=by
 intro u hu;simp [It] at hu;subst hu;rfl
abbrev Ek:=Is It
theorem Fy{w:World}{A:Option Addr}{n:Nat}{l:List (List UInt8)}(h:Ek w A n l){k:Nat}(hk:k<n):
  ∃b off,A=some ⟨b,off,none⟩∧∃hk:k<l.length,w.cell? ⟨b,off+k,none⟩=some (.string ⟨l[k].toArray⟩):=by
 obtain⟨b,off,e,hk',hc⟩:=h.at_ Dg (by omega) hk;exact⟨b,off,e,hk',by have:=hc 0 (by omega);simpa [It] using this⟩
theorem Xx(l:List (List UInt8)){k:Nat}(hk:k<l.length):(l.take (k+1)).flatten=(l.take k).flatten++l[k]:=by
 rw [List.take_succ_eq_append_getElem hk,List.flatten_append];simp
theorem Adt(l:List (List UInt8))(k:Nat):(l.take k).flatten.length≤l.flatten.length:=by
 conv=>rhs;rw [←List.take_append_drop k l]
 rw [List.flatten_append,Ass];omega
theorem Aht(A:Option Addr)(n c:Nat)(l:List (List UInt8))(w:World)(h:Ek w A n l)(hm:l.flatten.length≤1048576)(hn:n≤1048576):
  Calls Tryz.prog 263 #[.slice A n c] w fun e w'=>e= .returned (Aa Ab (l.flatten.length:Int))∧∃nd,w'=w.drewN nd:=by
 go_enter Tryz.func263,Tryz.ntmps263;go_wp2;go_loopw [2,7] (fun s i wr=>∃k:Nat,k≤n∧i= Aa Ab k∧s= Aa Ab ((l.take k).flatten.length:Int)∧∃nd,wr=w.drewN nd) (fun _ i _=>n-(intOf i).toNat)
 case atStart=>exact⟨0,Nat.zero_le _,rfl,rfl,0,rfl⟩
 case round=>
  obtain⟨k,hk,rfl,rfl,nd,rfl⟩:=hrel;by_cases hlt:k<n
  ·obtain⟨b1,o1,rfl,hk1,a0⟩:=Fy h hlt;have hs:=Hd (Xx l hk1);have h1:=Adt l (k+1);rw [hs.o,Ass] at h1;generalize hP:(l.take k).flatten.length=P at*;have HPP:=Hd hP;clear hP h;go_wp2;go_roundw
   case rel=>exact⟨k+1,by omega,by go_num,by rw [hs.o,Ass,HPP.o];go_num,⟨_,rfl⟩⟩
   case measure=>simp [intOf];omega
  ·have hk':k=n:=by omega
   have e:=Hd (show(l.take k).flatten.length=l.flatten.length by rw [hk',Asy (by rw [h.1];exact Asp _)]);clear h hk';go_wp2;go_ret;exact⟨by rw [e.o];rfl,nd,rfl⟩
theorem Arq(s:List UInt8)(w:World):∃c w',(convert 9 28 (.string ⟨s.toArray⟩)).run Tryz.prog w= .ok (.slice (some ⟨w.heap.size,0,none⟩) s.length c) w'∧Cd w' (some ⟨w.heap.size,0,none⟩) s.length s∧Below w.heap.size w w':=by
 refine⟨_,_,run_bytes_of_string w 9 28 5 ⟨s.toArray⟩ Tryz.underlying9 Tryz.underlying28 Tryz.underlying5,?_,(Below.refl _ _).drew.alloc (Asp _) _⟩;refine⟨rfl,fun j u hu=>⟨_,_,rfl,?_⟩⟩;have hj:j<s.length:=by
  have:=(List.getElem?_eq_some_iff.1 hu).1;rw [Bi C6] at this;simpa using this
 have hg:=heap_alloc_new w.drew (.cells (bytesRow ⟨s.toArray⟩ (grownCap w s.length 0 5)) 5 ((bytesRow ⟨s.toArray⟩ (grownCap w s.length 0 5)).size,(bytesRow ⟨s.toArray⟩ (grownCap w s.length 0 5)).size+1));change _[w.heap.size]?=_ at hg;rw [show(⟨s.toArray⟩:ByteArray).size=s.length from rfl,cell_of_row _ _ _ _ _ _ hg,Nat.zero_add,bytesRow_at ⟨s.toArray⟩ _ j (by simpa using hj),←hu];have h1:=Gr C6 s j 0 hj (by omega);rw [Nat.mul_one,Nat.add_zero] at h1;rw [h1];rfl
theorem Gc(b n c:Nat)(A:Option Addr)(L:List (List UInt8))(l:List UInt8)(w:World)(o:Nat→Nat)(h:Cg w o b l)(hA:Ek w A n L)(ho:∀ad,A=some ad→o ad.block≠1)(hm:l.length+L.flatten.length≤1048576)(hn:n≤1000):
  Calls Tryz.prog 164 #[.pointer (some ⟨b,0,none⟩),.slice A n c] w (Db w o b (l++L.flatten)):=by
 have H:=Hd h;have HA:=Hd hA;have HOO:=Hd ho;have HM:=Hd hm;obtain⟨m,hlm⟩:∃m,l.length=m:=⟨_,rfl⟩;obtain⟨k,hk⟩:∃k,L.flatten.length=k:=⟨_,rfl⟩;have hmk:m+k≤1048576:=by omega
 obtain⟨A',n',c',hb,_⟩:=h;have c2:w.cell? ⟨b,2,none⟩=some (Aa Ab 1048576):=hb.cell 2;have HLM:=Hd hlm;have HK:=Hd hk;have hsum:=Aht A n c L w.drew hA (by omega) (by omega);rw [hk] at hsum;have HS:=Hd hsum;clear hb hA ho hm hlm hk hsum;have hwr:IntKind.i64.wrap (1048576-(m:Int))=1048576-(m:Int):=Ae2 _ (by omega);have hlt:decide ((1048576:Int)-(m:Int)<(k:Int))=false:=decide_eq_false (by omega);go_enter Tryz.func164,Tryz.ntmps164;go_wp2_with (go_at_call 262;refine(Fq H.o).mono ?_;rintro e w' ⟨rfl,rfl⟩);go_region_held3 (fun w'=>w'.cell? ⟨b,2,none⟩=some (Aa Ab 1048576)) (first|with_reducible exact c2|with_reducible exact Af c2|with_reducible exact C7 _ c2) (first|(go_at_call 263;(with_reducible refine HS.o.mono ?_);rintro e w' ⟨rfl,nd,rfl⟩)|(go_at_call 159;(with_reducible refine(C9 m (H.o.drewN _) HLM.o).mono ?_);rintro e w' ⟨rfl,rfl⟩));have HB:=Hd (show Below w.heap.size w (w.drewN (1+nd)) from below_drewN (Below.refl _ _) _);generalize w.drewN (1+nd)=W at*;clear c2 hwr hlt;go_wp2_with fail;go_loopw [26] (fun i wr=>∃j:Nat,j≤n∧i= Aa Ab j∧∃o',Cg wr o' b (l++(L.take j).flatten)∧To (fun i=>i=1) w o wr o'∧Ek wr A n L∧∀ad,A=some ad→o' ad.block≠1) (fun i _=>n-(intOf i).toNat)
 case atStart=>exact⟨0,Nat.zero_le _,rfl,o,by rw [List.take_zero,List.flatten_nil,List.append_nil];exact H.o.pure HB.o,To.pure _ HB.o o,HA.o.pure HB.o,HOO.o⟩
 case round=>
  clear H HA HB HOO;obtain⟨j,hj,rfl,o',hb,ht,ha,ho⟩:=hrel;have HB:=Hd hb;have HT:=Hd ht;have HA:=Hd ha;have HOO:=Hd ho;have hL:=ha.1;clear hb ht ha ho;by_cases hjn:j<n
  ·obtain⟨b1,o1,rfl,hj1,a0⟩:=Fy HA.o hjn;have hs:=Xx L hj1;have h1:=Adt L (j+1);rw [hs,Ass] at h1;have HL1:=Hd (show(l++(L.take j).flatten).length+L[j].length≤1048576 by have:=HM.o;rw [Ass];omega);have HS:=Hd hs;have hc0:(0:Int)≤(j:Int):=by omega
   obtain⟨sj,hsj⟩:∃x,L[j]=x:=⟨_,rfl⟩;rw [hsj] at a0;obtain⟨cj,wj,hcv,hI,hB2⟩:=Arq sj wr;have HI:=Hd hI;have HB2:=Hd hB2;have HSJ:=Hd hsj;clear hs h1 hI hB2 hsj hL HM;go_wp2_with fail;go_at_call 259;refine(P0 b sj.length _ _ (l++(L.take j).flatten) sj _ o' (HB.o.pure HB2.o) HI.o (by rw [←HSJ.o];exact HL1.o)).mono ?_;rintro e w2 ⟨rfl,o2,hb2,ht2⟩;have HR:=Hd (show Cg w2 o2 b (l++(L.take (j+1)).flatten) from by rw [HS.o,HSJ.o,←List.append_assoc];exact hb2);have ht3:=To.from_pure HB2.o ht2;have HT2:=Hd ht3;clear hb2 ht2 ht3;go_wp2;go_roundw
   case rel=>
    refine⟨j+1,by omega,by go_num,o2,HR.o,HT.o.trans HT2.o,HA.o.fr HT2.o.fr (fun ad h=>HOO.o ad h),fun ad h=>?_⟩;injection h with h
    subst h;have hlt1:=Ao a0;rw [HT2.o.ow _ hlt1];exact HOO.o ⟨b1,o1,none⟩ rfl
   case measure=>simp [intOf];omega
  ·have HE:=Hd (show(L.take j).flatten=L.flatten by rw [Asy (by omega)]);clear hL;go_wp2;go_end0;exact⟨rfl,o',by rw [←HE.o];exact HB.o,HT.o⟩
theorem Ach(b:Nat)(l:List UInt8)(w:World)(o:Nat→Nat)(h:Cg w o b l)(hm:l.length≤1048576):
  Calls Tryz.prog 165 #[.pointer (some ⟨b,0,none⟩)] w (Ze w l 0):=by
 have H:=Hd h;obtain⟨A,n,c,hb,ho,_⟩:=h;have c1:w.cell? ⟨b,1,none⟩=some (.slice A n c):=hb.cell 1;have HO:=Hd ho;have HN:=Hd (show n≤1099511627776 by have:=ho.1;omega);clear hb ho;go_enter Tryz.func165,Tryz.ntmps165;go_wp2_with (go_at_call 262;refine(Fq H.o).mono ?_;rintro e w' ⟨rfl,rfl⟩);refine(R6 A n c l _ HO.o.is HN.o).mono ?_;rintro e w' ⟨A1,n1,c1',rfl,hO,hB⟩;have HO1:=Hd hO;have HB1:=Hd hB;clear hO hB;go_wp2;go_ret2;exact⟨A1,n1,c1',rfl,HO1.o,HB1.o⟩
theorem Ahs(w:World):
  Calls Tryz.prog 131 #[Aa Ab 1048576] w fun e w'=>∃b,e= .returned (.pointer (some ⟨b,0,none⟩))∧Ag w' b 257 #[.bool true,.slice none 0 0,Aa Ab 1048576,Aa Ab 0]∧w.heap.size≤b∧Below w.heap.size w w':=by
 go_enter Tryz.func131,Tryz.ntmps131;go_wp2;go_ret;exact⟨_,rfl,Ag.new w _ _,Asp _,(Below.refl _ _).alloc (Asp _) _⟩
abbrev V3:=Int×Int×Int
def vc(x:V3):List Value:=[Aa Ab x.1,Aa Ab x.2.1,Aa Ac x.2.2]
theorem Gl(x:V3):(vc x).length=3:=rfl
theorem J9(x:V3):∀u∈vc x,u.oneCell'=true:=by
 intro u hu;simp [vc] at hu;rcases hu with rfl|rfl|rfl <;>rfl
abbrev Dx:=Is vc
abbrev E3:=Go.Acc.Own vc 3 210
theorem Aix{w:World}{A:Option Addr}{n:Nat}{l:List V3}(h:Dx w A n l){k:Nat}(hk:k<n):
  ∃b off,A=some ⟨b,off,none⟩∧∃hk:k<l.length,w.cell? ⟨b,off+k*3,none⟩=some (Aa Ab l[k].1)∧w.cell? ⟨b,off+k*3+1,none⟩=some (Aa Ab l[k].2.1)∧w.cell? ⟨b,off+k*3+2,none⟩=some (Aa Ac l[k].2.2):=by
 obtain⟨b,off,e,hk',hc⟩:=h.at_ Gl (by omega) hk;exact⟨b,off,e,hk',hc 0 (by omega),hc 1 (by omega),hc 2 (by omega)⟩
theorem Jv:(Tryz.prog.info? 210).map (fun i=>(i.zero,i.size,i.bytes))=some (some (.agg #[Aa Ab 0,Aa Ab 0,Aa Ac 0]),3,24):=by kernel_rfl
def Ahd(w:World)(m:List V3)(e:Ending)(w':World):Prop:=
 ∃A n c,e= .returned (.slice A n c)∧E3 w' w.heap.size A n c m∧Below w.heap.size w w'
theorem Aco{w w1 w':World}{A:Option Addr}{n c:Nat}{l m:List V3}(h:E3 w' w.heap.size A n c l)(hl:l=m)(h1:Below w.heap.size w w1){S:Nat→Prop}(hg:Fr S w1 w')(hS:∀k,k<w.heap.size→¬S k):Ahd w m (.returned (.slice A n c)) w':=by
 subst hl;exact⟨A,n,c,rfl,h,h1.trans (hg.belowB hS h1.size)⟩
theorem Uc(A:Option Addr)(n c:Nat)(l:List V3)(w:World)(h:Dx w A n l)(hl:n≤65536):
  Calls Tryz.prog 337 #[.slice A n c] w (Ahd w l):=by
 have hnil:=fun(w:World) (A:Option Addr) (n c:Nat)=>Lib.run_eql_slice_nil (P:=Tryz.prog) w 185 210 A n c 0 0 Tryz.underlying185
 rcases A with _|a
 ·obtain⟨rfl,rfl⟩:=h.none_ Gl (by omega);clear h hl;go_enter Tryz.func337,Tryz.ntmps337;go_wp2_with fail;go_ret;exact⟨none,0,0,rfl,Own.nil _ _,Below.refl _ _⟩
 ·have hr:Dx (w.alloc (.cells #[] 210)) (some a) n l:=h.alloc _;have ho:E3 (w.alloc (.cells #[] 210)) w.heap.size (some ⟨w.heap.size,0,none⟩) 0 0 []:=⟨rfl,World.ownsRow_lit w #[] 0 (Asp _) (Nat.zero_le _) rfl⟩;have HR:=Hd hr;clear h hr;go_enter Tryz.func337,Tryz.ntmps337;go_wp2_with (at_builtin;refine Dm _ rfl (.tmp 5) (.tmp 6) _ rfl 210 _ 3 24 Tryz.underlying185 Jv rfl (by omega) Gl J9 _ _ _ _ _ rfl ho _ _ _ _ rfl HR.o (by omega) (by simp) ?_;intro A1 c1 w1 hown1 hfr1 hat1);go_ret;exact Aco (by simpa using hown1) rfl ((Below.refl _ _).alloc (Asp _) _) hfr1 (by rintro k hk ⟨ad,h,h'⟩;injection h with h;subst h;simp at h';omega)
end Go.Proofs.YtgbjodnegkbfoaaGreat
