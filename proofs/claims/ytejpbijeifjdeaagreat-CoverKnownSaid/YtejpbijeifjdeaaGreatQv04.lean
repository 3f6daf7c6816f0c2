/- Parts of the proof. -/
import Derived.Test.YtejpbijeifjdeaaGreatQv03
import Derived.Maps.Own
set_option maxHeartbeats 1500000
set_option maxRecDepth 100000
open Go.Value renaming int→Aa
open Go.IntKind renaming i64→Ab,u64→Ac
open Nat renaming le_refl→Ae,zero_le→Am
open Go.RowKit.Below renaming refl→Af
open List renaming getElem?_eq_getElem→Ai,length_append→Ak,replicate→An,take_of_length_le→Aw,getD_eq_getElem?_getD→Ay
open Go.Proofs.Tryz
open Go.Proofs.Tryz renaming prog→Ad
namespace Go.Proofs.YtejpbijeifjdeaaGreat
open Go.RowKit Go.Acc
variable {w0 w w1 w':World}{e:Ending}{i b n c n2 c1 k d B:Nat}{o:Nat→Nat}{l:List UInt8}{A A1:Option Addr}{p S:Nat→Prop}{g:Option Nat}{T:TypeId}{u v:Value}{cs:List Value}{s vals:List Bv}{m:List (List UInt8×Nat)}
def C2(w:World)(o:Nat→Nat)(b:Nat)(l:List UInt8):Prop:=
 ∃A n c,Bb w b 212 #[.bool true,.slice A n c,Aa Ab 1048576,Aa Ab 0]∧Gp w 0 A n c l∧Of o A 1∧o b=1
def Dv(w:World)(o:Nat→Nat)(b:Nat)(l:List UInt8)(e:Ending)(w':World):Prop:=
 e= .returned (.tuple #[])∧∃o',C2 w' o' b l∧To (fun i=>i=1) w o w' o'
section
variable {I:Nat→Prop} {w w':World} {o o':Nat→Nat} {b:Nat} {l:List UInt8}
theorem C2.to_(h:C2 w o b l)(ht:To I w o w' o')(hI:¬I 1):C2 w' o' b l:=by
 obtain⟨A,n,c,hb,ho,h1,h2⟩:=h;exact⟨A,n,c,hb.to_ ht (by rw [h2];exact hI),ho.to_ h1 ht hI,h1.to_ ho ht,by rw [ht.ow _ hb.lt];exact h2⟩
theorem C2.pure(h:C2 w o b l)(ht:Below w.heap.size w w'):C2 w' o b l:=h.to_ (To.pure (fun _=>False) ht o) id
theorem C2.drew(h:C2 w o b l):C2 w.drew o b l:=h
theorem C2.drewN(n:Nat)(h:C2 w o b l):C2 (w.drewN n) o b l:=h
theorem C2.alloc(h:C2 w o b l)(x:Obj):C2 (w.alloc x) o b l:=h.pure ((Af _ _).alloc (Ae _) x)
theorem Dv.from_pure(hb:Below w0.heap.size w0 w)(h:Dv w o b l e w'):Dv w0 o b l e w':=by
 obtain⟨h1,o',h2,h3⟩:=h;exact⟨h1,o',h2,h3.from_pure hb⟩
theorem C2.fresh(h:C2 w o b l)(hb:Below w.heap.size w w')(i:Nat):C2 w' (Bl o w.heap.size i) b l:=h.to_ (To.fresh (fun _=>False) hb o i) id
theorem Dv.from_fresh(hb:Below w0.heap.size w0 w)(h:Dv w (Bl o w0.heap.size i) b l e w'):Dv w0 o b l e w':=by
 obtain⟨h1,o',h2,h3⟩:=h;exact⟨h1,o',h2,(To.fresh _ hb o i).trans h3⟩
theorem C2.lt(h:C2 w o b l):b<w.heap.size:=by obtain⟨A,n,c,hb,_⟩:=h;exact hb.lt
theorem C2.own(h:C2 w o b l):o b=1:=by obtain⟨A,n,c,_,_,_,h⟩:=h;exact h
end
theorem Uq(b:Nat)(w:World)(h:w.cell? ⟨b,0,none⟩=some (.bool true)):
  Calls Ad 224 #[Aca b] w (Ab6 (.bool false) w):=by
 go_enter func224,ntmps224;go_wp2;go_ret;exact⟨rfl,rfl⟩
theorem Xs(b:Nat)(w:World)(h:w.cell? ⟨b,0,none⟩=some (.bool true))(h3:w.cell? ⟨b,3,none⟩=some (Aa Ab 0)):
  Calls Ad 230 #[Aca b] w (Ab6 (Aa Ab 0) w):=by
 go_enter func230,ntmps230;go_wp2_with (go_at_call 224;refine(Uq b _ (by assumption)).mono ?_;rintro e w' ⟨rfl,rfl⟩);go_ret;exact⟨rfl,rfl⟩
theorem lS(b n c:Nat)(A:Option Addr)(w:World)(h:w.cell? ⟨b,0,none⟩=some (.bool true))(h3:w.cell? ⟨b,1,none⟩=some (.slice A n c)):
  Calls Ad 133 #[Aca b] w (Ab6 (Aa Ab n) w):=by
 go_enter func133,ntmps133;go_wp2_with (go_at_call 224;refine(Uq b _ (by assumption)).mono ?_;rintro e w' ⟨rfl,rfl⟩);go_ret;exact⟨rfl,rfl⟩
theorem Gm(h:C2 w o b l):Calls Ad 230 #[Aca b] w (Ab6 (Aa Ab 0) w):=by
 obtain⟨A,n,c,hb,_⟩:=h;exact Xs b w (hb.cell 0) (hb.cell 3)
theorem Dt(n:Nat)(h:C2 w o b l)(hn:l.length=n):Calls Ad 133 #[Aca b] w (Ab6 (Aa Ab n) w):=by
 obtain⟨A,n',c,hb,ho,_⟩:=h;obtain rfl:n=n':=by rw [←hn,ho.1]
 exact lS b n c A w (hb.cell 0) (hb.cell 1)
theorem tD{x:List UInt8}(hb:Bb w b 212 #[.bool true,.slice A n c,Aa Ab 1048576,Aa Ab 0])(ho:Gp w 0 A n c l)(h1:Of o A 1)(h2:o b=1)
  (hw:Gp w1 0 A1 (n+n2) c1 (l++x)) (hf:Fr (fun k=>∃ad,A=some ad∧k=ad.block) w w1) (hat:A1.map (·.block)=A.map (·.block)∨A1.map (·.block)=some w.heap.size)
  (hb1:Bb w1 b 212 #[.bool true,.slice A n c,Aa Ab 1048576,Aa Ab 0]):
  ∃o',C2 (w1.setCell ⟨b,1,none⟩ (.slice A1 (n+n2) c1)) o' b (l++x)∧To (fun i=>i=1) w o (w1.setCell ⟨b,1,none⟩ (.slice A1 (n+n2) c1)) o':=by
 have a:Fr (fun k=>k=b) w1 (w1.setCell ⟨b,1,none⟩ (.slice A1 (n+n2) c1)):=Fr.setCell (S:=fun k=>k=b) (Fr.refl _ _) (fun _=>rfl) _;refine⟨Bl o w.heap.size 1,⟨A1,n+n2,c1,by have:=hb1.set_ 1 (.slice A1 (n+n2) c1);simpa using this,hw.fr a ?_,h1.grown ho (Ae _) hat rfl,by rw [Bs hb.lt];exact h2⟩,To.of_fr ((hf.mono (T:=fun k=>o k=1) ?_).setCell (fun _=>h2) _) (fun _ _ h=>h) 1⟩
 ·rintro ad rfl rfl;exact H8 hw.2 hb1 (by decide) (by simp [Value.ownBlock])
 ·rintro i _ ⟨ad,rfl,rfl⟩;exact h1 ad rfl
theorem Q7(b m d:Nat)(X:Option Addr)(l x:List UInt8)(w:World)(o:Nat→Nat)(h:C2 w o b l)(hx:B4 w X m x)(hm:l.length+m≤1048576):
  Calls Ad 227 #[Aca b,.slice X m d] w (Dv w o b (l++x)):=by
 obtain⟨A,n,c,i,q,h1,h2⟩:=h;obtain ⟨B,C,D,E⟩:=i.c4;rw [q.1] at hm;have k:∀ad,A=some ad→ad.block≠b:=by
  rintro ad rfl e;exact H8 q.2 i (by decide) (by simp [Value.ownBlock,e])
 have t:=Hd q;have z:=Hd hx;have s:=Hd i;have y:=Hd k;have u:=Hd h1;have v:=Hd h2;have H:=i.lt;clear i q hx k h1 h2;go_enter func227,ntmps227;go_wp2_with (go_at_call 230;refine(Xs b _ (by assumption) (by assumption)).mono ?_;rintro e L ⟨rfl,rfl⟩);go_quiet (fail);go_wp2_with (at_builtin;refine Fl _ rfl (.tmp 8) (.tmp 9) _ rfl 5 _ 1 1 underlying22 Oq rfl (by omega) C0 Q6 _ _ _ _ _ rfl t.o _ _ _ _ rfl z.o (by omega) (Am _) ?_;intro J F I f j g;have a:=((Fr.refl _ w).drewN _).trans j (fun _ _ h=>h);have p:=s.o.fr a (by rintro⟨ad,h,G⟩;exact y.o ad h G.symm);have K:=p.frozen 1;have F:I.cell? ⟨b,1,none⟩=some (.slice A n c):=p.cell 1;have r:=Hd p;clear p B C D E);go_end0;exact⟨rfl,tD s.o t.o u.o v.o f a g r.o⟩
theorem wK(n:Nat):(madeCells #[.int .u8 0] n).toList=(An n (0:UInt8)).flatMap bc:=by
 apply List.ext_getElem?;intro j;by_cases a:j<n
 ·have h1:=H6 C0 (An n (0:UInt8)) j 0 (by simpa using a) (by omega);rw [Nat.mul_one,Nat.add_zero,List.getElem_replicate] at h1;rw [h1];simp [madeCells,a,bc,Nat.mod_one]
 ·rw [List.getElem?_eq_none (by simp [madeCells];omega),List.getElem?_eq_none (by rw [Cd C0];simp;omega)]
theorem bF(n:Nat)(hn:n≤1099511627776):∃Z:Array Value,Z.size=n∧Z.toList=(An n (0:UInt8)).flatMap bc∧∀W:World,(Instr.makeSlice 22 (Aa Ab (n:Int)) (Aa Ab (n:Int))).run Ad W= .ok (.slice (some ⟨W.heap.size,0,none⟩) n n) (W.alloc (.cells Z 5)):=by
 obtain⟨i,d,f,e,c⟩:=info_parts Oq;have a:=wK n;refine⟨_,?_,a,fun W=>?_⟩
 ·have:=congrArg List.length a;rw [Cd C0] at this;simpa using this
 ·have b:=run_make (P:=Ad) W 22 5 i _ underlying22 d f .i64 .i64 n n (by omega) (Int.le_refl _) (by rw [c];omega) (by omega);simp only [Int.toNat_natCast,e,Nat.mul_one] at b;exact b
theorem bT(W:World)(Z:Array Value)(n B:Nat)(l:List UInt8)(hB:B≤W.heap.size)(hn:l.length=n)(hm:n≤1099511627776)(hZ:Z.toList=l.flatMap bc):Gp (W.alloc (.cells Z 5)) B (some ⟨W.heap.size,0,none⟩) n n l:=by
 refine⟨hn,?_⟩;have hs:Z.size=n*1:=by rw [←Array.length_toList,hZ,Cd C0,hn]
 have:=World.ownsRow_lit (base:=B) (e:=5) (size:=1) W Z n hB (by simp only [maxLen];omega) hs;rw [hZ] at this;exact this
theorem wT{W:World}{g:Nat}(Z:Array Value)(n:Nat)(l:List UInt8)(hg:W.heap.size=g)(hn:l.length=n)(hm:n≤1099511627776)(hZ:Z.toList=l.flatMap bc):Gp (W.alloc (.cells Z 5)) g (some ⟨g,0,none⟩) n n l:=by
 subst hg;exact bT W Z n _ l (Ae _) hn hm hZ
theorem Es(x:Int)(w:World)(h:Br x=true):Calls Ad 32 #[Aa Ab x] w fun e w'=>(∃c:Int,e= .returned (.tuple #[Aa Ab c,Aa Ab 0]))∧w=w':=by
 rcases B6.1 h with rfl|rfl|rfl|rfl
 all_goals
  clear h;go_enter func32,ntmps32;go_wp2;refine wp_loop_rounds 5 ?_
  repeat (rw [rounds_succ];go_wp2)
  all_goals
   go_ret2;exact⟨⟨_,rfl⟩,rfl⟩
theorem Ur(b:Nat)(x:Int)(F:Nat)(caps:Array Value)(w:World)(R:Ending→World→Prop)(hx:Br x=true)
  (hF:∀(args:Array Value) (w:World),(callFunc F args).run Ad w= .ok (.enter F args) w)
  (h:Calls Ad F caps w fun e w'=>e= .returned (.tuple #[])∧R e w'):
  Calls Ad 225 #[Aca b,Aa Ab x,.func (.func F) #[] caps] w R:=by
 have g:=Hd hx;have d:=Hd h;clear hx h;go_enter func225,ntmps225;go_wp2_with (go_at_call 32;refine(Es x _ g.o).mono ?_;rintro e w' ⟨⟨c,rfl⟩,rfl⟩);refine d.o.mono ?_;rintro e w' ⟨rfl,a⟩;have f:=Hd a;clear a hF;go_wp2;go_end0;exact f.o
theorem sW(n y:Nat)(hy:0<y):∃r p:Nat,(n:Int).tmod y=r∧r<y∧((y:Int)-(r:Int)).tmod y=p∧Ma y n=p:=by
 have h1:(n:Int).tmod y=((n % y:Nat):Int):=by rw [Int.tmod_eq_emod_of_nonneg (by omega)];rfl
 have h2:=Nat.mod_lt n hy;refine⟨n % y,Ma y n,h1,h2,?_,rfl⟩;rw [show(y:Int)-((n % y:Nat):Int)=((y-n % y:Nat):Int) by omega,Int.tmod_eq_emod_of_nonneg (by omega)];rfl
theorem iA(n:Int)(h: -9223372036854775808≤n∧n≤9223372036854775807):IntKind.i64.wrap n=n:=by rw [IntKind.wrap_i64];omega
theorem lQ(h:B4 w A n l):B4 w.drew A n l:=h
theorem Zt(bx bw b y:Nat)(l:List UInt8)(w:World)(o:Nat→Nat)(h:C2 w o b l)(hx:Bb w bx 135 #[Aca b])(hw:Bb w bw 3 #[Aa Ab (y:Int)])(hy:Br (y:Int)=true)(ox:o bx≠1)(ow:o bw≠1)(hm:l.length+7≤1048576):
  Calls Ad 226 #[Aca bx,Aca bw] w (Dv w o b (Bn y l)):=by
 have j:w.cell? ⟨bx,0,none⟩=some (Aca b):=hx.cell 0;have i:w.cell? ⟨bw,0,none⟩=some (Aa Ab (y:Int)):=hw.cell 0;obtain⟨n,s⟩:∃n,l.length=n:=⟨_,rfl⟩;have C:n≤1048576:=by omega
 have m:1≤y∧y≤8:=by have:=B6.1 hy;omega
 obtain⟨r,p,R,T,S,c⟩:=sW n y (by omega);have F:p≤7:=by rw [←c];exact gB n m.2
 have K:(0:Int)<(y:Int):=by omega
 have M:¬y=0:=by omega
 have L:(y:Int)≤8:=by omega
 have G:(0:Int)≤(r:Int):=by omega
 have I:(r:Int)<(y:Int):=by omega
 have D:(0:Int)≤(p:Int):=by omega
 have E:(p:Int)≤7:=by omega
 obtain⟨Z,d,f,B⟩:=bF p (by omega);have k:=Hd f;have A:=Hd d;clear d f;have Q:=Hd hy;have H:=Hd h;have a:=Hd s;have x:=Hd c;have v:=Hd (show l.length+p≤1048576 by omega);clear hx hw hy h s hm c;have J:IntKind.i64.wrap ((y:Int)-(r:Int))=(y:Int)-(r:Int):=iA ((y:Int)-(r:Int)) (by omega);go_enter func226,ntmps226;have u:=Hd (bT w Z p 0 (An p (0:UInt8)) (Am _) (by simp) (by omega) k.o).is;go_region_held3 (fun w'=>w'.cell? ⟨bx,0,none⟩=some (Aca b)∧w'.cell? ⟨bw,0,none⟩=some (Aa Ab (y:Int))) (first|with_reducible exact⟨j,i⟩|with_reducible exact⟨Bc j,Bc i⟩|with_reducible exact⟨Bc (Bm _ j),Bc (Bm _ i)⟩|with_reducible exact⟨P,O⟩) (first|(go_at_call 133;(with_reducible refine(Dt n H.o.drew a.o).mono ?_);rintro e w' ⟨rfl,rfl⟩)|(go_at_call 227;(with_reducible refine(Q7 b p p _ l (An p (0:UInt8)) _ o (H.o.alloc _).drew (lQ u.o) v.o).mono ?_);rintro e w' ⟨rfl,N,q,g⟩;have P:=g.cell (Bc (Bm _ j)) ox;have O:=g.cell (Bc (Bm _ i)) ow;have t:=Hd q;have z:=Hd g;clear q g));go_end0;have c:Bn y l=l++An p 0:=by unfold Bn;rw [a.o,x.o]
 rw [c];exact⟨rfl,N,t.o,To.from_pure ((Af _ _).alloc (Ae _) _) z.o.from_drew⟩
theorem Hh(b y:Nat)(l:List UInt8)(w:World)(o:Nat→Nat)(h:C2 w o b l)(hy:Br (y:Int)=true)(hm:l.length+7≤1048576):
  Calls Ad 134 #[Aca b,Aa Ab (y:Int)] w (Dv w o b (Bn y l)):=by
 have H:=Hd h;have i:=Hd hy;clear h hy;go_enter func134,ntmps134;go_wp2_with fail;have g:Below w.heap.size w ((w.alloc (.cells #[Aca b] 135)).alloc (.cells #[Aa Ab (y:Int)] 3)):=((Af _ _).alloc (Ae _) _).alloc (by simp) _;have d:=(Bb.new w 135 #[Aca b]).alloc (.cells #[Aa Ab (y:Int)] 3);have f:=Cv w (.cells #[Aca b] 135) 3 #[Aa Ab (y:Int)];have a:=Hd g;refine(Ur b y 226 _ _ _ i.o Tryz.call226 ((Zt w.heap.size (w.heap.size+1) b y l _ (Bl o w.heap.size 0) (H.o.fresh g 0) d f i.o (by rw [Bo (by omega)];omega) (by rw [Bo (by omega)];omega) hm).mono fun e w' h=>⟨h.1,h⟩)).mono ?_;rintro e w' ⟨rfl,m,c,j⟩;have k:=Hd (show Dv w o b (Bn y l) (.returned (.tuple #[])) w' from Dv.from_fresh a.o ⟨rfl,m,c,j⟩);clear g d f c j a;go_wp2;go_end0;exact k.o
theorem K7(w:World)(o o':Obj)(t:TypeId)(cs:Array Value):Bb (((w.alloc o).alloc o').alloc (.cells cs t)) (w.heap.size+1+1) t cs:=by
 have h:=Cv (w.alloc o) o' t cs;have e:(w.alloc o).heap.size=w.heap.size+1:=by simp
 rw [e] at h;exact h
theorem iQ(bx bw bu b y u:Nat)(l:List UInt8)(w:World)(o:Nat→Nat)(h:C2 w o b l)(hx:Bb w bx 135 #[Aca b])(hw:Bb w bw 3 #[Aa Ab (y:Int)])(hu:Bb w bu 26 #[Aa Ac (u:Int)])
  (hy:Br (y:Int)=true) (hf:Ed y u=true) (hu64:(u:Int)<18446744073709551616) (hm:l.length+y≤1048576):
  Calls Ad 228 #[Aca bw,Aca bu,Aca bx] w (Dv w o b (l++Bi y u)):=by
 have B:w.cell? ⟨bw,0,none⟩=some (Aa Ab (y:Int)):=hw.cell 0;have z:w.cell? ⟨bu,0,none⟩=some (Aa Ac (u:Int)):=hu.cell 0;have H:=Hd h;have x:=Hd hx;have C:=Hd hu64;have k:Og (y:Int) (Ed (y:Int).toNat u)=0:=by
  rw [show(y:Int).toNat=y from rfl,hf];simp [Og,hy]
 have m:Oe [] (y:Int) u (Ed (y:Int).toNat u)=Bi y u:=by
  rw [show(y:Int).toNat=y from rfl,hf];simp [Oe,hy]
 have i:=tE none 0 0 u (y:Int) [] w (Is.nil _ _) (Ae _) (by omega) hu64;rw [k,m] at i;have v:=Hd i;clear h hx hw hu hy hf hu64 k m i;go_enter func228,ntmps228;go_wp2_with fail;go_at_call 6;refine v.o.mono ?_;rintro e p ⟨A,n,c,rfl,g,d⟩;have j:n=y:=by rw [←g.1,B3]
 have E:p.cell? ⟨bx,0,none⟩=some (Aca b):=(x.o.pure d).cell 0;have s:=Hd (show B4 p A y (Bi y u) by have h:=g.is;rw [j] at h;exact h);have t:=Hd j;have q:=Hd (H.o.pure d);have r:=Hd d;clear g d B z j;rw [t.o];go_wp2_with fail;go_at_call 227;refine(Q7 b y _ _ l (Bi y u) _ o q.o s.o hm).mono ?_;intro e D a;obtain rfl:=a.1;have f:=Hd a;clear a;go_wp2;go_end0;exact f.o.from_pure r.o
theorem Eh(b y u:Nat)(l:List UInt8)(w:World)(o:Nat→Nat)(h:C2 w o b l)(hy:Br (y:Int)=true)(hf:Ed y u=true)(hu64:(u:Int)<18446744073709551616)(hm:l.length+y≤1048576):
  Calls Ad 137 #[Aca b,Aa Ab (y:Int),Aa Ac (u:Int)] w (Dv w o b (l++Bi y u)):=by
 have H:=Hd h;have j:=Hd hy;have n:=Hd hf;have p:=Hd hu64;clear h hy hf hu64;go_enter func137,ntmps137;go_wp2_with fail;have i:Below w.heap.size w (((w.alloc (.cells #[Aca b] 135)).alloc (.cells #[Aa Ab (y:Int)] 3)).alloc (.cells #[Aa Ac (u:Int)] 26)):=(((Af _ _).alloc (Ae _) _).alloc (by simp) _).alloc (by simp;omega) _;have d:=((Bb.new w 135 #[Aca b]).alloc (.cells #[Aa Ab (y:Int)] 3)).alloc (.cells #[Aa Ac (u:Int)] 26);have f:=(Cv w (.cells #[Aca b] 135) 3 #[Aa Ab (y:Int)]).alloc (.cells #[Aa Ac (u:Int)] 26);have g:=K7 w (.cells #[Aca b] 135) (.cells #[Aa Ab (y:Int)] 3) 26 #[Aa Ac (u:Int)];have a:=Hd i;refine(Ur b y 228 _ _ _ j.o Tryz.call228 ((iQ w.heap.size (w.heap.size+1) (w.heap.size+1+1) b y u l _ o (H.o.pure i) d f g j.o n.o p.o hm).mono fun e w' h=>⟨h.1,h⟩)).mono ?_;rintro e w' ⟨rfl,q,c,k⟩;have m:=Hd (show Dv w o b (l++Bi y u) (.returned (.tuple #[])) w' from Dv.from_pure a.o ⟨rfl,q,c,k⟩);clear i d f g c k a;go_wp2;go_end0;exact m.o
def Lz(s:List UInt8):List Value:=[.string ⟨s.toArray⟩]
theorem D5(s:List UInt8):(Lz s).length=1:=rfl
theorem O6(s:List UInt8):∀u∈Lz s,u.oneCell'=true:=by
 intro u hu;simp [Lz] at hu;subst hu;rfl
abbrev Fm:=Is Lz
theorem Gc{l:List (List UInt8)}(h:Fm w A n l)(hk:k<n):
  ∃b off,A=some ⟨b,off,none⟩∧∃hk:k<l.length,w.cell? ⟨b,off+k,none⟩=some (.string ⟨l[k].toArray⟩):=by
 obtain⟨b,off,e,hk',hc⟩:=h.at_ D5 (by omega) hk;exact⟨b,off,e,hk',by have:=hc 0 (by omega);simpa [Lz] using this⟩
theorem Ya(l:List (List UInt8))(hk:k<l.length):(l.take (k+1)).flatten=(l.take k).flatten++l[k]:=by
 rw [List.take_succ_eq_append_getElem hk,List.flatten_append];simp
theorem fR(l:List (List UInt8))(k:Nat):(l.take k).flatten.length≤l.flatten.length:=by
 conv=>rhs;rw [←List.take_append_drop k l]
 rw [List.flatten_append,Ak];omega
theorem lV(A:Option Addr)(n c:Nat)(l:List (List UInt8))(w:World)(h:Fm w A n l)(hm:l.flatten.length≤1048576)(hn:n≤1048576):
  Calls Ad 231 #[.slice A n c] w fun e w'=>e= .returned (Aa Ab (l.flatten.length:Int))∧∃nd,w'=w.drewN nd:=by
 go_enter func231,ntmps231;go_wp2;go_loopw [2,7] (fun s i wr=>∃k:Nat,k≤n∧i= Aa Ab k∧s= Aa Ab ((l.take k).flatten.length:Int)∧∃nd,wr=w.drewN nd) (fun _ i _=>n-(intOf i).toNat)
 case atStart=>exact⟨0,Am _,rfl,rfl,0,rfl⟩
 case round=>
  obtain⟨k,q,rfl,rfl,nd,rfl⟩:=hrel;by_cases f:k<n
  ·obtain⟨p,r,rfl,d,m⟩:=Gc h f;have j:=Hd (Ya l d);have h1:=fR l (k+1);rw [j.o,Ak] at h1;generalize g:(l.take k).flatten.length=P at*;have b:=Hd g;clear g h;go_wp2;go_roundw
   case rel=>exact⟨k+1,by omega,by go_num,by rw [j.o,Ak,b.o];go_num,⟨_,rfl⟩⟩
   case measure=>simp [intOf];omega
  ·have a:k=n:=by omega
   have e:=Hd (show(l.take k).flatten.length=l.flatten.length by rw [a,Aw (by rw [h.1];exact Ae _)]);clear h a;go_wp2;go_ret;exact⟨by rw [e.o];rfl,nd,rfl⟩
end Go.Proofs.YtejpbijeifjdeaaGreat
namespace Go.Acc
open Go.RowKit Go.ChangeShapes Go.WideShapes Go.Deep
section
variable {H:Type} {enc:TypeId×Value→H} {P:Program} {W W':World}
theorem wE{α:Type}(p:Nat→α→Prop)(n:Nat)(h:∀i,i<n→∃x,p i x):∃l:List α,l.length=n∧∀i (hi:i<l.length),p i l[i]:=by
 induction n with
 |zero=>exact⟨[],rfl,fun i hi=>by simp at hi⟩
 |succ n ih=>
  obtain⟨l,b,c⟩:=ih fun i hi=>h i (by omega)
  obtain⟨x,d⟩:=h n (by omega);refine⟨l++ [x],by simp [b],fun i hi=>?_⟩;by_cases a:i<l.length
  ·rw [List.getElem_append_left a];exact c i a
  ·have:i=n:=by simp at hi;omega
   subst this;rw [List.getElem_append_right (by omega)];simpa [b] using d
variable {w:World} {base:Nat} {spare:Nat→Bool} {held:Bool}
end
end Go.Acc
namespace Go.Proofs.YtejpbijeifjdeaaGreat
variable {w0 w w1 w':World}{e:Ending}{i b n c n2 c1 k d B:Nat}{o:Nat→Nat}{l:List UInt8}{A A1:Option Addr}{p S:Nat→Prop}{g:Option Nat}{T:TypeId}{u v:Value}{cs:List Value}{s vals:List Bv}{m:List (List UInt8×Nat)}
section
open Go.RowKit Go.Acc
structure Nv where
 k:Int
 n:Int
 u:Nat
 s:List UInt8
 A:Option Addr
 an:Nat
 ac:Nat
 B:Option Addr
 bn:Nat
 bc:Nat
abbrev Ab7(x:Nv):Array Value:=#[Aa Ab x.k,Aa Ab x.n,Aa Ac (x.u:Int),.string ⟨x.s.toArray⟩,.slice x.A x.an x.ac,.slice x.B x.bn x.bc]
def Kb(x:Nv):List Value:=[Aa Ab x.k,Aa Ab x.n,Aa Ac (x.u:Int),.string ⟨x.s.toArray⟩,.slice x.A x.an x.ac,.slice x.B x.bn x.bc]
theorem Jh(x:Nv):(Kb x).length=6:=rfl
theorem Wv(x:Nv):∀u∈Kb x,u.oneCell'=true:=by
 intro u hu;simp [Kb] at hu;rcases hu with rfl|rfl|rfl|rfl|rfl|rfl <;>rfl
abbrev It:=Is Kb
abbrev Jj:=Go.Acc.Own Kb 6 34
theorem Hp{l:List Nv}(h:It w A n l){x:Nv}(hx:l[k]?=some x):
  ∃b off,A=some ⟨b,off,none⟩∧w.cell? ⟨b,off+k*6,none⟩=some (Aa Ab x.k)∧w.cell? ⟨b,off+k*6+1,none⟩=some (Aa Ab x.n)∧w.cell? ⟨b,off+k*6+2,none⟩=some (Aa Ac (x.u:Int))∧
   w.cell? ⟨b,off+k*6+3,none⟩=some (.string ⟨x.s.toArray⟩)∧w.cell? ⟨b,off+k*6+4,none⟩=some (.slice x.A x.an x.ac)∧w.cell? ⟨b,off+k*6+5,none⟩=some (.slice x.B x.bn x.bc):=by
 have d:k<n:=by rw [←h.1];exact(List.getElem?_eq_some_iff.1 hx).1
 obtain⟨b,off,e,f,a⟩:=h.at_ Jh (by omega) d;have c:l[k]=x:=(List.getElem?_eq_some_iff.1 hx).2;rw [c] at a;exact⟨b,off,e,a 0 (by omega),a 1 (by omega),a 2 (by omega),a 3 (by omega),a 4 (by omega),a 5 (by omega)⟩
inductive B7(w:World)(p:Nat→Prop):Nv→Tr→Prop
 |mk {x:Nv} {ks:List (List UInt8)} {l:List Tr} {vs:List Nv} (h1:Fm w x.A x.an ks) (ha:∀ad,x.A=some ad→p ad.block) (hac:x.an≤x.ac) (hx:x.an≤1099511627776)
   (h2:It w x.B x.bn vs) (hb:∀ad,x.B=some ad→p ad.block) (hbc:x.bn≤x.bc) (hy:x.bn≤1099511627776) (hl:vs.length=l.length)
   (hc:∀(i:Nat) v t,vs[i]?=some v→l[i]?=some t→B7 w p v t):B7 w p x (.mk x.k x.n x.u x.s ks l)
inductive Gw(w:World)(p:Nat→Prop):Nat→Nv→Tr→List (Nat×Nv)→Prop
 |mk {d:Nat} {x:Nv} {ks:List (List UInt8)} {l:List Tr} {vs:List Nv} {yss:List (List (Nat×Nv))} (h1:Fm w x.A x.an ks) (ha:∀ad,x.A=some ad→p ad.block) (hac:x.an≤x.ac) (hx:x.an≤1099511627776)
   (h2:It w x.B x.bn vs) (hb:∀ad,x.B=some ad→p ad.block) (hbc:x.bn≤x.bc) (hy:x.bn≤1099511627776) (hl:vs.length=l.length) (hyl:yss.length=l.length)
   (hc:∀(i:Nat) v t ys,vs[i]?=some v→l[i]?=some t→yss[i]?=some ys→Gw w p (d+1) v t ys):Gw w p d x (.mk x.k x.n x.u x.s ks l) ((d,x)::yss.flatten)
theorem B7.ord{x:Nv}{t:Tr}(h:B7 w p x t):∀d,∃ys,Gw w p d x t ys:=by
 induction h with
 | @mk x ks l vs h1 ha hac hx h2 hb hbc hy hl hc ih=>
  intro d;have a:∀i,i<l.length→∃ys,∀v t,vs[i]?=some v→l[i]?=some t→Gw w p (d+1) v t ys:=by
   intro i c;obtain⟨ys,hys⟩:=ih i (vs[i]'(by omega)) l[i] (Ai _) (Ai _) (d+1);refine⟨ys,fun v t hv ht=>?_⟩;rw [Ai (by omega)] at hv ht;injection hv with hv
   injection ht with ht
   rw [←hv,←ht];exact hys
  obtain⟨g,b,f⟩:=wE _ l.length a;exact⟨_,.mk h1 ha hac hx h2 hb hbc hy hl b (fun i v t ys hv ht hys=>by
   obtain⟨c,e⟩:=List.getElem?_eq_some_iff.1 hys;rw [←e];exact f i c v t hv ht)⟩
theorem N4{xs:List Value}(h:Rd w A xs)(ha:∀ad,A=some ad→p ad.block)(hk:∀a u,w.cell? a=some u→p a.block→w'.cell? a=some u):Rd w' A xs:=by
 intro j u hu;obtain⟨b,off,rfl,hc⟩:=h j u hu;exact⟨b,off,rfl,hk _ _ hc (ha ⟨b,off,none⟩ rfl)⟩
theorem B7.keep{x:Nv}{t:Tr}(h:B7 w p x t)(hk:∀a u,w.cell? a=some u→p a.block→w'.cell? a=some u):B7 w' p x t:=by
 induction h with
 |mk h1 ha hac hx h2 hb hbc hy hl hc ih=>exact .mk ⟨h1.1,N4 h1.2 ha hk⟩ ha hac hx ⟨h2.1,N4 h2.2 hb hk⟩ hb hbc hy hl ih
theorem B7.pure{x:Nv}{t:Tr}(h:B7 w p x t)(hb:Below w.heap.size w w'):B7 w' p x t:=h.keep fun _ _ hc _=>Ba hb hc
theorem B7.mono{q:Nat→Prop}{x:Nv}{t:Tr}(h:B7 w p x t)(hq:∀k,p k→q k):B7 w q x t:=by
 induction h with
 |mk h1 ha hac hx h2 hb hbc hy hl hc ih=>exact .mk h1 (fun ad h=>hq _ (ha ad h)) hac hx h2 (fun ad h=>hq _ (hb ad h)) hbc hy hl ih
theorem B7.to_{I:Nat→Prop}{o':Nat→Nat}{x:Nv}{t:Tr}(h:B7 w p x t)(ht:To I w o w' o')(hp:∀k,p k→¬I (o k)):B7 w' p x t:=
 h.keep fun _ _ hc hpa=>ht.cell hc (hp _ hpa)
theorem B7.fields{x:Nv}{t:Tr}(h:B7 w p x t):t.k=x.k∧t.n=x.n∧t.u=x.u∧t.s=x.s∧t.ks.length=x.an∧t.l.length=x.bn:=by
 cases h with
 |mk h1 ha hac hx h2 hb hbc hy hl hc=>exact⟨rfl,rfl,rfl,rfl,h1.1,by rw [←h2.1,hl];rfl⟩
theorem Gw.keep{x:Nv}{t:Tr}{ys:List (Nat×Nv)}(h:Gw w p d x t ys)(hk:∀a u,w.cell? a=some u→p a.block→w'.cell? a=some u):Gw w' p d x t ys:=by
 induction h with
 |mk h1 ha hac hx h2 hb hbc hy hl hyl hc ih=>exact .mk ⟨h1.1,N4 h1.2 ha hk⟩ ha hac hx ⟨h2.1,N4 h2.2 hb hk⟩ hb hbc hy hl hyl ih
theorem Gw.pure{x:Nv}{t:Tr}{ys:List (Nat×Nv)}(h:Gw w p d x t ys)(hb:Below w.heap.size w w'):Gw w' p d x t ys:=h.keep fun _ _ hc _=>Ba hb hc
def Tr.pre(d:Nat):Tr→List (Nat×Tr)
 | .mk k n u s ks l=>(d,.mk k n u s ks l)::Tr.preL (d+1) l
where Tr.preL (d:Nat):List Tr→List (Nat×Tr)
 | []=>[]
 |t::r=>Tr.pre d t++Tr.preL d r
end
section
open Go.Acc
theorem pS{a b:List (List UInt8×Tr)}(hp:a.Perm b)(ha:a.Pairwise (fun x y=>x.1<y.1))(hb:b.Pairwise (fun x y=>x.1<y.1)):a=b:=
 hp.eq_of_pairwise (fun _ _ _ _ h h'=>absurd h' (List.lt_asymm h)) ha hb
theorem xK{ps:List Nat}(ks:List (List UInt8))(c:List Tr)(d:Tr)(hk:ks.length=n)(hc:c.length=n)(hd:ks.Nodup)(hp:ps.Perm (List.range n))(ha:∀(i j:Nat) (hi:i<ps.length) (hj:j<ps.length),i<j→ks.getD ps[i] []<ks.getD ps[j] []):
  ps.map (fun p=>(ks.getD p [],c.getD p d))=V2 (ks.zip c):=by
 have b:(List.range n).map (fun p=>(ks.getD p [],c.getD p d))=ks.zip c:=by
  apply List.ext_getElem
  ·simp [hk,hc]
  ·intro i h1 h2;have hi:i<n:=by simpa using h1
   simp only [List.getElem_map,List.getElem_range,List.getElem_zip];rw [Ay,Ai (by omega),Ay,Ai (by omega)];rfl
 refine pS ?_ ?_ (dB _ ?_)
 ·have h1:=hp.map (fun p=>(ks.getD p [],c.getD p d));rw [b] at h1;exact h1.trans (Kz _).symm
 ·rw [List.pairwise_iff_getElem];intro i j hi hj a;rw [List.getElem_map,List.getElem_map];exact ha i j (by simpa using hi) (by simpa using hj) a
 ·rw [List.map_fst_zip (by omega)];exact hd
theorem jC{a b:List Tr}(h:a.Perm b):Tr.costL a=Tr.costL b:=by
 induction h with
 |nil=>rfl
 |cons x _ ih=>rw [Tr.costL,Tr.costL,ih]
 |swap x y l=>rw [Tr.costL,Tr.costL,Tr.costL,Tr.costL];omega
 |trans _ _ h1 h2=>exact h1.trans h2
theorem Zc{a b:List (List UInt8)}(h:a.Perm b):Ci a=Ci b:=by
 induction h with
 |nil=>rfl
 |cons x _ ih=>rw [Ci,Ci,ih]
 |swap x y l=>rw [Ci,Ci,Ci,Ci];omega
 |trans _ _ h1 h2=>exact h1.trans h2
mutual
theorem Rc:∀(t:Tr),Sn t→(Cs t).cost=t.cost
 | .mk k n u s ks l,h=>by
  cases h with
  |mk h1 h2 h3 h4 hl=>
   have f:=Uv l hl;simp only [Hm,Bool.and_eq_true,decide_eq_true_eq] at h1;obtain⟨⟨⟨_,a⟩,_⟩,_⟩:=h1;rw [Cs];by_cases b:k=17
   ·rw [if_pos b];have a:ks.length=l.length:=a b;have g:(Hf l).length=l.length:=by rw [I6,List.length_map]
    have e:=Kz (ks.zip (Hf l));have c:=Zc (e.map (·.1));have d:=jC (e.map (·.2));rw [List.map_fst_zip (by omega)] at c;rw [List.map_snd_zip (by omega)] at d;rw [Tr.cost,Tr.cost,c,d,f]
   ·rw [if_neg b,Tr.cost,Tr.cost,f]
theorem Uv:∀(l:List Tr),(∀t∈l,Sn t)→Tr.costL (Hf l)=Tr.costL l
 | [],_=>rfl
 |t::r,h=>by
  rw [Hf,Tr.costL,Tr.costL,Rc t (h t (by simp)),Uv r (fun x hx=>h x (by simp [hx]))]
end
mutual
theorem cC:∀(t:Tr) (d:Nat),(Tr.pre d t).length≤t.cost
 | .mk k n u s ks l,d=>by
  have:=Yo l (d+1);rw [Tr.pre,Tr.cost,List.length_cons];omega
theorem Yo:∀(l:List Tr) (d:Nat),(Tr.pre.Tr.preL d l).length≤Tr.costL l
 | [],_=>by simp [Tr.pre.Tr.preL]
 |t::r,d=>by
  have h1:=cC t d;have h2:=Yo r d;rw [Tr.pre.Tr.preL,Tr.costL,Ak];omega
end
theorem X2:∀{l:List Tr} {t:Tr},t∈l→t.cost+40≤Tr.costL l
 | [],_,h=>by simp at h
 |x::r,t,h=>by
  rw [Tr.costL];rcases List.mem_cons.1 h with rfl|h
  ·omega
  ·have:=X2 h;omega
theorem Rn:∀(l:List (List UInt8)) (s:List UInt8),s∈l→s.length≤Ci l
 | [],_,h=>by simp at h
 |x::r,s,h=>by
  rw [Ci];rcases List.mem_cons.1 h with rfl|h
  ·omega
  ·have:=Rn r s h;omega
mutual
theorem cD:∀(t:Tr) (d:Nat) (y:Nat×Tr),y∈Tr.pre d t→∀s∈y.2.ks,s.length≤t.cost
 | .mk k n u s ks l,d,y,hy,z,hz=>by
  rw [Tr.pre] at hy;rw [Tr.cost];rcases List.mem_cons.1 hy with rfl|hy
  ·have:=Rn ks z hz;omega
  ·have:=Yp l (d+1) y hy z hz;omega
theorem Yp:∀(l:List Tr) (d:Nat) (y:Nat×Tr),y∈Tr.pre.Tr.preL d l→∀s∈y.2.ks,s.length≤Tr.costL l
 | [],_,y,hy,_,_=>by simp [Tr.pre.Tr.preL] at hy
 |t::r,d,y,hy,z,hz=>by
  rw [Tr.pre.Tr.preL] at hy;rw [Tr.costL];rcases List.mem_append.1 hy with h|h
  ·have:=cD t d y h z hz;omega
  ·have:=Yp r d y h z hz;omega
end
end
section
open Go.RowKit Go.Acc
theorem Aa6(s:List UInt8)(w:World):∃c w',(convert 9 22 (.string ⟨s.toArray⟩)).run Ad w= .ok (.slice (some ⟨w.heap.size,0,none⟩) s.length c) w'∧B4 w' (some ⟨w.heap.size,0,none⟩) s.length s∧Below w.heap.size w w':=by
 refine⟨_,_,run_bytes_of_string w 9 22 5 ⟨s.toArray⟩ underlying9 underlying22 underlying5,?_,(Af _ _).drew.alloc (Ae _) _⟩;refine⟨rfl,fun j u hu=>⟨_,_,rfl,?_⟩⟩;have b:j<s.length:=by
  have:=(List.getElem?_eq_some_iff.1 hu).1;rw [Cd C0] at this;simpa using this
 have a:=heap_alloc_new w.drew (.cells (bytesRow ⟨s.toArray⟩ (grownCap w s.length 0 5)) 5 ((bytesRow ⟨s.toArray⟩ (grownCap w s.length 0 5)).size,(bytesRow ⟨s.toArray⟩ (grownCap w s.length 0 5)).size+1));change _[w.heap.size]?=_ at a;rw [show(⟨s.toArray⟩:ByteArray).size=s.length from rfl,cell_of_row _ _ _ _ _ _ a,Nat.zero_add,bytesRow_at ⟨s.toArray⟩ _ j (by simpa using b),←hu];have h1:=H6 C0 s j 0 b (by omega);rw [Nat.mul_one,Nat.add_zero] at h1;rw [h1];rfl
theorem G6(b n c:Nat)(A:Option Addr)(L:List (List UInt8))(l:List UInt8)(w:World)(o:Nat→Nat)(h:C2 w o b l)(hA:Fm w A n L)(ho:∀ad,A=some ad→o ad.block≠1)(hm:l.length+L.flatten.length≤1048576)(hn:n≤1000):
  Calls Ad 138 #[Aca b,.slice A n c] w (Dv w o b (l++L.flatten)):=by
 have H:=Hd h;have q:=Hd hA;have a:=Hd ho;have R:=Hd hm;obtain⟨m,y⟩:∃m,l.length=m:=⟨_,rfl⟩;obtain⟨k,M⟩:∃k,L.flatten.length=k:=⟨_,rfl⟩;have ah:m+k≤1048576:=by omega
 obtain⟨A',n',c',u,_⟩:=h;have D:w.cell? ⟨b,2,none⟩=some (Aa Ab 1048576):=u.cell 2;have F:=Hd y;have HK:=Hd M;have d:=lV A n c L w.drew hA (by omega) (by omega);rw [M] at d;have G:=Hd d;clear u hA ho hm y M d;have P:IntKind.i64.wrap (1048576-(m:Int))=1048576-(m:Int):=iA _ (by omega);have N:decide ((1048576:Int)-(m:Int)<(k:Int))=false:=decide_eq_false (by omega);go_enter func138,ntmps138;go_wp2_with (go_at_call 230;refine(Gm H.o).mono ?_;rintro e w' ⟨rfl,rfl⟩);go_region_held3 (fun w'=>w'.cell? ⟨b,2,none⟩=some (Aa Ab 1048576)) (first|with_reducible exact D|with_reducible exact Bc D|with_reducible exact Ih _ D) (first|(go_at_call 231;(with_reducible refine G.o.mono ?_);rintro e w' ⟨rfl,X,rfl⟩)|(go_at_call 133;(with_reducible refine(Dt m (H.o.drewN _) F.o).mono ?_);rintro e w' ⟨rfl,rfl⟩));have f:=Hd (show Below w.heap.size w (w.drewN (1+X)) from below_drewN (Af _ _) _);generalize w.drewN (1+X)=W at*;clear D P N;go_wp2_with fail;go_loopw [26] (fun i wr=>∃j:Nat,j≤n∧i= Aa Ab j∧∃o',C2 wr o' b (l++(L.take j).flatten)∧To (fun i=>i=1) w o wr o'∧Fm wr A n L∧∀ad,A=some ad→o' ad.block≠1) (fun i _=>n-(intOf i).toNat)
 case atStart=>exact⟨0,Am _,rfl,o,by rw [List.take_zero,List.flatten_nil,List.append_nil];exact H.o.pure f.o,To.pure _ f.o o,q.o.pure f.o,a.o⟩
 case round=>
  clear H q f a;obtain⟨j,hj,rfl,o',u,ht,I,ho⟩:=hrel;have f:=Hd u;have S:=Hd ht;have q:=Hd I;have a:=Hd ho;have V:=I.1;clear u ht I ho;by_cases K:j<n
  ·obtain⟨b1,o1,rfl,J,T⟩:=Gc q.o K;have O:=Ya L J;have h1:=fR L (j+1);rw [O,Ak] at h1;have E:=Hd (show(l++(L.take j).flatten).length+L[j].length≤1048576 by have:=R.o;rw [Ak];omega);have G:=Hd O;have af:(0:Int)≤(j:Int):=by omega
   obtain⟨Q,p⟩:∃x,L[j]=x:=⟨_,rfl⟩;rw [p] at T;obtain⟨cj,wj,ag,U,t⟩:=Aa6 Q wr;have HI:=Hd U;have r:=Hd t;have s:=Hd p;clear O h1 U t p V R;go_wp2_with fail;go_at_call 227;refine(Q7 b Q.length _ _ (l++(L.take j).flatten) Q _ o' (f.o.pure r.o) HI.o (by rw [←s.o];exact E.o)).mono ?_;rintro e w2 ⟨rfl,Y,v,B⟩;have HR:=Hd (show C2 w2 Y b (l++(L.take (j+1)).flatten) from by rw [G.o,s.o,←List.append_assoc];exact v);have C:=To.from_pure r.o B;have g:=Hd C;clear v B C;go_wp2;go_roundw
   case rel=>
    refine⟨j+1,by omega,by go_num,Y,HR.o,S.o.trans g.o,q.o.fr g.o.fr (fun ad h=>a.o ad h),fun ad h=>?_⟩;injection h with h
    subst h;have z:=Bu T;rw [g.o.ow _ z];exact a.o ⟨b1,o1,none⟩ rfl
   case measure=>simp [intOf];omega
  ·have Z:=Hd (show(L.take j).flatten=L.flatten by rw [Aw (by omega)]);clear V;go_wp2;go_end0;exact⟨rfl,o',by rw [←Z.o];exact f.o,S.o⟩
theorem dL(b:Nat)(l:List UInt8)(w:World)(o:Nat→Nat)(h:C2 w o b l)(hm:l.length≤1048576):
  Calls Ad 139 #[Aca b] w (Zp w l 0):=by
 have H:=Hd h;obtain⟨A,n,c,k,g,_⟩:=h;have t:w.cell? ⟨b,1,none⟩=some (.slice A n c):=k.cell 1;have q:=Hd g;have p:=Hd (show n≤1099511627776 by have:=g.1;omega);clear k g;go_enter func139,ntmps139;go_wp2_with (go_at_call 230;refine(Gm H.o).mono ?_;rintro e s ⟨rfl,rfl⟩);refine(Oa A n c l _ q.o.is p.o).mono ?_;rintro e s ⟨m,r,f,rfl,j,i⟩;have d:=Hd j;have a:=Hd i;clear j i;go_wp2;go_ret2;exact⟨m,r,f,rfl,d.o,a.o⟩
theorem lU(w:World):
  Calls Ad 105 #[Aa Ab 1048576] w fun e w'=>∃b,e= .returned (Aca b)∧Bb w' b 212 #[.bool true,.slice none 0 0,Aa Ab 1048576,Aa Ab 0]∧w.heap.size≤b∧Below w.heap.size w w':=by
 go_enter func105,ntmps105;go_wp2;go_ret;exact⟨_,rfl,Bb.new w _ _,Ae _,(Af _ _).alloc (Ae _) _⟩
abbrev V3:=Int×Int×Int
def vc(x:V3):List Value:=[Aa Ab x.1,Aa Ab x.2.1,Aa Ac x.2.2]
theorem I9(x:V3):(vc x).length=3:=rfl
theorem O8(x:V3):∀u∈vc x,u.oneCell'=true:=by
 intro u hu;simp [vc] at hu;rcases hu with rfl|rfl|rfl <;>rfl
abbrev Ef:=Is vc
abbrev Gd:=Go.Acc.Own vc 3 169
theorem nM{l:List V3}(h:Ef w A n l)(hk:k<n):
  ∃b off,A=some ⟨b,off,none⟩∧∃hk:k<l.length,w.cell? ⟨b,off+k*3,none⟩=some (Aa Ab l[k].1)∧w.cell? ⟨b,off+k*3+1,none⟩=some (Aa Ab l[k].2.1)∧w.cell? ⟨b,off+k*3+2,none⟩=some (Aa Ac l[k].2.2):=by
 obtain⟨b,off,e,c,a⟩:=h.at_ I9 (by omega) hk;exact⟨b,off,e,c,a 0 (by omega),a 1 (by omega),a 2 (by omega)⟩
theorem Ot:(Ad.info? 169).map (fun i=>(i.zero,i.size,i.bytes))=some (some (.agg #[Aa Ab 0,Aa Ab 0,Aa Ac 0]),3,24):=by kernel_rfl
def lH(w:World)(m:List V3)(e:Ending)(w':World):Prop:=
 ∃A n c,e= .returned (.slice A n c)∧Gd w' w.heap.size A n c m∧Below w.heap.size w w'
theorem dS{l m:List V3}(h:Gd w' w.heap.size A n c l)(hl:l=m)(h1:Below w.heap.size w w1)(hg:Fr S w1 w')(hS:∀k,k<w.heap.size→¬S k):lH w m (.returned (.slice A n c)) w':=by
 subst hl;exact⟨A,n,c,rfl,h,h1.trans (hg.belowB hS h1.size)⟩
theorem Ut(A:Option Addr)(n c:Nat)(l:List V3)(w:World)(h:Ef w A n l)(hl:n≤65536):
  Calls Ad 295 #[.slice A n c] w (lH w l):=by
 have f:=fun(w:World) (A:Option Addr) (n c:Nat)=>Lib.run_eql_slice_nil (P:=Ad) w 144 169 A n c 0 0 underlying144
 rcases A with _|a
 ·obtain⟨rfl,rfl⟩:=h.none_ I9 (by omega);clear h hl;go_enter func295,ntmps295;go_wp2_with fail;go_ret;exact⟨none,0,0,rfl,Own.nil _ _,Af _ _⟩
 ·have g:Ef (w.alloc (.cells #[] 169)) (some a) n l:=h.alloc _;have m:Gd (w.alloc (.cells #[] 169)) w.heap.size (some ⟨w.heap.size,0,none⟩) 0 0 []:=⟨rfl,World.ownsRow_lit w #[] 0 (Ae _) (Am _) rfl⟩;have i:=Hd g;clear h g;go_enter func295,ntmps295;go_wp2_with (at_builtin;refine Fl _ rfl (.tmp 5) (.tmp 6) _ rfl 169 _ 3 24 underlying144 Ot rfl (by omega) I9 O8 _ _ _ _ _ rfl m _ _ _ _ rfl i.o (by omega) (by simp) ?_;intro p r t b d e);go_ret;exact dS (by simpa using b) rfl ((Af _ _).alloc (Ae _) _) d (by rintro k s ⟨q,h,j⟩;injection h with h;subst h;simp at j;omega)
def yC(w:World)(m:List V3)(x:Value)(e:Ending)(w':World):Prop:=
 ∃A n c,e= .returned (.tuple #[.slice A n c,x])∧Gd w' w.heap.size A n c m∧Below w.heap.size w w'
def J2(w:World)(B b:Nat)(g:Option Nat)(l:List V3):Prop:=
 ∃A n c,Bb w b 216 #[.slice A n c,.bool true]∧Gd w B A n c l∧A.map (·.block)=g∧n≤65536∧B≤b
def Va(l:List V3)(s:Int):List V3:=if 0≤s∧s≤l.length then l.drop s.toNat else []
def jS(l:List V3)(s:Int):Bool:=decide (0≤s∧s≤l.length)
def jT(l:List V3)(s:Int):Int:=if 0≤s∧s≤l.length then 0 else 140
theorem Pv(l:List V3)(k:Nat)(h:k≤l.length):Va l k=l.drop k∧jS l k=true∧jT l k=0:=
 ⟨by unfold Va;rw [if_pos (by omega)];simp,decide_eq_true (by omega),if_pos (by omega)⟩
theorem Sb(l:List V3)(s:Int)(h:s<0∨(l.length:Int)<s):Va l s=[]∧jS l s=false∧jT l s=140:=
 ⟨if_neg (by omega),decide_eq_false (by omega),if_neg (by omega)⟩
theorem Nz(b:Nat)(w:World)(h:w.cell? ⟨b,1,none⟩=some (.bool true)):
  Calls Ad 218 #[Aca b] w (Ab6 (.bool false) w):=by
 go_enter func218,ntmps218;go_wp2;go_ret;exact⟨rfl,rfl⟩
theorem U9(B b:Nat)(g:Option Nat)(l:List V3)(s:Int)(w:World)(h:J2 w B b g l):
  Calls Ad 219 #[Aca b,Aa Ab s] w (yC w (Va l s) (.bool (jS l s))):=by
 obtain⟨A,n,c,x,f,_,E,_⟩:=h;have D:w.cell? ⟨b,0,none⟩=some (.slice A n c):=x.cell 0;have t:=f.is;have y:=f.cap.1;have d:=f.1;clear x f;by_cases h1:s<0∨(n:Int)<s
 ·obtain⟨j,m,_⟩:=Sb l s (by rw [d];exact h1);rw [j,m];clear t d j m;rcases h1 with h1|h1
  ·go_enter func219,ntmps219;go_wp2;go_ret2;exact⟨none,0,0,rfl,Own.nil _ _,Af _ _⟩
  ·have h0:¬s<0:=by omega
   go_enter func219,ntmps219;go_wp2;go_ret2;exact⟨none,0,0,rfl,Own.nil _ _,Af _ _⟩
 ·obtain⟨k,rfl⟩:=Int.eq_ofNat_of_zero_le (a:=s) (by omega);have z:k≤n:=by omega
  obtain⟨j,m,_⟩:=Pv l k (by rw [d];exact z);rw [j,m];have v:=Hd t;clear t h1 j m d;go_enter func219,ntmps219;go_wp2_with fail
  ·refine(Ut A _ _ (l.drop k) w (v.o.cut0 (by assumption) y) (by omega)).mono ?_;rintro e C ⟨p,u,q,rfl,r,i⟩;go_wp2;go_ret2;exact⟨p,u,q,rfl,r,i⟩
  ·refine(Ut _ _ _ (l.drop k) w (v.o.cut1 I9) (by omega)).mono ?_;rintro e C ⟨p,u,q,rfl,r,i⟩;go_wp2;go_ret2;exact⟨p,u,q,rfl,r,i⟩
theorem Nw(B b:Nat)(g:Option Nat)(l:List V3)(s:Int)(w:World)(h:J2 w B b g l):
  Calls Ad 130 #[Aca b,Aa Ab s] w (yC w (Va l s) (Aa Ab (jT l s))):=by
 have u:=Hd h;obtain⟨A,n,c,x,f,_,F,_⟩:=h;have E:w.cell? ⟨b,1,none⟩=some (.bool true):=x.cell 1;have d:=f.1;clear x f;by_cases h1:s<0∨(n:Int)<s
 ·obtain⟨j,m,p⟩:=Sb l s (by rw [d];exact h1);rw [j,p];have C:=Hd j;have q:=Hd m;clear d j m p h1;go_enter func130,ntmps130;go_wp2_with (go_at_call 218;refine(Nz b _ (by assumption)).mono ?_;rintro e r ⟨rfl,rfl⟩);refine(U9 B b g l s w u.o).mono ?_;rw [C.o,q.o];rintro e r ⟨t,z,v,rfl,y,i⟩;go_wp2;go_ret2;exact⟨none,0,0,rfl,Own.nil _ _,i⟩
 ·obtain⟨k,rfl⟩:=Int.eq_ofNat_of_zero_le (a:=s) (by omega);have D:k≤n:=by omega
  obtain⟨j,m,p⟩:=Pv l k (by rw [d];exact D);rw [p];have q:=Hd m;clear h1 j m p d;go_enter func130,ntmps130;go_wp2_with (go_at_call 218;refine(Nz b _ (by assumption)).mono ?_;rintro e r ⟨rfl,rfl⟩);refine(U9 B b g l k w u.o).mono ?_;rw [q.o];rintro e r ⟨t,z,v,rfl,y,i⟩;go_wp2;go_ret2;exact⟨t,z,v,rfl,y,i⟩
theorem Pz(B b:Nat)(g:Option Nat)(l:List V3)(w:World)(h:J2 w B b g l):
  Calls Ad 284 #[Aca b] w (Ab6 (Aa Ab l.length) w):=by
 obtain⟨A,n,c,hb,hown,_,hl,_⟩:=h;obtain ⟨c0,c1⟩:=hb.c2;rw [hown.1];clear hb hown;go_enter func284,ntmps284;go_wp2_with (go_at_call 218;refine(Nz b _ (by assumption)).mono ?_;rintro e w' ⟨rfl,rfl⟩);go_ret;exact⟨rfl,rfl⟩
def yE(w:World)(b:Nat)(g:Option Nat)(T:World→Option Nat→Prop)(er:Int)(e:Ending)(w':World):Prop:=
 e= .returned (Aa Ab er)∧∃g',T w' g'∧(g'=g∨g'=some w.heap.size)∧Fr (fun k=>k=b∨some k=g) w w'
theorem J2.pure{l:List V3}(h:J2 w B b g l)(hb:Below w.heap.size w w'):J2 w' B b g l:=by
 obtain⟨A,n,c,h1,h2,h3⟩:=h;exact⟨A,n,c,h1.pure hb,h2.pure hb,h3⟩
theorem J2.fr{l:List V3}(h:J2 w B b g l)(hb:Fr S w w')(h1:¬S b)(h2:∀k,g=some k→¬S k):J2 w' B b g l:=by
 obtain⟨A,n,c,b1,b2,b3,b4⟩:=h;exact⟨A,n,c,b1.fr hb h1,b2.fr hb (fun ad h=>h2 _ (by rw [←b3,h];rfl)),b3,b4⟩
theorem wW(hb:Bb w b T (u::cs).toArray):Bb (w.setCell ⟨b,0,none⟩ v) b T (v::cs).toArray:=by
 have:=hb.set_ 0 v;simpa using this
theorem wX{l:List V3}(hT:169≠T)(hb:Bb w b T (u::cs).toArray)(ho:Gd w B A n c l):Gd (w.setCell ⟨b,0,none⟩ v) B A (n-k) c (l.take (n-k)):=by
 refine(ho.fr (Fr.setCell (S:=fun k=>k=b) (Fr.refl _ _) (fun _=>rfl) v) ?_).take I9 (by omega);rintro ad rfl rfl;exact H8 ho.2 hb hT (by simp [Value.ownBlock])
theorem sZ{A':Option Addr}{n' c':Nat}{l m:List V3}(hT:169≠T)(hb:Bb w' b T (u::cs).toArray)(_ho:Gd w' B A n c l)(ho:Gd w' w.heap.size A' n' c' m)(_hbw:Below w.heap.size w w')(hlt:b<w.heap.size):
  Gd (w'.setCell ⟨b,0,none⟩ v) w.heap.size A' n' c' m:=by
 have _:=hT;have _:=hb;refine ho.fr (Fr.setCell (S:=fun k=>k=b) (Fr.refl _ _) (fun _=>rfl) v) ?_;rintro a rfl rfl;have:=(ho.addr a rfl).2.1;omega
theorem oV{l:List V3}(hg:A.map (·.block)=g)(hb:Bb w1 b 216 #[.slice A n c,.bool true])(ho:Gd w1 B A1 (n+n2) c1 l)
  (hf:Fr (fun k=>∃ad,A=some ad∧k=ad.block) w w1) (hat:A1.map (·.block)=A.map (·.block)∨A1.map (·.block)=some w.heap.size) (hn:n+n2≤65536) (hB:B≤b) (hlt:b<w.heap.size):
  ∃g',J2 (w1.setCell ⟨b,0,none⟩ (.slice A1 (n+n2) c1)) B b g' l∧(g'=g∨g'=some w.heap.size)∧Fr (fun k=>k=b∨some k=g) w (w1.setCell ⟨b,0,none⟩ (.slice A1 (n+n2) c1)):=by
 have a:Fr (fun k=>k=b) w1 (w1.setCell ⟨b,0,none⟩ (.slice A1 (n+n2) c1)):=Fr.setCell (S:=fun k=>k=b) (Fr.refl _ _) (fun _=>rfl) _;refine⟨A1.map (·.block),⟨A1,n+n2,c1,hb.set_ 0 _,ho.fr a ?_,rfl,hn,hB⟩,?_,?_⟩
 ·rintro ad rfl rfl;exact H8 ho.2 hb (by decide) (by simp [Value.ownBlock])
 ·rw [←hg];exact hat
 ·refine(hf.mono ?_).setCell (fun _=> .inl rfl) _;rintro i _ ⟨ad,rfl,rfl⟩;exact .inr (by rw [←hg];rfl)
theorem oX(B b:Nat)(g:Option Nat)(l m:List V3)(A2:Option Addr)(n2 c2:Nat)(w:World)(h:J2 w B b g l)(hm:Ef w A2 n2 m)(hlm:l.length+m.length≤65536)(hB:B≤w.heap.size):
  Calls Ad 285 #[Aca b,.slice A2 n2 c2] w (yE w b g (fun w' g'=>J2 w' B b g' (l++m)) 0):=by
 obtain⟨A,n,c,j,a,C,I,r⟩:=h;obtain ⟨F,y⟩:=j.c2;rw [a.1,hm.1] at hlm;have k:∀ad,A=some ad→ad.block≠b:=by
  rintro ad rfl e;exact H8 a.2 j (by decide) (by simp [Value.ownBlock,e])
 have x:=Hd a;have u:=Hd hm;have t:=Hd j;have v:=Hd k;have s:=j.lt;clear j a hm k;go_enter func285,ntmps285;go_wp2_with (first|(go_at_call 218;refine(Nz b _ (by assumption)).mono ?_;rintro e w' ⟨rfl,rfl⟩)|((at_builtin;refine Fl _ rfl (.tmp 24) (.tmp 25) _ rfl 169 _ 3 24 underlying144 Ot rfl (by omega) I9 O8 _ _ _ _ _ rfl x.o _ _ _ _ rfl u.o (by omega) hB ?_;intro E y D f d i);have p:=t.o.fr d (by rintro⟨ad,h,z⟩;exact v.o ad h z.symm);have G:D.cell? ⟨b,0,none⟩=some (.slice A n c):=p.cell 0;have H:=p.frozen 0;have q:=Hd p;clear p));go_ret;exact⟨rfl,oV C q.o f d i hlm r s⟩
def sY(l:List V3)(s:Int):Int:=if 0≤s∧s≤l.length then 0 else 140
def kM(l:List V3)(s:Int):List V3:=if 0≤s∧s≤l.length then l.drop (l.length-s.toNat) else []
def kN(l:List V3)(s:Int):List V3:=if 0≤s∧s≤l.length then l.take (l.length-s.toNat) else l
theorem gE(l:List V3)(k:Nat)(h:k≤l.length):kM l k=l.drop (l.length-k)∧kN l k=l.take (l.length-k)∧sY l k=0:=
 ⟨by unfold kM;rw [if_pos (by omega)];simp,by unfold kN;rw [if_pos (by omega)];simp,if_pos (by omega)⟩
theorem zX(l:List V3)(s:Int)(h:s<0∨(l.length:Int)<s):kM l s=[]∧kN l s=l∧sY l s=140:=
 ⟨if_neg (by omega),if_neg (by omega),if_neg (by omega)⟩
def yD(w:World)(b:Nat)(T:World→Prop)(m:List V3)(er:Int)(e:Ending)(w':World):Prop:=
 ∃A n c,e= .returned (.tuple #[.slice A n c,Aa Ab er])∧Gd w' w.heap.size A n c m∧T w'∧Fr (fun k=>k=b) w w'
theorem tA(B b:Nat)(g:Option Nat)(l:List V3)(s:Int)(w:World)(h:J2 w B b g l)(hs: -9223372036854775808≤s)(hs2:s≤9223372036854775807):
  Calls Ad 201 #[Aca b,Aa Ab s] w (yD w b (fun w'=>J2 w' B b g (kN l s)) (kM l s) (sY l s)):=by
 have j:=Hd h;obtain⟨n,d,J⟩:∃n,l.length=n∧n≤65536:=by obtain⟨A,n,c,I,i,O,J,E⟩:=h;exact⟨n,i.1,J⟩
 clear h;by_cases h1:s<0∨(n:Int)<s
 ·obtain⟨y,z,C⟩:=zX l s (by rw [d];exact h1);rw [y,z,C];clear y z C;rcases h1 with h1|h1
  ·obtain⟨m,D,p⟩:=Sb l (-1) (.inl (by omega));have u:=Hd m;have v:=Hd p;have r:=Hd d;clear m D p d;go_enter func201,ntmps201;go_wp2_with (go_at_call 284;refine(Pz B b g l _ j.o).mono ?_;rw [r.o];rintro e w' ⟨rfl,rfl⟩);refine(Nw B b g l (-1) w j.o).mono ?_;rw [u.o,v.o];rintro e w' ⟨t,G,x,rfl,F,f⟩;go_wp2;go_ret2;exact⟨t,G,x,rfl,F,j.o.pure f,Fr.of_below f _⟩
  ·obtain⟨m,D,p⟩:=Sb l ((n:Int)-s) (.inl (by omega));have u:=Hd m;have v:=Hd p;have r:=Hd d;have h0:¬s<0:=by omega
   clear m D p d;go_enter func201,ntmps201;go_wp2_with (go_at_call 284;refine(Pz B b g l _ j.o).mono ?_;rw [r.o];rintro e w' ⟨rfl,rfl⟩);refine(Nw B b g l _ w j.o).mono ?_;rw [u.o,v.o];rintro e w' ⟨t,G,x,rfl,F,f⟩;go_wp2;go_ret2;exact⟨t,G,x,rfl,F,j.o.pure f,Fr.of_below f _⟩
 ·obtain⟨k,rfl⟩:=Int.eq_ofNat_of_zero_le (a:=s) (by omega);have Q:k≤n:=by omega
  obtain⟨y,z,C⟩:=gE l k (by rw [d];exact Q);rw [y,z,C];obtain⟨m,D,p⟩:=Pv l (n-k) (by omega);have M:((n-k:Nat):Int)=(n:Int)-k:=by omega
  rw [M] at m p;have u:=Hd m;have v:=Hd p;have r:=Hd d;clear y z C m D p M h1 d;obtain⟨A,n0,c,I,i,O,J,E⟩:=j.o;obtain rfl:n=n0:=r.o.symm.trans i.1;have P:=Hd I;have L:=Hd i;have K:=I.lt;have N:=i.cap.1;clear I i;go_enter func201,ntmps201;go_wp2_with (go_at_call 284;refine(Pz B b g l _ j.o).mono ?_;rw [r.o];rintro e w' ⟨rfl,rfl⟩);refine(Nw B b g l _ w j.o).mono ?_;rw [u.o,v.o];rintro e w' ⟨t,G,x,rfl,F,f⟩;have H:=P.o.pure f;have R:w'.cell? ⟨b,0,none⟩=some (.slice A n c):=H.cell 0;have U:=H.frozen 0;have q:=Hd H;clear H;go_wp2;go_ret2;rw [r.o];exact⟨t,G,x,rfl,sZ (T:=216) (by decide) (cs:=[.bool true]) q.o (L.o.pure f) F f K,⟨A,n-k,c,wW q.o,wX (by decide) q.o (L.o.pure f),O,by omega,E⟩,Fr.setCell (S:=fun k=>k=b) (Fr.of_below f _) (fun _=>rfl) _⟩
theorem J2.ge{l:List V3}(h:J2 w B b g l):B≤b∧b<w.heap.size∧∀k,g=some k→B≤k∧k<w.heap.size∧k≠b:=by
 obtain⟨A,n,c,h1,h2,rfl,_,h4⟩:=h;refine⟨h4,h1.lt,fun k hk=>?_⟩;cases A with
 |none=>cases hk
 |some ad=>
  injection hk with hk
  subst hk;exact⟨(h2.addr ad rfl).2.1,(h2.addr ad rfl).2.2,fun e=>H8 h2.2 h1 (by decide) (by simp [Value.ownBlock,e])⟩
theorem J2.rebase{B':Nat}{l:List V3}(h:J2 w B b g l)(hB:B'≤B):J2 w B' b g l:=by
 obtain⟨A,n,c,h1,h2,h3,h4,h5⟩:=h;exact⟨A,n,c,h1,h2.rebase hB,h3,h4,by omega⟩
def vv(v:Bv):V3:=(v.t,v.w,v.n)
def Ms(w:World)(o:Nat→Nat)(b:Nat)(s:List Bv):Prop:=∃g,J2 w 0 b g (s.map vv)∧o b=3∧∀k,g=some k→o k=3
def J7(n:Nat):List Value:=[Aa Ab (n:Int)]
theorem Fw(x:Nat):(J7 x).length=1:=rfl
theorem fT(x:Nat):∀u∈J7 x,u.oneCell'=true:=by
 intro u hu;simp [J7] at hu;subst hu;rfl
abbrev K5:=Go.Acc.Own Lz 1 9
abbrev Qy:=Go.Acc.Own J7 1 3
def Gx(w:World)(o:Nat→Nat)(i p:Nat)(m:List (List UInt8×Nat)):Prop:=
 ∃A1 A2 n c1 c2 ks ns,Bb w p 220 #[.slice A1 n c1,.slice A2 n c2,.bool true]∧K5 w 0 A1 n c1 ks∧Qy w 0 A2 n c2 ns∧Of o A1 i∧Of o A2 i∧o p=i∧
  ks.Pairwise (fun x y=>Op.bytesLess x y=true)∧(∀s,Cj m s=Cj (ks.zip ns) s)∧n≤m.length∧∀a∈ns,a≤1048576
def Lo(w:World)(o:Nat→Nat)(p:Nat)(m:List (Nat×List UInt8)):Prop:=
 o p=7∧∃n D,w.ownsMap (H:=Unit) Ad 26 (plainElem Ad 9) p n D∧n≤m.length∧∀a s,m.find? (fun x=>x.1==a)=some (a,s)→D.atKey (.int .u64 a) (.lit (.string []))= .lit (.string s)
structure Bp where
 β:Nat
 bb:Nat
 sb:Nat
 kb:Nat
 tb:Nat
 lb:Nat
 mb:Nat
def Gv(M:Bp)(fl:Int)(w:World)(o:Nat→Nat)(vals:List Bv):Prop:=
 ∃A n c,Bb w M.β 148 #[Aca M.bb,Aca M.sb,Aa Ab 0,Aa Ab fl,Aca M.kb,Aca M.tb,Aca M.lb,.map (some M.mb),.slice A n c,.bool true]∧
  Gd w 0 A n c (vals.map vv)∧Of o A 8∧o M.β=2
structure BM(M:Bp)(fl:Int)(w:World)(o:Nat→Nat)(b:Bd):Prop where
 head:Gv M fl w o b.vals
 buf:C2 w o M.bb b.b
 stk:Ms w o M.sb b.s
 keys:Gx w o 4 M.kb b.keys
 texts:Gx w o 5 M.tb b.texts
 lists:Gx w o 6 M.lb b.lists
 names:Lo w o M.mb b.names
def Dg(i:Nat):Prop:=1≤i∧i≤8
def D3(M:Bp)(fl:Int)(b:Bd)(w:World)(o:Nat→Nat)(e:Ending)(w':World):Prop:=
 e= .returned (.tuple #[])∧∃o',BM M fl w' o' b∧To Dg w o w' o'
section
variable {I:Nat→Prop} {w w':World} {o o':Nat→Nat} {M:Bp} {fl:Int} {b:Bd}
theorem Ms.to_{p:Nat}(h:Ms w o p s)(ht:To I w o w' o')(hI:¬I 3):Ms w' o' p s:=by
 obtain⟨g,hs,h1,h2⟩:=h;have hg:=hs.ge;refine⟨g,hs.fr ht.fr (by rw [h1];exact hI) (fun k hk=>by rw [h2 k hk];exact hI),by rw [ht.ow _ hg.2.1];exact h1,fun k hk=>by rw [ht.ow _ (hg.2.2 k hk).2.1];exact h2 k hk⟩
theorem Gx.to_{p:Nat}(h:Gx w o i p m)(ht:To I w o w' o')(hI:¬I i):Gx w' o' i p m:=by
 obtain⟨A1,A2,n,c1,c2,ks,ns,hb,h1,h2,o1,o2,op,rest⟩:=h;exact⟨A1,A2,n,c1,c2,ks,ns,hb.to_ ht (by rw [op];exact hI),h1.to_ o1 ht hI,h2.to_ o2 ht hI,o1.to_ h1 ht,o2.to_ h2 ht,by rw [ht.ow _ hb.lt];exact op,rest⟩
theorem Lo.to_{p:Nat}{m:List (Nat×List UInt8)}(h:Lo w o p m)(ht:To I w o w' o')(hI:¬I 7):Lo w' o' p m:=by
 obtain⟨op,n,D,hm,rest⟩:=h;have hlt:=hm.lt;refine⟨by rw [ht.ow _ hlt];exact op,n,D,?_,rest⟩;obtain⟨es,clock,hb,F⟩:=hm;exact⟨es,clock,(ht.keep hlt (by rw [op];exact hI)).trans hb,F⟩
theorem Gv.to_(h:Gv M fl w o vals)(ht:To I w o w' o')(h2:¬I 2)(h8:¬I 8):Gv M fl w' o' vals:=by
 obtain⟨A,n,c,hb,ho,h1,op⟩:=h;exact⟨A,n,c,hb.to_ ht (by rw [op];exact h2),ho.to_ h1 ht h8,h1.to_ ho ht,by rw [ht.ow _ hb.lt];exact op⟩
theorem BM.to_(h:BM M fl w o b)(ht:To I w o w' o')(hI:∀i,Dg i→¬I i):BM M fl w' o' b:=
 ⟨h.head.to_ ht (hI _ ⟨by omega,by omega⟩) (hI _ ⟨by omega,by omega⟩),h.buf.to_ ht (hI _ ⟨by omega,by omega⟩),h.stk.to_ ht (hI _ ⟨by omega,by omega⟩),h.keys.to_ ht (hI _ ⟨by omega,by omega⟩),
  h.texts.to_ ht (hI _ ⟨by omega,by omega⟩),h.lists.to_ ht (hI _ ⟨by omega,by omega⟩),h.names.to_ ht (hI _ ⟨by omega,by omega⟩)⟩
theorem BM.pure(h:BM M fl w o b)(hb:Below w.heap.size w w'):BM M fl w' o b:=h.to_ (To.pure (fun _=>False) hb o) (fun _ _ h=>h)
theorem BM.fresh(h:BM M fl w o b)(hb:Below w.heap.size w w')(i:Nat):BM M fl w' (Bl o w.heap.size i) b:=h.to_ (To.fresh (fun _=>False) hb o i) (fun _ _ h=>h)
theorem BM.buf_(h:BM M fl w o b)(ht:To (fun i=>i=1) w o w' o')(hb:C2 w' o' M.bb l):BM M fl w' o' { b with b:=l}:=
 ⟨h.head.to_ ht (by omega) (by omega),hb,h.stk.to_ ht (by omega),h.keys.to_ ht (by omega),h.texts.to_ ht (by omega),h.lists.to_ ht (by omega),h.names.to_ ht (by omega)⟩
theorem BM.stk_(h:BM M fl w o b)(ht:To (fun i=>i=3) w o w' o')(hb:Ms w' o' M.sb s):BM M fl w' o' { b with s:=s}:=
 ⟨h.head.to_ ht (by omega) (by omega),h.buf.to_ ht (by omega),hb,h.keys.to_ ht (by omega),h.texts.to_ ht (by omega),h.lists.to_ ht (by omega),h.names.to_ ht (by omega)⟩
theorem BM.keys_(h:BM M fl w o b)(ht:To (fun i=>i=4) w o w' o')(hb:Gx w' o' 4 M.kb m):BM M fl w' o' { b with keys:=m}:=
 ⟨h.head.to_ ht (by omega) (by omega),h.buf.to_ ht (by omega),h.stk.to_ ht (by omega),hb,h.texts.to_ ht (by omega),h.lists.to_ ht (by omega),h.names.to_ ht (by omega)⟩
theorem BM.texts_(h:BM M fl w o b)(ht:To (fun i=>i=5) w o w' o')(hb:Gx w' o' 5 M.tb m):BM M fl w' o' { b with texts:=m}:=
 ⟨h.head.to_ ht (by omega) (by omega),h.buf.to_ ht (by omega),h.stk.to_ ht (by omega),h.keys.to_ ht (by omega),hb,h.lists.to_ ht (by omega),h.names.to_ ht (by omega)⟩
theorem BM.lists_(h:BM M fl w o b)(ht:To (fun i=>i=6) w o w' o')(hb:Gx w' o' 6 M.lb m):BM M fl w' o' { b with lists:=m}:=
 ⟨h.head.to_ ht (by omega) (by omega),h.buf.to_ ht (by omega),h.stk.to_ ht (by omega),h.keys.to_ ht (by omega),h.texts.to_ ht (by omega),hb,h.names.to_ ht (by omega)⟩
theorem BM.names_(h:BM M fl w o b){m:List (Nat×List UInt8)}(ht:To (fun i=>i=7) w o w' o')(hb:Lo w' o' M.mb m):BM M fl w' o' { b with names:=m}:=
 ⟨h.head.to_ ht (by omega) (by omega),h.buf.to_ ht (by omega),h.stk.to_ ht (by omega),h.keys.to_ ht (by omega),h.texts.to_ ht (by omega),h.lists.to_ ht (by omega),hb⟩
theorem BM.head_(h:BM M fl w o b)(ht:To (fun i=>i=2∨i=8) w o w' o')(hb:Gv M fl w' o' vals):BM M fl w' o' { b with vals:=vals}:=
 ⟨hb,h.buf.to_ ht (by omega),h.stk.to_ ht (by omega),h.keys.to_ ht (by omega),h.texts.to_ ht (by omega),h.lists.to_ ht (by omega),h.names.to_ ht (by omega)⟩
theorem D3.from_pure(hb:Below w0.heap.size w0 w)(h:D3 M fl b w o e w'):D3 M fl b w0 o e w':=by
 obtain⟨h1,o',h2,h3⟩:=h;exact⟨h1,o',h2,h3.from_pure hb⟩
theorem D3.from_fresh(hb:Below w0.heap.size w0 w)(h:D3 M fl b w (Bl o w0.heap.size i) e w'):D3 M fl b w0 o e w':=by
 obtain⟨h1,o',h2,h3⟩:=h;exact⟨h1,o',h2,(To.fresh _ hb o i).trans h3⟩
theorem Ip(h:i=1):Dg i:=by subst h;exact⟨by omega,by omega⟩
theorem iP(h:i=3):Dg i:=by subst h;exact⟨by omega,by omega⟩
theorem Gv.cells(h:Gv M fl w o vals):w.cell? ⟨M.β,0,none⟩=some (Aca M.bb)∧w.cell? ⟨M.β,1,none⟩=some (Aca M.sb)∧w.cell? ⟨M.β,2,none⟩=some (Aa Ab 0)∧w.cell? ⟨M.β,9,none⟩=some (.bool true)∧
  w.frozen? ⟨M.β,2,none⟩=false:=by
 obtain⟨A,n,c,hb,_⟩:=h;exact⟨hb.cell 0,hb.cell 1,hb.cell 2,hb.cell 9,hb.frozen 2⟩
end
theorem tM(b:Nat)(s l:List Bv)(A2:Option Addr)(n2 c2:Nat)(w:World)(o:Nat→Nat)(h:Ms w o b s)(hm:Ef w A2 n2 (l.map vv))(hl:s.length+l.length≤65536):
  Calls Ad 285 #[Aca b,.slice A2 n2 c2] w fun e w'=>e= .returned (Aa Ab 0)∧∃o',Ms w' o' b (s++l)∧To (fun i=>i=3) w o w' o':=by
 obtain⟨g,j,h1,h2⟩:=h;have c:=j.ge;refine(oX 0 b g (s.map vv) (l.map vv) A2 n2 c2 w j hm (by simpa using hl) (Am _)).mono ?_;rintro e w' ⟨rfl,m,f,d,n⟩;refine⟨rfl,Bl o w.heap.size 3,⟨m,by rw [List.map_append];exact f,by rw [Bs c.2.1];exact h1,?_⟩,To.of_fr n ?_ 3⟩
 ·intro k a;rcases d with e|e
  ·rw [e] at a;rw [Bs (c.2.2 k a).2.1];exact h2 k a
  ·rw [e] at a;injection a with a
   rw [←a,Bo (Ae _)]
 ·rintro k a (rfl|e)
  ·exact h1
  ·exact h2 k e.symm
theorem xI(b n:Nat)(s:List Bv)(w:World)(o:Nat→Nat)(h:Ms w o b s)(hn:s.length=n):
  Calls Ad 284 #[Aca b] w (Ab6 (Aa Ab n) w):=by
 obtain⟨g,hs,h1,h2⟩:=h;have:=Pz 0 b g (s.map vv) w hs;rw [List.length_map,hn] at this;exact this
theorem cT(b k:Nat)(s:List Bv)(w:World)(o:Nat→Nat)(h:Ms w o b s)(hk:k≤s.length):
  Calls Ad 130 #[Aca b,Aa Ab (k:Int)] w fun e w'=>∃A n c,e= .returned (.tuple #[.slice A n c,Aa Ab 0])∧Gd w' w.heap.size A n c ((s.drop k).map vv)∧Below w.heap.size w w':=by
 obtain⟨g,f,h1,h2⟩:=h;obtain⟨a,_,d⟩:=Pv (s.map vv) k (by simpa using hk);have:=Nw 0 b g (s.map vv) k w f;rw [a,d,←List.map_drop] at this;exact this
theorem gQ(b k:Nat)(s:List Bv)(w:World)(o:Nat→Nat)(h:Ms w o b s)(hk:k≤s.length)(hk2:k≤65536):
  Calls Ad 201 #[Aca b,Aa Ab (k:Int)] w fun e w'=>(∃A n c,e= .returned (.tuple #[.slice A n c,Aa Ab 0]))∧∃o',Ms w' o' b (s.take (s.length-k))∧To (fun i=>i=3) w o w' o':=by
 obtain⟨g,f,h1,h2⟩:=h;have a:=f.ge;obtain⟨p,j,l⟩:=gE (s.map vv) k (by simpa using hk);refine(tA 0 b g (s.map vv) k w f (by omega) (by omega)).mono ?_;rintro e w' ⟨A,n,c,rfl,_,d,m⟩;rw [l];rw [j,←List.map_take,List.length_map] at d;refine⟨⟨A,n,c,rfl⟩,Bl o w.heap.size 3,⟨g,d,by rw [Bs a.2.1];exact h1,fun k' hk'=>by rw [Bs (a.2.2 k' hk').2.1];exact h2 k' hk'⟩,To.of_fr m ?_ 3⟩;rintro k' _ rfl;exact h1
end
end Go.Proofs.YtejpbijeifjdeaaGreat
