/- Parts of the proof. -/
import Derived.Test.YtejpbijeifjdeaaGreatQf03
import Derived.Maps.Own
import Derived.Shelf.Strconv.Itoa0
import Derived.Ground.NamesProg
set_option maxHeartbeats 1500000
set_option maxRecDepth 100000
open Go.Value renaming int→Aa
open Go.IntKind renaming i64→Ab,u64→Ac
open Nat renaming le_refl→Ae,zero_le→Ak
open Go.RowKit.Below renaming refl→Af
open List renaming getElem?_eq_getElem→Ag,length_append→Ah,length_map→As,take_of_length_le→Bb,getD_eq_getElem?_getD→Be
open Go.Proofs.Tryz
open Go.Proofs.Tryz renaming prog→Ad
namespace Go.Proofs.YtejpbijeifjdeaaGreat
open Go.RowKit Go.Acc
variable {w w' w1 w0:World}{A:Option Addr}{n k d c B b i:Nat}{p S:Nat→Prop}{o:Nat→Nat}{g:Option Nat}{T:TypeId}{u v:Value}{cs:List Value}{s vals:List Bv}{m:List (List UInt8×Nat)}{e:Ending}{fl:Int}
theorem Mf(w:World)(o o':Obj)(t:TypeId)(cs:Array Value):Bk (((w.alloc o).alloc o').alloc (.cells cs t)) (w.heap.size+1+1) t cs:=by
 have h:=Db (w.alloc o) o' t cs;have e:(w.alloc o).heap.size=w.heap.size+1:=by simp
 rw [e] at h;exact h
theorem mD(bx bw bu b y u:Nat)(l:List UInt8)(w:World)(o:Nat→Nat)(h:Dm w o b l)(hx:Bk w bx 135 #[Afh b])(hw:Bk w bw 3 #[Aa Ab (y:Int)])(hu:Bk w bu 26 #[Aa Ac (u:Int)])
  (hy:Bz (y:Int)=true) (hf:Fb y u=true) (hu64:(u:Int)<18446744073709551616) (hm:l.length+y≤1048576):
  Calls Ad 228 #[Afh bw,Afh bu,Afh bx] w (Ec w o b (l++Bn y u)):=by
 have B:w.cell? ⟨bw,0,none⟩=some (Aa Ab (y:Int)):=hw.cell 0;have z:w.cell? ⟨bu,0,none⟩=some (Aa Ac (u:Int)):=hu.cell 0;have H:=Hd h;have x:=Hd hx;have C:=Hd hu64;have k:Pv (y:Int) (Fb (y:Int).toNat u)=0:=by
  rw [show(y:Int).toNat=y from rfl,hf];simp [Pv,hy]
 have m:Pu [] (y:Int) u (Fb (y:Int).toNat u)=Bn y u:=by
  rw [show(y:Int).toNat=y from rfl,hf];simp [Pu,hy]
 have i:=xV none 0 0 u (y:Int) [] w (Is.nil _ _) (Ae _) (by omega) hu64;rw [k,m] at i;have v:=Hd i;clear h hx hw hu hy hf hu64 k m i;go_enter func228,ntmps228;go_wp2_with fail;go_at_call 6;refine v.o.mono ?_;rintro e p ⟨A,n,c,rfl,g,d⟩;have j:n=y:=by rw [←g.1,Bo]
 have E:p.cell? ⟨bx,0,none⟩=some (Afh b):=(x.o.pure d).cell 0;have s:=Hd (show Cv p A y (Bn y u) by have h:=g.is;rw [j] at h;exact h);have t:=Hd j;have q:=Hd (H.o.pure d);have r:=Hd d;clear g d B z j;rw [t.o];go_wp2_with fail;go_at_call 227;refine(Se b y _ _ l (Bn y u) _ o q.o s.o hm).mono ?_;intro e D a;obtain rfl:=a.1;have f:=Hd a;clear a;go_wp2;go_end0;exact f.o.from_pure r.o
theorem Fl(b y u:Nat)(l:List UInt8)(w:World)(o:Nat→Nat)(h:Dm w o b l)(hy:Bz (y:Int)=true)(hf:Fb y u=true)(hu64:(u:Int)<18446744073709551616)(hm:l.length+y≤1048576):
  Calls Ad 137 #[Afh b,Aa Ab (y:Int),Aa Ac (u:Int)] w (Ec w o b (l++Bn y u)):=by
 have H:=Hd h;have j:=Hd hy;have n:=Hd hf;have p:=Hd hu64;clear h hy hf hu64;go_enter func137,ntmps137;go_wp2_with fail;have i:Below w.heap.size w (((w.alloc (.cells #[Afh b] 135)).alloc (.cells #[Aa Ab (y:Int)] 3)).alloc (.cells #[Aa Ac (u:Int)] 26)):=(((Af _ _).alloc (Ae _) _).alloc (by simp) _).alloc (by simp;omega) _;have d:=((Bk.new w 135 #[Afh b]).alloc (.cells #[Aa Ab (y:Int)] 3)).alloc (.cells #[Aa Ac (u:Int)] 26);have f:=(Db w (.cells #[Afh b] 135) 3 #[Aa Ab (y:Int)]).alloc (.cells #[Aa Ac (u:Int)] 26);have g:=Mf w (.cells #[Afh b] 135) (.cells #[Aa Ab (y:Int)] 3) 26 #[Aa Ac (u:Int)];have a:=Hd i;refine(V8 b y 228 _ _ _ j.o Tryz.call228 ((mD w.heap.size (w.heap.size+1) (w.heap.size+1+1) b y u l _ o (H.o.pure i) d f g j.o n.o p.o hm).mono fun e w' h=>⟨h.1,h⟩)).mono ?_;rintro e w' ⟨rfl,q,c,k⟩;have m:=Hd (show Ec w o b (l++Bn y u) (.returned (.tuple #[])) w' from Ec.from_pure a.o ⟨rfl,q,c,k⟩);clear i d f g c k a;go_wp2;go_end0;exact m.o
def Ke(s:List UInt8):List Value:=[.string ⟨s.toArray⟩]
theorem Ei(s:List UInt8):(Ke s).length=1:=rfl
theorem Qi(s:List UInt8):∀u∈Ke s,u.oneCell'=true:=by
 intro u hu;simp [Ke] at hu;subst hu;rfl
abbrev Fs:=Is Ke
theorem G4{l:List (List UInt8)}(h:Fs w A n l)(hk:k<n):
  ∃b off,A=some ⟨b,off,none⟩∧∃hk:k<l.length,w.cell? ⟨b,off+k,none⟩=some (.string ⟨l[k].toArray⟩):=by
 obtain⟨b,off,e,hk',hc⟩:=h.at_ Ei (by omega) hk;exact⟨b,off,e,hk',by have:=hc 0 (by omega);simpa [Ke] using this⟩
theorem Ze(l:List (List UInt8))(hk:k<l.length):(l.take (k+1)).flatten=(l.take k).flatten++l[k]:=by
 rw [List.take_succ_eq_append_getElem hk,List.flatten_append];simp
theorem jW(l:List (List UInt8))(k:Nat):(l.take k).flatten.length≤l.flatten.length:=by
 conv=>rhs;rw [←List.take_append_drop k l]
 rw [List.flatten_append,Ah];omega
theorem pW(A:Option Addr)(n c:Nat)(l:List (List UInt8))(w:World)(h:Fs w A n l)(hm:l.flatten.length≤1048576)(hn:n≤1048576):
  Calls Ad 231 #[.slice A n c] w fun e w'=>e= .returned (Aa Ab (l.flatten.length:Int))∧∃nd,w'=w.drewN nd:=by
 go_enter func231,ntmps231;go_wp2;go_loopw [2,7] (fun s i wr=>∃k:Nat,k≤n∧i= Aa Ab k∧s= Aa Ab ((l.take k).flatten.length:Int)∧∃nd,wr=w.drewN nd) (fun _ i _=>n-(intOf i).toNat)
 case atStart=>exact⟨0,Ak _,rfl,rfl,0,rfl⟩
 case round=>
  obtain⟨k,q,rfl,rfl,nd,rfl⟩:=hrel;by_cases f:k<n
  ·obtain⟨p,r,rfl,d,m⟩:=G4 h f;have j:=Hd (Ze l d);have h1:=jW l (k+1);rw [j.o,Ah] at h1;generalize g:(l.take k).flatten.length=P at*;have b:=Hd g;clear g h;go_wp2;go_roundw
   case rel=>exact⟨k+1,by omega,by go_num,by rw [j.o,Ah,b.o];go_num,⟨_,rfl⟩⟩
   case measure=>simp [intOf];omega
  ·have a:k=n:=by omega
   have e:=Hd (show(l.take k).flatten.length=l.flatten.length by rw [a,Bb (by rw [h.1];exact Ae _)]);clear h a;go_wp2;go_ret;exact⟨by rw [e.o];rfl,nd,rfl⟩
end Go.Proofs.YtejpbijeifjdeaaGreat
namespace Go.Acc
open Go.RowKit Go.ChangeShapes Go.WideShapes Go.Deep
variable {n:Int}{α:Type}{w:World}{a:Addr}
section
variable {H:Type} {enc:TypeId×Value→H} {P:Program} {W W':World}
theorem Sd{t:TypeId}(hl:laidOutB P=true)(hr:P.readableRec t=true)(hrow:t<P.types.size){v:Value}{d:DataW H}{ps:List MemPlace}
  (h:DataW.Trod enc P W 0 (fun _=>true) true t v d ps) (hb:Below W.heap.size W W'):DataW.Trod enc P W' 0 (fun b=>decide (b<W.heap.size)) true t v d ps:=
 Below.trod hl hr hrow h hb (by obtain⟨m,hm⟩:=h;exact DataW.trod_lt m _ _ _ hm)
theorem rM(h:(Lit.int .i64 n).wf=true): -9223372036854775808≤n∧n≤9223372036854775807:=by
 simp [Lit.wf,IntKind.min,IntKind.max,IntKind.signed,IntKind.bits] at h;exact⟨by omega,by omega⟩
theorem Ad3(h:(Lit.int .u64 n).wf=true):0≤n∧n≤18446744073709551615:=by
 simp [Lit.wf,IntKind.min,IntKind.max,IntKind.signed,IntKind.bits] at h;exact⟨by omega,by omega⟩
theorem Yc(p:Nat→α→Prop)(n:Nat)(h:∀i,i<n→∃x,p i x):∃l:List α,l.length=n∧∀i (hi:i<l.length),p i l[i]:=by
 induction n with
 |zero=>exact⟨[],rfl,fun i hi=>by simp at hi⟩
 |succ n ih=>
  obtain⟨l,b,c⟩:=ih fun i hi=>h i (by omega)
  obtain⟨x,d⟩:=h n (by omega);refine⟨l++ [x],by simp [b],fun i hi=>?_⟩;by_cases a:i<l.length
  ·rw [List.getElem_append_left a];exact c i a
  ·have:i=n:=by simp at hi;omega
   subst this;rw [List.getElem_append_right (by omega)];simpa [b] using d
theorem aY{u:Value}(h:w.cell? a=some u):a=⟨a.block,a.off,none⟩:=by
 have:=fZ h;cases a
 simp_all
theorem Uj{f:α→List Value}{sz:Nat}(hf:∀x,(f x).length=sz)(hz:0<sz){n:Nat}(q:α→Prop)
  (h:∀i,i<n→∃x,q x∧∀j,j<sz→w.cell? (a.add (i*sz+j))=(f x)[j]?):∃l,Is f w (some a) n l∧∀x∈l,q x:=by
 obtain⟨l,g,k⟩:=Yc _ n h;refine⟨l,⟨g,fun t u hu=>?_⟩,fun x hx=>?_⟩
 ·have ht:t<n*sz:=by
   have:=(List.getElem?_eq_some_iff.1 hu).1;rw [Cm hf,g] at this;exact this
  have p:0<n:=by
   rcases Nat.eq_zero_or_pos n with h0|h0
   ·subst h0;simp at ht
   ·exact h0
  have h0:=(k 0 (by omega)).2 0 hz;rw [Ag (by rw [hf];exact hz)] at h0;have m:a=⟨a.block,a.off,none⟩:=by
   have:=aY h0;simpa [Addr.add] using aY (w:=w) (a:=a) (by simpa [Addr.add] using h0)
  have c:t/sz<l.length:=by rw [g];exact Nat.div_lt_of_lt_mul (by rw [Nat.mul_comm];exact ht)
  have o:t % sz<sz:=Nat.mod_lt _ hz;have e:t/sz*sz+t % sz=t:=by rw [Nat.mul_comm];exact Nat.div_add_mod t sz
  have d:=(k _ c).2 _ o;have b:=Ip hf l (t/sz) (t % sz) c o;rw [e,hu] at b;rw [e,←b] at d;refine⟨a.block,a.off,by rw [←m],?_⟩;rw [m,I6] at d;exact d
 ·obtain⟨i,c,rfl⟩:=List.mem_iff_getElem.1 hx;exact(k i c).1
variable {w:World} {base:Nat} {spare:Nat→Bool} {held:Bool}
end
end Go.Acc
namespace Go.Proofs.YtejpbijeifjdeaaGreat
variable {w w' w1 w0:World}{A:Option Addr}{n k d c B b i:Nat}{p S:Nat→Prop}{o:Nat→Nat}{g:Option Nat}{T:TypeId}{u v:Value}{cs:List Value}{s vals:List Bv}{m:List (List UInt8×Nat)}{e:Ending}{fl:Int}
section
open Go.RowKit Go.Acc
structure Nv where
 k:Int
 n:Int
 u:Nat
 s:List UInt8
 A:Option Addr
 an:Nat
 ac:Nat
 B:Option Addr
 bn:Nat
 bc:Nat
abbrev Afe(x:Nv):Array Value:=#[Aa Ab x.k,Aa Ab x.n,Aa Ac (x.u:Int),.string ⟨x.s.toArray⟩,.slice x.A x.an x.ac,.slice x.B x.bn x.bc]
def Jm(x:Nv):List Value:=[Aa Ab x.k,Aa Ab x.n,Aa Ac (x.u:Int),.string ⟨x.s.toArray⟩,.slice x.A x.an x.ac,.slice x.B x.bn x.bc]
theorem Jg(x:Nv):(Jm x).length=6:=rfl
theorem Yf(x:Nv):∀u∈Jm x,u.oneCell'=true:=by
 intro u hu;simp [Jm] at hu;rcases hu with rfl|rfl|rfl|rfl|rfl|rfl <;>rfl
abbrev Gj:=Is Jm
abbrev J7:=Go.Acc.Own Jm 6 34
theorem H9{l:List Nv}(h:Gj w A n l){x:Nv}(hx:l[k]?=some x):
  ∃b off,A=some ⟨b,off,none⟩∧w.cell? ⟨b,off+k*6,none⟩=some (Aa Ab x.k)∧w.cell? ⟨b,off+k*6+1,none⟩=some (Aa Ab x.n)∧w.cell? ⟨b,off+k*6+2,none⟩=some (Aa Ac (x.u:Int))∧
   w.cell? ⟨b,off+k*6+3,none⟩=some (.string ⟨x.s.toArray⟩)∧w.cell? ⟨b,off+k*6+4,none⟩=some (.slice x.A x.an x.ac)∧w.cell? ⟨b,off+k*6+5,none⟩=some (.slice x.B x.bn x.bc):=by
 have d:k<n:=by rw [←h.1];exact(List.getElem?_eq_some_iff.1 hx).1
 obtain⟨b,off,e,f,a⟩:=h.at_ Jg (by omega) d;have c:l[k]=x:=(List.getElem?_eq_some_iff.1 hx).2;rw [c] at a;exact⟨b,off,e,a 0 (by omega),a 1 (by omega),a 2 (by omega),a 3 (by omega),a 4 (by omega),a 5 (by omega)⟩
inductive Ck(w:World)(p:Nat→Prop):Nv→Tr→Prop
 |mk {x:Nv} {ks:List (List UInt8)} {l:List Tr} {vs:List Nv} (h1:Fs w x.A x.an ks) (ha:∀ad,x.A=some ad→p ad.block) (hac:x.an≤x.ac) (hx:x.an≤1099511627776)
   (h2:Gj w x.B x.bn vs) (hb:∀ad,x.B=some ad→p ad.block) (hbc:x.bn≤x.bc) (hy:x.bn≤1099511627776) (hl:vs.length=l.length)
   (hc:∀(i:Nat) v t,vs[i]?=some v→l[i]?=some t→Ck w p v t):Ck w p x (.mk x.k x.n x.u x.s ks l)
inductive Hm(w:World)(p:Nat→Prop):Nat→Nv→Tr→List (Nat×Nv)→Prop
 |mk {d:Nat} {x:Nv} {ks:List (List UInt8)} {l:List Tr} {vs:List Nv} {yss:List (List (Nat×Nv))} (h1:Fs w x.A x.an ks) (ha:∀ad,x.A=some ad→p ad.block) (hac:x.an≤x.ac) (hx:x.an≤1099511627776)
   (h2:Gj w x.B x.bn vs) (hb:∀ad,x.B=some ad→p ad.block) (hbc:x.bn≤x.bc) (hy:x.bn≤1099511627776) (hl:vs.length=l.length) (hyl:yss.length=l.length)
   (hc:∀(i:Nat) v t ys,vs[i]?=some v→l[i]?=some t→yss[i]?=some ys→Hm w p (d+1) v t ys):Hm w p d x (.mk x.k x.n x.u x.s ks l) ((d,x)::yss.flatten)
theorem Ck.ord{x:Nv}{t:Tr}(h:Ck w p x t):∀d,∃ys,Hm w p d x t ys:=by
 induction h with
 | @mk x ks l vs h1 ha hac hx h2 hb hbc hy hl hc ih=>
  intro d;have a:∀i,i<l.length→∃ys,∀v t,vs[i]?=some v→l[i]?=some t→Hm w p (d+1) v t ys:=by
   intro i c;obtain⟨ys,hys⟩:=ih i (vs[i]'(by omega)) l[i] (Ag _) (Ag _) (d+1);refine⟨ys,fun v t hv ht=>?_⟩;rw [Ag (by omega)] at hv ht;injection hv with hv
   injection ht with ht
   rw [←hv,←ht];exact hys
  obtain⟨g,b,f⟩:=Yc _ l.length a;exact⟨_,.mk h1 ha hac hx h2 hb hbc hy hl b (fun i v t ys hv ht hys=>by
   obtain⟨c,e⟩:=List.getElem?_eq_some_iff.1 hys;rw [←e];exact f i c v t hv ht)⟩
theorem Pg{xs:List Value}(h:Rd w A xs)(ha:∀ad,A=some ad→p ad.block)(hk:∀a u,w.cell? a=some u→p a.block→w'.cell? a=some u):Rd w' A xs:=by
 intro j u hu;obtain⟨b,off,rfl,hc⟩:=h j u hu;exact⟨b,off,rfl,hk _ _ hc (ha ⟨b,off,none⟩ rfl)⟩
theorem Ck.keep{x:Nv}{t:Tr}(h:Ck w p x t)(hk:∀a u,w.cell? a=some u→p a.block→w'.cell? a=some u):Ck w' p x t:=by
 induction h with
 |mk h1 ha hac hx h2 hb hbc hy hl hc ih=>exact .mk ⟨h1.1,Pg h1.2 ha hk⟩ ha hac hx ⟨h2.1,Pg h2.2 hb hk⟩ hb hbc hy hl ih
theorem Ck.pure{x:Nv}{t:Tr}(h:Ck w p x t)(hb:Below w.heap.size w w'):Ck w' p x t:=h.keep fun _ _ hc _=>Bl hb hc
theorem Ck.mono{q:Nat→Prop}{x:Nv}{t:Tr}(h:Ck w p x t)(hq:∀k,p k→q k):Ck w q x t:=by
 induction h with
 |mk h1 ha hac hx h2 hb hbc hy hl hc ih=>exact .mk h1 (fun ad h=>hq _ (ha ad h)) hac hx h2 (fun ad h=>hq _ (hb ad h)) hbc hy hl ih
theorem Ck.to_{I:Nat→Prop}{o':Nat→Nat}{x:Nv}{t:Tr}(h:Ck w p x t)(ht:To I w o w' o')(hp:∀k,p k→¬I (o k)):Ck w' p x t:=
 h.keep fun _ _ hc hpa=>ht.cell hc (hp _ hpa)
theorem Ck.fields{x:Nv}{t:Tr}(h:Ck w p x t):t.k=x.k∧t.n=x.n∧t.u=x.u∧t.s=x.s∧t.ks.length=x.an∧t.l.length=x.bn:=by
 cases h with
 |mk h1 ha hac hx h2 hb hbc hy hl hc=>exact⟨rfl,rfl,rfl,rfl,h1.1,by rw [←h2.1,hl];rfl⟩
theorem Hm.keep{x:Nv}{t:Tr}{ys:List (Nat×Nv)}(h:Hm w p d x t ys)(hk:∀a u,w.cell? a=some u→p a.block→w'.cell? a=some u):Hm w' p d x t ys:=by
 induction h with
 |mk h1 ha hac hx h2 hb hbc hy hl hyl hc ih=>exact .mk ⟨h1.1,Pg h1.2 ha hk⟩ ha hac hx ⟨h2.1,Pg h2.2 hb hk⟩ hb hbc hy hl hyl ih
theorem Hm.pure{x:Nv}{t:Tr}{ys:List (Nat×Nv)}(h:Hm w p d x t ys)(hb:Below w.heap.size w w'):Hm w' p d x t ys:=h.keep fun _ _ hc _=>Bl hb hc
def Tr.pre(d:Nat):Tr→List (Nat×Tr)
 | .mk k n u s ks l=>(d,.mk k n u s ks l)::Tr.preL (d+1) l
where Tr.preL (d:Nat):List Tr→List (Nat×Tr)
 | []=>[]
 |t::r=>Tr.pre d t++Tr.preL d r
end
section
open Go.Acc
theorem tX{a b:List (List UInt8×Tr)}(hp:a.Perm b)(ha:a.Pairwise (fun x y=>x.1<y.1))(hb:b.Pairwise (fun x y=>x.1<y.1)):a=b:=
 hp.eq_of_pairwise (fun _ _ _ _ h h'=>absurd h' (List.lt_asymm h)) ha hb
theorem Abv{ps:List Nat}(ks:List (List UInt8))(c:List Tr)(d:Tr)(hk:ks.length=n)(hc:c.length=n)(hd:ks.Nodup)(hp:ps.Perm (List.range n))(ha:∀(i j:Nat) (hi:i<ps.length) (hj:j<ps.length),i<j→ks.getD ps[i] []<ks.getD ps[j] []):
  ps.map (fun p=>(ks.getD p [],c.getD p d))=Lz (ks.zip c):=by
 have b:(List.range n).map (fun p=>(ks.getD p [],c.getD p d))=ks.zip c:=by
  apply List.ext_getElem
  ·simp [hk,hc]
  ·intro i h1 h2;have hi:i<n:=by simpa using h1
   simp only [List.getElem_map,List.getElem_range,List.getElem_zip];rw [Be,Ag (by omega),Be,Ag (by omega)];rfl
 refine tX ?_ ?_ (O0 _ ?_)
 ·have h1:=hp.map (fun p=>(ks.getD p [],c.getD p d));rw [b] at h1;exact h1.trans (Eo _).symm
 ·rw [List.pairwise_iff_getElem];intro i j hi hj a;rw [List.getElem_map,List.getElem_map];exact ha i j (by simpa using hi) (by simpa using hj) a
 ·rw [List.map_fst_zip (by omega)];exact hd
inductive G0:Tr→Prop
 |mk {k n:Int} {u:Nat} {s:List UInt8} {ks:List (List UInt8)} {l:List Tr} (h1: -9223372036854775808≤n∧n≤9223372036854775807) (h2:u<18446744073709551616) (h:∀t∈l,G0 t):G0 (.mk k n u s ks l)
theorem fY(t:Tr):(By t).n=t.n∧(By t).u=t.u∧(By t).s=t.s:=by
 obtain⟨k,n,u,s,ks,l⟩:=t;rw [By];split <;>exact⟨rfl,rfl,rfl⟩
theorem mU{a b:List Tr}(h:a.Perm b):Tr.costL a=Tr.costL b:=by
 induction h with
 |nil=>rfl
 |cons x _ ih=>rw [Tr.costL,Tr.costL,ih]
 |swap x y l=>rw [Tr.costL,Tr.costL,Tr.costL,Tr.costL];omega
 |trans _ _ h1 h2=>exact h1.trans h2
theorem aG{a b:List (List UInt8)}(h:a.Perm b):Cc a=Cc b:=by
 induction h with
 |nil=>rfl
 |cons x _ ih=>rw [Cc,Cc,ih]
 |swap x y l=>rw [Cc,Cc,Cc,Cc];omega
 |trans _ _ h1 h2=>exact h1.trans h2
mutual
theorem M8:∀(t:Tr),Ft t→(By t).cost=t.cost
 | .mk k n u s ks l,h=>by
  cases h with
  |mk h1 h2 h3 h4 hl=>
   have f:=Wf l hl;simp only [Ep,Bool.and_eq_true,decide_eq_true_eq] at h1;obtain⟨⟨⟨_,a⟩,_⟩,_⟩:=h1;rw [By];by_cases b:k=17
   ·rw [if_pos b];have a:ks.length=l.length:=a b;have g:(Cp l).length=l.length:=by rw [Cx,As]
    have e:=Eo (ks.zip (Cp l));have c:=aG (e.map (·.1));have d:=mU (e.map (·.2));rw [List.map_fst_zip (by omega)] at c;rw [List.map_snd_zip (by omega)] at d;rw [Tr.cost,Tr.cost,c,d,f]
   ·rw [if_neg b,Tr.cost,Tr.cost,f]
theorem Wf:∀(l:List Tr),(∀t∈l,Ft t)→Tr.costL (Cp l)=Tr.costL l
 | [],_=>rfl
 |t::r,h=>by
  rw [Cp,Tr.costL,Tr.costL,M8 t (h t (by simp)),Wf r (fun x hx=>h x (by simp [hx]))]
end
mutual
theorem fI:∀(t:Tr) (d:Nat),(Tr.pre d t).length≤t.cost
 | .mk k n u s ks l,d=>by
  have:=Zw l (d+1);rw [Tr.pre,Tr.cost,List.length_cons];omega
theorem Zw:∀(l:List Tr) (d:Nat),(Tr.pre.Tr.preL d l).length≤Tr.costL l
 | [],_=>by simp [Tr.pre.Tr.preL]
 |t::r,d=>by
  have h1:=fI t d;have h2:=Zw r d;rw [Tr.pre.Tr.preL,Tr.costL,Ah];omega
end
theorem Y7:∀{l:List Tr} {t:Tr},t∈l→t.cost+40≤Tr.costL l
 | [],_,h=>by simp at h
 |x::r,t,h=>by
  rw [Tr.costL];rcases List.mem_cons.1 h with rfl|h
  ·omega
  ·have:=Y7 h;omega
theorem S4:∀(l:List (List UInt8)) (s:List UInt8),s∈l→s.length≤Cc l
 | [],_,h=>by simp at h
 |x::r,s,h=>by
  rw [Cc];rcases List.mem_cons.1 h with rfl|h
  ·omega
  ·have:=S4 r s h;omega
mutual
theorem fJ:∀(t:Tr) (d:Nat) (y:Nat×Tr),y∈Tr.pre d t→∀s∈y.2.ks,s.length≤t.cost
 | .mk k n u s ks l,d,y,hy,z,hz=>by
  rw [Tr.pre] at hy;rw [Tr.cost];rcases List.mem_cons.1 hy with rfl|hy
  ·have:=S4 ks z hz;omega
  ·have:=Zx l (d+1) y hy z hz;omega
theorem Zx:∀(l:List Tr) (d:Nat) (y:Nat×Tr),y∈Tr.pre.Tr.preL d l→∀s∈y.2.ks,s.length≤Tr.costL l
 | [],_,y,hy,_,_=>by simp [Tr.pre.Tr.preL] at hy
 |t::r,d,y,hy,z,hz=>by
  rw [Tr.pre.Tr.preL] at hy;rw [Tr.costL];rcases List.mem_append.1 hy with h|h
  ·have:=fJ t d y h z hz;omega
  ·have:=Zx r d y h z hz;omega
end
end
section
open Go.RowKit Go.Acc
theorem Ael(s:List UInt8)(w:World):∃c w',(convert 9 22 (.string ⟨s.toArray⟩)).run Ad w= .ok (.slice (some ⟨w.heap.size,0,none⟩) s.length c) w'∧Cv w' (some ⟨w.heap.size,0,none⟩) s.length s∧Below w.heap.size w w':=by
 refine⟨_,_,run_bytes_of_string w 9 22 5 ⟨s.toArray⟩ underlying9 underlying22 underlying5,?_,(Af _ _).drew.alloc (Ae _) _⟩;refine⟨rfl,fun j u hu=>⟨_,_,rfl,?_⟩⟩;have b:j<s.length:=by
  have:=(List.getElem?_eq_some_iff.1 hu).1;rw [Cm D1] at this;simpa using this
 have a:=heap_alloc_new w.drew (.cells (bytesRow ⟨s.toArray⟩ (grownCap w s.length 0 5)) 5 ((bytesRow ⟨s.toArray⟩ (grownCap w s.length 0 5)).size,(bytesRow ⟨s.toArray⟩ (grownCap w s.length 0 5)).size+1));change _[w.heap.size]?=_ at a;rw [show(⟨s.toArray⟩:ByteArray).size=s.length from rfl,cell_of_row _ _ _ _ _ _ a,Nat.zero_add,bytesRow_at ⟨s.toArray⟩ _ j (by simpa using b),←hu];have h1:=Ip D1 s j 0 b (by omega);rw [Nat.mul_one,Nat.add_zero] at h1;rw [h1];rfl
theorem Hx(b n c:Nat)(A:Option Addr)(L:List (List UInt8))(l:List UInt8)(w:World)(o:Nat→Nat)(h:Dm w o b l)(hA:Fs w A n L)(ho:∀ad,A=some ad→o ad.block≠1)(hm:l.length+L.flatten.length≤1048576)(hn:n≤1000):
  Calls Ad 138 #[Afh b,.slice A n c] w (Ec w o b (l++L.flatten)):=by
 have H:=Hd h;have q:=Hd hA;have a:=Hd ho;have R:=Hd hm;obtain⟨m,y⟩:∃m,l.length=m:=⟨_,rfl⟩;obtain⟨k,M⟩:∃k,L.flatten.length=k:=⟨_,rfl⟩;have ah:m+k≤1048576:=by omega
 obtain⟨A',n',c',u,_⟩:=h;have D:w.cell? ⟨b,2,none⟩=some (Aa Ab 1048576):=u.cell 2;have F:=Hd y;have HK:=Hd M;have d:=pW A n c L w.drew hA (by omega) (by omega);rw [M] at d;have G:=Hd d;clear u hA ho hm y M d;have P:IntKind.i64.wrap (1048576-(m:Int))=1048576-(m:Int):=lQ _ (by omega);have N:decide ((1048576:Int)-(m:Int)<(k:Int))=false:=decide_eq_false (by omega);go_enter func138,ntmps138;go_wp2_with (go_at_call 230;refine(Hf H.o).mono ?_;rintro e w' ⟨rfl,rfl⟩);go_region_held3 (fun w'=>w'.cell? ⟨b,2,none⟩=some (Aa Ab 1048576)) (first|with_reducible exact D|with_reducible exact Bj D|with_reducible exact D9 _ D) (first|(go_at_call 231;(with_reducible refine G.o.mono ?_);rintro e w' ⟨rfl,X,rfl⟩)|(go_at_call 133;(with_reducible refine(Ea m (H.o.drewN _) F.o).mono ?_);rintro e w' ⟨rfl,rfl⟩));have f:=Hd (show Below w.heap.size w (w.drewN (1+X)) from below_drewN (Af _ _) _);generalize w.drewN (1+X)=W at*;clear D P N;go_wp2_with fail;go_loopw [26] (fun i wr=>∃j:Nat,j≤n∧i= Aa Ab j∧∃o',Dm wr o' b (l++(L.take j).flatten)∧To (fun i=>i=1) w o wr o'∧Fs wr A n L∧∀ad,A=some ad→o' ad.block≠1) (fun i _=>n-(intOf i).toNat)
 case atStart=>exact⟨0,Ak _,rfl,o,by rw [List.take_zero,List.flatten_nil,List.append_nil];exact H.o.pure f.o,To.pure _ f.o o,q.o.pure f.o,a.o⟩
 case round=>
  clear H q f a;obtain⟨j,hj,rfl,o',u,ht,I,ho⟩:=hrel;have f:=Hd u;have S:=Hd ht;have q:=Hd I;have a:=Hd ho;have V:=I.1;clear u ht I ho;by_cases K:j<n
  ·obtain⟨b1,o1,rfl,J,T⟩:=G4 q.o K;have O:=Ze L J;have h1:=jW L (j+1);rw [O,Ah] at h1;have E:=Hd (show(l++(L.take j).flatten).length+L[j].length≤1048576 by have:=R.o;rw [Ah];omega);have G:=Hd O;have af:(0:Int)≤(j:Int):=by omega
   obtain⟨Q,p⟩:∃x,L[j]=x:=⟨_,rfl⟩;rw [p] at T;obtain⟨cj,wj,ag,U,t⟩:=Ael Q wr;have HI:=Hd U;have r:=Hd t;have s:=Hd p;clear O h1 U t p V R;go_wp2_with fail;go_at_call 227;refine(Se b Q.length _ _ (l++(L.take j).flatten) Q _ o' (f.o.pure r.o) HI.o (by rw [←s.o];exact E.o)).mono ?_;rintro e w2 ⟨rfl,Y,v,B⟩;have HR:=Hd (show Dm w2 Y b (l++(L.take (j+1)).flatten) from by rw [G.o,s.o,←List.append_assoc];exact v);have C:=To.from_pure r.o B;have g:=Hd C;clear v B C;go_wp2;go_roundw
   case rel=>
    refine⟨j+1,by omega,by go_num,Y,HR.o,S.o.trans g.o,q.o.fr g.o.fr (fun ad h=>a.o ad h),fun ad h=>?_⟩;injection h with h
    subst h;have z:=B3 T;rw [g.o.ow _ z];exact a.o ⟨b1,o1,none⟩ rfl
   case measure=>simp [intOf];omega
  ·have Z:=Hd (show(L.take j).flatten=L.flatten by rw [Bb (by omega)]);clear V;go_wp2;go_end0;exact⟨rfl,o',by rw [←Z.o];exact f.o,S.o⟩
theorem gY(b:Nat)(l:List UInt8)(w:World)(o:Nat→Nat)(h:Dm w o b l)(hm:l.length≤1048576):
  Calls Ad 139 #[Afh b] w (aW w l 0):=by
 have H:=Hd h;obtain⟨A,n,c,k,g,_⟩:=h;have t:w.cell? ⟨b,1,none⟩=some (.slice A n c):=k.cell 1;have q:=Hd g;have p:=Hd (show n≤1099511627776 by have:=g.1;omega);clear k g;go_enter func139,ntmps139;go_wp2_with (go_at_call 230;refine(Hf H.o).mono ?_;rintro e s ⟨rfl,rfl⟩);refine(Po A n c l _ q.o.is p.o).mono ?_;rintro e s ⟨m,r,f,rfl,j,i⟩;have d:=Hd j;have a:=Hd i;clear j i;go_wp2;go_ret2;exact⟨m,r,f,rfl,d.o,a.o⟩
theorem pV(w:World):
  Calls Ad 105 #[Aa Ab 1048576] w fun e w'=>∃b,e= .returned (Afh b)∧Bk w' b 212 #[.bool true,.slice none 0 0,Aa Ab 1048576,Aa Ab 0]∧w.heap.size≤b∧Below w.heap.size w w':=by
 go_enter func105,ntmps105;go_wp2;go_ret;exact⟨_,rfl,Bk.new w _ _,Ae _,(Af _ _).alloc (Ae _) _⟩
abbrev V3:=Int×Int×Int
def vc(x:V3):List Value:=[Aa Ab x.1,Aa Ab x.2.1,Aa Ac x.2.2]
theorem Ij(x:V3):(vc x).length=3:=rfl
theorem L8(x:V3):∀u∈vc x,u.oneCell'=true:=by
 intro u hu;simp [vc] at hu;rcases hu with rfl|rfl|rfl <;>rfl
abbrev Fh:=Is vc
abbrev Gg:=Go.Acc.Own vc 3 169
theorem rU{l:List V3}(h:Fh w A n l)(hk:k<n):
  ∃b off,A=some ⟨b,off,none⟩∧∃hk:k<l.length,w.cell? ⟨b,off+k*3,none⟩=some (Aa Ab l[k].1)∧w.cell? ⟨b,off+k*3+1,none⟩=some (Aa Ab l[k].2.1)∧w.cell? ⟨b,off+k*3+2,none⟩=some (Aa Ac l[k].2.2):=by
 obtain⟨b,off,e,c,a⟩:=h.at_ Ij (by omega) hk;exact⟨b,off,e,c,a 0 (by omega),a 1 (by omega),a 2 (by omega)⟩
theorem Lr:(Ad.info? 169).map (fun i=>(i.zero,i.size,i.bytes))=some (some (.agg #[Aa Ab 0,Aa Ab 0,Aa Ac 0]),3,24):=by kernel_rfl
def pH(w:World)(m:List V3)(e:Ending)(w':World):Prop:=
 ∃A n c,e= .returned (.slice A n c)∧Gg w' w.heap.size A n c m∧Below w.heap.size w w'
theorem iF{l m:List V3}(h:Gg w' w.heap.size A n c l)(hl:l=m)(h1:Below w.heap.size w w1)(hg:Fr S w1 w')(hS:∀k,k<w.heap.size→¬S k):pH w m (.returned (.slice A n c)) w':=by
 subst hl;exact⟨A,n,c,rfl,h,h1.trans (hg.belowB hS h1.size)⟩
theorem Wc(A:Option Addr)(n c:Nat)(l:List V3)(w:World)(h:Fh w A n l)(hl:n≤65536):
  Calls Ad 295 #[.slice A n c] w (pH w l):=by
 have f:=fun(w:World) (A:Option Addr) (n c:Nat)=>Lib.run_eql_slice_nil (P:=Ad) w 144 169 A n c 0 0 underlying144
 rcases A with _|a
 ·obtain⟨rfl,rfl⟩:=h.none_ Ij (by omega);clear h hl;go_enter func295,ntmps295;go_wp2_with fail;go_ret;exact⟨none,0,0,rfl,Own.nil _ _,Af _ _⟩
 ·have g:Fh (w.alloc (.cells #[] 169)) (some a) n l:=h.alloc _;have m:Gg (w.alloc (.cells #[] 169)) w.heap.size (some ⟨w.heap.size,0,none⟩) 0 0 []:=⟨rfl,World.ownsRow_lit w #[] 0 (Ae _) (Ak _) rfl⟩;have i:=Hd g;clear h g;go_enter func295,ntmps295;go_wp2_with (at_builtin;refine Eb _ rfl (.tmp 5) (.tmp 6) _ rfl 169 _ 3 24 underlying144 Lr rfl (by omega) Ij L8 _ _ _ _ _ rfl m _ _ _ _ rfl i.o (by omega) (by simp) ?_;intro p r t b d e);go_ret;exact iF (by simpa using b) rfl ((Af _ _).alloc (Ae _) _) d (by rintro k s ⟨q,h,j⟩;injection h with h;subst h;simp at j;omega)
def Acg(w:World)(m:List V3)(x:Value)(e:Ending)(w':World):Prop:=
 ∃A n c,e= .returned (.tuple #[.slice A n c,x])∧Gg w' w.heap.size A n c m∧Below w.heap.size w w'
def Kt(w:World)(B b:Nat)(g:Option Nat)(l:List V3):Prop:=
 ∃A n c,Bk w b 216 #[.slice A n c,.bool true]∧Gg w B A n c l∧A.map (·.block)=g∧n≤65536∧B≤b
def Wp(l:List V3)(s:Int):List V3:=if 0≤s∧s≤l.length then l.drop s.toNat else []
def nJ(l:List V3)(s:Int):Bool:=decide (0≤s∧s≤l.length)
def nK(l:List V3)(s:Int):Int:=if 0≤s∧s≤l.length then 0 else 140
theorem Qv(l:List V3)(k:Nat)(h:k≤l.length):Wp l k=l.drop k∧nJ l k=true∧nK l k=0:=
 ⟨by unfold Wp;rw [if_pos (by omega)];simp,decide_eq_true (by omega),if_pos (by omega)⟩
theorem T0(l:List V3)(s:Int)(h:s<0∨(l.length:Int)<s):Wp l s=[]∧nJ l s=false∧nK l s=140:=
 ⟨if_neg (by omega),decide_eq_false (by omega),if_neg (by omega)⟩
theorem Pe(b:Nat)(w:World)(h:w.cell? ⟨b,1,none⟩=some (.bool true)):
  Calls Ad 218 #[Afh b] w (Afd (.bool false) w):=by
 go_enter func218,ntmps218;go_wp2;go_ret;exact⟨rfl,rfl⟩
theorem Wo(B b:Nat)(g:Option Nat)(l:List V3)(s:Int)(w:World)(h:Kt w B b g l):
  Calls Ad 219 #[Afh b,Aa Ab s] w (Acg w (Wp l s) (.bool (nJ l s))):=by
 obtain⟨A,n,c,x,f,_,E,_⟩:=h;have D:w.cell? ⟨b,0,none⟩=some (.slice A n c):=x.cell 0;have t:=f.is;have y:=f.cap.1;have d:=f.1;clear x f;by_cases h1:s<0∨(n:Int)<s
 ·obtain⟨j,m,_⟩:=T0 l s (by rw [d];exact h1);rw [j,m];clear t d j m;rcases h1 with h1|h1
  ·go_enter func219,ntmps219;go_wp2;go_ret2;exact⟨none,0,0,rfl,Own.nil _ _,Af _ _⟩
  ·have h0:¬s<0:=by omega
   go_enter func219,ntmps219;go_wp2;go_ret2;exact⟨none,0,0,rfl,Own.nil _ _,Af _ _⟩
 ·obtain⟨k,rfl⟩:=Int.eq_ofNat_of_zero_le (a:=s) (by omega);have z:k≤n:=by omega
  obtain⟨j,m,_⟩:=Qv l k (by rw [d];exact z);rw [j,m];have v:=Hd t;clear t h1 j m d;go_enter func219,ntmps219;go_wp2_with fail
  ·refine(Wc A _ _ (l.drop k) w (v.o.cut0 (by assumption) y) (by omega)).mono ?_;rintro e C ⟨p,u,q,rfl,r,i⟩;go_wp2;go_ret2;exact⟨p,u,q,rfl,r,i⟩
  ·refine(Wc _ _ _ (l.drop k) w (v.o.cut1 Ij) (by omega)).mono ?_;rintro e C ⟨p,u,q,rfl,r,i⟩;go_wp2;go_ret2;exact⟨p,u,q,rfl,r,i⟩
theorem O8(B b:Nat)(g:Option Nat)(l:List V3)(s:Int)(w:World)(h:Kt w B b g l):
  Calls Ad 130 #[Afh b,Aa Ab s] w (Acg w (Wp l s) (Aa Ab (nK l s))):=by
 have u:=Hd h;obtain⟨A,n,c,x,f,_,F,_⟩:=h;have E:w.cell? ⟨b,1,none⟩=some (.bool true):=x.cell 1;have d:=f.1;clear x f;by_cases h1:s<0∨(n:Int)<s
 ·obtain⟨j,m,p⟩:=T0 l s (by rw [d];exact h1);rw [j,p];have C:=Hd j;have q:=Hd m;clear d j m p h1;go_enter func130,ntmps130;go_wp2_with (go_at_call 218;refine(Pe b _ (by assumption)).mono ?_;rintro e r ⟨rfl,rfl⟩);refine(Wo B b g l s w u.o).mono ?_;rw [C.o,q.o];rintro e r ⟨t,z,v,rfl,y,i⟩;go_wp2;go_ret2;exact⟨none,0,0,rfl,Own.nil _ _,i⟩
 ·obtain⟨k,rfl⟩:=Int.eq_ofNat_of_zero_le (a:=s) (by omega);have D:k≤n:=by omega
  obtain⟨j,m,p⟩:=Qv l k (by rw [d];exact D);rw [p];have q:=Hd m;clear h1 j m p d;go_enter func130,ntmps130;go_wp2_with (go_at_call 218;refine(Pe b _ (by assumption)).mono ?_;rintro e r ⟨rfl,rfl⟩);refine(Wo B b g l k w u.o).mono ?_;rw [q.o];rintro e r ⟨t,z,v,rfl,y,i⟩;go_wp2;go_ret2;exact⟨t,z,v,rfl,y,i⟩
theorem Qz(B b:Nat)(g:Option Nat)(l:List V3)(w:World)(h:Kt w B b g l):
  Calls Ad 284 #[Afh b] w (Afd (Aa Ab l.length) w):=by
 obtain⟨A,n,c,hb,hown,_,hl,_⟩:=h;obtain ⟨c0,c1⟩:=hb.c2;rw [hown.1];clear hb hown;go_enter func284,ntmps284;go_wp2_with (go_at_call 218;refine(Pe b _ (by assumption)).mono ?_;rintro e w' ⟨rfl,rfl⟩);go_ret;exact⟨rfl,rfl⟩
def Aci(w:World)(b:Nat)(g:Option Nat)(T:World→Option Nat→Prop)(er:Int)(e:Ending)(w':World):Prop:=
 e= .returned (Aa Ab er)∧∃g',T w' g'∧(g'=g∨g'=some w.heap.size)∧Fr (fun k=>k=b∨some k=g) w w'
theorem Kt.pure{l:List V3}(h:Kt w B b g l)(hb:Below w.heap.size w w'):Kt w' B b g l:=by
 obtain⟨A,n,c,h1,h2,h3⟩:=h;exact⟨A,n,c,h1.pure hb,h2.pure hb,h3⟩
theorem Kt.fr{l:List V3}(h:Kt w B b g l)(hb:Fr S w w')(h1:¬S b)(h2:∀k,g=some k→¬S k):Kt w' B b g l:=by
 obtain⟨A,n,c,b1,b2,b3,b4⟩:=h;exact⟨A,n,c,b1.fr hb h1,b2.fr hb (fun ad h=>h2 _ (by rw [←b3,h];rfl)),b3,b4⟩
theorem Abg(hb:Bk w b T (u::cs).toArray):Bk (w.setCell ⟨b,0,none⟩ v) b T (v::cs).toArray:=by
 have:=hb.set_ 0 v;simpa using this
theorem Abh{l:List V3}(hT:169≠T)(hb:Bk w b T (u::cs).toArray)(ho:Gg w B A n c l):Gg (w.setCell ⟨b,0,none⟩ v) B A (n-k) c (l.take (n-k)):=by
 refine(ho.fr (Fr.setCell (S:=fun k=>k=b) (Fr.refl _ _) (fun _=>rfl) v) ?_).take Ij (by omega);rintro ad rfl rfl;exact Jb ho.2 hb hT (by simp [Value.ownBlock])
theorem xP{A':Option Addr}{n' c':Nat}{l m:List V3}(hT:169≠T)(hb:Bk w' b T (u::cs).toArray)(_ho:Gg w' B A n c l)(ho:Gg w' w.heap.size A' n' c' m)(_hbw:Below w.heap.size w w')(hlt:b<w.heap.size):
  Gg (w'.setCell ⟨b,0,none⟩ v) w.heap.size A' n' c' m:=by
 have _:=hT;have _:=hb;refine ho.fr (Fr.setCell (S:=fun k=>k=b) (Fr.refl _ _) (fun _=>rfl) v) ?_;rintro a rfl rfl;have:=(ho.addr a rfl).2.1;omega
theorem tE{A1:Option Addr}{n2 c1:Nat}{l:List V3}(hg:A.map (·.block)=g)(hb:Bk w1 b 216 #[.slice A n c,.bool true])(ho:Gg w1 B A1 (n+n2) c1 l)
  (hf:Fr (fun k=>∃ad,A=some ad∧k=ad.block) w w1) (hat:A1.map (·.block)=A.map (·.block)∨A1.map (·.block)=some w.heap.size) (hn:n+n2≤65536) (hB:B≤b) (hlt:b<w.heap.size):
  ∃g',Kt (w1.setCell ⟨b,0,none⟩ (.slice A1 (n+n2) c1)) B b g' l∧(g'=g∨g'=some w.heap.size)∧Fr (fun k=>k=b∨some k=g) w (w1.setCell ⟨b,0,none⟩ (.slice A1 (n+n2) c1)):=by
 have a:Fr (fun k=>k=b) w1 (w1.setCell ⟨b,0,none⟩ (.slice A1 (n+n2) c1)):=Fr.setCell (S:=fun k=>k=b) (Fr.refl _ _) (fun _=>rfl) _;refine⟨A1.map (·.block),⟨A1,n+n2,c1,hb.set_ 0 _,ho.fr a ?_,rfl,hn,hB⟩,?_,?_⟩
 ·rintro ad rfl rfl;exact Jb ho.2 hb (by decide) (by simp [Value.ownBlock])
 ·rw [←hg];exact hat
 ·refine(hf.mono ?_).setCell (fun _=> .inl rfl) _;rintro i _ ⟨ad,rfl,rfl⟩;exact .inr (by rw [←hg];rfl)
theorem tG(B b:Nat)(g:Option Nat)(l m:List V3)(A2:Option Addr)(n2 c2:Nat)(w:World)(h:Kt w B b g l)(hm:Fh w A2 n2 m)(hlm:l.length+m.length≤65536)(hB:B≤w.heap.size):
  Calls Ad 285 #[Afh b,.slice A2 n2 c2] w (Aci w b g (fun w' g'=>Kt w' B b g' (l++m)) 0):=by
 obtain⟨A,n,c,j,a,C,I,r⟩:=h;obtain ⟨F,y⟩:=j.c2;rw [a.1,hm.1] at hlm;have k:∀ad,A=some ad→ad.block≠b:=by
  rintro ad rfl e;exact Jb a.2 j (by decide) (by simp [Value.ownBlock,e])
 have x:=Hd a;have u:=Hd hm;have t:=Hd j;have v:=Hd k;have s:=j.lt;clear j a hm k;go_enter func285,ntmps285;go_wp2_with (first|(go_at_call 218;refine(Pe b _ (by assumption)).mono ?_;rintro e w' ⟨rfl,rfl⟩)|((at_builtin;refine Eb _ rfl (.tmp 24) (.tmp 25) _ rfl 169 _ 3 24 underlying144 Lr rfl (by omega) Ij L8 _ _ _ _ _ rfl x.o _ _ _ _ rfl u.o (by omega) hB ?_;intro E y D f d i);have p:=t.o.fr d (by rintro⟨ad,h,z⟩;exact v.o ad h z.symm);have G:D.cell? ⟨b,0,none⟩=some (.slice A n c):=p.cell 0;have H:=p.frozen 0;have q:=Hd p;clear p));go_ret;exact⟨rfl,tE C q.o f d i hlm r s⟩
def xO(l:List V3)(s:Int):Int:=if 0≤s∧s≤l.length then 0 else 140
def oI(l:List V3)(s:Int):List V3:=if 0≤s∧s≤l.length then l.drop (l.length-s.toNat) else []
def oJ(l:List V3)(s:Int):List V3:=if 0≤s∧s≤l.length then l.take (l.length-s.toNat) else l
theorem kK(l:List V3)(k:Nat)(h:k≤l.length):oI l k=l.drop (l.length-k)∧oJ l k=l.take (l.length-k)∧xO l k=0:=
 ⟨by unfold oI;rw [if_pos (by omega)];simp,by unfold oJ;rw [if_pos (by omega)];simp,if_pos (by omega)⟩
theorem Adm(l:List V3)(s:Int)(h:s<0∨(l.length:Int)<s):oI l s=[]∧oJ l s=l∧xO l s=140:=
 ⟨if_neg (by omega),if_neg (by omega),if_neg (by omega)⟩
def Ach(w:World)(b:Nat)(T:World→Prop)(m:List V3)(er:Int)(e:Ending)(w':World):Prop:=
 ∃A n c,e= .returned (.tuple #[.slice A n c,Aa Ab er])∧Gg w' w.heap.size A n c m∧T w'∧Fr (fun k=>k=b) w w'
theorem xQ(B b:Nat)(g:Option Nat)(l:List V3)(s:Int)(w:World)(h:Kt w B b g l)(hs: -9223372036854775808≤s)(hs2:s≤9223372036854775807):
  Calls Ad 201 #[Afh b,Aa Ab s] w (Ach w b (fun w'=>Kt w' B b g (oJ l s)) (oI l s) (xO l s)):=by
 have j:=Hd h;obtain⟨n,d,J⟩:∃n,l.length=n∧n≤65536:=by obtain⟨A,n,c,I,i,O,J,E⟩:=h;exact⟨n,i.1,J⟩
 clear h;by_cases h1:s<0∨(n:Int)<s
 ·obtain⟨y,z,C⟩:=Adm l s (by rw [d];exact h1);rw [y,z,C];clear y z C;rcases h1 with h1|h1
  ·obtain⟨m,D,p⟩:=T0 l (-1) (.inl (by omega));have u:=Hd m;have v:=Hd p;have r:=Hd d;clear m D p d;go_enter func201,ntmps201;go_wp2_with (go_at_call 284;refine(Qz B b g l _ j.o).mono ?_;rw [r.o];rintro e w' ⟨rfl,rfl⟩);refine(O8 B b g l (-1) w j.o).mono ?_;rw [u.o,v.o];rintro e w' ⟨t,G,x,rfl,F,f⟩;go_wp2;go_ret2;exact⟨t,G,x,rfl,F,j.o.pure f,Fr.of_below f _⟩
  ·obtain⟨m,D,p⟩:=T0 l ((n:Int)-s) (.inl (by omega));have u:=Hd m;have v:=Hd p;have r:=Hd d;have h0:¬s<0:=by omega
   clear m D p d;go_enter func201,ntmps201;go_wp2_with (go_at_call 284;refine(Qz B b g l _ j.o).mono ?_;rw [r.o];rintro e w' ⟨rfl,rfl⟩);refine(O8 B b g l _ w j.o).mono ?_;rw [u.o,v.o];rintro e w' ⟨t,G,x,rfl,F,f⟩;go_wp2;go_ret2;exact⟨t,G,x,rfl,F,j.o.pure f,Fr.of_below f _⟩
 ·obtain⟨k,rfl⟩:=Int.eq_ofNat_of_zero_le (a:=s) (by omega);have Q:k≤n:=by omega
  obtain⟨y,z,C⟩:=kK l k (by rw [d];exact Q);rw [y,z,C];obtain⟨m,D,p⟩:=Qv l (n-k) (by omega);have M:((n-k:Nat):Int)=(n:Int)-k:=by omega
  rw [M] at m p;have u:=Hd m;have v:=Hd p;have r:=Hd d;clear y z C m D p M h1 d;obtain⟨A,n0,c,I,i,O,J,E⟩:=j.o;obtain rfl:n=n0:=r.o.symm.trans i.1;have P:=Hd I;have L:=Hd i;have K:=I.lt;have N:=i.cap.1;clear I i;go_enter func201,ntmps201;go_wp2_with (go_at_call 284;refine(Qz B b g l _ j.o).mono ?_;rw [r.o];rintro e w' ⟨rfl,rfl⟩);refine(O8 B b g l _ w j.o).mono ?_;rw [u.o,v.o];rintro e w' ⟨t,G,x,rfl,F,f⟩;have H:=P.o.pure f;have R:w'.cell? ⟨b,0,none⟩=some (.slice A n c):=H.cell 0;have U:=H.frozen 0;have q:=Hd H;clear H;go_wp2;go_ret2;rw [r.o];exact⟨t,G,x,rfl,xP (T:=216) (by decide) (cs:=[.bool true]) q.o (L.o.pure f) F f K,⟨A,n-k,c,Abg q.o,Abh (by decide) q.o (L.o.pure f),O,by omega,E⟩,Fr.setCell (S:=fun k=>k=b) (Fr.of_below f _) (fun _=>rfl) _⟩
theorem Kt.ge{l:List V3}(h:Kt w B b g l):B≤b∧b<w.heap.size∧∀k,g=some k→B≤k∧k<w.heap.size∧k≠b:=by
 obtain⟨A,n,c,h1,h2,rfl,_,h4⟩:=h;refine⟨h4,h1.lt,fun k hk=>?_⟩;cases A with
 |none=>cases hk
 |some ad=>
  injection hk with hk
  subst hk;exact⟨(h2.addr ad rfl).2.1,(h2.addr ad rfl).2.2,fun e=>Jb h2.2 h1 (by decide) (by simp [Value.ownBlock,e])⟩
theorem Kt.rebase{B':Nat}{l:List V3}(h:Kt w B b g l)(hB:B'≤B):Kt w B' b g l:=by
 obtain⟨A,n,c,h1,h2,h3,h4,h5⟩:=h;exact⟨A,n,c,h1,h2.rebase hB,h3,h4,by omega⟩
def vv(v:Bv):V3:=(v.t,v.w,v.n)
def N7(w:World)(o:Nat→Nat)(b:Nat)(s:List Bv):Prop:=∃g,Kt w 0 b g (s.map vv)∧o b=3∧∀k,g=some k→o k=3
def K4(n:Nat):List Value:=[Aa Ab (n:Int)]
theorem Gs(x:Nat):(K4 x).length=1:=rfl
theorem jY(x:Nat):∀u∈K4 x,u.oneCell'=true:=by
 intro u hu;simp [K4] at hu;subst hu;rfl
abbrev Md:=Go.Acc.Own Ke 1 9
abbrev R8:=Go.Acc.Own K4 1 3
def Hn(w:World)(o:Nat→Nat)(i p:Nat)(m:List (List UInt8×Nat)):Prop:=
 ∃A1 A2 n c1 c2 ks ns,Bk w p 220 #[.slice A1 n c1,.slice A2 n c2,.bool true]∧Md w 0 A1 n c1 ks∧R8 w 0 A2 n c2 ns∧Of o A1 i∧Of o A2 i∧o p=i∧
  ks.Pairwise (fun x y=>Op.bytesLess x y=true)∧(∀s,Cf m s=Cf (ks.zip ns) s)∧n≤m.length∧∀a∈ns,a≤1048576
def M3(w:World)(o:Nat→Nat)(p:Nat)(m:List (Nat×List UInt8)):Prop:=
 o p=7∧∃n D,w.ownsMap (H:=Unit) Ad 26 (plainElem Ad 9) p n D∧n≤m.length∧∀a s,m.find? (fun x=>x.1==a)=some (a,s)→D.atKey (.int .u64 a) (.lit (.string []))= .lit (.string s)
structure Bp where
 β:Nat
 bb:Nat
 sb:Nat
 kb:Nat
 tb:Nat
 lb:Nat
 mb:Nat
def Hl(M:Bp)(fl:Int)(w:World)(o:Nat→Nat)(vals:List Bv):Prop:=
 ∃A n c,Bk w M.β 148 #[Afh M.bb,Afh M.sb,Aa Ab 0,Aa Ab fl,Afh M.kb,Afh M.tb,Afh M.lb,.map (some M.mb),.slice A n c,.bool true]∧
  Gg w 0 A n c (vals.map vv)∧Of o A 8∧o M.β=2
structure BM(M:Bp)(fl:Int)(w:World)(o:Nat→Nat)(b:Bd):Prop where
 head:Hl M fl w o b.vals
 buf:Dm w o M.bb b.b
 stk:N7 w o M.sb b.s
 keys:Hn w o 4 M.kb b.keys
 texts:Hn w o 5 M.tb b.texts
 lists:Hn w o 6 M.lb b.lists
 names:M3 w o M.mb b.names
def Dd(i:Nat):Prop:=1≤i∧i≤8
def Dq(M:Bp)(fl:Int)(b:Bd)(w:World)(o:Nat→Nat)(e:Ending)(w':World):Prop:=
 e= .returned (.tuple #[])∧∃o',BM M fl w' o' b∧To Dd w o w' o'
section
variable {I:Nat→Prop} {w w':World} {o o':Nat→Nat} {M:Bp} {fl:Int} {b:Bd}
theorem N7.to_{p:Nat}(h:N7 w o p s)(ht:To I w o w' o')(hI:¬I 3):N7 w' o' p s:=by
 obtain⟨g,hs,h1,h2⟩:=h;have hg:=hs.ge;refine⟨g,hs.fr ht.fr (by rw [h1];exact hI) (fun k hk=>by rw [h2 k hk];exact hI),by rw [ht.ow _ hg.2.1];exact h1,fun k hk=>by rw [ht.ow _ (hg.2.2 k hk).2.1];exact h2 k hk⟩
theorem Hn.to_{p:Nat}(h:Hn w o i p m)(ht:To I w o w' o')(hI:¬I i):Hn w' o' i p m:=by
 obtain⟨A1,A2,n,c1,c2,ks,ns,hb,h1,h2,o1,o2,op,rest⟩:=h;exact⟨A1,A2,n,c1,c2,ks,ns,hb.to_ ht (by rw [op];exact hI),h1.to_ o1 ht hI,h2.to_ o2 ht hI,o1.to_ h1 ht,o2.to_ h2 ht,by rw [ht.ow _ hb.lt];exact op,rest⟩
theorem M3.to_{p:Nat}{m:List (Nat×List UInt8)}(h:M3 w o p m)(ht:To I w o w' o')(hI:¬I 7):M3 w' o' p m:=by
 obtain⟨op,n,D,hm,rest⟩:=h;have hlt:=hm.lt;refine⟨by rw [ht.ow _ hlt];exact op,n,D,?_,rest⟩;obtain⟨es,clock,hb,F⟩:=hm;exact⟨es,clock,(ht.keep hlt (by rw [op];exact hI)).trans hb,F⟩
theorem Hl.to_(h:Hl M fl w o vals)(ht:To I w o w' o')(h2:¬I 2)(h8:¬I 8):Hl M fl w' o' vals:=by
 obtain⟨A,n,c,hb,ho,h1,op⟩:=h;exact⟨A,n,c,hb.to_ ht (by rw [op];exact h2),ho.to_ h1 ht h8,h1.to_ ho ht,by rw [ht.ow _ hb.lt];exact op⟩
theorem BM.to_(h:BM M fl w o b)(ht:To I w o w' o')(hI:∀i,Dd i→¬I i):BM M fl w' o' b:=
 ⟨h.head.to_ ht (hI _ ⟨by omega,by omega⟩) (hI _ ⟨by omega,by omega⟩),h.buf.to_ ht (hI _ ⟨by omega,by omega⟩),h.stk.to_ ht (hI _ ⟨by omega,by omega⟩),h.keys.to_ ht (hI _ ⟨by omega,by omega⟩),
  h.texts.to_ ht (hI _ ⟨by omega,by omega⟩),h.lists.to_ ht (hI _ ⟨by omega,by omega⟩),h.names.to_ ht (hI _ ⟨by omega,by omega⟩)⟩
theorem BM.pure(h:BM M fl w o b)(hb:Below w.heap.size w w'):BM M fl w' o b:=h.to_ (To.pure (fun _=>False) hb o) (fun _ _ h=>h)
theorem BM.fresh(h:BM M fl w o b)(hb:Below w.heap.size w w')(i:Nat):BM M fl w' (Br o w.heap.size i) b:=h.to_ (To.fresh (fun _=>False) hb o i) (fun _ _ h=>h)
theorem BM.buf_(h:BM M fl w o b){l:List UInt8}(ht:To (fun i=>i=1) w o w' o')(hb:Dm w' o' M.bb l):BM M fl w' o' { b with b:=l}:=
 ⟨h.head.to_ ht (by omega) (by omega),hb,h.stk.to_ ht (by omega),h.keys.to_ ht (by omega),h.texts.to_ ht (by omega),h.lists.to_ ht (by omega),h.names.to_ ht (by omega)⟩
theorem BM.stk_(h:BM M fl w o b)(ht:To (fun i=>i=3) w o w' o')(hb:N7 w' o' M.sb s):BM M fl w' o' { b with s:=s}:=
 ⟨h.head.to_ ht (by omega) (by omega),h.buf.to_ ht (by omega),hb,h.keys.to_ ht (by omega),h.texts.to_ ht (by omega),h.lists.to_ ht (by omega),h.names.to_ ht (by omega)⟩
theorem BM.keys_(h:BM M fl w o b)(ht:To (fun i=>i=4) w o w' o')(hb:Hn w' o' 4 M.kb m):BM M fl w' o' { b with keys:=m}:=
 ⟨h.head.to_ ht (by omega) (by omega),h.buf.to_ ht (by omega),h.stk.to_ ht (by omega),hb,h.texts.to_ ht (by omega),h.lists.to_ ht (by omega),h.names.to_ ht (by omega)⟩
theorem BM.texts_(h:BM M fl w o b)(ht:To (fun i=>i=5) w o w' o')(hb:Hn w' o' 5 M.tb m):BM M fl w' o' { b with texts:=m}:=
 ⟨h.head.to_ ht (by omega) (by omega),h.buf.to_ ht (by omega),h.stk.to_ ht (by omega),h.keys.to_ ht (by omega),hb,h.lists.to_ ht (by omega),h.names.to_ ht (by omega)⟩
theorem BM.lists_(h:BM M fl w o b)(ht:To (fun i=>i=6) w o w' o')(hb:Hn w' o' 6 M.lb m):BM M fl w' o' { b with lists:=m}:=
 ⟨h.head.to_ ht (by omega) (by omega),h.buf.to_ ht (by omega),h.stk.to_ ht (by omega),h.keys.to_ ht (by omega),h.texts.to_ ht (by omega),hb,h.names.to_ ht (by omega)⟩
theorem BM.names_(h:BM M fl w o b){m:List (Nat×List UInt8)}(ht:To (fun i=>i=7) w o w' o')(hb:M3 w' o' M.mb m):BM M fl w' o' { b with names:=m}:=
 ⟨h.head.to_ ht (by omega) (by omega),h.buf.to_ ht (by omega),h.stk.to_ ht (by omega),h.keys.to_ ht (by omega),h.texts.to_ ht (by omega),h.lists.to_ ht (by omega),hb⟩
theorem BM.head_(h:BM M fl w o b)(ht:To (fun i=>i=2∨i=8) w o w' o')(hb:Hl M fl w' o' vals):BM M fl w' o' { b with vals:=vals}:=
 ⟨hb,h.buf.to_ ht (by omega),h.stk.to_ ht (by omega),h.keys.to_ ht (by omega),h.texts.to_ ht (by omega),h.lists.to_ ht (by omega),h.names.to_ ht (by omega)⟩
theorem Dq.from_pure(hb:Below w0.heap.size w0 w)(h:Dq M fl b w o e w'):Dq M fl b w0 o e w':=by
 obtain⟨h1,o',h2,h3⟩:=h;exact⟨h1,o',h2,h3.from_pure hb⟩
theorem Dq.from_fresh(hb:Below w0.heap.size w0 w)(h:Dq M fl b w (Br o w0.heap.size i) e w'):Dq M fl b w0 o e w':=by
 obtain⟨h1,o',h2,h3⟩:=h;exact⟨h1,o',h2,(To.fresh _ hb o i).trans h3⟩
theorem Jj(h:i=1):Dd i:=by subst h;exact⟨by omega,by omega⟩
theorem mC(h:i=3):Dd i:=by subst h;exact⟨by omega,by omega⟩
theorem Hl.cells(h:Hl M fl w o vals):w.cell? ⟨M.β,0,none⟩=some (Afh M.bb)∧w.cell? ⟨M.β,1,none⟩=some (Afh M.sb)∧w.cell? ⟨M.β,2,none⟩=some (Aa Ab 0)∧w.cell? ⟨M.β,9,none⟩=some (.bool true)∧
  w.frozen? ⟨M.β,2,none⟩=false:=by
 obtain⟨A,n,c,hb,_⟩:=h;exact⟨hb.cell 0,hb.cell 1,hb.cell 2,hb.cell 9,hb.frozen 2⟩
end
theorem yC(b:Nat)(s l:List Bv)(A2:Option Addr)(n2 c2:Nat)(w:World)(o:Nat→Nat)(h:N7 w o b s)(hm:Fh w A2 n2 (l.map vv))(hl:s.length+l.length≤65536):
  Calls Ad 285 #[Afh b,.slice A2 n2 c2] w fun e w'=>e= .returned (Aa Ab 0)∧∃o',N7 w' o' b (s++l)∧To (fun i=>i=3) w o w' o':=by
 obtain⟨g,j,h1,h2⟩:=h;have c:=j.ge;refine(tG 0 b g (s.map vv) (l.map vv) A2 n2 c2 w j hm (by simpa using hl) (Ak _)).mono ?_;rintro e w' ⟨rfl,m,f,d,n⟩;refine⟨rfl,Br o w.heap.size 3,⟨m,by rw [List.map_append];exact f,by rw [B4 c.2.1];exact h1,?_⟩,To.of_fr n ?_ 3⟩
 ·intro k a;rcases d with e|e
  ·rw [e] at a;rw [B4 (c.2.2 k a).2.1];exact h2 k a
  ·rw [e] at a;injection a with a
   rw [←a,Bt (Ae _)]
 ·rintro k a (rfl|e)
  ·exact h1
  ·exact h2 k e.symm
theorem Abt(b n:Nat)(s:List Bv)(w:World)(o:Nat→Nat)(h:N7 w o b s)(hn:s.length=n):
  Calls Ad 284 #[Afh b] w (Afd (Aa Ab n) w):=by
 obtain⟨g,hs,h1,h2⟩:=h;have:=Qz 0 b g (s.map vv) w hs;rw [As,hn] at this;exact this
theorem fR(b k:Nat)(s:List Bv)(w:World)(o:Nat→Nat)(h:N7 w o b s)(hk:k≤s.length):
  Calls Ad 130 #[Afh b,Aa Ab (k:Int)] w fun e w'=>∃A n c,e= .returned (.tuple #[.slice A n c,Aa Ab 0])∧Gg w' w.heap.size A n c ((s.drop k).map vv)∧Below w.heap.size w w':=by
 obtain⟨g,f,h1,h2⟩:=h;obtain⟨a,_,d⟩:=Qv (s.map vv) k (by simpa using hk);have:=O8 0 b g (s.map vv) k w f;rw [a,d,←List.map_drop] at this;exact this
theorem lC(b k:Nat)(s:List Bv)(w:World)(o:Nat→Nat)(h:N7 w o b s)(hk:k≤s.length)(hk2:k≤65536):
  Calls Ad 201 #[Afh b,Aa Ab (k:Int)] w fun e w'=>(∃A n c,e= .returned (.tuple #[.slice A n c,Aa Ab 0]))∧∃o',N7 w' o' b (s.take (s.length-k))∧To (fun i=>i=3) w o w' o':=by
 obtain⟨g,f,h1,h2⟩:=h;have a:=f.ge;obtain⟨p,j,l⟩:=kK (s.map vv) k (by simpa using hk);refine(xQ 0 b g (s.map vv) k w f (by omega) (by omega)).mono ?_;rintro e w' ⟨A,n,c,rfl,_,d,m⟩;rw [l];rw [j,←List.map_take,As] at d;refine⟨⟨A,n,c,rfl⟩,Br o w.heap.size 3,⟨g,d,by rw [B4 a.2.1];exact h1,fun k' hk'=>by rw [B4 (a.2.2 k' hk').2.1];exact h2 k' hk'⟩,To.of_fr m ?_ 3⟩;rintro k' _ rfl;exact h1
theorem Qr(b:Nat)(w:World)(h:w.cell? ⟨b,9,none⟩=some (.bool true)):
  Calls Ad 129 #[Afh b] w (Afd (.bool false) w):=by
 go_enter func129,ntmps129;go_wp2;go_ret;exact⟨rfl,rfl⟩
theorem Aae{M:Bp}(h:Hl M fl w o vals):Calls Ad 278 #[Afh M.β] w (Afd (Aa Ab 0) w):=by
 obtain⟨c0,c1,c2,c9,_⟩:=h.cells;clear h;go_enter func278,ntmps278;go_wp2_with (go_at_call 129;refine(Qr M.β _ (by assumption)).mono ?_;rintro e w' ⟨rfl,rfl⟩);go_ret;exact⟨rfl,rfl⟩
theorem Hl.same{M:Bp}(h:Hl M fl w o vals):Hl M fl (w.setCell ⟨M.β,2,none⟩ (Aa Ab 0)) o vals∧To (fun i=>i=2∨i=8) w o (w.setCell ⟨M.β,2,none⟩ (Aa Ab 0)) o:=by
 obtain⟨A,n,c,a,b,h1,d⟩:=h;have e:To (fun i=>i=2∨i=8) w o (w.setCell ⟨M.β,2,none⟩ (Aa Ab 0)) o:=To.of_fr0 (Fr.setCell (S:=fun k=>k=M.β) (Fr.refl _ w) (fun _=>rfl) _) (by rintro k _ rfl;exact .inl d);refine⟨⟨A,n,c,by have:=a.set_ 2 (Aa Ab 0);simpa using this,b.fr (Fr.setCell (S:=fun k=>k=M.β) (Fr.refl _ w) (fun _=>rfl) _) ?_,h1,d⟩,e⟩;rintro g rfl f;exact Jb b.2 a (by decide) (by simp [Value.ownBlock,f])
theorem Iq{M:Bp}{b:Bd}(h:BM M fl w o b):Calls Ad 131 #[Afh M.β,Aa Ab 0] w (Dq M fl b w o):=by
 have H:=Hd h;obtain⟨c0,c1,c2,c9,f2⟩:=h.head.cells;clear h;go_enter func131,ntmps131;go_wp2;go_end0;obtain⟨h1,h2⟩:=H.o.head.same;refine⟨rfl,o,H.o.head_ h2 h1,h2.mono ?_⟩;rintro i (rfl|rfl) <;>exact⟨by omega,by omega⟩
theorem Aau(W:World)(v:V3):Fh (W.alloc (.cells #[Aa Ab v.1,Aa Ab v.2.1,Aa Ac v.2.2] 169)) (some ⟨W.heap.size,0,none⟩) 1 [v]:=by
 refine⟨rfl,fun j u hu=>⟨_,_,rfl,?_⟩⟩;rw [Nat.zero_add,(Bk.new W _ _).cell j];simpa [vc] using hu
theorem Hl.own{M:Bp}(h:Hl M fl w o vals):o M.β=2:=by obtain⟨A,n,c,_,_,_,h⟩:=h;exact h
theorem Cl:¬Dd 0:=by rintro⟨h,_⟩;omega
theorem Nx(M:Bp)(fl:Int)(b:Bd)(v:Bv)(w:World)(o:Nat→Nat)(h:BM M fl w o b)(hs:b.s.length<65536):
  Calls Ad 203 #[Afh M.β,.agg #[Aa Ab (v.t:Int),Aa Ab (v.w:Int),Aa Ac (v.n:Int)]] w (Dq M fl (b.push v) w o):=by
 have HS:=Hd hs;have k:Below w.heap.size w (w.alloc (.cells #[Aa Ab (v.t:Int),Aa Ab (v.w:Int),Aa Ac (v.n:Int)] 169)):=(Af _ _).alloc (Ae _) _;have P:=Hd k;have i:=Hd (h.fresh k 0);have E:=Hd (Bk.new w 169 #[Aa Ab (v.t:Int),Aa Ab (v.w:Int),Aa Ac (v.n:Int)]);have D:=Hd (show Br o w.heap.size 0 w.heap.size=0 from Bt (Ae _));obtain⟨β,L⟩:∃x,M.β=x:=⟨_,rfl⟩;obtain⟨bb,r⟩:∃x,M.bb=x:=⟨_,rfl⟩;obtain⟨sb,J⟩:∃x,M.sb=x:=⟨_,rfl⟩;obtain⟨W,Z,a2,a9,K⟩:=i.o.head.cells;rw [L] at W Z a2 K;rw [r] at W;rw [L];have u:=Hd L;have V:=Hd r;have F:=Hd J;clear h hs Z a2 a9 K L r J k;go_enter func203,ntmps203;go_wp2_with fail;go_at_call 230;rw [←V.o];refine(Hf i.o.buf).mono ?_;rintro e w' ⟨rfl,rfl⟩;go_wp2_with fail;go_at_call 131;rw [←u.o];refine(Iq i.o).mono ?_;rintro e y ⟨rfl,Y,m,f⟩;have q:=E.o.to_ f (by rw [D.o];exact Cl);have d:=Hd (show Y w.heap.size=0 by rw [f.ow _ E.o.lt];exact D.o);obtain⟨b0,g,b2,b9,K⟩:=m.head.cells;rw [u.o] at g b2;rw [F.o] at g;rw [u.o];obtain ⟨z,N,O⟩:=q.c3;have B:=Hd m;have S:=Hd f;have aj:=Hd q;clear q b0 b9 K m f W;go_wp2_with fail;have HL:=Hd (show b.s.length+ [v].length≤65536 from HS.o);have l:Below y.heap.size y (y.alloc (.cells #[Aa Ab (v.t:Int),Aa Ab (v.w:Int),Aa Ac (v.n:Int)] 169)).drew:=((Af _ _).alloc (Ae _) _).drew;have A:=Hd l;have C:=Hd (B.o.pure l);have HI:=Hd (show Fh (y.alloc (.cells #[Aa Ab (v.t:Int),Aa Ab (v.w:Int),Aa Ac (v.n:Int)] 169)).drew (some ⟨y.heap.size,0,none⟩) 1 ([v].map vv) from Aau y (vv v));have X:=Nat.ne_of_lt (B3 g);simp only at X;have I:=Nat.ne_of_lt (B3 z);simp only at I;clear l;rw [←F.o] at g;go_region_held3 (fun w'=>w'.cell? ⟨β,1,none⟩=some (Afh M.sb)∧w'.cell? ⟨w.heap.size,0,none⟩=some (Aa Ab (v.t:Int))∧w'.cell? ⟨w.heap.size,1,none⟩=some (Aa Ab (v.w:Int))∧w'.cell? ⟨w.heap.size,2,none⟩=some (Aa Ac (v.n:Int))) (first|with_reducible exact⟨g,z,N,O⟩|with_reducible exact⟨Bj g,Bj z,Bj N,Bj O⟩|with_reducible exact⟨Bj (Bs _ g),Bj (Bs _ z),Bj (Bs _ N),Bj (Bs _ O)⟩|with_reducible exact⟨y1,y2,y3,y4⟩|with_reducible exact⟨z1,z2,z3,z4⟩) (first|(go_at_call 285;(with_reducible refine(yC M.sb b.s [v] _ _ _ _ Y C.o.stk HI.o HL.o).mono ?_);rintro e W4 ⟨rfl,o4,H,a⟩;have G:=C.o.stk_ a H;have y1:=a.cell (Bj (Bs _ g)) (by rw [show Y β=2 by rw [←u.o];exact B.o.head.own];omega);have y2:=a.cell (Bj (Bs _ z)) (by rw [d.o];omega);have y3:=a.cell (Bj (Bs _ N)) (by rw [d.o];omega);have y4:=a.cell (Bj (Bs _ O)) (by rw [d.o];omega);have Q:=Hd G;have T:=Hd a;have j:=Hd (show o4 w.heap.size=0 by rw [a.ow _ (Nat.lt_of_lt_of_le (B3 z) A.o.size)];exact d.o);clear H a G)|(go_at_call 131;rw [←u.o];(with_reducible refine(Iq Q.o).mono ?_);rintro e W5 ⟨rfl,o5,p,c⟩;have z1:=p.head.cells.2.1;rw [u.o] at z1;have z2:=c.cell y2 (by rw [j.o];exact Cl);have z3:=c.cell y3 (by rw [j.o];exact Cl);have z4:=c.cell y4 (by rw [j.o];exact Cl);have R:=Hd p;have U:=Hd c;clear p c));go_end0;refine⟨rfl,o5,R.o,?_⟩;exact(To.fresh _ P.o o 0).trans (S.o.trans (To.from_pure A.o ((T.o.mono fun _ h=>mC h).trans U.o)))
end
section
open Go.Shelf Go.RowKit Go.Acc
def sF:Go.Shelf.Ren:=⟨fun|129=>66|n=>n,fun|3=>3|4=>4|5=>5|9=>9|46=>103|53=>26|n=>n,fun|n=>n⟩
theorem sE:Go.Proofs.Lays.n129 Ad sF:={
 mixed:=by kernel_rfl
 f129:=func66.trans (congrArg some (by kernel_rfl))
 t3:=underlying3
 a3:=isAgg3
 z3:=sizeOf3
 v3:=zeroValue3
 t4:=underlying4
 a4:=isAgg4
 z4:=sizeOf4
 v4:=zeroValue4
 t5:=underlying5
 a5:=isAgg5
 z5:=sizeOf5
 v5:=zeroValue5
 t9:=underlying9
 a9:=isAgg9
 z9:=sizeOf9
 v9:=zeroValue9
 t46:=underlying103
 a46:=isAgg103
 z46:=sizeOf103
 v46:=zeroValue103
 t53:=underlying26
 a53:=isAgg26
 z53:=sizeOf26
 v53:=zeroValue26}
theorem Wu(u:Nat)(w:World)(h:u<18446744073709551616):Calls Ad 66 #[Aa Ac u] w (Afd (Aa Ab (Lib.bitLen u)) w):=by
 have h:=Any.bits_Len64 sE (u:Int) w (by omega) (by omega);change Calls Ad 66 _ _ _ at h;exact h.mono fun _ _ ⟨he,hw⟩=>⟨by rw [he,Int.toNat_natCast],hw.symm⟩
def lP(m:Int):Int:=if m≤8 then 1 else if m≤16 then 2 else if m≤32 then 4 else 8
theorem eJ(m r:Int)(w:World)(h:lP m=r):Calls Ad 65 #[Aa Ab m] w (Afd (Aa Ab r) w):=by
 unfold lP at h;by_cases h1:m≤8
 ·rw [if_pos h1] at h;subst h;go_enter func65,ntmps65;go_wp2;refine wp_loop_rounds 5 ?_
  repeat (rw [rounds_succ];go_wp2)
  all_goals
   go_ret;exact⟨rfl,rfl⟩
 ·rw [if_neg h1] at h;by_cases h2:m≤16
  ·rw [if_pos h2] at h;subst h;go_enter func65,ntmps65;go_wp2;refine wp_loop_rounds 5 ?_
   repeat (rw [rounds_succ];go_wp2)
   all_goals
    go_ret;exact⟨rfl,rfl⟩
  ·rw [if_neg h2] at h;by_cases h3:m≤32
   ·rw [if_pos h3] at h;subst h;go_enter func65,ntmps65;go_wp2;refine wp_loop_rounds 5 ?_
    repeat (rw [rounds_succ];go_wp2)
    all_goals
     go_ret;exact⟨rfl,rfl⟩
   ·rw [if_neg h3] at h;subst h;by_cases a:m≤64
    ·go_enter func65,ntmps65;go_wp2;refine wp_loop_rounds 5 ?_
     repeat (rw [rounds_succ];go_wp2)
     all_goals
      go_ret;exact⟨rfl,rfl⟩
    ·go_enter func65,ntmps65;go_wp2;refine wp_loop_rounds 5 ?_
     repeat (rw [rounds_succ];go_wp2)
     all_goals
      go_ret;exact⟨rfl,rfl⟩
def Xv(u:Nat):Int:=if u<256 then 1 else if u<65536 then 2 else if u<4294967296 then 4 else 8
def Xu(n:Int):Int:=if -128≤n∧n<128 then 1 else if -32768≤n∧n<32768 then 2 else if -2147483648≤n∧n<2147483648 then 4 else 8
theorem Pz(u k:Nat)(hk:k≤63)(hu:u<18446744073709551616):Lib.bitLen u≤k↔u<2^k:=by
 constructor
 ·intro h;refine Decidable.byContradiction fun hn=>?_
  have h1:=Lib.bitLen_shift k u (by omega) hu;have a:0<2^k:=Nat.two_pow_pos k;have h2:u/2^k≠0:=by
   intro e;have:=(Nat.div_eq_zero_iff).1 e;omega
  have h3:=Lib.bitLen_half (u/2^k) h2 (Nat.lt_of_le_of_lt (Nat.div_le_self _ _) hu);omega
 ·intro h;exact Lib.bitLen_le u k (by omega) h
theorem yV(u:Nat)(hu:u<18446744073709551616):lP (Lib.bitLen u)=Xv u:=by
 have h1:=Pz u 8 (by omega) hu;have h2:=Pz u 16 (by omega) hu;have h3:=Pz u 32 (by omega) hu;simp only [Nat.reducePow] at h1 h2 h3;unfold lP Xv;by_cases a:u<256
 ·rw [if_pos a,if_pos (by have:=h1.2 a;omega)]
 ·rw [if_neg a,if_neg (by have:=mt h1.1 a;omega)];by_cases b:u<65536
  ·rw [if_pos b,if_pos (by have:=h2.2 b;omega)]
  ·rw [if_neg b,if_neg (by have:=mt h2.1 b;omega)];by_cases c:u<4294967296
   ·rw [if_pos c,if_pos (by have:=h3.2 c;omega)]
   ·rw [if_neg c,if_neg (by have:=mt h3.1 c;omega)]
theorem Ni(u:Nat)(r:Int)(w:World)(hu:u<18446744073709551616)(h:Xv u=r):Calls Ad 33 #[Aa Ac u] w (Afd (Aa Ab r) w):=by
 obtain⟨k,a⟩:∃k,Lib.bitLen u=k:=⟨_,rfl⟩;have c:=yV u hu;rw [a,h] at c;have b:=Wu u w hu;rw [a] at b;have f:=Hd c;have d:=Hd b;clear a c b h hu;go_enter func33,ntmps33;go_wp2_with fail;go_at_call 66;refine d.o.mono ?_;rintro e g ⟨rfl,rfl⟩;go_wp2_with fail;go_at_call 65;refine(eJ k r _ f.o).mono ?_;rintro e g ⟨rfl,rfl⟩;go_wp2;go_ret;exact⟨rfl,rfl⟩
end
end Go.Proofs.YtejpbijeifjdeaaGreat
