/- Parts of the proof. -/
import Derived.Test.YtgbjodnegkbfoaaGreatQa31
import Derived.ScopeJumps
import Derived.WalkMore
open List renaming getElem?_eq_getElem→Ati,length_append→Atj,replicate→Atm,append_assoc→Ato
namespace Go.Proofs.YtgbjodnegkbfoaaGreat
open Go.RowKit Go.Acc
structure Vz(L:List UInt8)(p q t v k:Int)(s:List UInt8)(a:Nat):Prop where
 may:Bm L.length p q t v=0
 ty:(k=5∧t=4)∨(k=6∧t=5)∨(k=7∧t=25)
 tg:Bh L p q t v=0∧Bg L p q t v=a
 fnd:∀ts,Fw ts t=true→Dc L p q t v ts=0∧D5 L p q t v ts=s∧Cm L p q t v ts=a
theorem Pa{L s:List UInt8}{z w:Nat}{v:Bv}(h:Ci L z w v)(hk:G3 L s v)(h0:(0:UInt8)∉s){y:Int}(hy:Av y=true):Vz L z w 4 y 5 s v.n:=by
 obtain⟨k1,_,k3⟩:=hk;have hi:inl v.t=false:=by rw [k1];decide
 have hm:=h.may (t:=4) (by decide) hy;obtain⟨g1,g2⟩:=h.goes hi (t:=4) (by decide) hy (by decide);obtain⟨q1,q2⟩:=Apn k3 h0;have hf:∀ts,Fw ts 4=true→Dc L z w 4 y ts=0:=by
  intro ts ht;unfold Dc;rw [if_neg (by rw [hm];decide),if_neg (by rw [ht];decide),if_neg (by rw [g1];decide),if_pos rfl,g2];exact q1
 refine⟨hm,.inl ⟨rfl,rfl⟩,⟨g1,g2⟩,fun ts ht=>⟨hf ts ht,?_,?_⟩⟩
 ·unfold D5;rw [if_pos (hf ts ht),if_pos rfl,g2];exact q2
 ·unfold Cm;rw [if_pos (hf ts ht),g2]
theorem Rs{L s:List UInt8}{z w:Nat}{v:Bv}{k:Int}(h:Ci L z w v)(hk:(k=6∧Em L 5 s [0] v)∨(k=7∧Em L 25 s [] v))(hL:L.length<2^32):Vz L z w v.t v.w k s v.n:=by
 obtain⟨zs,j,T,hz,t1,t2,c,t3,t4,t5,hT⟩:∃(zs:List UInt8) (j T:Nat),zs=Atm j 0∧v.t=T∧v.w=bWidth s.length∧∃c,v.n=c+v.w∧At L c (Ai v.w s.length++s++zs)∧c % v.w=0∧((k=6∧T=5∧j=1)∨(k=7∧T=25∧j=0)):=by
  rcases hk with⟨e,t1,t2,c,t3,t4,t5⟩|⟨e,t1,t2,c,t3,t4,t5⟩
  ·exact⟨[0],1,5,rfl,t1,t2,c,t3,t4,t5,.inl ⟨e,rfl,rfl⟩⟩
  ·exact⟨[],0,25,rfl,t1,t2,c,t3,t4,t5,.inr ⟨e,rfl,rfl⟩⟩
 have hw:Av (v.w:Int)=true:=by rw [t2];exact E3 _
 have hi:inl v.t=false:=by rw [t1];rcases hT with⟨_,rfl,_⟩|⟨_,rfl,_⟩ <;>decide
 have hl:Be (v.t:Int)=true:=by rw [t1];rcases hT with⟨_,rfl,_⟩|⟨_,rfl,_⟩ <;>decide
 have hm:=h.may (t:=v.t) hl hw;obtain⟨g1,g2⟩:=h.goes hi hl hw hi;have hle:=t4.le;simp only [Atj,Aj] at hle;have hlt:s.length<2^(8*v.w):=by rw [t2];exact E4 (E3 _) (by omega) (Nat.le_refl _)
 obtain⟨c1,c2⟩:=Apb hw t5 t4 hlt hz;have h4:¬((v.t:Int)=4):=by rw [t1];rcases hT with⟨_,rfl,_⟩|⟨_,rfl,_⟩ <;>decide
 have hj:(if(v.t:Int)=5 then 1 else 0)=j:=by rw [t1];rcases hT with⟨_,rfl,rfl⟩|⟨_,rfl,rfl⟩ <;>rfl
 have hf:∀ts,Fw ts v.t=true→Dc L z w v.t v.w ts=0:=by
  intro ts ht;unfold Dc;rw [if_neg (by rw [hm];decide),if_neg (by rw [ht];decide),if_neg (by rw [g1];decide),if_neg h4,g2,hj,t3];exact c1
 refine⟨hm,?_,⟨g1,g2⟩,fun ts ht=>⟨hf ts ht,?_,?_⟩⟩
 ·rw [t1];rcases hT with⟨e,rfl,_⟩|⟨e,rfl,_⟩
  ·exact .inr (.inl ⟨e,rfl⟩)
  ·exact .inr (.inr ⟨e,rfl⟩)
 ·unfold D5;rw [if_pos (hf ts ht),if_neg h4,g2,t3];exact c2
 ·unfold Cm;rw [if_pos (hf ts ht),g2]
def Prp(y:Bv):Prop:=y=⟨0,1,0⟩∨(∃n,y=Cz n)∨(∃n:Int,(-9223372036854775808≤n∧n≤9223372036854775807)∧y=Cf n)∨(∃u,u<18446744073709551616∧y=Ch u)∨inl y.t=false
def Nc(T:Int)(vs:List Bv):Prop:=∀y∈vs,Prp y∧Be (y.t:Int)=true∧Av (y.w:Int)=true∧(Bo T=false→F4 T=(y.t:Int))
structure T5(L:List UInt8)(P:Int→Int→Int→Int→Prop):Prop where
 key:∀{z w:Nat} {v:Bv} {s:List UInt8} {y:Int},Ci L z w v→G3 L s v→(0:UInt8)∉s→Av y=true→P z w 4 y
 text:∀{z w:Nat} {v:Bv} {s:List UInt8},Ci L z w v→(Em L 5 s [0] v∨Em L 25 s [] v)→P z w v.t v.w
 num:∀{z w:Nat} {v:Bv} {n:Int} {u:Nat},Ci L z w v→(G6 L 6 (bWidthI n) (bits n) v∨G6 L 7 (bWidth u) u v)→(-9223372036854775808≤n∧n≤9223372036854775807)→u<18446744073709551616→P z w v.t v.w
 vec:∀{z w:Nat} {v:Bv} {len tags:Bool} {vs:List Bv},Ci L z w v→J7 L 0 v z w→G4 L 0 vs v→Cd L v.t len tags vs v→(v.t:Int)≠9→aheadT (v.t:Int)=(if len=true then 1 else 0)→Nc v.t vs→P z w v.t v.w
 map:∀{z w:Nat} {v kv:Bv} {vs kvs:List Bv},Ci L z w v→J7 L 0 v z w→G4 L 0 vs v→Cd L 14 true false kvs kv→F2 L kv vs v→(v.t:Int)=9→Nc v.t vs→P z w v.t v.w
theorem T5.any(L:List UInt8):T5 L fun _ _ _ _=>True:=⟨fun _ _ _ _=>trivial,fun _ _=>trivial,fun _ _ _ _=>trivial,fun _ _ _ _ _ _ _=>trivial,fun _ _ _ _ _ _ _=>trivial⟩
inductive I6(L:List UInt8)(P:Int→Int→Int→Int→Prop):Int→Int→Int→Int→Tr→Prop
 |inl {p q t v k n:Int} {u:Nat} (s ks c) (hm:Bm L.length p q t v=0) (hi:An t=true) (hk:Cg t=k) (h4:1≤k∧k≤4) (hv:Afn L p q t v k n u):I6 L P p q t v (.mk k n u s ks c)
 |txt {p q t v k:Int} {s:List UInt8} {a:Nat} (n u ks c) (hr:Vz L p q t v k s a) (hP:P p q t v):I6 L P p q t v (.mk k n u s ks c)
 |num {p q t v k n:Int} {u:Nat} (s ks c) (hm:Bm L.length p q t v=0) (hi:An t=false) (hk:Cg t=k) (h8:k=8∨k=9) (htg:Bh L p q t v=0) (hv:Afn L p q t v k n u) (hP:P p q t v):I6 L P p q t v (.mk k n u s ks c)
 |list {p q t v k:Int} {c:List Tr} (n u s ks) (hm:Bm L.length p q t v=0) (hi:An t=false) (hk:Cg t=k) (h10:10≤k∧k≤16) (htg:Bh L p q t v=0) (hl:Bw L p q t v=0∧lsLen L p q t v=c.length) (hP:P p q t v)
   (ha:∀i:Nat,i<c.length→Ez L p q t v i=0) (he:∀(i:Nat) x,c[i]?=some x→I6 L P (I8 L p q t v i) (I9 L p q t v i) (Jr L p q t v i) (Js L p q t v i) x):I6 L P p q t v (.mk k n u s ks c)
 |map {p q v:Int} {c:List Tr} {ks:List (List UInt8)} (n u s) (hm:Bm L.length p q 9 v=0) (htg:Bh L p q 9 v=0) (hl:Bw L p q 9 v=0∧lsLen L p q 9 v=c.length) (hks:ks.length=c.length) (hy:Gu L p q 9 v=0) (ho:opE L p q 9 v=0)
   (hkl:Lx L p q 9 v=14∧Bh L (Fi L p q 9 v) (Fj L p q 9 v) 14 (Fp L p q 9 v)=0∧Bw L (Fi L p q 9 v) (Fj L p q 9 v) 14 (Fp L p q 9 v)=0∧lsLen L (Fi L p q 9 v) (Fj L p q 9 v) 14 (Fp L p q 9 v)=c.length) (hP:P p q 9 v∧P (Fi L p q 9 v) (Fj L p q 9 v) 14 (Fp L p q 9 v))
   (hke:∀(i:Nat) s,ks[i]?=some s→Ez L (Fi L p q 9 v) (Fj L p q 9 v) 14 (Fp L p q 9 v) i=0∧∃a,Vz L (I8 L (Fi L p q 9 v) (Fj L p q 9 v) 14 (Fp L p q 9 v) i) (I9 L (Fi L p q 9 v) (Fj L p q 9 v) 14 (Fp L p q 9 v) i) (Jr L (Fi L p q 9 v) (Fj L p q 9 v) 14 (Fp L p q 9 v) i) (Js L (Fi L p q 9 v) (Fj L p q 9 v) 14 (Fp L p q 9 v) i) 5 s a∧P (I8 L (Fi L p q 9 v) (Fj L p q 9 v) 14 (Fp L p q 9 v) i) (I9 L (Fi L p q 9 v) (Fj L p q 9 v) 14 (Fp L p q 9 v) i) (Jr L (Fi L p q 9 v) (Fj L p q 9 v) 14 (Fp L p q 9 v) i) (Js L (Fi L p q 9 v) (Fj L p q 9 v) 14 (Fp L p q 9 v) i))
   (ha:∀i:Nat,i<c.length→Ez L p q 9 v i=0) (he:∀(i:Nat) x,c[i]?=some x→I6 L P (I8 L p q 9 v i) (I9 L p q 9 v i) (Jr L p q 9 v i) (Js L p q 9 v i) x):I6 L P p q 9 v (.mk 17 n u s ks c)
mutual
def Tr.cnt:Tr→Nat
 | .mk k _ _ _ ks l=>(if k=17 then 2+ks.length else 1)+Tr.cntL l
def Tr.cntL:List Tr→Nat
 | []=>0
 |t::r=>t.cnt+Tr.cntL r
end
theorem Ft(s:Ao)(a b c:Int):(s.tell a b c).left=s.left:=by unfold Ao.tell;split <;>rfl
theorem Oq(r:Rq)(s:Ao):(Bq r s).left=s.left-1:=by unfold Bq;rw [Ft];rfl
def Qd(n:Nat)(s:Ao)(x:Ao×Int):Prop:=x.2=0∧s.left-n≤x.1.left∧x.1.left≤s.left
def Ov(go:Rq→Ao→Ao×Int)(d:Nat)(n:Nat)(r:Rq):Prop:=∀s:Ao,(n:Int)≤s.left→s.left.toNat<d→Qd n s (go r s)
theorem Lm{L:List UInt8}{d n:Nat}{r:Rq}(ht:Bh L r.p r.q r.t r.v=0)(hi:An r.t=false)(h:∀s:Ao,(n:Int)≤s.left→s.left.toNat<d→Qd n s (Cy L (Bl L d) r s)):Ov (Bl L (d+1)) (d+1) (n+1) r:=by
 intro s h1 h2;unfold Bl;rw [if_neg (by omega),if_neg (by rw [hi];decide)];by_cases hh:Ea L r∈s.had
 ·rw [if_pos (.inr hh),ht];refine⟨rfl,?_,?_⟩
  ·show s.left-_≤(Bq r s).left;rw [Oq];omega
  ·show(Bq r s).left≤_;rw [Oq];omega
 ·rw [if_neg (by rw [ht];intro h;rcases h with h|h;exact h rfl;exact hh h)];have hl:((Bq r s).see (Ea L r)).left=s.left-1:=Oq r s;obtain⟨g1,g2,g3⟩:=h ((Bq r s).see (Ea L r)) (by rw [hl];omega) (by rw [hl];omega);rw [hl] at g2 g3;exact⟨g1,by omega,by omega⟩
theorem Z1{L:List UInt8}{p q t v k:Int}{s:List UInt8}{a:Nat}(h:Vz L p q t v k s a)(d:Nat):Ov (Bl L (d+1)) (d+1) 1 ⟨p,q,t,v⟩:=by
 have ht:t=4∨t=5∨t=25:=by rcases h.ty with⟨_,h⟩|⟨_,h⟩|⟨_,h⟩ <;>omega
 have hi:An t=false:=by rcases ht with rfl|rfl|rfl <;>decide
 have hin:Fw [4,5,25] t=true:=by rcases ht with rfl|rfl|rfl <;>decide
 refine Lm (n:=0) (r:=⟨p,q,t,v⟩) h.tg.1 hi (fun st h1 h2=>?_);unfold Cy C7;rw [if_pos hin,if_neg (by rw [(h.fnd _ hin).1];decide)];split
 ·exact⟨rfl,by show _≤(Ao.tell _ _ _ _).left;rw [Ft];omega,by show(Ao.tell _ _ _ _).left≤_;rw [Ft];omega⟩
 ·split
  ·exact⟨rfl,by show _≤(Ao.tell _ _ _ _).left;rw [Ft,Ft];omega,by show(Ao.tell _ _ _ _).left≤_;rw [Ft,Ft];omega⟩
  ·exact⟨rfl,by show _≤(Ao.tell _ _ _ _).left;rw [Ft,Ft];omega,by show(Ao.tell _ _ _ _).left≤_;rw [Ft,Ft];omega⟩
theorem Atb(L:List UInt8)(r:Rq)(i:Nat)(s:Ao):(Dl L r i s).left=s.left:=by unfold Dl;split;rw [Ft];rfl
theorem Un{N:Nat}{L:List UInt8}{go:Rq→Ao→Ao×Int}{r:Rq}{d:Nat}(f:Nat→Nat)(hE:∀i:Nat,i<N→Ez L r.p r.q r.t r.v i=0∧Ov go d (f i) (Ed L r i)):∀(k i:Nat) (s:Ao),i+k≤N→(((List.range' i k).map f).sum:Int)≤s.left→s.left.toNat<d→Qd ((List.range' i k).map f).sum s (Cj L go r k i s)
 |0,i,s,_,_,_=>⟨rfl,by simp [Cj],by simp [Cj]⟩
 |k+1,i,s,h1,h2,h3=>by
  obtain⟨e1,e2⟩:=hE i (by omega);rw [List.range'_succ,List.map_cons,List.sum_cons] at h2⊢;have ht:=Atb L r i s;obtain⟨g1,g2,g3⟩:=e2 (Dl L r i s) (by rw [ht];omega) (by rw [ht];omega);rw [ht] at g2 g3;unfold Cj;rw [if_neg (by rw [e1];decide),if_neg (by rw [g1];decide)];obtain⟨k1,k2,k3⟩:=Un f hE k (i+1) (go (Ed L r i) (Dl L r i s)).1 (by omega) (by omega) (by omega);exact⟨k1,by omega,by omega⟩
def F7(a b c:Int):List P3:=if a<b then [(a,b,c)] else []
theorem Jn(s:Ao)(a b c:Int):(s.tell a b c).o=s.o++F7 a b c:=by
 unfold Ao.tell F7;split
 ·rfl
 ·simp
def Gj(r:Rq):List P3:=F7 r.p (r.p+r.q) (E6 r.t)
def Iv(l:List UInt8)(r:Rq):List P3:=
 if Fw [4,5,25] r.t=true then
  (if r.t=4 then F7 (Cm l r.p r.q r.t r.v [4,5,25]) (Cm l r.p r.q r.t r.v [4,5,25]+(D5 l r.p r.q r.t r.v [4,5,25]).length+1) 9
  else if r.t=5 then F7 (Cm l r.p r.q r.t r.v [4,5,25]-r.v) (Cm l r.p r.q r.t r.v [4,5,25]) 6++F7 (Cm l r.p r.q r.t r.v [4,5,25]) (Cm l r.p r.q r.t r.v [4,5,25]+(D5 l r.p r.q r.t r.v [4,5,25]).length+1) 10
  else F7 (Cm l r.p r.q r.t r.v [4,5,25]-r.v) (Cm l r.p r.q r.t r.v [4,5,25]) 6++F7 (Cm l r.p r.q r.t r.v [4,5,25]) (Cm l r.p r.q r.t r.v [4,5,25]+(D5 l r.p r.q r.t r.v [4,5,25]).length) 11)
 else if r.t=6∨r.t=7 then F7 (Fm l r.p r.q r.t r.v) (Fm l r.p r.q r.t r.v+Fy l r.p r.q r.t r.v) (if r.t=6 then 12 else 13)
 else(if r.t=9 then F7 (lsFrom l r.p r.q r.t r.v+r.v) (lsFrom l r.p r.q r.t r.v+2*r.v) 7 else [])++(if lsFrom l r.p r.q r.t r.v<lsAt l r.p r.q r.t r.v then F7 ((lsAt l r.p r.q r.t r.v:Int)-r.v) (lsAt l r.p r.q r.t r.v) 6 else [])++
  (if Bo r.t=true then(List.range (lsLen l r.p r.q r.t r.v)).flatMap fun i=>F7 ((lsAt l r.p r.q r.t r.v:Int)+lsLen l r.p r.q r.t r.v*r.v+(i:Nat)) ((lsAt l r.p r.q r.t r.v:Int)+lsLen l r.p r.q r.t r.v*r.v+(i:Nat)+1) 8 else [])
def Fs(l:List UInt8)(r:Rq):List Rq:=
 if Fw [4,5,25] r.t=true∨r.t=6∨r.t=7 then [] else(if r.t=9 then [C9 l r] else [])++(List.range (lsLen l r.p r.q r.t r.v)).map fun i=>Ed l r i
inductive Ct(l:List UInt8):Rq→P3→Prop
 |own {r:Rq} {x:P3} (hi:An r.t=false) (h:x∈Iv l r):Ct l r x
 |slot {r c:Rq} {x:P3} (hi:An r.t=false) (hc:c∈Fs l r) (h:x∈Gj c):Ct l r x
 |deep {r c:Rq} {x:P3} (hi:An r.t=false) (hc:c∈Fs l r) (h:Ct l c x):Ct l r x
def Nd(l:List UInt8)(s:Ao)(c:Rq):Prop:=(∀x∈Gj c,x∈s.o)∧(An c.t=true∨(An c.t=false∧Bh l c.p c.q c.t c.v=0∧Ea l c∈s.had))
def Y8(l:List UInt8)(s:Ao)(y:P3):Prop:=∃r,Ea l r=y∧Bh l r.p r.q r.t r.v=0∧An r.t=false∧(∀x∈Iv l r,x∈s.o)∧∀c∈Fs l r,Nd l s c
structure Tv(l:List UInt8)(U:P3→Prop)(s s':Ao):Prop where
 sub:∀y∈s.had,y∈s'.had
 osub:∀x∈s.o,x∈s'.o
 new:∀y∈s'.had,y∈s.had∨Y8 l s' y
 up:∀x∈s'.o,x∈s.o∨U x
 cnt:(nslot s'.o:Int)+s'.left≤nslot s.o+s.left
 nn:0≤s.left→0≤s'.left
section
variable {l:List UInt8} {U V:P3→Prop} {s s' s'':Ao}
theorem Nd.mono{c:Rq}(h:Nd l s c)(hs:∀y∈s.had,y∈s'.had)(ho:∀x∈s.o,x∈s'.o):Nd l s' c:=⟨fun x hx=>ho x (h.1 x hx),h.2.imp id fun h=>⟨h.1,h.2.1,hs _ h.2.2⟩⟩
theorem Y8.mono{y:P3}(h:Y8 l s y)(hs:∀y∈s.had,y∈s'.had)(ho:∀x∈s.o,x∈s'.o):Y8 l s' y:=by
 obtain⟨r,h1,h2,h3,h4,h5⟩:=h;exact⟨r,h1,h2,h3,fun x hx=>ho x (h4 x hx),fun c hc=>(h5 c hc).mono hs ho⟩
theorem Tv.trans(h:Tv l U s s')(k:Tv l U s' s''):Tv l U s s'':=⟨fun y hy=>k.sub y (h.sub y hy),fun x hx=>k.osub x (h.osub x hx),fun y hy=>by
 rcases k.new y hy with h1|h1
 ·exact(h.new y h1).imp id fun h2=>h2.mono k.sub k.osub
 ·exact .inr h1,fun x hx=>by
 rcases k.up x hx with h1|h1
 ·exact h.up x h1
 ·exact .inr h1,Int.le_trans k.cnt h.cnt,fun h0=>k.nn (h.nn h0)⟩
theorem Tv.wide(h:Tv l U s s')(hU:∀x,U x→V x):Tv l V s s':=⟨h.sub,h.osub,h.new,fun x hx=>(h.up x hx).imp id (hU x),h.cnt,h.nn⟩
theorem Tv.refl(s:Ao):Tv l U s s:=⟨fun _ h=>h,fun _ h=>h,fun _ h=> .inl h,fun _ h=> .inl h,Int.le_refl _,fun h=>h⟩
theorem Am3{a b c:Int}(hc:5<c):nslot (F7 a b c)=0:=by
 unfold F7 nslot;split
 ·rw [List.countP_cons_of_neg (by simp;omega)];rfl
 ·rfl
theorem K9(s:Ao){a b c:Int}(hc:5<c)(hU:∀x∈F7 a b c,U x):Tv l U s (s.tell a b c):=by
 refine⟨fun y hy=>by rw [Jm];exact hy,fun x hx=>by rw [Jn];exact List.mem_append_left _ hx,fun y hy=>by rw [Jm] at hy;exact .inl hy,fun x hx=>?_,?_,fun h=>by rw [Hj];exact h⟩
 ·rw [Jn] at hx;exact(List.mem_append.1 hx).imp id (hU x)
 ·rw [Jn,Hj,Ej,Am3 hc];simp
theorem K7(s:Ao)(a b c:Int):∀x∈F7 a b c,x∈(s.tell a b c).o:=fun x hx=>by rw [Jn];exact List.mem_append_right _ hx
end
theorem Ale{l:List UInt8}{U:P3→Prop}(s:Ao){a b c a' b' c':Int}(hc:5<c)(hc':5<c')(hU:∀x∈F7 a b c++F7 a' b' c',U x):Tv l U s ((s.tell a b c).tell a' b' c')∧∀x∈F7 a b c++F7 a' b' c',x∈((s.tell a b c).tell a' b' c').o:=by
 have g1:=K9 (l:=l) s hc fun x hx=>hU x (List.mem_append_left _ hx)
 have g2:=K9 (l:=l) (s.tell a b c) hc' fun x hx=>hU x (List.mem_append_right _ hx)
 exact⟨g1.trans g2,fun x hx=>(List.mem_append.1 hx).elim (fun hx=>g2.osub x (K7 s _ _ _ x hx)) (K7 _ _ _ _ x)⟩
def Afq(l:List UInt8)(go:Rq→Ao→Ao×Int):Prop:=∀r s,(go r s).2=0→Tv l (fun x=>x∈Gj r∨(An r.t=false∧Ct l r x)) s (go r s).1∧Nd l (go r s).1 r
section
variable {l:List UInt8} {go:Rq→Ao→Ao×Int} (r:Rq)
theorem Aai(hg:Afq l go)(U:P3→Prop)(n0:Nat)(hT:Bo r.t=true→∀i:Nat,i<n0→∀x∈F7 ((lsAt l r.p r.q r.t r.v:Int)+lsLen l r.p r.q r.t r.v*r.v+(i:Nat)) ((lsAt l r.p r.q r.t r.v:Int)+lsLen l r.p r.q r.t r.v*r.v+(i:Nat)+1) 8,U x)
  (hK:∀i:Nat,i<n0→∀x,x∈Gj (Ed l r i)∨(An (Ed l r i).t=false∧Ct l (Ed l r i) x)→U x):∀(n i:Nat) (s:Ao),i+n≤n0→(Cj l go r n i s).2=0→
  Tv l U s (Cj l go r n i s).1∧∀j:Nat,i≤j→j<i+n→Nd l (Cj l go r n i s).1 (Ed l r j)∧(Bo r.t=true→∀x∈F7 ((lsAt l r.p r.q r.t r.v:Int)+lsLen l r.p r.q r.t r.v*r.v+(j:Nat)) ((lsAt l r.p r.q r.t r.v:Int)+lsLen l r.p r.q r.t r.v*r.v+(j:Nat)+1) 8,x∈(Cj l go r n i s).1.o)
 |0,_,s,_,_=>⟨Tv.refl s,fun j h1 h2=>by omega⟩
 |n+1,i,s,hin,h0=>by
  have htag:Tv l U s (Dl l r i s)∧(Bo r.t=true→∀x∈F7 ((lsAt l r.p r.q r.t r.v:Int)+lsLen l r.p r.q r.t r.v*r.v+(i:Nat)) ((lsAt l r.p r.q r.t r.v:Int)+lsLen l r.p r.q r.t r.v*r.v+(i:Nat)+1) 8,x∈(Dl l r i s).o):=by
   unfold Dl;split
   ·rename_i ht;exact⟨K9 s (by decide) (hT ht i (by omega)),fun _=>K7 s _ _ _⟩
   ·rename_i ht;exact⟨Tv.refl s,fun h=>absurd h ht⟩
  by_cases hf:Ez l r.p r.q r.t r.v i=0
  ·by_cases hgo:(go (Ed l r i) (Dl l r i s)).2=0
   ·obtain⟨g1,g2⟩:=hg (Ed l r i) _ hgo;unfold Cj at h0⊢;rw [if_neg (by rw [hf];decide),if_neg (by rw [hgo];decide)] at h0⊢;obtain⟨g3,g4⟩:=Aai hg U n0 hT hK n (i+1) _ (by omega) h0;have g5:=g1.wide (hK i (by omega));refine⟨(htag.1.trans g5).trans g3,fun j h1 h2=>?_⟩;by_cases hj:j=i
    ·subst hj;exact⟨g2.mono g3.sub g3.osub,fun ht x hx=>g3.osub x (g5.osub x (htag.2 ht x hx))⟩
    ·exact g4 j (by omega) (by omega)
   ·unfold Cj at h0;rw [if_neg (by rw [hf];decide),if_pos hgo] at h0;exact absurd h0 hgo
  ·unfold Cj at h0;rw [if_pos hf] at h0;exact absurd h0 hf
theorem Ape(hg:Afq l go)(hi:An r.t=false)(s:Ao)(h0:(Cy l go r s).2=0):Tv l (Ct l r) s (Cy l go r s).1∧(∀x∈Iv l r,x∈(Cy l go r s).1.o)∧∀c∈Fs l r,Nd l (Cy l go r s).1 c:=by
 have hown:∀x∈Iv l r,Ct l r x:=fun x hx=> .own hi hx
 unfold Cy at h0⊢;unfold Iv at hown⊢;by_cases h1:Fw [4,5,25] r.t=true
 ·rw [if_pos h1] at h0 hown;have hk:Fs l r=[]:=by unfold Fs;rw [if_pos (.inl h1)]
  rw [if_pos h1,if_pos h1,hk];by_cases hf:Dc l r.p r.q r.t r.v [4,5,25]=0
  ·unfold C7;rw [if_neg (by rw [hf];decide)];by_cases h4:r.t=4
   ·rw [if_pos h4] at hown;rw [if_pos h4,if_pos h4];exact⟨K9 s (by decide) hown,K7 s _ _ _,fun c hc=>by simp at hc⟩
   rw [if_neg h4] at hown;rw [if_neg h4,if_neg h4];by_cases h5:r.t=5
   ·rw [if_pos h5] at hown;rw [if_pos h5,if_pos h5];obtain⟨g1,g2⟩:=Ale (l:=l) s (by decide) (by decide) hown;exact⟨g1,g2,fun c hc=>by simp at hc⟩
   rw [if_neg h5] at hown;rw [if_neg h5,if_neg h5];obtain⟨g1,g2⟩:=Ale (l:=l) s (by decide) (by decide) hown;exact⟨g1,g2,fun c hc=>by simp at hc⟩
  ·unfold C7 at h0;rw [if_pos hf] at h0;exact absurd h0 hf
 rw [if_neg h1] at h0 hown;rw [if_neg h1,if_neg h1];by_cases h2:r.t=6∨r.t=7
 ·rw [if_pos h2] at h0 hown;have hk:Fs l r=[]:=by unfold Fs;rw [if_pos (.inr h2)]
  rw [if_pos h2,if_pos h2,hk];by_cases hf:Dd l r.p r.q r.t r.v=0
  ·unfold C6;rw [if_pos hf];exact⟨K9 s (by split <;>decide) hown,K7 s _ _ _,fun c hc=>by simp at hc⟩
  ·unfold C6 at h0;rw [if_neg hf] at h0;exact absurd h0 hf
 rw [if_neg h2] at h0 hown;rw [if_neg h2,if_neg h2];have hkid:∀c∈Fs l r,∀x,x∈Gj c∨(An c.t=false∧Ct l c x)→Ct l r x:=fun c hc x hx=>hx.elim (fun h=> .slot hi hc h) (fun h=> .deep hi hc h.2)
 have hk:Fs l r=(if r.t=9 then [C9 l r] else [])++(List.range (lsLen l r.p r.q r.t r.v)).map fun i=>Ed l r i:=by
  unfold Fs;rw [if_neg (by rintro(h|h);exact h1 h;exact h2 h)]
 rw [hk] at hkid⊢;by_cases hl:Bw l r.p r.q r.t r.v=0
 ·by_cases hh:(Cs l go r s).2=0
  ·have hhead:Tv l (Ct l r) s (Cs l go r s).1∧(r.t=9→Nd l (Cs l go r s).1 (C9 l r)∧∀x∈F7 (lsFrom l r.p r.q r.t r.v+r.v) (lsFrom l r.p r.q r.t r.v+2*r.v) 7,x∈(Cs l go r s).1.o):=by
    unfold Cs at hh⊢;split
    ·rename_i h9;rw [if_pos h9] at hh hkid hown;by_cases hf:Gu l r.p r.q r.t r.v=0
     ·by_cases hgo:(go (C9 l r) s).2=0
      ·obtain⟨g1,g2⟩:=hg (C9 l r) s hgo;unfold Fc;rw [if_neg (by rw [hf];decide),if_neg (by rw [hgo];decide)];have g3:=g1.wide (hkid (C9 l r) (List.mem_append_left _ (List.mem_singleton.2 rfl)));have g4:=K9 (l:=l) (U:=Ct l r) (go (C9 l r) s).1 (by decide) fun x hx=>hown x (List.mem_append_left _ (List.mem_append_left _ hx))
       exact⟨g3.trans g4,fun _=>⟨g2.mono g4.sub g4.osub,K7 _ _ _ _⟩⟩
      ·unfold Fc at hh;rw [if_neg (by rw [hf];decide),if_pos hgo] at hh;exact absurd hh hgo
     ·unfold Fc at hh;rw [if_pos hf] at hh;exact absurd hh hf
    ·rename_i h9;exact⟨Tv.refl s,fun h=>absurd h h9⟩
   obtain⟨g1,g2⟩:=hhead;have hlen:Tv l (Ct l r) (Cs l go r s).1 (Gp l r (Cs l go r s).1)∧(lsFrom l r.p r.q r.t r.v<lsAt l r.p r.q r.t r.v→∀x∈F7 ((lsAt l r.p r.q r.t r.v:Int)-r.v) (lsAt l r.p r.q r.t r.v) 6,x∈(Gp l r (Cs l go r s).1).o):=by
    unfold Gp;split
    ·rename_i hf;rw [if_pos hf] at hown;exact⟨K9 _ (by decide) fun x hx=>hown x (List.mem_append_left _ (List.mem_append_right _ hx)),fun _=>K7 _ _ _ _⟩
    ·rename_i hf;exact⟨Tv.refl _,fun h=>absurd h hf⟩
   unfold Dy at h0⊢;rw [if_neg (by rw [hl];decide),if_neg (by rw [hh];decide)] at h0⊢;obtain⟨g3,g4⟩:=Aai r hg (Ct l r) (lsLen l r.p r.q r.t r.v) (fun ht i hi x hx=>hown x (List.mem_append_right _ (by rw [if_pos ht];exact List.mem_flatMap.2 ⟨i,List.mem_range.2 hi,hx⟩)))
    (fun i hi x hx=>hkid (Ed l r i) (List.mem_append_right _ (List.mem_map.2 ⟨i,List.mem_range.2 hi,rfl⟩)) x hx) _ 0 _ (by omega) h0
   have g5:=hlen.1.trans g3;refine⟨g1.trans g5,fun x hx=>?_,fun c hc=>?_⟩
   ·rcases List.mem_append.1 hx with hx|hx
    ·rcases List.mem_append.1 hx with hx|hx
     ·split at hx
      ·rename_i h9;exact g5.osub x ((g2 h9).2 x hx)
      ·simp at hx
     ·split at hx
      ·rename_i hf;exact g3.osub x (hlen.2 hf x hx)
      ·simp at hx
    ·split at hx
     ·rename_i ht;obtain⟨i,hi,hx⟩:=List.mem_flatMap.1 hx;have hi:=List.mem_range.1 hi;exact(g4 i (Nat.zero_le _) (by omega)).2 ht x hx
     ·simp at hx
   ·rcases List.mem_append.1 hc with hc|hc
    ·split at hc
     ·rename_i h9;rw [List.mem_singleton.1 hc];exact(g2 h9).1.mono g5.sub g5.osub
     ·simp at hc
    ·obtain⟨i,hi,rfl⟩:=List.mem_map.1 hc;have hi:=List.mem_range.1 hi;exact(g4 i (Nat.zero_le _) (by omega)).1
  ·unfold Dy at h0;rw [if_neg (by rw [hl];decide),if_pos hh] at h0;exact absurd h0 hh
 ·unfold Dy at h0;rw [if_pos hl] at h0;exact absurd h0 hl
end
theorem Anv{l:List UInt8}(r:Rq)(s:Ao)(hl:¬s.left<1)(U:P3→Prop)(hU:∀x∈Gj r,U x):Tv l U s (Bq r s)∧∀x∈Gj r,x∈(Bq r s).o:=by
 have e:(Bq r s).o=s.o++Gj r:=by
  unfold Bq;rw [Jn];rfl
 have eh:(Bq r s).had=s.had:=by
  unfold Bq;rw [Jm];rfl
 have el:(Bq r s).left=s.left-1:=Oq r s;refine⟨⟨fun y hy=>by rw [eh];exact hy,fun x hx=>by rw [e];exact List.mem_append_left _ hx,fun y hy=>by rw [eh] at hy;exact .inl hy,fun x hx=>?_,?_,fun _=>by rw [el];omega⟩,fun x hx=>by rw [e];exact List.mem_append_right _ hx⟩
 ·rw [e] at hx;exact(List.mem_append.1 hx).imp id (hU x)
 ·rw [e,el,Ej];have:nslot (Gj r)≤1:=by
   unfold Gj F7 nslot;split
   ·exact Nat.le_trans List.countP_le_length (by simp)
   ·simp
  omega
theorem V2(l:List UInt8):∀d,Afq l (Bl l d)
 |0=>fun _ _ h=>by cases h
 |d+1=>fun r s h0=>by
  unfold Bl at h0⊢;by_cases h1:s.left<1
  ·rw [if_pos h1] at h0;cases h0
  obtain⟨k1,k2⟩:=Anv (l:=l) r s h1 (fun x=>x∈Gj r∨(An r.t=false∧Ct l r x)) (fun x hx=> .inl hx);rw [if_neg h1] at h0⊢;by_cases h2:An r.t=true
  ·rw [if_pos h2];exact⟨k1,k2,.inl h2⟩
  rw [if_neg h2] at h0⊢;have hi:An r.t=false:=by simpa using h2
  have eh:(Bq r s).had=s.had:=by
   unfold Bq;rw [Jm];rfl
  by_cases h3:Bh l r.p r.q r.t r.v≠0∨Ea l r∈s.had
  ·rw [if_pos h3] at h0⊢;simp only at h0;refine⟨k1,k2,.inr ⟨hi,h0,?_⟩⟩;rw [eh];exact h3.resolve_left fun h=>h h0
  ·rw [if_neg h3] at h0⊢;obtain⟨g1,g2,g3⟩:=Ape r (V2 l d) hi _ h0;have hte:Bh l r.p r.q r.t r.v=0:=Decidable.of_not_not fun h=>h3 (.inl h)
   have hs:((Bq r s).see (Ea l r)).had=s.had++ [Ea l r]:=by
    unfold Ao.see;simp only [eh]
   refine⟨⟨fun y hy=>g1.sub y (by rw [hs];exact List.mem_append_left _ hy),fun x hx=>g1.osub x (k1.osub x hx),fun y hy=>?_,fun x hx=>?_,Int.le_trans g1.cnt k1.cnt,fun h=>g1.nn (k1.nn h)⟩,fun x hx=>g1.osub x (k2 x hx),.inr ⟨hi,hte,g1.sub _ (by rw [hs];exact List.mem_append_right _ (List.mem_singleton.2 rfl))⟩⟩
   ·rcases g1.new y hy with h4|h4
    ·rw [hs] at h4;rcases List.mem_append.1 h4 with h5|h5
     ·exact .inl h5
     ·exact .inr ⟨r,(List.mem_singleton.1 h5).symm,hte,hi,g2,g3⟩
    ·exact .inr h4
   ·rcases g1.up x hx with h4|h4
    ·exact k1.up x h4
    ·exact .inr (.inr ⟨hi,h4⟩)
theorem Aci{l:List UInt8}{p q t v:Int}(h:Bh l p q t v=0):Bm l.length p q t v=0:=by
 unfold Bh at h;split at h
 ·assumption
 ·exact h
theorem Qt{l:List UInt8}{r r':Rq}(h:Bh l r.p r.q r.t r.v=0)(h':Bh l r'.p r'.q r'.t r'.v=0)(hi:An r.t=false)(e:Ea l r=Ea l r'):Iv l r=Iv l r'∧Fs l r=Fs l r':=by
 obtain⟨p,q,t,v⟩:=r;obtain⟨p',q',t',v'⟩:=r';unfold Ea at e;simp only [Prod.mk.injEq] at e h h';obtain⟨e,rfl,rfl⟩:=e;have hi:An t=false:=hi;have hm:=Aci h;have hm':=Aci h';have e1:J0 l p q t v=J0 l p' q' t v:=by unfold J0;rw [e]
 have e2:Bw l p q t v=Bw l p' q' t v:=by unfold Bw;rw [hm,hm',h,h',e,e1]
 have e3:lsFrom l p q t v=lsFrom l p' q' t v:=by unfold lsFrom;rw [e2,e]
 have e4:lsAt l p q t v=lsAt l p' q' t v:=by unfold lsAt;rw [e2,e]
 have e5:lsLen l p q t v=lsLen l p' q' t v:=by unfold lsLen;rw [e2,e1]
 have e6:Dc l p q t v [4,5,25]=Dc l p' q' t v [4,5,25]:=by unfold Dc;rw [hm,hm',h,h',e]
 have e6a:Cm l p q t v [4,5,25]=Cm l p' q' t v [4,5,25]:=by unfold Cm;rw [e6,e]
 have e6l:D5 l p q t v [4,5,25]=D5 l p' q' t v [4,5,25]:=by unfold D5;rw [e6,e]
 have e7:Dd l p q t v=Dd l p' q' t v:=by unfold Dd;rw [hm,hm',h,h',e]
 have e7a:Fm l p q t v=Fm l p' q' t v:=by unfold Fm;rw [e7,e];simp only [hi];rfl
 have e7w:Fy l p q t v=Fy l p' q' t v:=by unfold Fy;rw [e7];simp only [hi,Bool.false_eq_true,if_false]
 have e8:kyU l p q t v=kyU l p' q' t v:=by unfold kyU;rw [e3]
 have e9:Gu l p q t v=Gu l p' q' t v:=by unfold Gu;rw [hm,hm',e2,e8]
 have e10:∀i,Lv l p q t v i=Lv l p' q' t v i:=fun i=>by unfold Lv;rw [e4,e5]
 have e11:∀i,Ez l p q t v i=Ez l p' q' t v i:=fun i=>by unfold Ez;rw [e2,e5,e10]
 have e12:C9 l ⟨p,q,t,v⟩=C9 l ⟨p',q',t,v⟩:=by unfold C9 Fi Fj Lx Fp;simp only [e9,e3,e8]
 have e13:∀i,Ed l ⟨p,q,t,v⟩ i=Ed l ⟨p',q',t,v⟩ i:=fun i=>by unfold Ed I8 I9 Jr Js;simp only [e11,e4,e10]
 refine⟨?_,?_⟩
 ·unfold Iv;simp only [e3,e4,e5,e6a,e6l,e7a,e7w]
 ·unfold Fs;simp only [e5,e12,e13]
theorem Al9{l:List UInt8}{d:Nat}{r:Rq}{s:Ao}(hs:s.had=[])(h0:(Bl l d r s).2=0):∀x,x∈(Bl l d r s).1.o↔x∈s.o∨x∈Gj r∨(An r.t=false∧Ct l r x):=by
 obtain⟨g1,g2⟩:=V2 l d r s h0;generalize hs':(Bl l d r s).1=s' at g1 g2;have all:∀{r x},Ct l r x→Bh l r.p r.q r.t r.v=0→Ea l r∈s'.had→x∈s'.o:=by
  intro r x h
  induction h with
  | @own r x hi h=>
   intro ht hm;rcases g1.new _ hm with h1|⟨r0,h1,h2,h3,h4,h5⟩
   ·rw [hs] at h1;simp at h1
   ·exact h4 x ((Qt h2 ht h3 h1).1▸h)
  | @slot r c x hi hc h=>
   intro ht hm;rcases g1.new _ hm with h1|⟨r0,h1,h2,h3,h4,h5⟩
   ·rw [hs] at h1;simp at h1
   ·exact(h5 c ((Qt h2 ht h3 h1).2▸hc)).1 x h
  | @deep r c x hi hc h ih=>
   intro ht hm;rcases g1.new _ hm with h1|⟨r0,h1,h2,h3,h4,h5⟩
   ·rw [hs] at h1;simp at h1
   ·rcases(h5 c ((Qt h2 ht h3 h1).2▸hc)).2 with h6|⟨_,h7,h8⟩
    ·cases h with
     |own hi' _=>rw [h6] at hi';cases hi'
     |slot hi' _ _=>rw [h6] at hi';cases hi'
     |deep hi' _ _=>rw [h6] at hi';cases hi'
    ·exact ih h7 h8
 intro x;constructor
 ·exact g1.up x
 ·rintro(h|h|⟨hi,h⟩)
  ·exact g1.osub x h
  ·exact g2.1 x h
  ·rcases g2.2 with h6|⟨_,h7,h8⟩
   ·rw [h6] at hi;cases hi
   ·exact all h h7 h8
end Go.Proofs.YtgbjodnegkbfoaaGreat
namespace Go.Proofs.YtgbjodnegkbfoaaGreat
open Go.Acc
def Mz(s:List UInt8)(v:Bv):P3:=((v.n:Int),((v.n+s.length+1:Nat):Int),9)
def Hs:List (List UInt8)→List Bv→List P3
 |s::r,v::q=>Mz s v::Hs r q
 |_,_=>[]
def I5(t:Nat)(s:List UInt8)(v:Bv):List P3:=
 (((v.n-v.w:Nat):Int),(v.n:Int),(6:Int))::(if t=5 then [((v.n:Int),((v.n+s.length+1:Nat):Int),(10:Int))] else if s=[] then [] else [((v.n:Int),((v.n+s.length:Nat):Int),(11:Int))])
def Rg(v:Bv)(c:Int):P3:=((v.n:Int),((v.n+v.w:Nat):Int),c)
inductive Rp(l:List UInt8):Bv→Tr→List P3→Prop
 |null (n u s ks c):Rp l ⟨0,1,0⟩ (.mk 1 n u s ks c) []
 |truth (n u s ks c):Rp l (Cz n) (.mk 2 n u s ks c) []
 |int (n u s ks c):Rp l (Cf n) (.mk 3 n u s ks c) []
 |uint (n u s ks c):Rp l (Ch u) (.mk 4 n u s ks c) []
 |key {v:Bv} {s:List UInt8} (n u ks c) (h:G3 l s v):Rp l v (.mk 5 n u s ks c) [Mz s v]
 |str {v:Bv} {s:List UInt8} (n u ks c) (h:Em l 5 s [0] v):Rp l v (.mk 6 n u s ks c) (I5 5 s v)
 |blob {v:Bv} {s:List UInt8} (n u ks c) (h:Em l 25 s [] v):Rp l v (.mk 7 n u s ks c) (I5 25 s v)
 |indInt {v:Bv} {n:Int} (u s ks c) (h:G6 l 6 (bWidthI n) (bits n) v):Rp l v (.mk 8 n u s ks c) [Rg v 12]
 |indUint {v:Bv} {u:Nat} (n s ks c) (h:G6 l 7 (bWidth u) u v):Rp l v (.mk 9 n u s ks c) [Rg v 13]
 |ints {v:Bv} {c:List Tr} (n u s ks) (h:Cd l 11 true false (c.map fun t=>Cf t.n) v):Rp l v (.mk 11 n u s ks c) (Hv true false (c.map fun t=>Cf t.n) v)
 |uints {v:Bv} {c:List Tr} (n u s ks) (h:Cd l 12 true false (c.map fun t=>Ch t.u) v):Rp l v (.mk 12 n u s ks c) (Hv true false (c.map fun t=>Ch t.u) v)
 |bools {v:Bv} {c:List Tr} (n u s ks) (h:Cd l 36 true false (c.map fun t=>Cz t.n) v):Rp l v (.mk 14 n u s ks c) (Hv true false (c.map fun t=>Cz t.n) v)
 |keys {v:Bv} {c:List Tr} {vs:List Bv} (n u s ks) (hk:De l (c.map Tr.s) vs) (h:Cd l 14 true false vs v):Rp l v (.mk 13 n u s ks c) (Hs (c.map Tr.s) vs++Hv true false vs v)
 |fixInts {v:Bv} {c:List Tr} (n u s ks) (h:Cd l (10+3*c.length) false false (c.map fun t=>Cf t.n) v):Rp l v (.mk 15 n u s ks c) (Hv false false (c.map fun t=>Cf t.n) v)
 |fixUints {v:Bv} {c:List Tr} (n u s ks) (h:Cd l (11+3*c.length) false false (c.map fun t=>Ch t.u) v):Rp l v (.mk 16 n u s ks c) (Hv false false (c.map fun t=>Ch t.u) v)
 |vec {v:Bv} {c:List Tr} {vs:List Bv} {pss:List (List P3)} (n u s ks) (hl:vs.length=c.length) (hp:pss.length=c.length) (hr:∀(i:Nat) x t ps,vs[i]?=some x→c[i]?=some t→pss[i]?=some ps→Rp l x t ps) (h:Cd l 10 true true vs v):
   Rp l v (.mk 10 n u s ks c) (pss.flatten++Hv true true vs v)
 |map {v kv:Bv} {c:List Tr} {ks:List (List UInt8)} {kvs vs:List Bv} {pss:List (List P3)} (n u s) (hk:De l ks kvs) (hv:Cd l 14 true false kvs kv) (hl:vs.length=c.length) (hp:pss.length=c.length)
   (hr:∀(i:Nat) x t ps,vs[i]?=some x→c[i]?=some t→pss[i]?=some ps→Rp l x t ps) (h:F2 l kv vs v):Rp l v (.mk 17 n u s ks c) (Hs ks kvs++pss.flatten++Hv true false kvs kv++N2 vs v)
theorem Rp.app{l:List UInt8}{v:Bv}{t:Tr}{ps:List P3}(h:Rp l v t ps)(x:List UInt8):Rp (l++x) v t ps:=by
 induction h with
 |null=>exact .null _ _ _ _ _
 |truth=>exact .truth _ _ _ _ _
 |int=>exact .int _ _ _ _ _
 |uint=>exact .uint _ _ _ _ _
 |key _ _ _ _ h=>exact .key _ _ _ _ (h.app x)
 |str _ _ _ _ h=>exact .str _ _ _ _ (h.app x)
 |blob _ _ _ _ h=>exact .blob _ _ _ _ (h.app x)
 |indInt _ _ _ _ h=>exact .indInt _ _ _ _ (h.app x)
 |indUint _ _ _ _ h=>exact .indUint _ _ _ _ (h.app x)
 |ints _ _ _ _ h=>exact .ints _ _ _ _ (h.app x)
 |uints _ _ _ _ h=>exact .uints _ _ _ _ (h.app x)
 |bools _ _ _ _ h=>exact .bools _ _ _ _ (h.app x)
 |keys _ _ _ _ hk h=>exact .keys _ _ _ _ (hk.app x) (h.app x)
 |fixInts _ _ _ _ h=>exact .fixInts _ _ _ _ (h.app x)
 |fixUints _ _ _ _ h=>exact .fixUints _ _ _ _ (h.app x)
 |vec _ _ _ _ hl hp _ h ih=>exact .vec _ _ _ _ hl hp ih (h.app x)
 |map _ _ _ hk hv hl hp _ h ih=>exact .map _ _ _ (hk.app x) (hv.app x) hl hp ih (h.app x)
theorem Rp.rep{l:List UInt8}{v:Bv}{t:Tr}{ps:List P3}(h:Rp l v t ps):Ee l v t:=by
 induction h with
 |null=>exact .null _ _ _ _ _
 |truth=>exact .truth _ _ _ _ _
 |int=>exact .int _ _ _ _ _
 |uint=>exact .uint _ _ _ _ _
 |key _ _ _ _ h=>exact .key _ _ _ _ h
 |str _ _ _ _ h=>exact .str _ _ _ _ h
 |blob _ _ _ _ h=>exact .blob _ _ _ _ h
 |indInt _ _ _ _ h=>exact .indInt _ _ _ _ h
 |indUint _ _ _ _ h=>exact .indUint _ _ _ _ h
 |ints _ _ _ _ h=>exact .ints _ _ _ _ h
 |uints _ _ _ _ h=>exact .uints _ _ _ _ h
 |bools _ _ _ _ h=>exact .bools _ _ _ _ h
 |keys _ _ _ _ hk h=>exact .keys _ _ _ _ hk h
 |fixInts _ _ _ _ h=>exact .fixInts _ _ _ _ h
 |fixUints _ _ _ _ h=>exact .fixUints _ _ _ _ h
 |vec _ _ _ _ hl hp _ h ih=>exact .vec _ _ _ _ hl (fun i x t hx ht=>ih i x t _ hx ht (Ati (by rw [hp];exact(List.getElem?_eq_some_iff.1 ht).1))) h
 |map _ _ _ hk hv hl hp _ h ih=>exact .map _ _ _ hk hv hl (fun i x t hx ht=>ih i x t _ hx ht (Ati (by rw [hp];exact(List.getElem?_eq_some_iff.1 ht).1))) h
structure Fq(f:Nat)(b:Bd)(log:List P3):Prop where
 tile:E8 b.b log
 good:Cr b
 keys:∀s a,Bf b.keys s=some a→Mz s ⟨4,1,a⟩∈log
 texts:∀s a,Bf b.texts s=some a→∀x∈I5 5 s ⟨5,bWidth s.length,a⟩,x∈log
 lists:∀ks:List (List UInt8),(∀s∈ks,(0:UInt8)∉s)→∀i,Bf b.lists (Cl ks)=some i→∃kv kvs,b.vals[i]?=some kv∧De b.b ks kvs∧Cd b.b 14 true false kvs kv∧(∀x∈Hs ks kvs++Hv true false kvs kv,x∈log)∧
  (Ek f 1=true→∀(j:Nat) s v,ks[j]?=some s→kvs[j]?=some v→Bf b.keys s=some v.n)
theorem Ajd(f:Nat):Fq f Bd.new []:=⟨.nil,Mu,fun _ _ h=>by simp [Bd.new,Bf] at h,fun _ _ h=>by simp [Bd.new,Bf] at h,fun _ _ _ h=>by simp [Bd.new,Bf] at h⟩
structure Ep(f:Nat)(b:Bd)(log:List P3)(b':Bd)(log' ps:List P3)(n:Nat):Prop where
 app:∃m,b'.b=b.b++m
 goodq:Fq f b' log'
 mem:∀x,x∈log'↔x∈log∨x∈ps
 keys:∀s a,Bf b.keys s=some a→Bf b'.keys s=some a
 cnt:f=0→nslot log'=nslot log+n
theorem Ep.trans{f:Nat}{a b c:Bd}{l l' l'' ps ps':List P3}{n n':Nat}(h:Ep f a l b l' ps n)(h':Ep f b l' c l'' ps' n'):Ep f a l c l'' (ps++ps') (n+n'):=by
 obtain⟨⟨m,e⟩,_,m1,k1,c1⟩:=h;obtain⟨⟨m',e'⟩,g,m2,k2,c2⟩:=h';refine⟨⟨m++m',by rw [e',e,Ato]⟩,g,fun x=>?_,fun s a e=>k2 s a (k1 s a e),fun hf=>?_⟩
 ·rw [m2,m1,List.mem_append,or_assoc]
 ·rw [c2 hf,c1 hf,Nat.add_assoc]
theorem Ep.rp{f:Nat}{a b:Bd}{l l' ps:List P3}{n:Nat}(h:Ep f a l b l' ps n){v:Bv}{t:Tr}{qs:List P3}(r:Rp a.b v t qs):Rp b.b v t qs:=by
 obtain⟨m,e⟩:=h.app;rw [e];exact r.app m
theorem Ep.sub{f:Nat}{a b:Bd}{l l' ps ps':List P3}{n n':Nat}(h:Ep f a l b l' ps n)(hp:∀x,x∈l∨x∈ps'↔x∈l∨x∈ps)(hn:n'=n):Ep f a l b l' ps' n':=⟨h.app,h.goodq,fun x=>by rw [h.mem,hp],h.keys,by rw [hn];exact h.cnt⟩
theorem Fq.app{f:Nat}{b b':Bd}{log log':List P3}(h:Fq f b log)(ht:E8 b'.b log')(hs:∀x∈log,x∈log')(x:List UInt8)(hb:b'.b=b.b++x)(hk:b'.keys=b.keys)(htx:b'.texts=b.texts)(hl:b'.lists=b.lists)(hv:b'.vals=b.vals):Fq f b' log':=by
 refine⟨ht,h.good.app x hb hk htx hl hv,fun s a e=>?_,fun s a e y hy=>?_,fun ks h0 i e=>?_⟩
 ·rw [hk] at e;exact hs _ (h.keys s a e)
 ·rw [htx] at e;exact hs _ (h.texts s a e y hy)
 ·rw [hl] at e;obtain⟨kv,kvs,h1,h2,h3,h4,h5⟩:=h.lists ks h0 i e;rw [hb,hv,hk];exact⟨kv,kvs,h1,h2.app x,h3.app x,fun y hy=>hs _ (h4 y hy),h5⟩
theorem Ro{f:Nat}{b b':Bd}{log ps:List P3}(h:Fq f b log)(ht:E8 b'.b (log++ps))(x:List UInt8)(hb:b'.b=b.b++x)(hk:b'.keys=b.keys)(htx:b'.texts=b.texts)(hl:b'.lists=b.lists)(hv:b'.vals=b.vals):Ep f b log b' (log++ps) ps (nslot ps):=
 ⟨⟨x,hb⟩,h.app ht (fun _ hx=>List.mem_append_left _ hx) x hb hk htx hl hv,fun _=>List.mem_append,fun s a e=>by rw [hk];exact e,fun _=>Ej _ _⟩
theorem I4{f:Nat}{b:Bd}{log:List P3}(h:Fq f b log)(v:Bv):Ep f b log (b.push v) log [] 0:=
 ⟨⟨[],by simp [Bd.push]⟩,h.app h.tile (fun _ hx=>hx) [] (by simp [Bd.push]) rfl rfl rfl rfl,fun _=>by simp,fun _ _ e=>e,fun _=>rfl⟩
theorem Xw{l:List (List UInt8×Nat)}{k s:List UInt8}{a c:Nat}(h:Bf l s=some c):Bf (En l k a) s=some c:=by
 unfold En;split
 ·exact h
 ·unfold Bf at h⊢;rw [List.find?_append];cases e:l.find? (fun x=>x.1==s) with
  |none=>rw [e] at h;cases h
  |some y=>rw [e] at h;exact h
theorem Amo{l:List (List UInt8×Nat)}{k:List UInt8}{a:Nat}(h:Bf l k=none):Bf (En l k a) k=some a:=by
 unfold En;rw [if_neg (by rw [h];decide)];unfold Bf at h⊢;rw [List.find?_append];cases e:l.find? (fun x=>x.1==k) with
 |none=>simp
 |some y=>rw [e] at h;cases h
theorem Aos(f:Nat)(s:List UInt8)(b:Bd){log:List P3}(h:Fq f b log):∃log',Ep f b log (b.put f s).1 log' [Mz s (b.put f s).2] 0∧G3 (b.put f s).1.b s (b.put f s).2∧(b.put f s).1.s=b.s∧(Ek f 1=true→Bf (b.put f s).1.keys s=some (b.put f s).2.n):=by
 obtain⟨⟨q1,q2⟩,q3,q4⟩:=R9 f s b h.good;revert q1 q2 q3 q4;unfold Bd.put;split
 ·next a ha=>
  intro _ _ q3 q4;split at ha
  ·have hm:=h.keys s a ha;exact⟨log,⟨⟨[],by simp⟩,h,fun x=>⟨.inl,fun hx=>hx.elim id fun hx=>(List.mem_singleton.1 hx)▸hm⟩,fun _ _ e=>e,fun _=>rfl⟩,q3,q4,fun _=>ha⟩
  ·cases ha
 ·next ha=>
  intro _ q2 q3 q4;have ht:E8 (b.b++s++ [0]) (log++ [Mz s ⟨4,1,b.b.length⟩]):=by
   have:=h.tile.part (s++ [0]) (by simp) 9;rw [Atj,←Ato] at this;exact this
  refine⟨log++ [Mz s ⟨4,1,b.b.length⟩],⟨⟨s++ [0],by simp⟩,⟨ht,q2,fun k a e=>?_,fun k a e y hy=>?_,fun ks h0 i e=>?_⟩,fun _=>List.mem_append,fun k a e=>Xw e,fun _=>?_⟩,q3,q4,fun h1=>?_⟩
  ·rcases Ir e with e|⟨rfl,rfl⟩
   ·exact List.mem_append_left _ (h.keys k a e)
   ·exact List.mem_append_right _ (List.mem_singleton.2 rfl)
  ·exact List.mem_append_left _ (h.texts k a e y hy)
  ·obtain⟨kv,kvs,h1,h2,h3,h4,h5⟩:=h.lists ks h0 i e;have h2:=h2.app (s++ [0]);have h3:=h3.app (s++ [0]);rw [←Ato] at h2 h3;exact⟨kv,kvs,h1,h2,h3,fun y hy=>List.mem_append_left _ (h4 y hy),fun hf j x v hx hv=>Xw (h5 hf j x v hx hv)⟩
  ·rw [Ej];rfl
  ·rw [if_pos h1] at ha;exact Amo ha
theorem Aoo(f:Nat)(s:List UInt8)(b:Bd){log:List P3}(h:Fq f b log):∃v log',(b.key f s).s=b.s++ [v]∧Ep f b log (b.key f s) log' [Mz s v] 0∧G3 (b.key f s).b s v∧(Ek f 1=true→Bf (b.key f s).keys s=some v.n):=by
 obtain⟨log',h1,h2,h3,h4⟩:=Aos f s b h;refine⟨(b.put f s).2,log',by simp [Bd.key,Bd.push,h3],?_,h2,h4⟩;have:=h1.trans (I4 h1.goodq (b.put f s).2);exact this
theorem Akr(f:Nat):∀(ks:List (List UInt8)) (b:Bd) (log:List P3),Fq f b log→∃log',Ep f b log (b.puts f ks).1 log' (Hs ks (b.puts f ks).2) 0∧De (b.puts f ks).1.b ks (b.puts f ks).2∧(b.puts f ks).1.s=b.s
 | [],b,log,h=>⟨log,⟨⟨[],by simp [Bd.puts]⟩,h,fun _=>by simp [Hs],fun _ _ e=>e,fun _=>rfl⟩,⟨rfl,fun i s v h=>by simp at h⟩,rfl⟩
 |s::r,b,log,h=>by
  obtain⟨l1,s1,_,e1,_⟩:=Aos f s b h;obtain⟨l2,s2,_,e2⟩:=Akr f r (b.put f s).1 l1 s1.goodq;obtain⟨_,k2,_⟩:=Pu f (s::r) b h.good;have st:=s1.trans s2;exact⟨l2,st,k2,e2.trans e1⟩
theorem P4(f t:Nat)(len tags:Bool)(l:List Bv)(b:Bd){log:List P3}(h:Fq f b log)(hf:∀x∈l,Dx b.b.length x):∃v log',(b.vec t len tags l).s=b.s++ [v]∧Ep f b log (b.vec t len tags l) log' (Hv len tags l v) l.length∧Cd (b.vec t len tags l).b t len tags l v:=by
 obtain⟨v,e,_,hv⟩:=J6 t len tags l b h.good hf;have ev:v=(Bc t len tags l b.b).2:=by
  have:b.s++ [(Bc t len tags l b.b).2]=b.s++ [v]:=e;exact(List.cons.inj (List.append_cancel_left this)).1.symm
 subst ev;obtain⟨m,em⟩:=Lb t len tags l b.b;have st:=Ro (b':=b.vec t len tags l) h (Acn h.tile t len tags hf) m em rfl rfl rfl rfl;rw [X8] at st;exact⟨_,_,rfl,st,hv⟩
theorem Yq{b:List UInt8}{log:List P3}(h:E8 b log)(t:Nat)(s z:List UInt8)(hz:(t=5∧z=[0])∨(t=25∧z=[]))(v:Bv)(hv:v=⟨t,bWidth s.length,(Ah (bWidth s.length) b++Ai (bWidth s.length) s.length).length⟩):
  E8 (Ah (bWidth s.length) b++Ai (bWidth s.length) s.length++s++z) (log++I5 t s v):=by
 subst hv;have h0:0<bWidth s.length:=by rcases Ll s.length with h|h|h|h <;>omega
 have ha:E8 (Ah (bWidth s.length) b) log:=h.pad _;have h1:=ha.part _ (M1 h0 (u:=s.length)) 6;have e:(Ah (bWidth s.length) b++Ai (bWidth s.length) s.length).length=(Ah (bWidth s.length) b).length+bWidth s.length:=by rw [Atj,Aj]
 have e2:(Ah (bWidth s.length) b).length+bWidth s.length-bWidth s.length=(Ah (bWidth s.length) b).length:=by omega
 rw [Aj] at h1;unfold I5;simp only [e,e2];rcases hz with⟨rfl,rfl⟩|⟨rfl,rfl⟩
 ·have h2:=h1.part (s++ [0]) (by simp) 10;rw [if_pos rfl];simp only [e,Atj,List.length_cons,List.length_nil,Ato,List.cons_append,List.nil_append,Nat.zero_add,←Nat.add_assoc] at h2⊢;exact h2
 ·rw [if_neg (by decide),List.append_nil];by_cases hs:s=[]
  ·subst hs;rw [if_pos rfl,List.append_nil];exact h1
  ·have h2:=h1.part s hs 11;rw [e,Ato log] at h2;rw [if_neg hs];exact h2
theorem Vb(t:Nat)(s:List UInt8)(v:Bv):nslot (I5 t s v)=0:=by
 unfold I5;split
 ·rfl
 ·split <;>rfl
theorem Aq9(f:Nat)(s:List UInt8)(b:Bd){log:List P3}(h:Fq f b log):∃v log',(b.blob s).s=b.s++ [v]∧Ep f b log (b.blob s) log' (I5 25 s v) 0∧Em (b.blob s).b 25 s [] v:=by
 obtain⟨v,e0,_,hv⟩:=Zp s b h.good;have ev:v=⟨25,bWidth s.length,(Ah (bWidth s.length) b.b++Ai (bWidth s.length) s.length).length⟩:=by
  have:b.s++ [(⟨25,bWidth s.length,(Ah (bWidth s.length) b.b++Ai (bWidth s.length) s.length).length⟩:Bv)]=b.s++ [v]:=e0;exact(List.cons.inj (List.append_cancel_left this)).1.symm
 have e:(b.blob s).b=b.b++(Atm (Jk (bWidth s.length) b.b.length) 0++(Ai (bWidth s.length) s.length++s)):=by simp only [Bd.blob,Ah,Ato]
 have ht:=Yq h.tile 25 s [] (.inr ⟨rfl,rfl⟩) v ev;rw [List.append_nil] at ht;have st:=Ro (b':=b.blob s) h ht _ e rfl rfl rfl rfl;rw [Vb] at st;exact⟨v,_,e0,st,hv⟩
theorem Asr(f:Nat)(s:List UInt8)(b:Bd){log:List P3}(h:Fq f b log):∃v log',(b.str f s).s=b.s++ [v]∧Ep f b log (b.str f s) log' (I5 5 s v) 0∧Em (b.str f s).b 5 s [0] v:=by
 obtain⟨v0,e0,⟨q1,q2⟩,hv⟩:=Ae8 f s b h.good;revert q1 q2 e0 hv;unfold Bd.str;simp only [];split
 ·next a ha=>
  intro e0 hv _ _;split at ha
  ·have ev:v0=⟨5,bWidth s.length,a⟩:=by
    have:b.s++ [(⟨5,bWidth s.length,a⟩:Bv)]=b.s++ [v0]:=e0;exact(List.cons.inj (List.append_cancel_left this)).1.symm
   subst ev;have hm:=h.texts s a ha;exact⟨_,log,e0,(I4 h _).sub (fun x=>⟨fun hx=> .inl (hx.elim id (hm x)),fun hx=>hx.imp id fun hx=>by simp at hx⟩) rfl,hv⟩
  ·cases ha
 ·intro e0 hv _ q2;have ev:v0=⟨5,bWidth s.length,(Ah (bWidth s.length) b.b++Ai (bWidth s.length) s.length).length⟩:=by
   have:b.s++ [(⟨5,bWidth s.length,(Ah (bWidth s.length) b.b++Ai (bWidth s.length) s.length).length⟩:Bv)]=b.s++ [v0]:=e0;exact(List.cons.inj (List.append_cancel_left this)).1.symm
  have e:Ah (bWidth s.length) b.b++Ai (bWidth s.length) s.length++s++ [0]=b.b++(Atm (Jk (bWidth s.length) b.b.length) 0++(Ai (bWidth s.length) s.length++(s++ [0]))):=by simp only [Ah,Ato]
  have ht:=Yq h.tile 5 s [0] (.inl ⟨rfl,rfl⟩) v0 ev;refine⟨v0,log++I5 5 s v0,e0,⟨⟨_,e⟩,⟨ht,q2,fun k a i=>List.mem_append_left _ (h.keys k a i),fun k a i y hy=>?_,fun ks h0 i j=>?_⟩,fun _=>List.mem_append,fun _ _ i=>i,fun _=>by rw [Ej,Vb]⟩,hv⟩
  ·rcases Ir i with i|⟨rfl,rfl⟩
   ·exact List.mem_append_left _ (h.texts k a i y hy)
   ·rw [←ev] at hy;exact List.mem_append_right _ hy
  ·obtain⟨kv,kvs,h1,h2,h3,h4,h5⟩:=h.lists ks h0 i j;exact⟨kv,kvs,h1,e▸h2.app _,e▸h3.app _,fun y hy=>List.mem_append_left _ (h4 y hy),h5⟩
theorem Ad5(f t w n:Nat)(c:Int)(hc:5<c)(b:Bd){log:List P3}(h:Fq f b log)(hw:w=1∨w=2∨w=4∨w=8):∃v log',(b.apart t w n).s=b.s++ [v]∧Ep f b log (b.apart t w n) log' [Rg v c] 0∧G6 (b.apart t w n).b t w n v:=by
 have e:(b.apart t w n).b=b.b++(Atm (Jk w b.b.length) 0++Ai w (n % 2^(8*w))):=by simp only [Bd.apart,Ah,Ato]
 have ht:E8 (b.apart t w n).b (log++ [Rg ⟨t,w,(Ah w b.b).length⟩ c]):=by
  have ha:E8 (Ah w b.b) log:=h.tile.pad _;have:=ha.part (Ai w (n % 2^(8*w))) (M1 (by omega)) c;rw [Aj] at this;exact this
 have st:=Ro (b':=b.apart t w n) h ht _ e rfl rfl rfl rfl;have hz:nslot [Rg ⟨t,w,(Ah w b.b).length⟩ c]=0:=by
  unfold nslot;rw [List.countP_cons_of_neg (by show ¬decide (c≤5)=true;rw [decide_eq_true_eq];omega)];rfl
 rw [hz] at st;exact⟨_,_,rfl,st,rfl,rfl,At.last _ _,Qk hw _⟩
end Go.Proofs.YtgbjodnegkbfoaaGreat
