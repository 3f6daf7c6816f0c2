/- Parts of the proof. -/
import Derived.Test.YtgbjodnegkbfoaaGreatQa02
open List renaming getElem?_eq_getElem→Ati,length_append→Atj,replicate→Atm,append_assoc→Ato,getD_eq_getElem?_getD→Atw
namespace Go.Proofs.YtgbjodnegkbfoaaGreat
open Go.Acc
def At(l:List UInt8)(a:Nat)(m:List UInt8):Prop:=∃p q,l=p++m++q∧p.length=a
theorem At.app{l:List UInt8}{a:Nat}{m:List UInt8}(h:At l a m)(x:List UInt8):At (l++x) a m:=by
 obtain⟨p,q,rfl,rfl⟩:=h;exact⟨p,q++x,by simp,rfl⟩
theorem At.ahead{l:List UInt8}{a:Nat}{m:List UInt8}(h:At l a m)(x:List UInt8):At (x++l) (x.length+a) m:=by
 obtain⟨p,q,rfl,rfl⟩:=h;exact⟨x++p,q,by simp,by simp⟩
theorem At.last(l m:List UInt8):At (l++m) l.length m:=⟨l,[],by simp,rfl⟩
theorem At.left{l:List UInt8}{a:Nat}{m m':List UInt8}(h:At l a (m++m')):At l a m:=by
 obtain⟨p,q,rfl,rfl⟩:=h;exact⟨p,m'++q,by simp,rfl⟩
theorem At.right{l:List UInt8}{a:Nat}{m m':List UInt8}(h:At l a (m++m')):At l (a+m.length) m':=by
 obtain⟨p,q,rfl,rfl⟩:=h;exact⟨p++m,q,by simp,by simp⟩
theorem At.le{l:List UInt8}{a:Nat}{m:List UInt8}(h:At l a m):a+m.length≤l.length:=by
 obtain⟨p,q,rfl,rfl⟩:=h;simp
theorem At.take{l:List UInt8}{a:Nat}{m:List UInt8}(h:At l a m):(l.drop a).take m.length=m:=by
 obtain⟨p,q,rfl,rfl⟩:=h;simp
theorem At.get{l:List UInt8}{a i:Nat}{m:List UInt8}(h:At l a m)(hi:i<m.length):l[a+i]?=m[i]?:=by
 obtain⟨p,q,rfl,rfl⟩:=h;rw [Ato,List.getElem?_append_right (by omega),List.getElem?_append_left (by omega)]
 congr 1
 omega
theorem At.load{l:List UInt8}{a w u:Nat}(h:At l a (Ai w u))(hw:Av w=true):loadU l a w=D6 (Ai w u):=by
 have h1:=h.le;have h2:=h.take;rw [Aj] at h1 h2;have h3:(0:Int)≤a∧(a:Int)+w≤l.length:=by omega
 simp only [loadU,hw,h3,Int.toNat_natCast,h2,and_self,if_true]
theorem D3(w:Nat):∀(vs:List Bv) (l:List UInt8),∃m,Bn w l vs=l++m∧m.length=w*vs.length
 | [],l=>⟨[],by simp [Bn]⟩
 |v::r,l=>by
  obtain⟨m,e,h⟩:=D3 w r (l++Ai w (B9 w l.length v));refine⟨Ai w (B9 w l.length v)++m,by rw [Bn,e,Ato],?_⟩;rw [Atj,Aj,h,List.length_cons,Nat.mul_add,Nat.mul_one,Nat.add_comm]
theorem Qw(w:Nat):∀(vs:List Bv) (l:List UInt8) (i:Nat) (v:Bv),vs[i]?=some v→At (Bn w l vs) (l.length+i*w) (Ai w (B9 w (l.length+i*w) v))
 | [],_,_,_,h=>by simp at h
 |x::r,l,0,v,h=>by
  have e:x=v:=by simpa using h
  subst e;obtain⟨m,e,_⟩:=D3 w r (l++Ai w (B9 w l.length x));rw [Bn,e,Nat.zero_mul,Nat.add_zero];exact(At.last _ _).app m
 |x::r,l,i+1,v,h=>by
  have h2:=Qw w r (l++Ai w (B9 w l.length x)) i v (by simpa using h);have e:(l++Ai w (B9 w l.length x)).length+i*w=l.length+(i+1)*w:=by
   rw [Atj,Aj,Nat.succ_mul];omega
  rw [e] at h2;exact h2
theorem Lb(t:Nat)(len tags:Bool)(l:List Bv)(b:List UInt8):∃m,(Bc t len tags l b).1=b++m:=by
 obtain⟨w,hw⟩:∃w,B3 b.length (if len=true then 1 else 0) none l=w:=⟨_,rfl⟩;simp only [Bc,hw];obtain⟨m,e,_⟩:=D3 w l (Ah w b++(if len=true then Ai w l.length else []));exact⟨_,by rw [e,Ah,Ato,Ato,Ato]⟩
theorem Pl(k:Bv)(l:List Bv)(b:List UInt8):∃m,(Ds k l b).1=b++m:=by
 obtain⟨w,hw⟩:∃w,B3 b.length 3 (some k) l=w:=⟨_,rfl⟩;simp only [Ds,hw];obtain⟨m,e,_⟩:=D3 w l (Ah w b++Ai w ((Ah w b).length-k.n)++Ai w k.w++Ai w l.length);exact⟨Atm (Jk w b.length) 0++(Ai w ((Ah w b).length-k.n)++(Ai w k.w++(Ai w l.length++(m++l.map (C3 w))))),by rw [e];simp only [Ah,Ato]⟩
def Dx(n:Nat)(v:Bv):Prop:=(inl v.t=true→v.w≤8)∧(inl v.t=false→v.n≤n)
theorem Dx.mono{n n':Nat}{v:Bv}(h:Dx n v)(hn:n≤n'):Dx n' v:=⟨h.1,fun e=>Nat.le_trans (h.2 e) hn⟩
theorem Fu(u:Nat):bWidth u≤8:=by unfold bWidth;(repeat' split) <;>omega
theorem Oz(n:Int):bWidthI n≤8:=by unfold bWidthI;(repeat' split) <;>omega
theorem Ln(f:Nat→Bool):leastW f≤8:=by unfold leastW;(repeat' split) <;>omega
def Cd(l:List UInt8)(t:Nat)(len tags:Bool)(vs:List Bv)(v:Bv):Prop:=∃b m,l=(Bc t len tags vs b).1++m∧v=(Bc t len tags vs b).2∧∀x∈vs,Dx b.length x
def F2(l:List UInt8)(k:Bv)(vs:List Bv)(v:Bv):Prop:=∃b m,l=(Ds k vs b).1++m∧v=(Ds k vs b).2∧Dx b.length k∧∀x∈vs,Dx b.length x
theorem Cd.app{l:List UInt8}{t:Nat}{len tags:Bool}{vs:List Bv}{v:Bv}(h:Cd l t len tags vs v)(x:List UInt8):Cd (l++x) t len tags vs v:=by
 obtain⟨b,m,rfl,rfl,hf⟩:=h;exact⟨b,m++x,by rw [Ato],rfl,hf⟩
theorem F2.app{l:List UInt8}{k:Bv}{vs:List Bv}{v:Bv}(h:F2 l k vs v)(x:List UInt8):F2 (l++x) k vs v:=by
 obtain⟨b,m,rfl,rfl,hf⟩:=h;exact⟨b,m++x,by rw [Ato],rfl,hf⟩
def G3(l:List UInt8)(s:List UInt8)(v:Bv):Prop:=v.t=4∧v.w=1∧At l v.n (s++ [0])
def Em(l:List UInt8)(t:Nat)(s z:List UInt8)(v:Bv):Prop:=v.t=t∧v.w=bWidth s.length∧∃c,v.n=c+v.w∧At l c (Ai v.w s.length++s++z)∧c % v.w=0
def G6(l:List UInt8)(t w n:Nat)(v:Bv):Prop:=v.t=t∧v.w=w∧At l v.n (Ai w (n % 2^(8*w)))∧v.n % w=0
def De(l:List UInt8)(ks:List (List UInt8))(vs:List Bv):Prop:=vs.length=ks.length∧∀(i:Nat) s v,ks[i]?=some s→vs[i]?=some v→G3 l s v
theorem G3.app{l s:List UInt8}{v:Bv}(h:G3 l s v)(x:List UInt8):G3 (l++x) s v:=⟨h.1,h.2.1,h.2.2.app x⟩
theorem Em.app{l:List UInt8}{t:Nat}{s z:List UInt8}{v:Bv}(h:Em l t s z v)(x:List UInt8):Em (l++x) t s z v:=by
 obtain⟨h1,h2,c,h3,h4⟩:=h;exact⟨h1,h2,c,h3,h4.1.app x,h4.2⟩
theorem G6.app{l:List UInt8}{t w n:Nat}{v:Bv}(h:G6 l t w n v)(x:List UInt8):G6 (l++x) t w n v:=⟨h.1,h.2.1,h.2.2.1.app x,h.2.2.2⟩
theorem De.app{l:List UInt8}{ks:List (List UInt8)}{vs:List Bv}(h:De l ks vs)(x:List UInt8):De (l++x) ks vs:=⟨h.1,fun i s v h1 h2=>(h.2 i s v h1 h2).app x⟩
inductive Ee(l:List UInt8):Bv→Tr→Prop
 |null (n u s ks c):Ee l ⟨0,1,0⟩ (.mk 1 n u s ks c)
 |truth (n u s ks c):Ee l (Cz n) (.mk 2 n u s ks c)
 |int (n u s ks c):Ee l (Cf n) (.mk 3 n u s ks c)
 |uint (n u s ks c):Ee l (Ch u) (.mk 4 n u s ks c)
 |key {v:Bv} {s:List UInt8} (n u ks c) (h:G3 l s v):Ee l v (.mk 5 n u s ks c)
 |str {v:Bv} {s:List UInt8} (n u ks c) (h:Em l 5 s [0] v):Ee l v (.mk 6 n u s ks c)
 |blob {v:Bv} {s:List UInt8} (n u ks c) (h:Em l 25 s [] v):Ee l v (.mk 7 n u s ks c)
 |indInt {v:Bv} {n:Int} (u s ks c) (h:G6 l 6 (bWidthI n) (bits n) v):Ee l v (.mk 8 n u s ks c)
 |indUint {v:Bv} {u:Nat} (n s ks c) (h:G6 l 7 (bWidth u) u v):Ee l v (.mk 9 n u s ks c)
 |ints {v:Bv} {c:List Tr} (n u s ks) (h:Cd l 11 true false (c.map fun t=>Cf t.n) v):Ee l v (.mk 11 n u s ks c)
 |uints {v:Bv} {c:List Tr} (n u s ks) (h:Cd l 12 true false (c.map fun t=>Ch t.u) v):Ee l v (.mk 12 n u s ks c)
 |bools {v:Bv} {c:List Tr} (n u s ks) (h:Cd l 36 true false (c.map fun t=>Cz t.n) v):Ee l v (.mk 14 n u s ks c)
 |keys {v:Bv} {c:List Tr} {vs:List Bv} (n u s ks) (hk:De l (c.map Tr.s) vs) (h:Cd l 14 true false vs v):Ee l v (.mk 13 n u s ks c)
 |fixInts {v:Bv} {c:List Tr} (n u s ks) (h:Cd l (10+3*c.length) false false (c.map fun t=>Cf t.n) v):Ee l v (.mk 15 n u s ks c)
 |fixUints {v:Bv} {c:List Tr} (n u s ks) (h:Cd l (11+3*c.length) false false (c.map fun t=>Ch t.u) v):Ee l v (.mk 16 n u s ks c)
 |vec {v:Bv} {c:List Tr} {vs:List Bv} (n u s ks) (hl:vs.length=c.length) (hr:∀(i:Nat) x t,vs[i]?=some x→c[i]?=some t→Ee l x t) (h:Cd l 10 true true vs v):Ee l v (.mk 10 n u s ks c)
 |map {v kv:Bv} {c:List Tr} {ks:List (List UInt8)} {kvs vs:List Bv} (n u s) (hk:De l ks kvs) (hv:Cd l 14 true false kvs kv) (hl:vs.length=c.length) (hr:∀(i:Nat) x t,vs[i]?=some x→c[i]?=some t→Ee l x t) (h:F2 l kv vs v):Ee l v (.mk 17 n u s ks c)
theorem Ee.app{l:List UInt8}{v:Bv}{t:Tr}(h:Ee l v t)(x:List UInt8):Ee (l++x) v t:=by
 induction h with
 |null=>exact .null _ _ _ _ _
 |truth=>exact .truth _ _ _ _ _
 |int=>exact .int _ _ _ _ _
 |uint=>exact .uint _ _ _ _ _
 |key _ _ _ _ h=>exact .key _ _ _ _ (h.app x)
 |str _ _ _ _ h=>exact .str _ _ _ _ (h.app x)
 |blob _ _ _ _ h=>exact .blob _ _ _ _ (h.app x)
 |indInt _ _ _ _ h=>exact .indInt _ _ _ _ (h.app x)
 |indUint _ _ _ _ h=>exact .indUint _ _ _ _ (h.app x)
 |ints _ _ _ _ h=>exact .ints _ _ _ _ (h.app x)
 |uints _ _ _ _ h=>exact .uints _ _ _ _ (h.app x)
 |bools _ _ _ _ h=>exact .bools _ _ _ _ (h.app x)
 |keys _ _ _ _ hk h=>exact .keys _ _ _ _ (hk.app x) (h.app x)
 |fixInts _ _ _ _ h=>exact .fixInts _ _ _ _ (h.app x)
 |fixUints _ _ _ _ h=>exact .fixUints _ _ _ _ (h.app x)
 |vec _ _ _ _ hl _ h ih=>exact .vec _ _ _ _ hl ih (h.app x)
 |map _ _ _ hk hv hl _ h ih=>exact .map _ _ _ (hk.app x) (hv.app x) hl ih (h.app x)
theorem P2(t:Nat)(len tags:Bool)(vs:List Bv)(b m:List UInt8):Dx ((Bc t len tags vs b).1++m).length (Bc t len tags vs b).2:=by
 obtain⟨w,hw⟩:∃w,B3 b.length (if len=true then 1 else 0) none vs=w:=⟨_,rfl⟩;have h8:w≤8:=by rw [←hw];exact Ln _
 obtain⟨c,hc⟩:∃c,Ah w b++(if len=true then Ai w vs.length else [])=c:=⟨_,rfl⟩;simp only [Bc,hw,hc];obtain⟨x,e,_⟩:=D3 w vs c;refine⟨fun _=>h8,fun _=>?_⟩;rw [e];simp only [Atj];omega
theorem Am1(k:Bv)(vs:List Bv)(b m:List UInt8):Dx ((Ds k vs b).1++m).length (Ds k vs b).2:=by
 obtain⟨w,hw⟩:∃w,B3 b.length 3 (some k) vs=w:=⟨_,rfl⟩;have h8:w≤8:=by rw [←hw];exact Ln _
 obtain⟨c,hc⟩:∃c,Ah w b++Ai w ((Ah w b).length-k.n)++Ai w k.w++Ai w vs.length=c:=⟨_,rfl⟩;simp only [Ds,hw,hc];obtain⟨x,e,_⟩:=D3 w vs c;refine⟨fun _=>h8,fun _=>?_⟩;rw [e];simp only [Atj];omega
theorem Cd.fit{l:List UInt8}{t:Nat}{len tags:Bool}{vs:List Bv}{v:Bv}(h:Cd l t len tags vs v):Dx l.length v:=by
 obtain⟨b,m,rfl,rfl,_⟩:=h;exact P2 _ _ _ _ _ _
theorem F2.fit{l:List UInt8}{k:Bv}{vs:List Bv}{v:Bv}(h:F2 l k vs v):Dx l.length v:=by
 obtain⟨b,m,rfl,rfl,_⟩:=h;exact Am1 _ _ _ _
theorem G3.fit{l s:List UInt8}{v:Bv}(h:G3 l s v):Dx l.length v:=by
 obtain⟨h1,h2,h3⟩:=h;have:=h3.le;exact⟨fun _=>by omega,fun _=>by omega⟩
theorem Em.fit{l:List UInt8}{t:Nat}{s z:List UInt8}{v:Bv}(h:Em l t s z v):Dx l.length v:=by
 obtain⟨_,h2,c,h3,h4⟩:=h;have:=h4.1.le;simp only [Atj,Aj] at this;exact⟨fun _=>by rw [h2];exact Fu _,fun _=>by omega⟩
theorem G6.fit{l:List UInt8}{t w n:Nat}{v:Bv}(h:G6 l t w n v)(hw:w≤8):Dx l.length v:=by
 have:=h.2.2.1.le;exact⟨fun _=>by rw [h.2.1];exact hw,fun _=>by omega⟩
theorem K4(n:Int)(m:Nat):Dx m (Cf n):=⟨fun _=>Oz n,fun h=>absurd h (show ¬inl 1=false by decide)⟩
theorem La(u m:Nat):Dx m (Ch u):=⟨fun _=>Fu u,fun h=>absurd h (show ¬inl 2=false by decide)⟩
theorem Pz(n:Int)(m:Nat):Dx m (Cz n):=⟨fun _=>by simp [Cz],fun h=>absurd h (show ¬inl 26=false by decide)⟩
theorem Ee.fit{l:List UInt8}{v:Bv}{t:Tr}(h:Ee l v t):Dx l.length v:=by
 cases h with
 |null=>exact⟨fun _=>by simp,fun h=>absurd h (by decide)⟩
 |truth=>exact Pz _ _
 |int=>exact K4 _ _
 |uint=>exact La _ _
 |key _ _ _ _ h=>exact h.fit
 |str _ _ _ _ h=>exact h.fit
 |blob _ _ _ _ h=>exact h.fit
 |indInt _ _ _ _ h=>exact h.fit (Oz _)
 |indUint _ _ _ _ h=>exact h.fit (Fu _)
 |ints _ _ _ _ h=>exact h.fit
 |uints _ _ _ _ h=>exact h.fit
 |bools _ _ _ _ h=>exact h.fit
 |keys _ _ _ _ _ h=>exact h.fit
 |fixInts _ _ _ _ h=>exact h.fit
 |fixUints _ _ _ _ h=>exact h.fit
 |vec _ _ _ _ _ _ h=>exact h.fit
 |map _ _ _ _ _ _ _ h=>exact h.fit
theorem De.fit{l:List UInt8}{ks:List (List UInt8)}{vs:List Bv}(h:De l ks vs):∀x∈vs,Dx l.length x:=by
 intro x hx;obtain⟨i,hi,e⟩:=List.getElem_of_mem hx;have hk:i<ks.length:=by rw [←h.1];exact hi
 exact(h.2 i ks[i] x (Ati hk) (by rw [Ati hi,e])).fit
theorem M7{l:List UInt8}{c:List Tr}{vs:List Bv}(hl:vs.length=c.length)(h:∀(i:Nat) x t,vs[i]?=some x→c[i]?=some t→Ee l x t):∀x∈vs,Dx l.length x:=by
 intro x hx;obtain⟨i,hi,e⟩:=List.getElem_of_mem hx;have hk:i<c.length:=by rw [←hl];exact hi
 exact(h i x c[i] (by rw [Ati hi,e]) (Ati hk)).fit
def Cl(ks:List (List UInt8)):List UInt8:=ks.flatMap fun s=>s++ [0]
structure Cr(b:Bd):Prop where
 keys:∀s a,Bf b.keys s=some a→At b.b a (s++ [0])
 texts:∀s a,Bf b.texts s=some a→Em b.b 5 s [0] ⟨5,bWidth s.length,a⟩
 lists:∀ks:List (List UInt8),(∀s∈ks,(0:UInt8)∉s)→∀i,Bf b.lists (Cl ks)=some i→∃kv kvs,b.vals[i]?=some kv∧De b.b ks kvs∧Cd b.b 14 true false kvs kv
 vals:∀s i,Bf b.lists s=some i→i<b.vals.length
theorem Mu:Cr Bd.new:=⟨fun _ _ h=>by simp [Bd.new,Bf] at h,fun _ _ h=>by simp [Bd.new,Bf] at h,fun _ _ _ h=>by simp [Bd.new,Bf] at h,fun _ _ h=>by simp [Bd.new,Bf] at h⟩
theorem Cr.app{b b':Bd}(h:Cr b)(x:List UInt8)(hb:b'.b=b.b++x)(hk:b'.keys=b.keys)(ht:b'.texts=b.texts)(hl:b'.lists=b.lists)(hv:b'.vals=b.vals):Cr b':=by
 refine⟨fun s a e=>?_,fun s a e=>?_,fun ks h0 i e=>?_,fun s i e=>?_⟩
 ·rw [hb];rw [hk] at e;exact(h.keys s a e).app x
 ·rw [hb];rw [ht] at e;exact(h.texts s a e).app x
 ·rw [hl] at e;obtain⟨kv,kvs,h1,h2,h3⟩:=h.lists ks h0 i e;rw [hb,hv];exact⟨kv,kvs,h1,h2.app x,h3.app x⟩
 ·rw [hl] at e;rw [hv];exact h.vals s i e
theorem Ir{l:List (List UInt8×Nat)}{k s:List UInt8}{a c:Nat}(h:Bf (En l k a) s=some c):Bf l s=some c∨(s=k∧c=a):=by
 unfold En at h;split at h
 ·exact Or.inl h
 ·rw [Bf,List.find?_append] at h;cases hg:l.find? (fun x=>x.1==s) with
  |some y=>
   rw [hg] at h;left;rw [Bf,hg];simpa using h
  |none=>
   rw [hg] at h;right;by_cases hs:k=s
   ·subst hs;simp at h;exact⟨rfl,h.symm⟩
   ·simp [hs] at h
def Gb(b b':Bd):Prop:=(∃m,b'.b=b.b++m)∧Cr b'
theorem Gb.trans{a b c:Bd}(h:Gb a b)(h':Gb b c):Gb a c:=by
 obtain⟨⟨m,e⟩,_⟩:=h;obtain⟨⟨m',e'⟩,g⟩:=h';exact⟨⟨m++m',by rw [e',e,Ato]⟩,g⟩
theorem Gb.rep{b b':Bd}(h:Gb b b'){v:Bv}{t:Tr}(r:Ee b.b v t):Ee b'.b v t:=by
 obtain⟨⟨m,e⟩,_⟩:=h;rw [e];exact r.app m
theorem R9(f:Nat)(s:List UInt8)(b:Bd)(h:Cr b):Gb b (b.put f s).1∧G3 (b.put f s).1.b s (b.put f s).2∧(b.put f s).1.s=b.s:=by
 unfold Bd.put;split
 ·next a ha=>
  split at ha
  ·exact⟨⟨⟨[],by simp⟩,h⟩,⟨rfl,rfl,h.keys s a ha⟩,rfl⟩
  ·cases ha
 ·refine⟨⟨⟨s++ [0],by simp⟩,⟨fun k a e=>?_,fun k a e=>?_,fun ks h0 i e=>?_,fun k i e=>h.vals k i e⟩⟩,⟨rfl,rfl,?_⟩,rfl⟩
  ·rcases Ir e with e|⟨rfl,rfl⟩
   ·have:=(h.keys k a e).app (s++ [0])
    rwa [←Ato] at this
   ·have:=At.last b.b (k++ [0])
    rwa [←Ato] at this
  ·have:=(h.texts k a e).app (s++ [0])
   rwa [←Ato] at this
  ·obtain⟨kv,kvs,h1,h2,h3⟩:=h.lists ks h0 i e;have h2:=h2.app (s++ [0]);have h3:=h3.app (s++ [0]);rw [←Ato] at h2 h3;exact⟨kv,kvs,h1,h2,h3⟩
  ·have:=At.last b.b (s++ [0])
   rwa [←Ato] at this
theorem Q1{b:Bd}(h:Cr b)(v:Bv):Cr (b.push v):=h.app [] (by simp [Bd.push]) rfl rfl rfl rfl
theorem Od(f:Nat)(s:List UInt8)(b:Bd)(h:Cr b):∃v,(b.key f s).s=b.s++ [v]∧Gb b (b.key f s)∧G3 (b.key f s).b s v:=by
 obtain⟨⟨h1,h2⟩,h3,h4⟩:=R9 f s b h;exact⟨(b.put f s).2,by simp [Bd.key,Bd.push,h4],⟨h1,Q1 h2 _⟩,h3⟩
theorem Pu(f:Nat):∀(ks:List (List UInt8)) (b:Bd),Cr b→Gb b (b.puts f ks).1∧De (b.puts f ks).1.b ks (b.puts f ks).2∧(b.puts f ks).1.s=b.s
 | [],b,h=>⟨⟨⟨[],by simp [Bd.puts]⟩,h⟩,⟨rfl,fun i s v h=>by simp at h⟩,rfl⟩
 |s::r,b,h=>by
  obtain⟨s1,k1,e1⟩:=R9 f s b h;obtain⟨s2,k2,e2⟩:=Pu f r (b.put f s).1 s1.2;refine⟨s1.trans s2,⟨by simp [Bd.puts,k2.1],fun i x v hx hv=>?_⟩,e2.trans e1⟩;cases i with
  |zero=>
   simp only [Bd.puts,List.getElem?_cons_zero,Option.some.injEq] at hx hv;subst hx hv;obtain⟨⟨m,e⟩,_⟩:=s2;simp only [Bd.puts,e];exact k1.app m
  |succ i=>
   simp only [Bd.puts,List.getElem?_cons_succ] at hx hv;exact k2.2 i x v hx hv
theorem J6(t:Nat)(len tags:Bool)(l:List Bv)(b:Bd)(h:Cr b)(hf:∀x∈l,Dx b.b.length x):∃v,(b.vec t len tags l).s=b.s++ [v]∧Gb b (b.vec t len tags l)∧Cd (b.vec t len tags l).b t len tags l v:=by
 obtain⟨m,e⟩:=Lb t len tags l b.b;exact⟨(Bc t len tags l b.b).2,rfl,⟨⟨m,e⟩,h.app m e rfl rfl rfl rfl⟩,b.b,[],by simp [Bd.vec],rfl,hf⟩
theorem Qk{w:Nat}(hw:w=1∨w=2∨w=4∨w=8)(l:List UInt8):(Ah w l).length % w=0:=by
 simp only [Ah,Atj,List.length_replicate,Jk];rcases hw with rfl|rfl|rfl|rfl <;>omega
theorem Ll(u:Nat):bWidth u=1∨bWidth u=2∨bWidth u=4∨bWidth u=8:=by unfold bWidth;(repeat' split) <;>simp
theorem Ub(n:Int):bWidthI n=1∨bWidthI n=2∨bWidthI n=4∨bWidthI n=8:=by unfold bWidthI;(repeat' split) <;>simp
theorem Tx(t:Nat)(s z:List UInt8)(l:List UInt8):Em (Ah (bWidth s.length) l++Ai (bWidth s.length) s.length++s++z) t s z ⟨t,bWidth s.length,(Ah (bWidth s.length) l++Ai (bWidth s.length) s.length).length⟩:=by
 refine⟨rfl,rfl,(Ah (bWidth s.length) l).length,by rw [Atj,Aj],?_,Qk (Ll _) l⟩;have:=At.last (Ah (bWidth s.length) l) (Ai (bWidth s.length) s.length++s++z);simpa only [Ato] using this
theorem Zp(s:List UInt8)(b:Bd)(h:Cr b):∃v,(b.blob s).s=b.s++ [v]∧Gb b (b.blob s)∧Em (b.blob s).b 25 s [] v:=by
 have e:(b.blob s).b=b.b++(Atm (Jk (bWidth s.length) b.b.length) 0++(Ai (bWidth s.length) s.length++s)):=by simp only [Bd.blob,Ah,Ato]
 refine⟨_,rfl,⟨⟨_,e⟩,h.app _ e rfl rfl rfl rfl⟩,?_⟩;have:=Tx 25 s [] b.b;rw [List.append_nil] at this;exact this
theorem Ae8(f:Nat)(s:List UInt8)(b:Bd)(h:Cr b):∃v,(b.str f s).s=b.s++ [v]∧Gb b (b.str f s)∧Em (b.str f s).b 5 s [0] v:=by
 unfold Bd.str;simp only [];split
 ·next a ha=>
  split at ha
  ·exact⟨_,rfl,⟨⟨[],by simp [Bd.push]⟩,Q1 h _⟩,h.texts s a ha⟩
  ·cases ha
 ·have e:Ah (bWidth s.length) b.b++Ai (bWidth s.length) s.length++s++ [0]=b.b++(Atm (Jk (bWidth s.length) b.b.length) 0++(Ai (bWidth s.length) s.length++(s++ [0]))):=by simp only [Ah,Ato]
  refine⟨_,rfl,⟨⟨_,e⟩,⟨fun k a i=>?_,fun k a i=>?_,fun ks h0 i j=>?_,fun k i j=>h.vals k i j⟩⟩,Tx 5 s [0] b.b⟩
  ·exact e▸(h.keys k a i).app _
  ·rcases Ir i with i|⟨rfl,rfl⟩
   ·exact e▸(h.texts k a i).app _
   ·exact Tx 5 k [0] b.b
  ·obtain⟨kv,kvs,h1,h2,h3⟩:=h.lists ks h0 i j;exact⟨kv,kvs,h1,e▸h2.app _,e▸h3.app _⟩
theorem Xd(t w n:Nat)(b:Bd)(h:Cr b)(hw:w=1∨w=2∨w=4∨w=8):∃v,(b.apart t w n).s=b.s++ [v]∧Gb b (b.apart t w n)∧G6 (b.apart t w n).b t w n v:=by
 have e:(b.apart t w n).b=b.b++(Atm (Jk w b.b.length) 0++Ai w (n % 2^(8*w))):=by simp only [Bd.apart,Ah,Ato]
 exact⟨_,rfl,⟨⟨_,e⟩,h.app _ e rfl rfl rfl rfl⟩,rfl,rfl,At.last _ _,Qk hw _⟩
inductive Ok:Tr→Prop
 |leaf {k:Int} (n u s ks c) (h1:1≤k) (h2:k≤9):Ok (.mk k n u s ks c)
 |flat {k:Int} (n u s ks c) (h1:11≤k) (h2:k≤16):Ok (.mk k n u s ks c)
 |vec {c:List Tr} (n u s ks) (h:∀t∈c,Ok t):Ok (.mk 10 n u s ks c)
 |map {c:List Tr} {ks:List (List UInt8)} (n u s) (hl:ks.length=c.length) (h0:∀x∈ks,(0:UInt8)∉x) (h:∀t∈c,Ok t):Ok (.mk 17 n u s ks c)
def Nu(f:Nat)(t:Tr):Prop:=∀b,Cr b→∃v,(Bd.calls f t b).s=b.s++ [v]∧Gb b (Bd.calls f t b)∧Ee (Bd.calls f t b).b v t
theorem Abb(f:Nat){k:Int}(n:Int)(u:Nat)(s:List UInt8)(ks:List (List UInt8))(c:List Tr)(h1:1≤k)(h2:k≤9)(b:Bd)(h:Cr b):∃v,(b.leaf f k n u s).s=b.s++ [v]∧Gb b (b.leaf f k n u s)∧Ee (b.leaf f k n u s).b v (.mk k n u s ks c):=by
 have hp:∀v,Gb b (b.push v):=fun v=>⟨⟨[],by simp [Bd.push]⟩,Q1 h v⟩
 obtain rfl|rfl|rfl|rfl|rfl|rfl|rfl|rfl|rfl:k=1∨k=2∨k=3∨k=4∨k=5∨k=6∨k=7∨k=8∨k=9:=by omega
 ·exact⟨_,rfl,hp _,.null _ _ _ _ _⟩
 ·exact⟨_,rfl,hp _,.truth _ _ _ _ _⟩
 ·exact⟨_,rfl,hp _,.int _ _ _ _ _⟩
 ·exact⟨_,rfl,hp _,.uint _ _ _ _ _⟩
 ·obtain⟨v,e,st,k⟩:=Od f s b h;exact⟨v,e,st,.key _ _ _ _ k⟩
 ·obtain⟨v,e,st,k⟩:=Ae8 f s b h;exact⟨v,e,st,.str _ _ _ _ k⟩
 ·obtain⟨v,e,st,k⟩:=Zp s b h;exact⟨v,e,st,.blob _ _ _ _ k⟩
 ·obtain⟨v,e,st,k⟩:=Xd 6 (bWidthI n) (bits n) b h (Ub n);exact⟨v,e,st,.indInt _ _ _ _ k⟩
 ·obtain⟨v,e,st,k⟩:=Xd 7 (bWidth u) u b h (Ll u);exact⟨v,e,st,.indUint _ _ _ _ k⟩
theorem Aml(f:Nat){k:Int}(n:Int)(u:Nat)(s:List UInt8)(ks:List (List UInt8))(c:List Tr)(h1:11≤k)(h2:k≤16)(b:Bd)(h:Cr b):∃v,(b.flat f k c).s=b.s++ [v]∧Gb b (b.flat f k c)∧Ee (b.flat f k c).b v (.mk k n u s ks c):=by
 obtain rfl|rfl|rfl|rfl|rfl|rfl:k=11∨k=12∨k=13∨k=14∨k=15∨k=16:=by omega
 ·obtain⟨v,e,st,k⟩:=J6 11 true false (c.map fun t=>Cf t.n) b h (fun x hx=>by obtain⟨t,_,rfl⟩:=List.mem_map.1 hx;exact K4 _ _);exact⟨v,e,st,.ints _ _ _ _ k⟩
 ·obtain⟨v,e,st,k⟩:=J6 12 true false (c.map fun t=>Ch t.u) b h (fun x hx=>by obtain⟨t,_,rfl⟩:=List.mem_map.1 hx;exact La _ _);exact⟨v,e,st,.uints _ _ _ _ k⟩
 ·obtain⟨s1,k1,e1⟩:=Pu f (c.map Tr.s) b h;obtain⟨v,e,st,k⟩:=J6 14 true false (b.puts f (c.map Tr.s)).2 (b.puts f (c.map Tr.s)).1 s1.2 k1.fit;refine⟨v,e.trans (by rw [e1]),s1.trans st,.keys _ _ _ _ ?_ k⟩;obtain⟨⟨m,em⟩,_⟩:=st;exact em▸k1.app m
 ·obtain⟨v,e,st,k⟩:=J6 36 true false (c.map fun t=>Cz t.n) b h (fun x hx=>by obtain⟨t,_,rfl⟩:=List.mem_map.1 hx;exact Pz _ _);exact⟨v,e,st,.bools _ _ _ _ k⟩
 ·obtain⟨v,e,st,k⟩:=J6 (10+3*c.length) false false (c.map fun t=>Cf t.n) b h (fun x hx=>by obtain⟨t,_,rfl⟩:=List.mem_map.1 hx;exact K4 _ _);exact⟨v,e,st,.fixInts _ _ _ _ k⟩
 ·obtain⟨v,e,st,k⟩:=J6 (11+3*c.length) false false (c.map fun t=>Ch t.u) b h (fun x hx=>by obtain⟨t,_,rfl⟩:=List.mem_map.1 hx;exact La _ _);exact⟨v,e,st,.fixUints _ _ _ _ k⟩
theorem Ka(f:Nat):∀(c:List Tr),(∀t∈c,Nu f t)→∀b,Cr b→∃vs,(Bd.callsL f c b).s=b.s++vs∧vs.length=c.length∧Gb b (Bd.callsL f c b)∧∀(i:Nat) x t,vs[i]?=some x→c[i]?=some t→Ee (Bd.callsL f c b).b x t
 | [],_,b,h=>⟨[],by simp [Bd.callsL],rfl,⟨⟨[],by simp [Bd.callsL]⟩,h⟩,fun i x t h=>by simp at h⟩
 |t::r,hd,b,h=>by
  obtain⟨v,e1,s1,r1⟩:=hd t (by simp) b h;obtain⟨vs,e2,l2,s2,r2⟩:=Ka f r (fun t ht=>hd t (by simp [ht])) (Bd.calls f t b) s1.2;refine⟨v::vs,by rw [Bd.callsL,e2,e1,Ato];rfl,by simp [l2],by rw [Bd.callsL];exact s1.trans s2,fun i x t' hx ht=>?_⟩;rw [Bd.callsL];cases i with
  |zero=>
   simp only [List.getElem?_cons_zero,Option.some.injEq] at hx ht;subst hx ht;exact s2.rep r1
  |succ i=>
   simp only [List.getElem?_cons_succ] at hx ht;exact r2 i x t' hx ht
def D2:List Bv→List Bv→List Bv
 |k::r,v::q=>k::v::D2 r q
 |_,_=>[]
theorem Hq:∀(ks vs:List Bv),ks.length=vs.length→Kh (D2 ks vs)=ks∧Po (D2 ks vs)=vs
 | [],[],_=>⟨rfl,rfl⟩
 |k::r,v::q,h=>by
  obtain⟨h1,h2⟩:=Hq r q (by simpa using h);refine⟨by simp [D2,Kh,h1],?_⟩;simp only [D2,Po,List.tail_cons];cases r with
  |nil=>
   cases q with
   |nil=>rfl
   |cons _ _=>simp at h
  |cons a r=>
   cases q with
   |nil=>simp at h
   |cons b q=>
    simp only [D2,Po,List.tail_cons] at h2;simp only [D2,Kh,h2]
theorem Iz(f:Nat):∀(c:List Tr) (ks:List (List UInt8)),ks.length=c.length→(∀t∈c,Nu f t)→∀b,Cr b→∃kvs vs,(Bd.callsM f ks c b).s=b.s++D2 kvs vs∧vs.length=c.length∧Gb b (Bd.callsM f ks c b)∧De (Bd.callsM f ks c b).b ks kvs∧∀(i:Nat) x t,vs[i]?=some x→c[i]?=some t→Ee (Bd.callsM f ks c b).b x t
 | [],ks,hk,_,b,h=>by
  obtain rfl:ks=[]:=List.eq_nil_of_length_eq_zero hk;exact⟨[],[],by simp [Bd.callsM,D2],rfl,⟨⟨[],by simp [Bd.callsM]⟩,h⟩,⟨rfl,fun i x t h=>by simp at h⟩,fun i x t h=>by simp at h⟩
 |t::r,[],hk,_,_,_=>by simp at hk
 |t::r,s::ks,hk,hd,b,h=>by
  obtain⟨kv,e0,s0,k0⟩:=Od f s b h;obtain⟨v,e1,s1,r1⟩:=hd t (by simp) (b.key f s) s0.2;obtain⟨kvs,vs,e2,l2,s2,k2,r2⟩:=Iz f r ks (by simpa using hk) (fun t ht=>hd t (by simp [ht])) (Bd.calls f t (b.key f s)) s1.2;have ee:Bd.callsM f (s::ks) (t::r) b=Bd.callsM f ks r (Bd.calls f t (b.key f s)):=by rw [Bd.callsM];rfl
  rw [ee];refine⟨kv::kvs,v::vs,by rw [e2,e1,e0];simp [D2],by simp [l2],(s0.trans s1).trans s2,⟨by simp [k2.1],fun i x v' hx hv=>?_⟩,fun i x t' hx ht=>?_⟩
  ·cases i with
   |zero=>
    simp only [List.getElem?_cons_zero,Option.some.injEq] at hx hv;subst hx hv;obtain⟨⟨m,em⟩,_⟩:=s1.trans s2;rw [em];exact k0.app m
   |succ i=>
    simp only [List.getElem?_cons_succ] at hx hv;exact k2.2 i x v' hx hv
  ·cases i with
   |zero=>
    simp only [List.getElem?_cons_zero,Option.some.injEq] at hx ht;subst hx ht;exact s2.rep r1
   |succ i=>
    simp only [List.getElem?_cons_succ] at hx ht;exact r2 i x t' hx ht
theorem Aac:∀(s s' x x':List UInt8),(0:UInt8)∉s→(0:UInt8)∉s'→s++0::x=s'++0::x'→s=s'∧x=x'
 | [],[],_,_,_,_,h=>⟨rfl,by simpa using h⟩
 | [],c::s',_,_,_,h',h=>by
  simp only [List.nil_append,List.cons_append,List.cons.injEq] at h;exact absurd (by simp [←h.1]) h'
 |c::s,[],_,_,h',_,h=>by
  simp only [List.nil_append,List.cons_append,List.cons.injEq] at h;exact absurd (by simp [h.1]) h'
 |c::s,d::s',x,x',h0,h0',h=>by
  simp only [List.cons_append,List.cons.injEq] at h;obtain⟨e1,e2⟩:=Aac s s' x x' (fun hm=>h0 (by simp [hm])) (fun hm=>h0' (by simp [hm])) h.2;exact⟨by rw [h.1,e1],e2⟩
theorem Pd:∀(a b:List (List UInt8)),(∀s∈a,(0:UInt8)∉s)→(∀s∈b,(0:UInt8)∉s)→Cl a=Cl b→a=b
 | [],[],_,_,_=>rfl
 | [],s::r,_,_,h=>by simp [Cl] at h
 |s::r,[],_,_,h=>by simp [Cl] at h
 |s::r,t::q,ha,hb,h=>by
  have h':s++0::Cl r=t++0::Cl q:=by simpa [Cl] using h
  obtain⟨e1,e2⟩:=Aac s t _ _ (ha s (by simp)) (hb t (by simp)) h';rw [e1,Pd r q (fun s hs=>ha s (by simp [hs])) (fun s hs=>hb s (by simp [hs])) e2]
theorem O6(f:Nat)(ks:List (List UInt8))(st:List Bv)(b:Bd)(kvs vs:List Bv)(h:Cr b)(hs:b.s=st++D2 kvs vs)(hl:kvs.length=vs.length)(h0:∀x∈ks,(0:UInt8)∉x)(hk:De b.b ks kvs)(hf:∀x∈vs,Dx b.b.length x):
  ∃v kv kvs',(b.endMap f ks st.length).s=st++ [v]∧Gb b (b.endMap f ks st.length)∧De (b.endMap f ks st.length).b ks kvs'∧Cd (b.endMap f ks st.length).b 14 true false kvs' kv∧F2 (b.endMap f ks st.length).b kv vs v:=by
 obtain⟨h1,h2⟩:=Hq kvs vs hl;have hd:b.s.drop st.length=D2 kvs vs:=by rw [hs];simp
 have ht:b.s.take st.length=st:=by rw [hs];simp
 unfold Bd.endMap;simp only [hd,ht,h1,h2];have hlist:(ks.flatMap fun s=>s++ [0])=Cl ks:=rfl;rw [hlist];split
 ·next i hi=>
  split at hi
  ·obtain⟨kv,kvs',e1,k1,v1⟩:=h.lists ks h0 i hi;have eg:b.vals.getD i ⟨0,0,0⟩=kv:=by rw [Atw,e1];rfl
   obtain⟨m,em⟩:=Pl kv vs b.b;refine⟨(Ds kv vs b.b).2,kv,kvs',?_,⟨⟨m,?_⟩,?_⟩,?_,?_,?_⟩
   ·rw [eg]
   ·rw [eg];exact em
   ·exact h.app m (by rw [eg];exact em) rfl rfl rfl rfl
   ·rw [eg,em];exact k1.app m
   ·rw [eg,em];exact v1.app m
   ·rw [eg];exact⟨b.b,[],by simp,rfl,v1.fit,hf⟩
  ·cases hi
 ·obtain⟨m1,e1⟩:=Lb 14 true false kvs b.b;obtain⟨m2,e2⟩:=Pl (Bc 14 true false kvs b.b).2 vs (Bc 14 true false kvs b.b).1;have e:(Ds (Bc 14 true false kvs b.b).2 vs (Bc 14 true false kvs b.b).1).1=b.b++(m1++m2):=by rw [e2,e1,Ato]
  have hv:Cd (Ds (Bc 14 true false kvs b.b).2 vs (Bc 14 true false kvs b.b).1).1 14 true false kvs (Bc 14 true false kvs b.b).2:=⟨b.b,m2,e2,rfl,hk.fit⟩;have hfk:Dx (Bc 14 true false kvs b.b).1.length (Bc 14 true false kvs b.b).2:=by
   have:=P2 14 true false kvs b.b []
   rwa [List.append_nil] at this
  have hfv:∀x∈vs,Dx (Bc 14 true false kvs b.b).1.length x:=fun x hx=>(hf x hx).mono (by rw [e1];simp)
  refine⟨_,(Bc 14 true false kvs b.b).2,kvs,rfl,⟨⟨m1++m2,e⟩,⟨fun s a i=>?_,fun s a i=>?_,fun ks' h0' i j=>?_,fun s i j=>?_⟩⟩,?_,hv,⟨(Bc 14 true false kvs b.b).1,[],by simp,rfl,hfk,hfv⟩⟩
  ·exact e▸(h.keys s a i).app _
  ·exact e▸(h.texts s a i).app _
  ·rcases Ir j with j|⟨hq,rfl⟩
   ·obtain⟨kv,kvs',g1,g2,g3⟩:=h.lists ks' h0' i j;refine⟨kv,kvs',?_,e▸g2.app _,e▸g3.app _⟩;have hlt:=h.vals _ i j;exact(List.getElem?_append_left hlt).trans g1
   ·have:=Pd ks' ks h0' h0 hq;subst this;refine⟨_,kvs,?_,e▸hk.app _,hv⟩;simp
  ·rcases Ir j with j|⟨_,rfl⟩
   ·have hlt:=h.vals _ i j;simp only [Atj,List.length_singleton];omega
   ·simp
  ·exact e▸hk.app _
theorem E5(f:Nat)(t:Tr)(h:Ok t):Nu f t:=by
 induction h with
 |leaf n u s ks c h1 h2=>
  intro b hg;rename_i k;have e:Bd.calls f (.mk k n u s ks c) b=b.leaf f k n u s:=by
   rw [Bd.calls,if_neg (by omega),if_neg (by omega),if_pos h2]
  rw [e];exact Abb f n u s ks c h1 h2 b hg
 |flat n u s ks c h1 h2=>
  intro b hg;rename_i k;have e:Bd.calls f (.mk k n u s ks c) b=b.flat f k c:=by
   rw [Bd.calls,if_neg (by omega),if_neg (by omega),if_neg (by omega)]
  rw [e];exact Aml f n u s ks c h1 h2 b hg
 |vec n u s ks _ ih=>
  intro b hg;rename_i c _;obtain⟨vs,e1,l1,s1,r1⟩:=Ka f c ih b hg;have e:Bd.calls f (.mk 10 n u s ks c) b=(Bd.callsL f c b).endVec b.s.length:=by rw [Bd.calls,if_pos rfl]
  have hd:(Bd.callsL f c b).s.drop b.s.length=vs:=by rw [e1];simp
  have ht:(Bd.callsL f c b).s.take b.s.length=b.s:=by rw [e1];simp
  rw [e,Bd.endVec,hd,ht];have hg2:Cr { Bd.callsL f c b with s:=b.s}:=s1.2.app [] (by simp) rfl rfl rfl rfl;obtain⟨v,e2,s2,k2⟩:=J6 10 true true vs { Bd.callsL f c b with s:=b.s} hg2 (M7 l1 r1)
  have s3:Gb (Bd.callsL f c b) (Bd.vec 10 true true vs { Bd.callsL f c b with s:=b.s}):=s2;exact⟨v,e2,s1.trans s3,.vec _ _ _ _ l1 (fun i x t hx ht=>s3.rep (r1 i x t hx ht)) k2⟩
 |map n u s hl h0 _ ih=>
  intro b hg;rename_i c ks _;obtain⟨kvs,vs,e1,l1,s1,k1,r1⟩:=Iz f c ks hl ih b hg;have e:Bd.calls f (.mk 17 n u s ks c) b=(Bd.callsM f ks c b).endMap f ks b.s.length:=by
   rw [Bd.calls,if_neg (by omega),if_pos rfl]
  rw [e];obtain⟨v,kv,kvs',e2,s2,k2,v2,m2⟩:=O6 f ks b.s (Bd.callsM f ks c b) kvs vs s1.2 e1 (by rw [k1.1,l1,hl]) h0 k1 (M7 l1 r1);exact⟨v,e2,s1.trans s2,.map _ _ _ k2 v2 l1 (fun i x t hx ht=>s2.rep (r1 i x t hx ht)) m2⟩
theorem Aib(f:Nat)(t:Tr)(h:Ok t):∃v,(Bd.calls f t Bd.new).s=[v]∧Ee (Bd.calls f t Bd.new).b v t:=by
 obtain⟨v,e,_,r⟩:=E5 f t h Bd.new Mu;exact⟨v,e,r⟩
end Go.Proofs.YtgbjodnegkbfoaaGreat
namespace Go.Proofs.YtgbjodnegkbfoaaGreat
open Go.RowKit Go.Acc
def Gs(n:Nat)(a m:Int):Bool:=decide (0≤a∧0≤m∧a+m≤n)
theorem Dn{n:Nat}{a m:Int}:Gs n a m=true↔0≤a∧0≤m∧a+m≤n:=by simp [Gs]
def Ip(q t v:Int):Bool:=Be t&&Av q&&Av v
def Bm(n:Nat)(p q t v:Int):Int:=if Ip q t v=true then(if Gs n p q=true then 0 else 6) else 2
theorem D7{n:Nat}{p q t v:Int}:Bm n p q t v=0↔Ip q t v=true∧Gs n p q=true:=by
 unfold Bm;cases Ip q t v <;>cases Gs n p q <;>simp
theorem Cv{q t v:Int}:Ip q t v=true↔Be t=true∧Av q=true∧Av v=true:=by
 simp [Ip,and_assoc]
def Bh(l:List UInt8)(p q t v:Int):Int:=
 if Bm l.length p q t v=0 then(if An t=true then 60 else if p<(loadU l p q:Int) then 211 else 0) else Bm l.length p q t v
def Bg(l:List UInt8)(p q t v:Int):Int:=if Bh l p q t v=0 then p-loadU l p q else 0
theorem Am2{l:List UInt8}{p q t v:Int}(h:Bm l.length p q t v=0):E7 l.length p q=0:=by
 obtain⟨h1,h2⟩:=D7.1 h;have h1:=Cv.1 h1;have h2:=Dn.1 h2;unfold E7;rw [if_pos h1.2.1,if_pos ⟨h2.1,h2.2.2⟩]
theorem Nb{l:List UInt8}{p q t v:Int}(h:Bm l.length p q t v≠0):Bh l p q t v=Bm l.length p q t v:=if_neg h
theorem Aqq{l:List UInt8}{p q t v:Int}(h:Bm l.length p q t v≠0):Bg l p q t v=0:=by
 unfold Bg;rw [Nb h,if_neg h]
theorem Acj{l:List UInt8}{p q t v:Int}(h:Bm l.length p q t v=0)(hi:An t=true):Bh l p q t v=60:=by
 unfold Bh;rw [if_pos h,if_pos hi]
theorem Aqp{l:List UInt8}{p q t v:Int}(h:Bm l.length p q t v=0)(hi:An t=true):Bg l p q t v=0:=by
 unfold Bg;rw [Acj h hi];rfl
theorem Ack{l:List UInt8}{p q t v:Int}(h:Bm l.length p q t v=0)(hi:An t=false)(hu:p<(loadU l p q:Int)):Bh l p q t v=211:=by
 unfold Bh;rw [if_pos h,if_neg (by simp [hi]),if_pos hu]
theorem Aqr{l:List UInt8}{p q t v:Int}(h:Bm l.length p q t v=0)(hi:An t=false)(hu:p<(loadU l p q:Int)):Bg l p q t v=0:=by
 unfold Bg;rw [Ack h hi hu];rfl
theorem Sd{l:List UInt8}{p q t v:Int}(h:Bm l.length p q t v=0)(hi:An t=false)(hu:¬p<(loadU l p q:Int)):Bh l p q t v=0:=by
 unfold Bh;rw [if_pos h,if_neg (by simp [hi]),if_neg hu]
theorem Acl{l:List UInt8}{p q t v:Int}(h:Bm l.length p q t v=0)(hi:An t=false)(hu:¬p<(loadU l p q:Int)):Bg l p q t v=p-loadU l p q:=by
 unfold Bg;rw [Sd h hi hu];rfl
def El(l:List UInt8):Int:=
 if l.length<3∨Av ((l.getD (l.length-1) 0).toNat:Int)=false then 210
 else if Hl (l.getD (l.length-2) 0)≠0 then Hl (l.getD (l.length-2) 0)
 else if(l.length:Int)-2-(l.getD (l.length-1) 0).toNat<0∨((l.length:Int)-2-(l.getD (l.length-1) 0).toNat) % (l.getD (l.length-1) 0).toNat≠0 then 210 else 0
def Er(l:List UInt8):Int×Int×Int×Int:=
 if El l=0 then((l.length:Int)-2-(l.getD (l.length-1) 0).toNat,(l.getD (l.length-1) 0).toNat,Ly (l.getD (l.length-2) 0),Lz (l.getD (l.length-2) 0)) else(0,0,0,0)
end Go.Proofs.YtgbjodnegkbfoaaGreat
namespace Go.Proofs.YtgbjodnegkbfoaaGreat
open Go.Acc
theorem Nn(f:Nat→Bool)(h:f 8=true):(leastW f=1∨leastW f=2∨leastW f=4∨leastW f=8)∧f (leastW f)=true:=by
 unfold leastW;by_cases h1:f 1=true
 ·rw [if_pos h1];exact⟨Or.inl rfl,h1⟩
 ·by_cases h2:f 2=true
  ·rw [if_neg h1,if_pos h2];exact⟨Or.inr (Or.inl rfl),h2⟩
  ·by_cases h4:f 4=true
   ·rw [if_neg h1,if_neg h2,if_pos h4];exact⟨Or.inr (Or.inr (Or.inl rfl)),h4⟩
   ·rw [if_neg h1,if_neg h2,if_neg h4,if_pos h];exact⟨Or.inr (Or.inr (Or.inr rfl)),h⟩
theorem Cc{w:Nat}:Av w=true↔w=1∨w=2∨w=4∨w=8:=by
 simp only [Av,decide_eq_true_eq];omega
theorem Qz{a:Nat}{v:Bv}(h:Dx a v)(i:Nat):Cu v a i 8=true:=by
 unfold Cu;cases e:inl v.t with
 |true=>simp [h.1 e]
 |false=>simp [h.2 e,Fu]
theorem Aaq{a:Nat}:∀(vs:List Bv) (i:Nat),(∀x∈vs,Dx a x)→Du a 8 i vs=true
 | [],_,_=>rfl
 |v::r,i,h=>by
  rw [Du,Qz (h v (by simp)),Aaq r (i+1) (fun x hx=>h x (by simp [hx]))];rfl
theorem Jv{a ahead:Nat}{k:Option Bv}{vs:List Bv}(hk:∀x,k=some x→Dx a x)(h:∀x∈vs,Dx a x):Av (B3 a ahead k vs)=true:=by
 refine Cc.2 (Nn _ ?_).1;rw [I7,Aaq vs ahead h];cases k with
 |none=>simp [Aap,Fu]
 |some x=>simp [Aap,Fu,Qz (hk x rfl)]
theorem Cd.width{l:List UInt8}{t:Nat}{len tags:Bool}{vs:List Bv}{v:Bv}(h:Cd l t len tags vs v):v.t=t∧Av v.w=true:=by
 obtain⟨b,m,_,rfl,hf⟩:=h;exact⟨rfl,show Av ((B3 b.length (if len=true then 1 else 0) none vs:Nat):Int)=true from Jv (k:=none) (fun _ e=>by cases e) hf⟩
theorem F2.width{l:List UInt8}{k:Bv}{vs:List Bv}{v:Bv}(h:F2 l k vs v):v.t=9∧Av v.w=true:=by
 obtain⟨b,m,_,rfl,hk,hf⟩:=h;exact⟨rfl,show Av ((B3 b.length 3 (some k) vs:Nat):Int)=true from Jv (k:=some k) (fun x e=>by injection e with e;exact e▸hk) hf⟩
theorem E3(u:Nat):Av (bWidth u)=true:=Cc.2 (by unfold bWidth;(repeat' split) <;>simp)
theorem Hp(n:Int):Av (bWidthI n)=true:=Cc.2 (by unfold bWidthI;(repeat' split) <;>simp)
def Rx(t:Tr):Prop:=t.k=15∨t.k=16→t.l.length=2∨t.l.length=3∨t.l.length=4
theorem Ee.legal{l:List UInt8}{v:Bv}{t:Tr}(h:Ee l v t)(hx:Rx t):Be v.t=true∧Av v.w=true∧Cg v.t=t.k:=by
 cases h with
 |null=>exact⟨by decide,by decide,show Cg 0=1 by decide⟩
 |truth n u s ks c=>exact⟨show Be 26=true by decide,show Av 1=true by decide,show Cg 26=2 by decide⟩
 |int n u s ks c=>exact⟨show Be 1=true by decide,Hp n,show Cg 1=3 by decide⟩
 |uint n u s ks c=>exact⟨show Be 2=true by decide,E3 u,show Cg 2=4 by decide⟩
 |key _ _ _ _ h=>rw [h.1,h.2.1];exact⟨by decide,by decide,show Cg 4=5 by decide⟩
 |str _ _ _ _ h=>rw [h.1,h.2.1];exact⟨by decide,E3 _,show Cg 5=6 by decide⟩
 |blob _ _ _ _ h=>rw [h.1,h.2.1];exact⟨by decide,E3 _,show Cg 25=7 by decide⟩
 |indInt _ _ _ _ h=>rw [h.1,h.2.1];exact⟨by decide,Hp _,show Cg 6=8 by decide⟩
 |indUint _ _ _ _ h=>rw [h.1,h.2.1];exact⟨by decide,E3 _,show Cg 7=9 by decide⟩
 |ints _ _ _ _ h=>rw [h.width.1];exact⟨by decide,h.width.2,show Cg 11=11 by decide⟩
 |uints _ _ _ _ h=>rw [h.width.1];exact⟨by decide,h.width.2,show Cg 12=12 by decide⟩
 |bools _ _ _ _ h=>rw [h.width.1];exact⟨by decide,h.width.2,show Cg 36=14 by decide⟩
 |keys _ _ _ _ _ h=>rw [h.width.1];exact⟨by decide,h.width.2,show Cg 14=13 by decide⟩
 |vec _ _ _ _ _ _ h=>rw [h.width.1];exact⟨by decide,h.width.2,show Cg 10=10 by decide⟩
 |map _ _ _ _ _ _ _ h=>rw [h.width.1];exact⟨by decide,h.width.2,show Cg 9=17 by decide⟩
 |fixInts _ _ _ _ h=>
  rename_i c n u s ks;have hx:c.length=2∨c.length=3∨c.length=4:=hx (Or.inl rfl);have hw:=h.width.2;rw [h.width.1];rcases hx with e|e|e <;>rw [e]
  ·exact⟨by decide,hw,show Cg 16=15 by decide⟩
  ·exact⟨by decide,hw,show Cg 19=15 by decide⟩
  ·exact⟨by decide,hw,show Cg 22=15 by decide⟩
 |fixUints _ _ _ _ h=>
  rename_i c n u s ks;have hx:c.length=2∨c.length=3∨c.length=4:=hx (Or.inr rfl);have hw:=h.width.2;rw [h.width.1];rcases hx with e|e|e <;>rw [e]
  ·exact⟨by decide,hw,show Cg 17=16 by decide⟩
  ·exact⟨by decide,hw,show Cg 20=16 by decide⟩
  ·exact⟨by decide,hw,show Cg 23=16 by decide⟩
theorem Ak6(t w:Nat)(ht:Be t=true)(hw:Av w=true):Ly (UInt8.ofNat (4*t+bCode w))=t∧Lz (UInt8.ofNat (4*t+bCode w))=w∧Hl (UInt8.ofNat (4*t+bCode w))=0:=by
 have h37:=F9.1 (Gv ht);have hc:bCode w<4:=by unfold bCode;(repeat' split) <;>omega
 have hn:(UInt8.ofNat (4*t+bCode w)).toNat=4*t+bCode w:=by
  rw [UInt8.toNat_ofNat'];omega
 have hd:(((UInt8.ofNat (4*t+bCode w)).toNat:Nat):Int)/4=t:=by rw [hn];omega
 have hm:(UInt8.ofNat (4*t+bCode w)).toNat % 4=bCode w:=by rw [hn];omega
 refine⟨by rw [Ly,hd,if_pos ht],?_,by rw [Hl,hd,if_pos ht]⟩;rw [Lz,hd,if_pos ht,hm];rcases Cc.1 hw with rfl|rfl|rfl|rfl <;>rfl
theorem Hf{w:Nat}(hw:Av w=true)(b:List UInt8):(Ah w b).length=upN b.length w∧(Ah w b).length % w=0∧b.length≤(Ah w b).length:=by
 simp only [Ah,Atj,List.length_replicate,Jk,upN];rcases Cc.1 hw with rfl|rfl|rfl|rfl <;>omega
theorem E4{u w:Nat}(hw:Av w=true)(hu:u<2^64)(h:bWidth u≤w):u<2^(8*w):=by
 unfold bWidth at h;rcases Cc.1 hw with rfl|rfl|rfl|rfl <;>(repeat' split at h) <;>omega
def Cp(b:List UInt8)(v:Bv)(w:Nat):List UInt8:=Ah w b++Ai w (B9 w (Ah w b).length v)++ [C3 w v,UInt8.ofNat w]
theorem Amt(y:List UInt8)(a b:UInt8):(y++ [a,b]).length=y.length+2∧(y++ [a,b]).getD ((y++ [a,b]).length-1) 0=b∧(y++ [a,b]).getD ((y++ [a,b]).length-2) 0=a:=by
 refine⟨by simp,?_,?_⟩
 ·rw [Atw,List.getElem?_append_right (by simp)];simp
 ·rw [Atw,List.getElem?_append_right (by simp)];simp
def ownW(w:Nat)(v:Bv):Nat:=if inl v.t=true then w else v.w
theorem Ano{x b:List UInt8}{v:Bv}{w:Nat}(hx:x.length % 8=0)(hw:Av w=true)(ht:Be v.t=true)(hv:Av v.w=true):
  El (x++Cp b v w)=0∧Er (x++Cp b v w)=(((x.length+(Ah w b).length:Nat):Int),(w:Int),(v.t:Int),(ownW w v:Int)):=by
 obtain⟨y,hy⟩:∃y,x++(Ah w b++Ai w (B9 w (Ah w b).length v))=y:=⟨_,rfl⟩;have hl:x++Cp b v w=y++ [C3 w v,UInt8.ofNat w]:=by rw [←hy,Cp];simp only [Ato]
 have hn:y.length=x.length+(Ah w b).length+w:=by rw [←hy];simp only [Atj,Aj];omega
 obtain⟨h1,h2,h3⟩:=Amt y (C3 w v) (UInt8.ofNat w);obtain⟨_,ha,_⟩:=Hf hw b;have how:Av (ownW w v)=true:=by unfold ownW;split <;>assumption
 obtain⟨t1,t2,t3⟩:=Ak6 v.t (ownW w v) ht how;have ht:C3 w v=UInt8.ofNat (4*v.t+bCode (ownW w v)):=rfl;rw [←ht] at t1 t2 t3;have hwb:(UInt8.ofNat w).toNat=w:=by
  rw [UInt8.toNat_ofNat'];rcases Cc.1 hw with rfl|rfl|rfl|rfl <;>rfl
 have he:El (x++Cp b v w)=0:=by
  rw [hl];unfold El;rw [h2,h3,hwb,t3,if_neg,if_neg (by simp),if_neg]
  ·rw [h1,hn];rcases Cc.1 hw with rfl|rfl|rfl|rfl <;>omega
  ·rw [h1,hn,hw];rcases Cc.1 hw with rfl|rfl|rfl|rfl <;>simp <;>omega
 refine⟨he,?_⟩;unfold Er;rw [if_pos he,hl,h2,h3,hwb,t1,t2,h1,hn];simp only [Prod.mk.injEq,and_true];omega
theorem Zn(x b:List UInt8)(v:Bv)(w:Nat):(x++Cp b v w).length=x.length+(Ah w b).length+w+2:=by
 simp only [Cp,Atj,Aj,List.length_cons,List.length_nil];omega
theorem Mr{v:Bv}{a i w:Nat}(hi:inl v.t=false)(h:Cu v a i w=true):v.n≤a∧bWidth (upN a w+i*w-v.n)≤w:=by
 unfold Cu at h;rw [if_neg (by simp [hi])] at h;exact of_decide_eq_true h
theorem Mq{a w:Nat}:∀(vs:List Bv) (i j:Nat) (y:Bv),Du a w i vs=true→vs[j]?=some y→Cu y a (i+j) w=true
 | [],_,_,_,_,h=>by simp at h
 |v::r,i,0,y,hf,h=>by
  rw [Du,Bool.and_eq_true] at hf;have e:v=y:=by simpa using h
  subst e;exact hf.1
 |v::r,i,j+1,y,hf,h=>by
  rw [Du,Bool.and_eq_true] at hf;have:=Mq r (i+1) j y hf.2 (by simpa using h)
  rwa [show i+1+j=i+(j+1) by omega] at this
def Zh(w p:Nat)(y:Bv):Prop:=(inl y.t=true→y.w≤w)∧(inl y.t=false→y.n≤p∧p-y.n<2^(8*w))
theorem Wc{y:Bv}{a i w:Nat}(hw:Av w=true)(hs:upN a w+i*w<2^40)(h:Cu y a i w=true):Zh w (upN a w+i*w) y:=by
 refine⟨fun e=>?_,fun e=>?_⟩
 ·unfold Cu at h;rw [if_pos e] at h;exact of_decide_eq_true h
 ·obtain⟨h1,h2⟩:=Mr e h;have hup:a≤upN a w:=by
   unfold upN;rcases Cc.1 hw with rfl|rfl|rfl|rfl <;>omega
  exact⟨by omega,E4 hw (by omega) h2⟩
theorem Nj{a ahead:Nat}{k:Option Bv}{vs:List Bv}(hk:∀x,k=some x→Dx a x)(h:∀x∈vs,Dx a x):
  (ahead=0∨bWidth vs.length≤B3 a ahead k vs)∧(∀x,k=some x→Cu x a 0 (B3 a ahead k vs)=true)∧Du a (B3 a ahead k vs) ahead vs=true:=by
 have h8:I7 a ahead k vs 8=true:=by
  rw [I7,Aaq vs ahead h];cases k with
  |none=>simp [Aap,Fu]
  |some x=>simp [Aap,Fu,Qz (hk x rfl)]
 have hf:I7 a ahead k vs (B3 a ahead k vs)=true:=(Nn _ h8).2;rw [I7,Bool.and_eq_true,Bool.and_eq_true,Bool.or_eq_true,decide_eq_true_eq,decide_eq_true_eq] at hf;refine⟨hf.1.1,fun x e=>?_,hf.2⟩;subst e;exact hf.1.2
structure Ase(L:List UInt8)(s:Nat)(len tags:Bool)(vs:List Bv)(v:Bv):Prop where
 w:Av v.w=true
 len:len=true→∃c,v.n=c+v.w∧At L (s+c) (Ai v.w vs.length)∧vs.length<2^(8*v.w)
 el:∀(i:Nat) y,vs[i]?=some y→At L (s+(v.n+i*v.w)) (Ai v.w (B9 v.w (v.n+i*v.w) y))∧Zh v.w (v.n+i*v.w) y
 tags:tags=true→At L (s+(v.n+vs.length*v.w)) (vs.map (C3 v.w))
 le:s+(v.n+vs.length*v.w)≤L.length
theorem Cd.facts{l:List UInt8}{t:Nat}{len tags:Bool}{vs:List Bv}{v:Bv}(h:Cd l t len tags vs v)(hb:l.length<2^32)(x:List UInt8):Ase (x++l) x.length len tags vs v:=by
 have hw0:=h.width.2;obtain⟨b,m,rfl,rfl,hf⟩:=h;obtain⟨f1,_,f3⟩:=Nj (a:=b.length) (ahead:=if len=true then 1 else 0) (k:=none) (fun _ e=>by cases e) hf;have hw:Av ((B3 b.length (if len=true then 1 else 0) none vs:Nat):Int)=true:=hw0;clear hw0;obtain⟨w,hwd⟩:∃w,B3 b.length (if len=true then 1 else 0) none vs=w:=⟨_,rfl⟩;obtain⟨c,hc⟩:∃c,Ah w b++(if len=true then Ai w vs.length else [])=c:=⟨_,rfl⟩;simp only [Bc,hwd,hc] at hb hw f1 f3⊢;obtain⟨a1,a2,a3⟩:=Hf hw b;obtain⟨q,e,hq⟩:=D3 w vs c;have hcl:c.length=upN b.length w+(if len=true then 1 else 0)*w:=by
  rw [←hc,Atj,a1];cases len <;>simp [Aj]
 have hlen:c.length+w*vs.length≤(Bn w c vs++(if tags=true then vs.map (C3 w) else [])++m).length:=by
  rw [e];simp only [Atj,hq];omega
 have hvl:vs.length≤w*vs.length:=Nat.le_mul_of_pos_left _ (by rcases Cc.1 hw with rfl|rfl|rfl|rfl <;>omega);refine⟨hw,fun hl=>?_,fun i y hy=>?_,fun ht=>?_,?_⟩
 ·subst hl;simp only [if_true] at hc hcl f1;refine⟨(Ah w b).length,by simp only [hcl];omega,?_,E4 hw (by omega) (f1.resolve_left (by omega))⟩;refine At.ahead ?_ x;refine At.app ?_ m;refine At.app ?_ _;rw [e,←hc];exact(At.last _ _).app q
 ·have hi:i<vs.length:=by
   rw [←Nat.not_le];intro hn;rw [List.getElem?_eq_none hn] at hy;cases hy
  have hiw:i*w≤w*vs.length:=by rw [Nat.mul_comm];exact Nat.mul_le_mul_left _ (by omega)
  refine⟨At.ahead (((Qw w vs c i y hy).app _).app m) x,?_⟩;have h1:=Mq vs _ i y f3 hy;have h2:upN b.length w+((if len=true then 1 else 0)+i)*w=c.length+i*w:=by rw [hcl,Nat.add_mul,Nat.add_assoc]
  have h3:=Wc hw (by rw [h2];omega) h1;rw [h2] at h3;exact h3
 ·subst ht;refine At.ahead ?_ x;refine At.app ?_ m;have:(Bn w c vs).length=c.length+vs.length*w:=by rw [e,Atj,hq,Nat.mul_comm]
  rw [←this];exact At.last _ _
 ·show x.length+(c.length+vs.length*w)≤_;rw [Atj,Nat.mul_comm vs.length];omega
end Go.Proofs.YtgbjodnegkbfoaaGreat
