/- Parts of the proof. -/
import Derived.Test.YtejpbijeifjdeaaGreatQv02
open List renaming getElem?_eq_getElem→Ai,length_append→Ak,replicate→An,length_take→Au,length_cons→Av,append_assoc→Ax
open UInt8 renaming ofNat→Aq
open Go.Proofs.Tryz
open Go.Proofs.Tryz renaming prog→Ad
namespace Go.Proofs.YtejpbijeifjdeaaGreat
variable {n w a ahead:Nat}{v k:Bv}{l s z:List UInt8}{len tags:Bool}{vs:List Bv}{ks:List (List UInt8)}{p q t:Int}
section
open Go.Acc
def E7(n:Nat)(v:Bv):Prop:=(inl v.t=true→v.w≤8)∧(inl v.t=false→v.n≤n)
theorem E7.mono{n':Nat}(h:E7 n v)(hn:n≤n'):E7 n' v:=⟨h.1,fun e=>Nat.le_trans (h.2 e) hn⟩
theorem F6(u:Nat):bWidth u≤8:=by unfold bWidth;(repeat' split) <;>omega
theorem Pg(n:Int):bWidthI n≤8:=by unfold bWidthI;(repeat' split) <;>omega
theorem Lu(f:Nat→Bool):leastW f≤8:=by unfold leastW;(repeat' split) <;>omega
def Ge(l:List UInt8)(t:Nat)(len tags:Bool)(vs:List Bv)(v:Bv):Prop:=∃b m,l=(Cu t len tags vs b).1++m∧v=(Cu t len tags vs b).2∧∀x∈vs,E7 b.length x
def Mc(l:List UInt8)(k:Bv)(vs:List Bv)(v:Bv):Prop:=∃b m,l=(Gh k vs b).1++m∧v=(Gh k vs b).2∧E7 b.length k∧∀x∈vs,E7 b.length x
theorem Ge.app{t:Nat}(h:Ge l t len tags vs v)(x:List UInt8):Ge (l++x) t len tags vs v:=by
 obtain⟨b,m,rfl,rfl,hf⟩:=h;exact⟨b,m++x,by rw [Ax],rfl,hf⟩
theorem Mc.app(h:Mc l k vs v)(x:List UInt8):Mc (l++x) k vs v:=by
 obtain⟨b,m,rfl,rfl,hf⟩:=h;exact⟨b,m++x,by rw [Ax],rfl,hf⟩
def Ja(l:List UInt8)(s:List UInt8)(v:Bv):Prop:=v.t=4∧v.w=1∧At l v.n (s++ [0])
def G4(l:List UInt8)(t:Nat)(s z:List UInt8)(v:Bv):Prop:=v.t=t∧v.w=bWidth s.length∧∃c,v.n=c+v.w∧At l c (Bi v.w s.length++s++z)∧c % v.w=0
def Kh(l:List UInt8)(t w n:Nat)(v:Bv):Prop:=v.t=t∧v.w=w∧At l v.n (Bi w (n % 2^(8*w)))∧v.n % w=0
def F2(l:List UInt8)(ks:List (List UInt8))(vs:List Bv):Prop:=vs.length=ks.length∧∀(i:Nat) s v,ks[i]?=some s→vs[i]?=some v→Ja l s v
theorem Ja.app(h:Ja l s v)(x:List UInt8):Ja (l++x) s v:=⟨h.1,h.2.1,h.2.2.app x⟩
theorem G4.app{t:Nat}(h:G4 l t s z v)(x:List UInt8):G4 (l++x) t s z v:=by
 obtain⟨h1,h2,c,h3,h4⟩:=h;exact⟨h1,h2,c,h3,h4.1.app x,h4.2⟩
theorem Kh.app{t:Nat}(h:Kh l t w n v)(x:List UInt8):Kh (l++x) t w n v:=⟨h.1,h.2.1,h.2.2.1.app x,h.2.2.2⟩
theorem F2.app(h:F2 l ks vs)(x:List UInt8):F2 (l++x) ks vs:=⟨h.1,fun i s v h1 h2=>(h.2 i s v h1 h2).app x⟩
inductive Ft(l:List UInt8):Bv→Tr→Prop
 |null (n u s ks c):Ft l ⟨0,1,0⟩ (.mk 1 n u s ks c)
 |truth (n u s ks c):Ft l (E3 n) (.mk 2 n u s ks c)
 |int (n u s ks c):Ft l (Gs n) (.mk 3 n u s ks c)
 |uint (n u s ks c):Ft l (Ds u) (.mk 4 n u s ks c)
 |key {v:Bv} {s:List UInt8} (n u ks c) (h:Ja l s v):Ft l v (.mk 5 n u s ks c)
 |str {v:Bv} {s:List UInt8} (n u ks c) (h:G4 l 5 s [0] v):Ft l v (.mk 6 n u s ks c)
 |blob {v:Bv} {s:List UInt8} (n u ks c) (h:G4 l 25 s [] v):Ft l v (.mk 7 n u s ks c)
 |indInt {v:Bv} {n:Int} (u s ks c) (h:Kh l 6 (bWidthI n) (bits n) v):Ft l v (.mk 8 n u s ks c)
 |indUint {v:Bv} {u:Nat} (n s ks c) (h:Kh l 7 (bWidth u) u v):Ft l v (.mk 9 n u s ks c)
 |ints {v:Bv} {c:List Tr} (n u s ks) (h:Ge l 11 true false (c.map fun t=>Gs t.n) v):Ft l v (.mk 11 n u s ks c)
 |uints {v:Bv} {c:List Tr} (n u s ks) (h:Ge l 12 true false (c.map fun t=>Ds t.u) v):Ft l v (.mk 12 n u s ks c)
 |bools {v:Bv} {c:List Tr} (n u s ks) (h:Ge l 36 true false (c.map fun t=>E3 t.n) v):Ft l v (.mk 14 n u s ks c)
 |keys {v:Bv} {c:List Tr} {vs:List Bv} (n u s ks) (hk:F2 l (c.map Tr.s) vs) (h:Ge l 14 true false vs v):Ft l v (.mk 13 n u s ks c)
 |fixInts {v:Bv} {c:List Tr} (n u s ks) (h:Ge l (10+3*c.length) false false (c.map fun t=>Gs t.n) v):Ft l v (.mk 15 n u s ks c)
 |fixUints {v:Bv} {c:List Tr} (n u s ks) (h:Ge l (11+3*c.length) false false (c.map fun t=>Ds t.u) v):Ft l v (.mk 16 n u s ks c)
 |vec {v:Bv} {c:List Tr} {vs:List Bv} (n u s ks) (hl:vs.length=c.length) (hr:∀(i:Nat) x t,vs[i]?=some x→c[i]?=some t→Ft l x t) (h:Ge l 10 true true vs v):Ft l v (.mk 10 n u s ks c)
 |map {v kv:Bv} {c:List Tr} {ks:List (List UInt8)} {kvs vs:List Bv} (n u s) (hk:F2 l ks kvs) (hv:Ge l 14 true false kvs kv) (hl:vs.length=c.length) (hr:∀(i:Nat) x t,vs[i]?=some x→c[i]?=some t→Ft l x t) (h:Mc l kv vs v):Ft l v (.mk 17 n u s ks c)
theorem Ft.app{t:Tr}(h:Ft l v t)(x:List UInt8):Ft (l++x) v t:=by
 induction h with
 |null=>exact .null _ _ _ _ _
 |truth=>exact .truth _ _ _ _ _
 |int=>exact .int _ _ _ _ _
 |uint=>exact .uint _ _ _ _ _
 |key _ _ _ _ h=>exact .key _ _ _ _ (h.app x)
 |str _ _ _ _ h=>exact .str _ _ _ _ (h.app x)
 |blob _ _ _ _ h=>exact .blob _ _ _ _ (h.app x)
 |indInt _ _ _ _ h=>exact .indInt _ _ _ _ (h.app x)
 |indUint _ _ _ _ h=>exact .indUint _ _ _ _ (h.app x)
 |ints _ _ _ _ h=>exact .ints _ _ _ _ (h.app x)
 |uints _ _ _ _ h=>exact .uints _ _ _ _ (h.app x)
 |bools _ _ _ _ h=>exact .bools _ _ _ _ (h.app x)
 |keys _ _ _ _ hk h=>exact .keys _ _ _ _ (hk.app x) (h.app x)
 |fixInts _ _ _ _ h=>exact .fixInts _ _ _ _ (h.app x)
 |fixUints _ _ _ _ h=>exact .fixUints _ _ _ _ (h.app x)
 |vec _ _ _ _ hl _ h ih=>exact .vec _ _ _ _ hl ih (h.app x)
 |map _ _ _ hk hv hl _ h ih=>exact .map _ _ _ (hk.app x) (hv.app x) hl ih (h.app x)
theorem Uh(t:Nat)(len tags:Bool)(vs:List Bv)(b m:List UInt8):E7 ((Cu t len tags vs b).1++m).length (Cu t len tags vs b).2:=by
 obtain⟨w,a⟩:∃w,C5 b.length (if len=true then 1 else 0) none vs=w:=⟨_,rfl⟩;have d:w≤8:=by rw [←a];exact Lu _
 obtain⟨c,f⟩:∃c,Bn w b++(if len=true then Bi w vs.length else [])=c:=⟨_,rfl⟩;simp only [Cu,a,f];obtain⟨x,e,_⟩:=Hz w vs c;refine⟨fun _=>d,fun _=>?_⟩;rw [e];simp only [Ak];omega
theorem sK(k:Bv)(vs:List Bv)(b m:List UInt8):E7 ((Gh k vs b).1++m).length (Gh k vs b).2:=by
 obtain⟨w,hw⟩:∃w,C5 b.length 3 (some k) vs=w:=⟨_,rfl⟩;have h8:w≤8:=by rw [←hw];exact Lu _
 obtain⟨c,hc⟩:∃c,Bn w b++Bi w ((Bn w b).length-k.n)++Bi w k.w++Bi w vs.length=c:=⟨_,rfl⟩;simp only [Gh,hw,hc];obtain⟨x,e,_⟩:=Hz w vs c;refine⟨fun _=>h8,fun _=>?_⟩;rw [e];simp only [Ak];omega
theorem Ge.fit{t:Nat}(h:Ge l t len tags vs v):E7 l.length v:=by
 obtain⟨b,m,rfl,rfl,_⟩:=h;exact Uh _ _ _ _ _ _
theorem Mc.fit(h:Mc l k vs v):E7 l.length v:=by
 obtain⟨b,m,rfl,rfl,_⟩:=h;exact sK _ _ _ _
theorem Ja.fit(h:Ja l s v):E7 l.length v:=by
 obtain⟨h1,h2,h3⟩:=h;have:=h3.le;exact⟨fun _=>by omega,fun _=>by omega⟩
theorem G4.fit{t:Nat}(h:G4 l t s z v):E7 l.length v:=by
 obtain⟨_,h2,c,h3,h4⟩:=h;have:=h4.1.le;simp only [Ak,B3] at this;exact⟨fun _=>by rw [h2];exact F6 _,fun _=>by omega⟩
theorem Kh.fit{t:Nat}(h:Kh l t w n v)(hw:w≤8):E7 l.length v:=by
 have:=h.2.2.1.le;exact⟨fun _=>by rw [h.2.1];exact hw,fun _=>by omega⟩
theorem T3(n:Int)(m:Nat):E7 m (Gs n):=⟨fun _=>Pg n,fun h=>absurd h (show ¬inl 1=false by decide)⟩
theorem Qm(u m:Nat):E7 m (Ds u):=⟨fun _=>F6 u,fun h=>absurd h (show ¬inl 2=false by decide)⟩
theorem V6(n:Int)(m:Nat):E7 m (E3 n):=⟨fun _=>by simp [E3],fun h=>absurd h (show ¬inl 26=false by decide)⟩
theorem Ft.fit{t:Tr}(h:Ft l v t):E7 l.length v:=by
 cases h with
 |null=>exact⟨fun _=>by simp,fun h=>absurd h (by decide)⟩
 |truth=>exact V6 _ _
 |int=>exact T3 _ _
 |uint=>exact Qm _ _
 |key _ _ _ _ h=>exact h.fit
 |str _ _ _ _ h=>exact h.fit
 |blob _ _ _ _ h=>exact h.fit
 |indInt _ _ _ _ h=>exact h.fit (Pg _)
 |indUint _ _ _ _ h=>exact h.fit (F6 _)
 |ints _ _ _ _ h=>exact h.fit
 |uints _ _ _ _ h=>exact h.fit
 |bools _ _ _ _ h=>exact h.fit
 |keys _ _ _ _ _ h=>exact h.fit
 |fixInts _ _ _ _ h=>exact h.fit
 |fixUints _ _ _ _ h=>exact h.fit
 |vec _ _ _ _ _ _ h=>exact h.fit
 |map _ _ _ _ _ _ _ h=>exact h.fit
theorem F2.fit(h:F2 l ks vs):∀x∈vs,E7 l.length x:=by
 intro x hx;obtain⟨i,hi,e⟩:=List.getElem_of_mem hx;have hk:i<ks.length:=by rw [←h.1];exact hi
 exact(h.2 i ks[i] x (Ai hk) (by rw [Ai hi,e])).fit
theorem Qg{c:List Tr}(hl:vs.length=c.length)(h:∀(i:Nat) x t,vs[i]?=some x→c[i]?=some t→Ft l x t):∀x∈vs,E7 l.length x:=by
 intro x hx;obtain⟨i,hi,e⟩:=List.getElem_of_mem hx;have hk:i<c.length:=by rw [←hl];exact hi
 exact(h i x c[i] (by rw [Ai hi,e]) (Ai hk)).fit
def C3(ks:List (List UInt8)):List UInt8:=ks.flatMap fun s=>s++ [0]
structure Dh(b:Bd):Prop where
 keys:∀s a,Cj b.keys s=some a→At b.b a (s++ [0])
 texts:∀s a,Cj b.texts s=some a→G4 b.b 5 s [0] ⟨5,bWidth s.length,a⟩
 lists:∀ks:List (List UInt8),(∀s∈ks,(0:UInt8)∉s)→∀i,Cj b.lists (C3 ks)=some i→∃kv kvs,b.vals[i]?=some kv∧F2 b.b ks kvs∧Ge b.b 14 true false kvs kv
 vals:∀s i,Cj b.lists s=some i→i<b.vals.length
theorem Tp:Dh Bd.new:=⟨fun _ _ h=>by simp [Bd.new,Cj] at h,fun _ _ h=>by simp [Bd.new,Cj] at h,fun _ _ _ h=>by simp [Bd.new,Cj] at h,fun _ _ h=>by simp [Bd.new,Cj] at h⟩
theorem Dh.app{b b':Bd}(h:Dh b)(x:List UInt8)(hb:b'.b=b.b++x)(hk:b'.keys=b.keys)(ht:b'.texts=b.texts)(hl:b'.lists=b.lists)(hv:b'.vals=b.vals):Dh b':=by
 refine⟨fun s a e=>?_,fun s a e=>?_,fun ks h0 i e=>?_,fun s i e=>?_⟩
 ·rw [hb];rw [hk] at e;exact(h.keys s a e).app x
 ·rw [hb];rw [ht] at e;exact(h.texts s a e).app x
 ·rw [hl] at e;obtain⟨kv,c,h1,h2,h3⟩:=h.lists ks h0 i e;rw [hb,hv];exact⟨kv,c,h1,h2.app x,h3.app x⟩
 ·rw [hl] at e;rw [hv];exact h.vals s i e
theorem Mz{l:List (List UInt8×Nat)}{k:List UInt8}{c:Nat}(h:Cj (Fs l k a) s=some c):Cj l s=some c∨(s=k∧c=a):=by
 unfold Fs at h;split at h
 ·exact Or.inl h
 ·rw [Cj,List.find?_append] at h;cases hg:l.find? (fun x=>x.1==s) with
  |some y=>
   rw [hg] at h;left;rw [Cj,hg];simpa using h
  |none=>
   rw [hg] at h;right;by_cases hs:k=s
   ·subst hs;simp at h;exact⟨rfl,h.symm⟩
   ·simp [hs] at h
def Gq(b b':Bd):Prop:=(∃m,b'.b=b.b++m)∧Dh b'
theorem Gq.trans{a b c:Bd}(h:Gq a b)(h':Gq b c):Gq a c:=by
 obtain⟨⟨m,e⟩,_⟩:=h;obtain⟨⟨m',e'⟩,g⟩:=h';exact⟨⟨m++m',by rw [e',e,Ax]⟩,g⟩
theorem Gq.rep{b b':Bd}(h:Gq b b'){t:Tr}(r:Ft b.b v t):Ft b'.b v t:=by
 obtain⟨⟨m,e⟩,_⟩:=h;rw [e];exact r.app m
theorem Wz(f:Nat)(s:List UInt8)(b:Bd)(h:Dh b):Gq b (b.put f s).1∧Ja (b.put f s).1.b s (b.put f s).2∧(b.put f s).1.s=b.s:=by
 unfold Bd.put;split
 ·next a ha=>
  split at ha
  ·exact⟨⟨⟨[],by simp⟩,h⟩,⟨rfl,rfl,h.keys s a ha⟩,rfl⟩
  ·cases ha
 ·refine⟨⟨⟨s++ [0],by simp⟩,⟨fun k a e=>?_,fun k a e=>?_,fun ks h0 i e=>?_,fun k i e=>h.vals k i e⟩⟩,⟨rfl,rfl,?_⟩,rfl⟩
  ·rcases Mz e with e|⟨rfl,rfl⟩
   ·have:=(h.keys k a e).app (s++ [0])
    rwa [←Ax] at this
   ·have:=At.last b.b (k++ [0])
    rwa [←Ax] at this
  ·have:=(h.texts k a e).app (s++ [0])
   rwa [←Ax] at this
  ·obtain⟨kv,c,h1,h2,h3⟩:=h.lists ks h0 i e;have h2:=h2.app (s++ [0]);have h3:=h3.app (s++ [0]);rw [←Ax] at h2 h3;exact⟨kv,c,h1,h2,h3⟩
  ·have:=At.last b.b (s++ [0])
   rwa [←Ax] at this
theorem Rj{b:Bd}(h:Dh b)(v:Bv):Dh (b.push v):=h.app [] (by simp [Bd.push]) rfl rfl rfl rfl
theorem Ov(f:Nat)(s:List UInt8)(b:Bd)(h:Dh b):∃v,(b.key f s).s=b.s++ [v]∧Gq b (b.key f s)∧Ja (b.key f s).b s v:=by
 obtain⟨⟨h1,h2⟩,h3,h4⟩:=Wz f s b h;exact⟨(b.put f s).2,by simp [Bd.key,Bd.push,h4],⟨h1,Rj h2 _⟩,h3⟩
theorem cF(f:Nat):∀(ks:List (List UInt8)) (b:Bd),Dh b→Gq b (b.puts f ks).1∧F2 (b.puts f ks).1.b ks (b.puts f ks).2∧(b.puts f ks).1.s=b.s
 | [],b,h=>⟨⟨⟨[],by simp [Bd.puts]⟩,h⟩,⟨rfl,fun i s v h=>by simp at h⟩,rfl⟩
 |s::r,b,h=>by
  obtain⟨c,k,g⟩:=Wz f s b h;obtain⟨d,a,j⟩:=cF f r (b.put f s).1 c.2;refine⟨c.trans d,⟨by simp [Bd.puts,a.1],fun i x v hx hv=>?_⟩,j.trans g⟩;cases i with
  |zero=>
   simp only [Bd.puts,List.getElem?_cons_zero,Option.some.injEq] at hx hv;subst hx hv;obtain⟨⟨m,e⟩,_⟩:=d;simp only [Bd.puts,e];exact k.app m
  |succ i=>
   simp only [Bd.puts,List.getElem?_cons_succ] at hx hv;exact a.2 i x v hx hv
theorem Lg(t:Nat)(len tags:Bool)(l:List Bv)(b:Bd)(h:Dh b)(hf:∀x∈l,E7 b.b.length x):∃v,(b.vec t len tags l).s=b.s++ [v]∧Gq b (b.vec t len tags l)∧Ge (b.vec t len tags l).b t len tags l v:=by
 obtain⟨m,e⟩:=Qn t len tags l b.b;exact⟨(Cu t len tags l b.b).2,rfl,⟨⟨m,e⟩,h.app m e rfl rfl rfl rfl⟩,b.b,[],by simp [Bd.vec],rfl,hf⟩
theorem Xp(hw:w=1∨w=2∨w=4∨w=8)(l:List UInt8):(Bn w l).length % w=0:=by
 simp only [Bn,Ak,List.length_replicate,Ma];rcases hw with rfl|rfl|rfl|rfl <;>omega
theorem Xr(u:Nat):bWidth u=1∨bWidth u=2∨bWidth u=4∨bWidth u=8:=by unfold bWidth;(repeat' split) <;>simp
theorem iN(n:Int):bWidthI n=1∨bWidthI n=2∨bWidthI n=4∨bWidthI n=8:=by unfold bWidthI;(repeat' split) <;>simp
theorem Uc(t:Nat)(s z:List UInt8)(l:List UInt8):G4 (Bn (bWidth s.length) l++Bi (bWidth s.length) s.length++s++z) t s z ⟨t,bWidth s.length,(Bn (bWidth s.length) l++Bi (bWidth s.length) s.length).length⟩:=by
 refine⟨rfl,rfl,(Bn (bWidth s.length) l).length,by rw [Ak,B3],?_,Xp (Xr _) l⟩;have:=At.last (Bn (bWidth s.length) l) (Bi (bWidth s.length) s.length++s++z);simpa only [Ax] using this
theorem rA(s:List UInt8)(b:Bd)(h:Dh b):∃v,(b.blob s).s=b.s++ [v]∧Gq b (b.blob s)∧G4 (b.blob s).b 25 s [] v:=by
 have e:(b.blob s).b=b.b++(An (Ma (bWidth s.length) b.b.length) 0++(Bi (bWidth s.length) s.length++s)):=by simp only [Bd.blob,Bn,Ax]
 refine⟨_,rfl,⟨⟨_,e⟩,h.app _ e rfl rfl rfl rfl⟩,?_⟩;have:=Uc 25 s [] b.b;rw [List.append_nil] at this;exact this
theorem xL(f:Nat)(s:List UInt8)(b:Bd)(h:Dh b):∃v,(b.str f s).s=b.s++ [v]∧Gq b (b.str f s)∧G4 (b.str f s).b 5 s [0] v:=by
 unfold Bd.str;simp only [];split
 ·next a ha=>
  split at ha
  ·exact⟨_,rfl,⟨⟨[],by simp [Bd.push]⟩,Rj h _⟩,h.texts s a ha⟩
  ·cases ha
 ·have e:Bn (bWidth s.length) b.b++Bi (bWidth s.length) s.length++s++ [0]=b.b++(An (Ma (bWidth s.length) b.b.length) 0++(Bi (bWidth s.length) s.length++(s++ [0]))):=by simp only [Bn,Ax]
  refine⟨_,rfl,⟨⟨_,e⟩,⟨fun k a i=>?_,fun k a i=>?_,fun ks h0 i j=>?_,fun k i j=>h.vals k i j⟩⟩,Uc 5 s [0] b.b⟩
  ·exact e▸(h.keys k a i).app _
  ·rcases Mz i with i|⟨rfl,rfl⟩
   ·exact e▸(h.texts k a i).app _
   ·exact Uc 5 k [0] b.b
  ·obtain⟨kv,c,h1,h2,h3⟩:=h.lists ks h0 i j;exact⟨kv,c,h1,e▸h2.app _,e▸h3.app _⟩
theorem Xq(t w n:Nat)(b:Bd)(h:Dh b)(hw:w=1∨w=2∨w=4∨w=8):∃v,(b.apart t w n).s=b.s++ [v]∧Gq b (b.apart t w n)∧Kh (b.apart t w n).b t w n v:=by
 have e:(b.apart t w n).b=b.b++(An (Ma w b.b.length) 0++Bi w (n % 2^(8*w))):=by simp only [Bd.apart,Bn,Ax]
 exact⟨_,rfl,⟨⟨_,e⟩,h.app _ e rfl rfl rfl rfl⟩,rfl,rfl,At.last _ _,Xp hw _⟩
inductive Ok:Tr→Prop
 |leaf {k:Int} (n u s ks c) (h1:1≤k) (h2:k≤9):Ok (.mk k n u s ks c)
 |flat {k:Int} (n u s ks c) (h1:11≤k) (h2:k≤16):Ok (.mk k n u s ks c)
 |vec {c:List Tr} (n u s ks) (h:∀t∈c,Ok t):Ok (.mk 10 n u s ks c)
 |map {c:List Tr} {ks:List (List UInt8)} (n u s) (hl:ks.length=c.length) (h0:∀x∈ks,(0:UInt8)∉x) (h:∀t∈c,Ok t):Ok (.mk 17 n u s ks c)
def N6(f:Nat)(t:Tr):Prop:=∀b,Dh b→∃v,(Bd.calls f t b).s=b.s++ [v]∧Gq b (Bd.calls f t b)∧Ft (Bd.calls f t b).b v t
theorem aV(f:Nat){k:Int}(n:Int)(u:Nat)(s:List UInt8)(ks:List (List UInt8))(c:List Tr)(h1:1≤k)(h2:k≤9)(b:Bd)(h:Dh b):∃v,(b.leaf f k n u s).s=b.s++ [v]∧Gq b (b.leaf f k n u s)∧Ft (b.leaf f k n u s).b v (.mk k n u s ks c):=by
 have d:∀v,Gq b (b.push v):=fun v=>⟨⟨[],by simp [Bd.push]⟩,Rj h v⟩
 obtain rfl|rfl|rfl|rfl|rfl|rfl|rfl|rfl|rfl:k=1∨k=2∨k=3∨k=4∨k=5∨k=6∨k=7∨k=8∨k=9:=by omega
 ·exact⟨_,rfl,d _,.null _ _ _ _ _⟩
 ·exact⟨_,rfl,d _,.truth _ _ _ _ _⟩
 ·exact⟨_,rfl,d _,.int _ _ _ _ _⟩
 ·exact⟨_,rfl,d _,.uint _ _ _ _ _⟩
 ·obtain⟨v,e,a,k⟩:=Ov f s b h;exact⟨v,e,a,.key _ _ _ _ k⟩
 ·obtain⟨v,e,a,k⟩:=xL f s b h;exact⟨v,e,a,.str _ _ _ _ k⟩
 ·obtain⟨v,e,a,k⟩:=rA s b h;exact⟨v,e,a,.blob _ _ _ _ k⟩
 ·obtain⟨v,e,a,k⟩:=Xq 6 (bWidthI n) (bits n) b h (iN n);exact⟨v,e,a,.indInt _ _ _ _ k⟩
 ·obtain⟨v,e,a,k⟩:=Xq 7 (bWidth u) u b h (Xr u);exact⟨v,e,a,.indUint _ _ _ _ k⟩
theorem rU(f:Nat){k:Int}(n:Int)(u:Nat)(s:List UInt8)(ks:List (List UInt8))(c:List Tr)(h1:11≤k)(h2:k≤16)(b:Bd)(h:Dh b):∃v,(b.flat f k c).s=b.s++ [v]∧Gq b (b.flat f k c)∧Ft (b.flat f k c).b v (.mk k n u s ks c):=by
 obtain rfl|rfl|rfl|rfl|rfl|rfl:k=11∨k=12∨k=13∨k=14∨k=15∨k=16:=by omega
 ·obtain⟨v,e,a,k⟩:=Lg 11 true false (c.map fun t=>Gs t.n) b h (fun x hx=>by obtain⟨t,_,rfl⟩:=List.mem_map.1 hx;exact T3 _ _);exact⟨v,e,a,.ints _ _ _ _ k⟩
 ·obtain⟨v,e,a,k⟩:=Lg 12 true false (c.map fun t=>Ds t.u) b h (fun x hx=>by obtain⟨t,_,rfl⟩:=List.mem_map.1 hx;exact Qm _ _);exact⟨v,e,a,.uints _ _ _ _ k⟩
 ·obtain⟨g,d,i⟩:=cF f (c.map Tr.s) b h;obtain⟨v,e,a,k⟩:=Lg 14 true false (b.puts f (c.map Tr.s)).2 (b.puts f (c.map Tr.s)).1 g.2 d.fit;refine⟨v,e.trans (by rw [i]),g.trans a,.keys _ _ _ _ ?_ k⟩;obtain⟨⟨m,j⟩,_⟩:=a;exact j▸d.app m
 ·obtain⟨v,e,a,k⟩:=Lg 36 true false (c.map fun t=>E3 t.n) b h (fun x hx=>by obtain⟨t,_,rfl⟩:=List.mem_map.1 hx;exact V6 _ _);exact⟨v,e,a,.bools _ _ _ _ k⟩
 ·obtain⟨v,e,a,k⟩:=Lg (10+3*c.length) false false (c.map fun t=>Gs t.n) b h (fun x hx=>by obtain⟨t,_,rfl⟩:=List.mem_map.1 hx;exact T3 _ _);exact⟨v,e,a,.fixInts _ _ _ _ k⟩
 ·obtain⟨v,e,a,k⟩:=Lg (11+3*c.length) false false (c.map fun t=>Ds t.u) b h (fun x hx=>by obtain⟨t,_,rfl⟩:=List.mem_map.1 hx;exact Qm _ _);exact⟨v,e,a,.fixUints _ _ _ _ k⟩
theorem Kk(f:Nat):∀(c:List Tr),(∀t∈c,N6 f t)→∀b,Dh b→∃vs,(Bd.callsL f c b).s=b.s++vs∧vs.length=c.length∧Gq b (Bd.callsL f c b)∧∀(i:Nat) x t,vs[i]?=some x→c[i]?=some t→Ft (Bd.callsL f c b).b x t
 | [],_,b,h=>⟨[],by simp [Bd.callsL],rfl,⟨⟨[],by simp [Bd.callsL]⟩,h⟩,fun i x t h=>by simp at h⟩
 |t::r,hd,b,h=>by
  obtain⟨v,e,a,k⟩:=hd t (by simp) b h;obtain⟨vs,g,j,d,l⟩:=Kk f r (fun t ht=>hd t (by simp [ht])) (Bd.calls f t b) a.2;refine⟨v::vs,by rw [Bd.callsL,g,e,Ax];rfl,by simp [j],by rw [Bd.callsL];exact a.trans d,fun i x t' hx ht=>?_⟩;rw [Bd.callsL];cases i with
  |zero=>
   simp only [List.getElem?_cons_zero,Option.some.injEq] at hx ht;subst hx ht;exact d.rep k
  |succ i=>
   simp only [List.getElem?_cons_succ] at hx ht;exact l i x t' hx ht
def Fc:List Bv→List Bv→List Bv
 |k::r,v::q=>k::v::Fc r q
 |_,_=>[]
theorem Je:∀(ks vs:List Bv),ks.length=vs.length→Kp (Fc ks vs)=ks∧P9 (Fc ks vs)=vs
 | [],[],_=>⟨rfl,rfl⟩
 |k::r,v::q,h=>by
  obtain⟨h1,h2⟩:=Je r q (by simpa using h);refine⟨by simp [Fc,Kp,h1],?_⟩;simp only [Fc,P9,List.tail_cons];cases r with
  |nil=>
   cases q with
   |nil=>rfl
   |cons _ _=>simp at h
  |cons a r=>
   cases q with
   |nil=>simp at h
   |cons b q=>
    simp only [Fc,P9,List.tail_cons] at h2;simp only [Fc,Kp,h2]
theorem Jd(f:Nat):∀(c:List Tr) (ks:List (List UInt8)),ks.length=c.length→(∀t∈c,N6 f t)→∀b,Dh b→∃kvs vs,(Bd.callsM f ks c b).s=b.s++Fc kvs vs∧vs.length=c.length∧Gq b (Bd.callsM f ks c b)∧F2 (Bd.callsM f ks c b).b ks kvs∧∀(i:Nat) x t,vs[i]?=some x→c[i]?=some t→Ft (Bd.callsM f ks c b).b x t
 | [],ks,hk,_,b,h=>by
  obtain rfl:ks=[]:=List.eq_nil_of_length_eq_zero hk;exact⟨[],[],by simp [Bd.callsM,Fc],rfl,⟨⟨[],by simp [Bd.callsM]⟩,h⟩,⟨rfl,fun i x t h=>by simp at h⟩,fun i x t h=>by simp at h⟩
 |t::r,[],hk,_,_,_=>by simp at hk
 |t::r,s::ks,hk,hd,b,h=>by
  obtain⟨kv,j,g,p⟩:=Ov f s b h;obtain⟨v,k,a,u⟩:=hd t (by simp) (b.key f s) g.2;obtain⟨kvs,vs,l,q,d,e,w⟩:=Jd f r ks (by simpa using hk) (fun t ht=>hd t (by simp [ht])) (Bd.calls f t (b.key f s)) a.2;have n:Bd.callsM f (s::ks) (t::r) b=Bd.callsM f ks r (Bd.calls f t (b.key f s)):=by rw [Bd.callsM];rfl
  rw [n];refine⟨kv::kvs,v::vs,by rw [l,k,j];simp [Fc],by simp [q],(g.trans a).trans d,⟨by simp [e.1],fun i x v' hx hv=>?_⟩,fun i x t' hx ht=>?_⟩
  ·cases i with
   |zero=>
    simp only [List.getElem?_cons_zero,Option.some.injEq] at hx hv;subst hx hv;obtain⟨⟨m,o⟩,_⟩:=a.trans d;rw [o];exact p.app m
   |succ i=>
    simp only [List.getElem?_cons_succ] at hx hv;exact e.2 i x v' hx hv
  ·cases i with
   |zero=>
    simp only [List.getElem?_cons_zero,Option.some.injEq] at hx ht;subst hx ht;exact d.rep u
   |succ i=>
    simp only [List.getElem?_cons_succ] at hx ht;exact w i x t' hx ht
theorem Z3:∀(s s' x x':List UInt8),(0:UInt8)∉s→(0:UInt8)∉s'→s++0::x=s'++0::x'→s=s'∧x=x'
 | [],[],_,_,_,_,h=>⟨rfl,by simpa using h⟩
 | [],c::s',_,_,_,h',h=>by
  simp only [List.nil_append,List.cons_append,List.cons.injEq] at h;exact absurd (by simp [←h.1]) h'
 |c::s,[],_,_,h',_,h=>by
  simp only [List.nil_append,List.cons_append,List.cons.injEq] at h;exact absurd (by simp [h.1]) h'
 |c::s,d::s',x,x',h0,h0',h=>by
  simp only [List.cons_append,List.cons.injEq] at h;obtain⟨a,b⟩:=Z3 s s' x x' (fun hm=>h0 (by simp [hm])) (fun hm=>h0' (by simp [hm])) h.2;exact⟨by rw [h.1,a],b⟩
theorem Vi:∀(a b:List (List UInt8)),(∀s∈a,(0:UInt8)∉s)→(∀s∈b,(0:UInt8)∉s)→C3 a=C3 b→a=b
 | [],[],_,_,_=>rfl
 | [],s::r,_,_,h=>by simp [C3] at h
 |s::r,[],_,_,h=>by simp [C3] at h
 |s::r,t::q,ha,hb,h=>by
  have e:s++0::C3 r=t++0::C3 q:=by simpa [C3] using h
  obtain⟨c,d⟩:=Z3 s t _ _ (ha s (by simp)) (hb t (by simp)) e;rw [c,Vi r q (fun s hs=>ha s (by simp [hs])) (fun s hs=>hb s (by simp [hs])) d]
theorem U3(f:Nat)(ks:List (List UInt8))(st:List Bv)(b:Bd)(kvs vs:List Bv)(h:Dh b)(hs:b.s=st++Fc kvs vs)(hl:kvs.length=vs.length)(h0:∀x∈ks,(0:UInt8)∉x)(hk:F2 b.b ks kvs)(hf:∀x∈vs,E7 b.b.length x):
  ∃v kv kvs',(b.endMap f ks st.length).s=st++ [v]∧Gq b (b.endMap f ks st.length)∧F2 (b.endMap f ks st.length).b ks kvs'∧Ge (b.endMap f ks st.length).b 14 true false kvs' kv∧Mc (b.endMap f ks st.length).b kv vs v:=by
 obtain⟨h1,h2⟩:=Je kvs vs hl;have A:b.s.drop st.length=Fc kvs vs:=by rw [hs];simp
 have ht:b.s.take st.length=st:=by rw [hs];simp
 unfold Bd.endMap;simp only [A,ht,h1,h2];have c:(ks.flatMap fun s=>s++ [0])=C3 ks:=rfl;rw [c];split
 ·next i hi=>
  split at hi
  ·obtain⟨kv,kvs',k,C,u⟩:=h.lists ks h0 i hi;have d:b.vals.getD i ⟨0,0,0⟩=kv:=by rw [List.getD_eq_getElem?_getD,k];rfl
   obtain⟨m,l⟩:=bH kv vs b.b;refine⟨(Gh kv vs b.b).2,kv,kvs',?_,⟨⟨m,?_⟩,?_⟩,?_,?_,?_⟩
   ·rw [d]
   ·rw [d];exact l
   ·exact h.app m (by rw [d];exact l) rfl rfl rfl rfl
   ·rw [d,l];exact C.app m
   ·rw [d,l];exact u.app m
   ·rw [d];exact⟨b.b,[],by simp,rfl,u.fit,hf⟩
  ·cases hi
 ·obtain⟨t,k⟩:=Qn 14 true false kvs b.b;obtain⟨p,q⟩:=bH (Cu 14 true false kvs b.b).2 vs (Cu 14 true false kvs b.b).1;have e:(Gh (Cu 14 true false kvs b.b).2 vs (Cu 14 true false kvs b.b).1).1=b.b++(t++p):=by rw [q,k,Ax]
  have r:Ge (Gh (Cu 14 true false kvs b.b).2 vs (Cu 14 true false kvs b.b).1).1 14 true false kvs (Cu 14 true false kvs b.b).2:=⟨b.b,p,q,rfl,hk.fit⟩;have n:E7 (Cu 14 true false kvs b.b).1.length (Cu 14 true false kvs b.b).2:=by
   have:=Uh 14 true false kvs b.b []
   rwa [List.append_nil] at this
  have o:∀x∈vs,E7 (Cu 14 true false kvs b.b).1.length x:=fun x hx=>(hf x hx).mono (by rw [k];simp)
  refine⟨_,(Cu 14 true false kvs b.b).2,kvs,rfl,⟨⟨t++p,e⟩,⟨fun s a i=>?_,fun s a i=>?_,fun ks' h0' i j=>?_,fun s i j=>?_⟩⟩,?_,r,⟨(Cu 14 true false kvs b.b).1,[],by simp,rfl,n,o⟩⟩
  ·exact e▸(h.keys s a i).app _
  ·exact e▸(h.texts s a i).app _
  ·rcases Mz j with j|⟨B,rfl⟩
   ·obtain⟨kv,kvs',w,y,z⟩:=h.lists ks' h0' i j;refine⟨kv,kvs',?_,e▸y.app _,e▸z.app _⟩;have g:=h.vals _ i j;exact(List.getElem?_append_left g).trans w
   ·have:=Vi ks' ks h0' h0 B;subst this;refine⟨_,kvs,?_,e▸hk.app _,r⟩;simp
  ·rcases Mz j with j|⟨_,rfl⟩
   ·have g:=h.vals _ i j;simp only [Ak,List.length_singleton];omega
   ·simp
  ·exact e▸hk.app _
theorem Ey(f:Nat)(t:Tr)(h:Ok t):N6 f t:=by
 induction h with
 |leaf n u s ks c h1 h2=>
  intro b a;rename_i k;have e:Bd.calls f (.mk k n u s ks c) b=b.leaf f k n u s:=by
   rw [Bd.calls,if_neg (by omega),if_neg (by omega),if_pos h2]
  rw [e];exact aV f n u s ks c h1 h2 b a
 |flat n u s ks c h1 h2=>
  intro b a;rename_i k;have e:Bd.calls f (.mk k n u s ks c) b=b.flat f k c:=by
   rw [Bd.calls,if_neg (by omega),if_neg (by omega),if_neg (by omega)]
  rw [e];exact rU f n u s ks c h1 h2 b a
 |vec n u s ks _ ih=>
  intro b a;rename_i c _;obtain⟨vs,l,d,j,g⟩:=Kk f c ih b a;have e:Bd.calls f (.mk 10 n u s ks c) b=(Bd.callsL f c b).endVec b.s.length:=by rw [Bd.calls,if_pos rfl]
  have A:(Bd.callsL f c b).s.drop b.s.length=vs:=by rw [l];simp
  have ht:(Bd.callsL f c b).s.take b.s.length=b.s:=by rw [l];simp
  rw [e,Bd.endVec,A,ht];have p:Dh { Bd.callsL f c b with s:=b.s}:=j.2.app [] (by simp) rfl rfl rfl rfl;obtain⟨v,o,m,q⟩:=Lg 10 true true vs { Bd.callsL f c b with s:=b.s} p (Qg d g)
  have z:Gq (Bd.callsL f c b) (Bd.vec 10 true true vs { Bd.callsL f c b with s:=b.s}):=m;exact⟨v,o,j.trans z,.vec _ _ _ _ d (fun i x t hx ht=>z.rep (g i x t hx ht)) q⟩
 |map n u s hl h0 _ ih=>
  intro b a;rename_i c ks _;obtain⟨r,vs,l,d,j,w,g⟩:=Jd f c ks hl ih b a;have e:Bd.calls f (.mk 17 n u s ks c) b=(Bd.callsM f ks c b).endMap f ks b.s.length:=by
   rw [Bd.calls,if_neg (by omega),if_pos rfl]
  rw [e];obtain⟨v,kv,y,o,m,q,C,B⟩:=U3 f ks b.s (Bd.callsM f ks c b) r vs j.2 l (by rw [w.1,d,hl]) h0 w (Qg d g);exact⟨v,o,j.trans m,.map _ _ _ q C d (fun i x t hx ht=>m.rep (g i x t hx ht)) B⟩
theorem lW(f:Nat)(t:Tr)(h:Ok t):∃v,(Bd.calls f t Bd.new).s=[v]∧Ft (Bd.calls f t Bd.new).b v t:=by
 obtain⟨v,e,_,r⟩:=Ey f t h Bd.new Tp;exact⟨v,e,r⟩
end
section
open Go.RowKit Go.Acc
def Gz(n:Nat)(a m:Int):Bool:=decide (0≤a∧0≤m∧a+m≤n)
theorem Em{a m:Int}:Gz n a m=true↔0≤a∧0≤m∧a+m≤n:=by simp [Gz]
def Gr(q t v:Int):Bool:=Ch t&&Br q&&Br v
def Cc(n:Nat)(p q t v:Int):Int:=if Gr q t v=true then(if Gz n p q=true then 0 else 6) else 2
theorem Dy{v:Int}:Cc n p q t v=0↔Gr q t v=true∧Gz n p q=true:=by
 unfold Cc;cases Gr q t v <;>cases Gz n p q <;>simp
theorem Cz{v:Int}:Gr q t v=true↔Ch t=true∧Br q=true∧Br v=true:=by
 simp [Gr,and_assoc]
def B8(l:List UInt8)(p q t v:Int):Int:=
 if Cc l.length p q t v=0 then(if Bt t=true then 60 else if p<(loadU l p q:Int) then 211 else 0) else Cc l.length p q t v
def By(l:List UInt8)(p q t v:Int):Int:=if B8 l p q t v=0 then p-loadU l p q else 0
theorem bK{v:Int}(h:Cc l.length p q t v=0):Bz l.length p q=0:=by
 obtain⟨h1,h2⟩:=Dy.1 h;have h1:=Cz.1 h1;have h2:=Em.1 h2;unfold Bz;rw [if_pos h1.2.1,if_pos ⟨h2.1,h2.2.2⟩]
theorem Ld{v:Int}(h:Cc l.length p q t v≠0):B8 l p q t v=Cc l.length p q t v:=if_neg h
theorem gU{v:Int}(h:Cc l.length p q t v≠0):By l p q t v=0:=by
 unfold By;rw [Ld h,if_neg h]
theorem Ud{v:Int}(h:Cc l.length p q t v=0)(hi:Bt t=true):B8 l p q t v=60:=by
 unfold B8;rw [if_pos h,if_pos hi]
theorem gT{v:Int}(h:Cc l.length p q t v=0)(hi:Bt t=true):By l p q t v=0:=by
 unfold By;rw [Ud h hi];rfl
theorem Ue{v:Int}(h:Cc l.length p q t v=0)(hi:Bt t=false)(hu:p<(loadU l p q:Int)):B8 l p q t v=211:=by
 unfold B8;rw [if_pos h,if_neg (by simp [hi]),if_pos hu]
theorem gV{v:Int}(h:Cc l.length p q t v=0)(hi:Bt t=false)(hu:p<(loadU l p q:Int)):By l p q t v=0:=by
 unfold By;rw [Ue h hi hu];rfl
theorem Xl{v:Int}(h:Cc l.length p q t v=0)(hi:Bt t=false)(hu:¬p<(loadU l p q:Int)):B8 l p q t v=0:=by
 unfold B8;rw [if_pos h,if_neg (by simp [hi]),if_neg hu]
theorem qD{v:Int}(h:Cc l.length p q t v=0)(hi:Bt t=false)(hu:¬p<(loadU l p q:Int)):By l p q t v=p-loadU l p q:=by
 unfold By;rw [Xl h hi hu];rfl
def Dq(l:List UInt8):Int:=
 if l.length<3∨Br ((l.getD (l.length-1) 0).toNat:Int)=false then 210
 else if Fq (l.getD (l.length-2) 0)≠0 then Fq (l.getD (l.length-2) 0)
 else if(l.length:Int)-2-(l.getD (l.length-1) 0).toNat<0∨((l.length:Int)-2-(l.getD (l.length-1) 0).toNat) % (l.getD (l.length-1) 0).toNat≠0 then 210 else 0
def Df(l:List UInt8):Int×Int×Int×Int:=
 if Dq l=0 then((l.length:Int)-2-(l.getD (l.length-1) 0).toNat,(l.getD (l.length-1) 0).toNat,I7 (l.getD (l.length-2) 0),I8 (l.getD (l.length-2) 0)) else(0,0,0,0)
end
section
open Go.Acc
theorem Ro(f:Nat→Bool)(h:f 8=true):(leastW f=1∨leastW f=2∨leastW f=4∨leastW f=8)∧f (leastW f)=true:=by
 unfold leastW;by_cases h1:f 1=true
 ·rw [if_pos h1];exact⟨Or.inl rfl,h1⟩
 ·by_cases h2:f 2=true
  ·rw [if_neg h1,if_pos h2];exact⟨Or.inr (Or.inl rfl),h2⟩
  ·by_cases a:f 4=true
   ·rw [if_neg h1,if_neg h2,if_pos a];exact⟨Or.inr (Or.inr (Or.inl rfl)),a⟩
   ·rw [if_neg h1,if_neg h2,if_neg a,if_pos h];exact⟨Or.inr (Or.inr (Or.inr rfl)),h⟩
theorem Jf:Br w=true↔w=1∨w=2∨w=4∨w=8:=by
 simp only [Br,decide_eq_true_eq];omega
theorem U7(h:E7 a v)(i:Nat):Dz v a i 8=true:=by
 unfold Dz;cases e:inl v.t with
 |true=>simp [h.1 e]
 |false=>simp [h.2 e,F6]
theorem aE{a:Nat}:∀(vs:List Bv) (i:Nat),(∀x∈vs,E7 a x)→D7 a 8 i vs=true
 | [],_,_=>rfl
 |v::r,i,h=>by
  rw [D7,U7 (h v (by simp)),aE r (i+1) (fun x hx=>h x (by simp [hx]))];rfl
theorem Mj{k:Option Bv}(hk:∀x,k=some x→E7 a x)(h:∀x∈vs,E7 a x):Br (C5 a ahead k vs)=true:=by
 refine Jf.2 (Ro _ ?_).1;rw [Jk,aE vs ahead h];cases k with
 |none=>simp [aD,F6]
 |some x=>simp [aD,F6,U7 (hk x rfl)]
theorem Ge.width{t:Nat}(h:Ge l t len tags vs v):v.t=t∧Br v.w=true:=by
 obtain⟨b,m,_,rfl,hf⟩:=h;exact⟨rfl,show Br ((C5 b.length (if len=true then 1 else 0) none vs:Nat):Int)=true from Mj (k:=none) (fun _ e=>by cases e) hf⟩
theorem Mc.width(h:Mc l k vs v):v.t=9∧Br v.w=true:=by
 obtain⟨b,m,_,rfl,hk,hf⟩:=h;exact⟨rfl,show Br ((C5 b.length 3 (some k) vs:Nat):Int)=true from Mj (k:=some k) (fun x e=>by injection e with e;exact e▸hk) hf⟩
theorem Fo(u:Nat):Br (bWidth u)=true:=Jf.2 (by unfold bWidth;(repeat' split) <;>simp)
theorem Me(n:Int):Br (bWidthI n)=true:=Jf.2 (by unfold bWidthI;(repeat' split) <;>simp)
def Zg(t:Tr):Prop:=t.k=15∨t.k=16→t.l.length=2∨t.l.length=3∨t.l.length=4
theorem Ft.legal{t:Tr}(h:Ft l v t)(hx:Zg t):Ch v.t=true∧Br v.w=true∧De v.t=t.k:=by
 cases h with
 |null=>exact⟨by decide,by decide,show De 0=1 by decide⟩
 |truth n u s ks c=>exact⟨show Ch 26=true by decide,show Br 1=true by decide,show De 26=2 by decide⟩
 |int n u s ks c=>exact⟨show Ch 1=true by decide,Me n,show De 1=3 by decide⟩
 |uint n u s ks c=>exact⟨show Ch 2=true by decide,Fo u,show De 2=4 by decide⟩
 |key _ _ _ _ h=>rw [h.1,h.2.1];exact⟨by decide,by decide,show De 4=5 by decide⟩
 |str _ _ _ _ h=>rw [h.1,h.2.1];exact⟨by decide,Fo _,show De 5=6 by decide⟩
 |blob _ _ _ _ h=>rw [h.1,h.2.1];exact⟨by decide,Fo _,show De 25=7 by decide⟩
 |indInt _ _ _ _ h=>rw [h.1,h.2.1];exact⟨by decide,Me _,show De 6=8 by decide⟩
 |indUint _ _ _ _ h=>rw [h.1,h.2.1];exact⟨by decide,Fo _,show De 7=9 by decide⟩
 |ints _ _ _ _ h=>rw [h.width.1];exact⟨by decide,h.width.2,show De 11=11 by decide⟩
 |uints _ _ _ _ h=>rw [h.width.1];exact⟨by decide,h.width.2,show De 12=12 by decide⟩
 |bools _ _ _ _ h=>rw [h.width.1];exact⟨by decide,h.width.2,show De 36=14 by decide⟩
 |keys _ _ _ _ _ h=>rw [h.width.1];exact⟨by decide,h.width.2,show De 14=13 by decide⟩
 |vec _ _ _ _ _ _ h=>rw [h.width.1];exact⟨by decide,h.width.2,show De 10=10 by decide⟩
 |map _ _ _ _ _ _ _ h=>rw [h.width.1];exact⟨by decide,h.width.2,show De 9=17 by decide⟩
 |fixInts _ _ _ _ h=>
  rename_i c n u s ks;have hx:c.length=2∨c.length=3∨c.length=4:=hx (Or.inl rfl);have a:=h.width.2;rw [h.width.1];rcases hx with e|e|e <;>rw [e]
  ·exact⟨by decide,a,show De 16=15 by decide⟩
  ·exact⟨by decide,a,show De 19=15 by decide⟩
  ·exact⟨by decide,a,show De 22=15 by decide⟩
 |fixUints _ _ _ _ h=>
  rename_i c n u s ks;have hx:c.length=2∨c.length=3∨c.length=4:=hx (Or.inr rfl);have a:=h.width.2;rw [h.width.1];rcases hx with e|e|e <;>rw [e]
  ·exact⟨by decide,a,show De 17=16 by decide⟩
  ·exact⟨by decide,a,show De 20=16 by decide⟩
  ·exact⟨by decide,a,show De 23=16 by decide⟩
theorem pX(t w:Nat)(ht:Ch t=true)(hw:Br w=true):I7 (Aq (4*t+bCode w))=t∧I8 (Aq (4*t+bCode w))=w∧Fq (Aq (4*t+bCode w))=0:=by
 have c:=Ez.1 (Hv ht);have e:bCode w<4:=by unfold bCode;(repeat' split) <;>omega
 have b:(Aq (4*t+bCode w)).toNat=4*t+bCode w:=by
  rw [UInt8.toNat_ofNat'];omega
 have a:(((Aq (4*t+bCode w)).toNat:Nat):Int)/4=t:=by rw [b];omega
 have d:(Aq (4*t+bCode w)).toNat % 4=bCode w:=by rw [b];omega
 refine⟨by rw [I7,a,if_pos ht],?_,by rw [Fq,a,if_pos ht]⟩;rw [I8,a,if_pos ht,d];rcases Jf.1 hw with rfl|rfl|rfl|rfl <;>rfl
theorem Q3(hw:Br w=true)(b:List UInt8):(Bn w b).length=upN b.length w∧(Bn w b).length % w=0∧b.length≤(Bn w b).length:=by
 simp only [Bn,Ak,List.length_replicate,Ma,upN];rcases Jf.1 hw with rfl|rfl|rfl|rfl <;>omega
theorem Gk{u:Nat}(hw:Br w=true)(hu:u<2^64)(h:bWidth u≤w):u<2^(8*w):=by
 unfold bWidth at h;rcases Jf.1 hw with rfl|rfl|rfl|rfl <;>(repeat' split at h) <;>omega
def yZ(b:List UInt8)(v:Bv)(w:Nat):List UInt8:=Bn w b++Bi w (Dc w (Bn w b).length v)++ [D2 w v,Aq w]
def ownW(w:Nat)(v:Bv):Nat:=if inl v.t=true then w else v.w
theorem Tl{i:Nat}(hi:inl v.t=false)(h:Dz v a i w=true):v.n≤a∧bWidth (upN a w+i*w-v.n)≤w:=by
 unfold Dz at h;rw [if_neg (by simp [hi])] at h;exact of_decide_eq_true h
theorem Tj{a w:Nat}:∀(vs:List Bv) (i j:Nat) (y:Bv),D7 a w i vs=true→vs[j]?=some y→Dz y a (i+j) w=true
 | [],_,_,_,_,h=>by simp at h
 |v::r,i,0,y,hf,h=>by
  rw [D7,Bool.and_eq_true] at hf;have e:v=y:=by simpa using h
  subst e;exact hf.1
 |v::r,i,j+1,y,hf,h=>by
  rw [D7,Bool.and_eq_true] at hf;have:=Tj r (i+1) j y hf.2 (by simpa using h)
  rwa [show i+1+j=i+(j+1) by omega] at this
def Qu(w p:Nat)(y:Bv):Prop:=(inl y.t=true→y.w≤w)∧(inl y.t=false→y.n≤p∧p-y.n<2^(8*w))
theorem X9{k:Option Bv}(hk:∀x,k=some x→E7 a x)(h:∀x∈vs,E7 a x):
  (ahead=0∨bWidth vs.length≤C5 a ahead k vs)∧(∀x,k=some x→Dz x a 0 (C5 a ahead k vs)=true)∧D7 a (C5 a ahead k vs) ahead vs=true:=by
 have c:Jk a ahead k vs 8=true:=by
  rw [Jk,aE vs ahead h];cases k with
  |none=>simp [aD,F6]
  |some x=>simp [aD,F6,U7 (hk x rfl)]
 have b:Jk a ahead k vs (C5 a ahead k vs)=true:=(Ro _ c).2;rw [Jk,Bool.and_eq_true,Bool.and_eq_true,Bool.or_eq_true,decide_eq_true_eq,decide_eq_true_eq] at b;refine⟨b.1.1,fun x e=>?_,b.2⟩;subst e;exact b.1.2
def Nd(k:Int):Int:=if k=10∨k=17 then 0 else if k=11∨k=15 then 3 else if k=12∨k=16 then 4 else if k=13 then 5 else if k=14 then 2 else -1
def Hm(t:Tr):Bool:=
 decide (1≤t.k∧t.k≤17)&&decide (t.k=2∨t.k=3∨t.k=8∨t.n=0)&&decide (t.k=4∨t.k=9∨t.u=0)&&decide (t.k=5∨t.k=6∨t.k=7∨t.s=[])&&decide (t.k=17∨t.ks=[])&&decide (t.k=2→t.n=0∨t.n=1)&&decide (t.k=17→t.ks.length=t.l.length)&&decide (t.k=15∨t.k=16→2≤t.l.length∧t.l.length≤4)&&t.l.all fun x=>decide (Nd t.k=0∨x.k=Nd t.k)
def Cl(s:List UInt8):Bool:=s.any fun c=>c==0
def Ks(ez et:Int):List (List UInt8)→List (List UInt8)→Int
 |_,[]=>0
 |had,k::r=>if Cl k=true then ez else if had.contains k=true then et else Ks ez et (k::had) r
def I3(ez et:Int)(t:Tr):Int:=if t.k=5∧Cl t.s=true then ez else Ks ez et [] t.ks
structure Zn where
 limit:Int
 deep:Int
 kind:Int
 key:Int
 twice:Int
mutual
def Jm(e:Zn)(d:Nat):Tr→Nat→Int×Nat
 | .mk k n u s ks l,c=>
  if c+1>4096 then(e.limit,c+1)
  else if d≥64 then(e.deep,c+1)
  else if Hm (.mk k n u s ks l)=false then(e.kind,c+1)
  else if I3 e.key e.twice (.mk k n u s ks l)≠0 then(I3 e.key e.twice (.mk k n u s ks l),c+1)
  else Pm e (d+1) l (c+1)
def Pm(e:Zn)(d:Nat):List Tr→Nat→Int×Nat
 | [],c=>(0,c)
 |t::r,c=>if(Jm e d t c).1≠0 then Jm e d t c else Pm e d r (Jm e d t c).2
end
theorem Mg(h:Cl s=false):(0:UInt8)∉s:=by
 intro hm;have:Cl s=true:=List.any_eq_true.2 ⟨0,hm,by simp⟩;rw [h] at this;cases this
theorem aP{ez et:Int}(hz:ez≠0)(ht:et≠0):∀(l had:List (List UInt8)),Ks ez et had l=0→(∀s∈l,(0:UInt8)∉s)∧l.Nodup∧∀s∈l,s∉had
 | [],_,_=>⟨fun s h=>by simp at h,List.nodup_nil,fun s h=>by simp at h⟩
 |k::r,had,h=>by
  unfold Ks at h;by_cases h1:Cl k=true
  ·rw [if_pos h1] at h;exact absurd h hz
  ·by_cases h2:had.contains k=true
   ·rw [if_neg h1,if_pos h2] at h;exact absurd h ht
   ·rw [if_neg h1,if_neg h2] at h;obtain⟨a,b,c⟩:=aP hz ht r (k::had) h;have d:k∉had:=fun hm=>h2 (by simpa using hm)
    refine⟨fun s hs=>?_,List.nodup_cons.2 ⟨fun hm=>c k hm (by simp),b⟩,fun s hs=>?_⟩
    ·rcases List.mem_cons.1 hs with rfl|hs
     ·exact Mg (by simpa using h1)
     ·exact a s hs
    ·rcases List.mem_cons.1 hs with rfl|hs
     ·exact d
     ·exact fun hm=>c s hs (by simp [hm])
inductive Sn:Tr→Prop
 |mk {k n:Int} {u:Nat} {s:List UInt8} {ks:List (List UInt8)} {l:List Tr} (h1:Hm (.mk k n u s ks l)=true) (h2:k=5→(0:UInt8)∉s) (h3:∀x∈ks,(0:UInt8)∉x) (h4:ks.Nodup) (h:∀t∈l,Sn t):Sn (.mk k n u s ks l)
structure Zn.Ok(e:Zn):Prop where
 limit:e.limit≠0
 deep:e.deep≠0
 kind:e.kind≠0
 key:e.key≠0
 twice:e.twice≠0
mutual
theorem Wj{e:Zn}(he:e.Ok):∀(t:Tr) (d c:Nat),(Jm e d t c).1=0→Sn t
 | .mk k n u s ks l,d,c,h=>by
  rw [Jm] at h;by_cases h1:c+1>4096
  ·rw [if_pos h1] at h;exact absurd h he.limit
  rw [if_neg h1] at h;by_cases h2:d≥64
  ·rw [if_pos h2] at h;exact absurd h he.deep
  rw [if_neg h2] at h;by_cases h3:Hm (.mk k n u s ks l)=false
  ·rw [if_pos h3] at h;exact absurd h he.kind
  rw [if_neg h3] at h;by_cases f:I3 e.key e.twice (.mk k n u s ks l)≠0
  ·rw [if_pos f] at h;exact absurd h f
  rw [if_neg f] at h;have f:I3 e.key e.twice (.mk k n u s ks l)=0:=Decidable.not_not.1 f;have f:(if k=5∧Cl s=true then e.key else Ks e.key e.twice [] ks)=0:=f;by_cases g:k=5∧Cl s=true
  ·rw [if_pos g] at f;exact absurd f he.key
  rw [if_neg g] at f;obtain⟨a,b,_⟩:=aP he.key he.twice ks [] f;exact .mk (by simpa using h3) (fun hk=>Mg (by cases hz:Cl s with|false=>rfl|true=>exact absurd ⟨hk,hz⟩ g)) a b (Zx he l (d+1) (c+1) h)
theorem Zx{e:Zn}(he:e.Ok):∀(l:List Tr) (d c:Nat),(Pm e d l c).1=0→∀t∈l,Sn t
 | [],_,_,_,t,ht=>by simp at ht
 |x::r,d,c,h,t,ht=>by
  rw [Pm] at h;by_cases h1:(Jm e d x c).1≠0
  ·rw [if_pos h1] at h;exact absurd h h1
  rw [if_neg h1] at h;have h1:(Jm e d x c).1=0:=Decidable.not_not.1 h1;rcases List.mem_cons.1 ht with e1|hr
  ·rw [e1];exact Wj he x d c h1
  ·exact Zx he r d _ h t hr
end
def Ts(x:List UInt8×Tr):List (List UInt8×Tr)→List (List UInt8×Tr)
 | []=>[x]
 |y::r=>if x.1<y.1 then x::y::r else y::Ts x r
def V2(l:List (List UInt8×Tr)):List (List UInt8×Tr):=l.foldr Ts []
mutual
def Cs:Tr→Tr
 | .mk k n u s ks l=>if k=17 then .mk k n u s ((V2 (ks.zip (Hf l))).map (·.1)) ((V2 (ks.zip (Hf l))).map (·.2)) else .mk k n u s ks (Hf l)
def Hf:List Tr→List Tr
 | []=>[]
 |t::r=>Cs t::Hf r
end
theorem I6:∀(l:List Tr),Hf l=l.map Cs
 | []=>rfl
 |t::r=>by rw [Hf,I6 r];rfl
theorem Rl(x:List UInt8×Tr):∀(l:List (List UInt8×Tr)),(Ts x l).Perm (x::l)
 | []=>List.Perm.refl _
 |y::r=>by
  rw [Ts];split
  ·exact List.Perm.refl _
  ·exact((Rl x r).cons y).trans (List.Perm.swap x y r)
theorem Kz:∀(l:List (List UInt8×Tr)),(V2 l).Perm l
 | []=>List.Perm.refl _
 |x::r=>(Rl x _).trans ((Kz r).cons x)
theorem qJ{t:Tr}(h:Sn t):Ok (Cs t):=by
 induction h with
 |mk h1 h2 h3 h4 hl ih=>
  rename_i k n u s ks l;have g:∀t∈Hf l,Ok t:=by
   intro t ht;rw [I6] at ht;obtain⟨x,hx,rfl⟩:=List.mem_map.1 ht;exact ih x hx
  simp only [Hm,Bool.and_eq_true,decide_eq_true_eq] at h1;obtain⟨⟨⟨⟨⟨⟨⟨⟨⟨a,e⟩,_⟩,_⟩,_⟩,_⟩,_⟩,f⟩,_⟩,_⟩:=h1;have a:1≤k:=a;have e:k≤17:=e;rw [Cs];by_cases c:k=17
  ·rw [if_pos c];subst c;have i:=Kz (ks.zip (Hf l));refine .map n u s (by simp) (fun x hx=>?_) (fun t ht=>?_)
   ·obtain⟨y,d,rfl⟩:=List.mem_map.1 hx;exact h3 _ (List.of_mem_zip (i.mem_iff.1 d)).1
   ·obtain⟨y,d,rfl⟩:=List.mem_map.1 ht;exact g _ (List.of_mem_zip (i.mem_iff.1 d)).2
  ·rw [if_neg c];by_cases b:k=10
   ·subst b;exact .vec n u s ks g
   ·by_cases j:k≤9
    ·exact .leaf n u s ks _ a j
    ·exact .flat n u s ks _ (by omega) (by omega)
theorem zM{a b:List UInt8}(h:¬a<b)(hne:a≠b):b<a:=by
 rcases List.le_total a b with h1|h1
 ·exact absurd (List.le_antisymm h1 (List.not_lt.1 h)) hne
 ·exact Decidable.byContradiction fun h2=>hne (List.le_antisymm (List.not_lt.1 h2) h1)
theorem fU(x:List UInt8×Tr):∀(l:List (List UInt8×Tr)),l.Pairwise (fun a b=>a.1<b.1)→(∀y∈l,x.1≠y.1)→(Ts x l).Pairwise (fun a b=>a.1<b.1)
 | [],_,_=>by simp [Ts]
 |y::r,h,hne=>by
  obtain⟨h1,h2⟩:=List.pairwise_cons.1 h;rw [Ts];by_cases c:x.1<y.1
  ·rw [if_pos c];refine List.pairwise_cons.2 ⟨fun z hz=>?_,h⟩;rcases List.mem_cons.1 hz with rfl|hz
   ·exact c
   ·exact List.lt_trans c (h1 z hz)
  ·rw [if_neg c];refine List.pairwise_cons.2 ⟨fun z hz=>?_,fU x r h2 (fun z hz=>hne z (by simp [hz]))⟩;rcases List.mem_cons.1 ((Rl x r).mem_iff.1 hz) with rfl|hz
   ·exact zM c (hne y (by simp))
   ·exact h1 z hz
theorem dB:∀(l:List (List UInt8×Tr)),(l.map (·.1)).Nodup→(V2 l).Pairwise (fun a b=>a.1<b.1)
 | [],_=>List.Pairwise.nil
 |x::r,h=>by
  rw [List.map_cons,List.nodup_cons] at h;refine fU x _ (dB r h.2) (fun y hy e=>h.1 ?_);exact List.mem_map.2 ⟨y,(Kz r).mem_iff.1 hy,e.symm⟩
theorem Aai(t:Tr):(Cs t).k=t.k:=by
 obtain⟨k,n,u,s,ks,l⟩:=t;rw [Cs];split <;>rfl
theorem tL{t:Tr}(h:Sn t):Zg (Cs t):=by
 cases h with
 |mk h1 h2 h3 h4 h=>
  rename_i k n u s ks l;intro hk;rw [Aai] at hk;have hk:k=15∨k=16:=hk;simp only [Hm,Bool.and_eq_true,decide_eq_true_eq] at h1;have hl:k=15∨k=16→2≤l.length∧l.length≤4:=h1.1.2;have hl:=hl hk;rw [Cs,if_neg (by omega)];show(Hf l).length=2∨(Hf l).length=3∨(Hf l).length=4;rw [I6,List.length_map];omega
def Ci:List (List UInt8)→Nat
 | []=>0
 |s::r=>s.length+20+Ci r
mutual
def Tr.cost:Tr→Nat
 | .mk _ _ _ s ks l=>64+s.length+Ci ks+Tr.costL l
def Tr.costL:List Tr→Nat
 | []=>0
 |t::r=>40+Tr.cost t+Tr.costL r
end
def Bd.size(b:Bd):Nat:=b.b.length+b.s.length+b.keys.length+b.texts.length+b.lists.length+b.names.length+b.vals.length
theorem gB(n:Nat)(hw:w≤8):Ma w n≤7:=by
 unfold Ma;rcases Nat.eq_zero_or_pos w with rfl|h
 ·simp
 ·have:=Nat.mod_lt (w-n % w) h;omega
theorem Di(b:List UInt8)(hw:w≤8):(Bn w b).length≤b.length+7:=by
 have:=gB b.length hw;simp [Bn];omega
theorem Uy(vs:List Bv)(l:List UInt8)(hw:w≤8):(Cy w l vs).length≤l.length+8*vs.length:=by
 obtain⟨m,e,h⟩:=Hz w vs l;have:=Nat.mul_le_mul_right vs.length hw;rw [e,Ak];omega
theorem Pf(t:Nat)(len tags:Bool)(l:List Bv)(b:List UInt8):(Cu t len tags l b).1.length≤b.length+15+9*l.length:=by
 have a:C5 b.length (if len=true then 1 else 0) none l≤8:=Lu _;have h1:=Di b a;unfold Cu;simp only [Ak];have h2:=Uy l (Bn (C5 b.length (if len=true then 1 else 0) none l) b++(if len=true then Bi (C5 b.length (if len=true then 1 else 0) none l) l.length else [])) a;have h3:(if len=true then Bi (C5 b.length (if len=true then 1 else 0) none l) l.length else []).length≤8:=by
  split
  ·rw [B3];exact Lu _
  ·simp
 have c:(if tags=true then l.map (D2 (C5 b.length (if len=true then 1 else 0) none l)) else []).length≤l.length:=by
  split <;>simp
 rw [Ak] at h2;omega
theorem bI(k:Bv)(l:List Bv)(b:List UInt8):(Gh k l b).1.length≤b.length+31+9*l.length:=by
 have h8:C5 b.length 3 (some k) l≤8:=Lu _;have h1:=Di b h8;unfold Gh;simp only [Ak,List.length_map];generalize hw:C5 b.length 3 (some k) l=w at*;have h2:=Uy l (Bn w b++Bi w ((Bn w b).length-k.n)++Bi w k.w++Bi w l.length) h8;simp only [Ak,B3] at h2;omega
theorem T9(l:List (List UInt8×Nat))(k:List UInt8)(a:Nat):(Fs l k a).length≤l.length+1:=by
 unfold Fs;split <;>simp
theorem cE(f:Nat)(s:List UInt8)(b:Bd):(b.put f s).1.size≤b.size+s.length+3∧(b.put f s).1.s=b.s:=by
 unfold Bd.put;have h:=T9 b.keys s b.b.length;cases(if Kc f 1=true then Cj b.keys s else none) with
 |some a=>exact⟨by simp;omega,rfl⟩
 |none=>exact⟨by simp [Bd.size];omega,rfl⟩
theorem Tt(f:Nat)(s:List UInt8)(b:Bd):(b.key f s).size≤b.size+s.length+4:=by
 have h:=(cE f s b).1;simp only [Bd.key,Bd.push,Bd.size,Ak,Av,List.length_nil] at h⊢;omega
theorem Yq(f:Nat):∀(l:List Tr) (b:Bd),(b.puts f (l.map Tr.s)).1.size+90*l.length≤b.size+Tr.costL l
 | [],b=>by simp [Bd.puts,Tr.costL]
 | .mk k n u s ks c::r,b=>by
  have h1:=(cE f s b).1;have h2:=Yq f r (b.put f s).1;simp only [List.map_cons,Bd.puts,Tr.costL,Tr.cost,Tr.s,Av];omega
theorem cG(f:Nat):∀(l:List (List UInt8)) (b:Bd),(b.puts f l).2.length=l.length
 | [],b=>by simp [Bd.puts]
 |s::r,b=>by simp [Bd.puts,cG f r]
theorem dH(t:Nat)(len tags:Bool)(l:List Bv)(b:Bd):(b.vec t len tags l).size≤b.size+16+9*l.length:=by
 have h:=Pf t len tags l b.b;simp only [Bd.vec,Bd.size,Ak,Av,List.length_nil];omega
theorem J4(l:List Tr):40*l.length≤Tr.costL l:=by
 induction l with
 |nil=>simp
 |cons t r ih=>simp only [Tr.costL,Av];omega
theorem tO(f:Nat)(s:List UInt8)(b:Bd):(b.str f s).size≤b.size+s.length+20:=by
 have c:bWidth s.length≤8:=F6 _;have h1:=Di b.b c;unfold Bd.str;cases(if Kc f 2=true then Cj b.texts s else none) with
 |some a=>simp [Bd.push,Bd.size];omega
 |none=>
  have h:=T9 b.texts s (Bn (bWidth s.length) b.b++Bi (bWidth s.length) s.length).length;simp only [Bd.size,Ak,B3,Av,List.length_nil] at h⊢;omega
theorem lT(s:List UInt8)(b:Bd):(b.blob s).size≤b.size+s.length+20:=by
 have h8:bWidth s.length≤8:=F6 _;have h1:=Di b.b h8;unfold Bd.blob;simp only [Bd.size,Ak,B3,Av,List.length_nil];omega
theorem Um(t w n:Nat)(b:Bd)(hw:w≤8):(b.apart t w n).size≤b.size+20:=by
 have h1:=Di b.b hw;unfold Bd.apart;simp only [Bd.size,Ak,B3,Av,List.length_nil];omega
theorem oW(b:Bd)(v:Bv):(b.push v).size=b.size+1:=by
 simp [Bd.push,Bd.size];omega
theorem nV(f:Nat)(k n:Int)(u:Nat)(s:List UInt8)(b:Bd):(b.leaf f k n u s).size≤b.size+64+s.length:=by
 have h1:=Tt f s b;have h2:=tO f s b;have h3:=lT s b;have h4:=Um 6 (bWidthI n) (bits n) b (Pg _);have h5:=Um 7 (bWidth u) u b (F6 _);unfold Bd.leaf
 (repeat' split) <;>(try rw [oW]) <;>omega
theorem nB(f:Nat)(k:Int)(l:List Tr)(b:Bd):(b.flat f k l).size≤b.size+64+Tr.costL l:=by
 have d:=J4 l;have e:=Yq f l b;have c:=cG f (l.map Tr.s) b;rw [List.length_map] at c;have a:∀(t:Nat) (len tags:Bool) (x:List Bv),x.length=l.length→(b.vec t len tags x).size≤b.size+64+Tr.costL l:=by
  intro t len tags x g;have:=dH t len tags x b;omega
 unfold Bd.flat;split
 ·exact a _ _ _ _ (by simp)
 split
 ·exact a _ _ _ _ (by simp)
 split
 ·exact a _ _ _ _ (by simp)
 split
 ·
  have h:=dH 14 true false (b.puts f (l.map Tr.s)).2 (b.puts f (l.map Tr.s)).1;show(Bd.vec 14 true false (b.puts f (l.map Tr.s)).2 (b.puts f (l.map Tr.s)).1).size≤_;omega
 split
 ·exact a _ _ _ _ (by simp)
 ·exact a _ _ _ _ (by simp)
theorem dZ(start:Nat)(b:Bd)(n:Nat)(h:(b.s.drop start).length=n):(b.endVec start).size≤b.size+16+9*n:=by
 have h1:=Pf 10 true true (b.s.drop start) b.b;have h3:(b.s.take start).length≤b.s.length:=by rw [Au];omega
 simp only [Bd.endVec,Bd.vec,Bd.size,Ak,Av,List.length_nil];omega
theorem Li(f:Nat):∀(c:List Tr),(∀t∈c,N6 f t)→(∀t∈c,∀b,Dh b→(Bd.calls f t b).size≤b.size+t.cost)→∀b,Dh b→(Bd.callsL f c b).size+40*c.length≤b.size+Tr.costL c
 | [],_,_,b,h=>by simp [Bd.callsL,Tr.costL]
 |t::r,hd,hc,b,h=>by
  obtain⟨v,d,a,e⟩:=hd t (by simp) b h;have h1:=hc t (by simp) b h;have h2:=Li f r (fun t ht=>hd t (by simp [ht])) (fun t ht=>hc t (by simp [ht])) (Bd.calls f t b) a.2;simp only [Bd.callsL,Tr.costL,Av];omega
theorem Lj(f:Nat):∀(c:List Tr) (ks:List (List UInt8)),ks.length=c.length→(∀t∈c,N6 f t)→(∀t∈c,∀b,Dh b→(Bd.calls f t b).size≤b.size+t.cost)→∀b,Dh b→(Bd.callsM f ks c b).size+50*c.length≤b.size+Ci ks+Tr.costL c
 | [],ks,hk,_,_,b,h=>by simp [Bd.callsM,Tr.costL]
 |t::r,[],hk,_,_,_,_=>by simp at hk
 |t::r,s::ks,hk,hd,hc,b,h=>by
  obtain⟨kv,g,a,j⟩:=Ov f s b h;have h0:=Tt f s b;obtain⟨v,i,e,k⟩:=hd t (by simp) (b.key f s) a.2;have h1:=hc t (by simp) (b.key f s) a.2;have h2:=Lj f r ks (by simpa using hk) (fun t ht=>hd t (by simp [ht])) (fun t ht=>hc t (by simp [ht])) (Bd.calls f t (b.key f s)) e.2;have d:Bd.callsM f (s::ks) (t::r) b=Bd.callsM f ks r (Bd.calls f t (b.key f s)):=by rw [Bd.callsM];rfl
  rw [d];simp only [Tr.costL,Av,Ci];omega
theorem dY(f:Nat)(ks:List (List UInt8))(start:Nat)(b:Bd)(n:Nat)(h1:(Kp (b.s.drop start)).length=n)(h2:(P9 (b.s.drop start)).length=n):
  (b.endMap f ks start).size≤b.size+50+18*n:=by
 have h3:(b.s.take start).length≤b.s.length:=by rw [Au];omega
 unfold Bd.endMap;simp only [];cases(if Kc f 4=true then Cj b.lists (ks.flatMap fun s=>s++ [0]) else none) with
 |some i=>
  have h:=bI (b.vals.getD i ⟨0,0,0⟩) (P9 (b.s.drop start)) b.b;simp only [Bd.size,Ak,Av,List.length_nil] at h⊢;omega
 |none=>
  have a:=Pf 14 true false (Kp (b.s.drop start)) b.b;have h:=bI (Cu 14 true false (Kp (b.s.drop start)) b.b).2 (P9 (b.s.drop start)) (Cu 14 true false (Kp (b.s.drop start)) b.b).1;have c:=T9 b.lists (ks.flatMap fun s=>s++ [0]) b.vals.length;simp only [Bd.size,Ak,Av,List.length_nil] at h⊢;omega
theorem Km(f:Nat)(t:Tr)(h:Ok t):∀b,Dh b→(Bd.calls f t b).size≤b.size+t.cost:=by
 induction h with
 |leaf n u s ks c h1 h2=>
  intro b a;rename_i k;have e:Bd.calls f (.mk k n u s ks c) b=b.leaf f k n u s:=by
   rw [Bd.calls,if_neg (by omega),if_neg (by omega),if_pos h2]
  rw [e,Tr.cost];have:=nV f k n u s b;omega
 |flat n u s ks c h1 h2=>
  intro b a;rename_i k;have e:Bd.calls f (.mk k n u s ks c) b=b.flat f k c:=by
   rw [Bd.calls,if_neg (by omega),if_neg (by omega),if_neg (by omega)]
  rw [e,Tr.cost];have:=nB f k c b;omega
 |vec n u s ks hd ih=>
  intro b a;rename_i c;obtain⟨vs,j,i,q,p⟩:=Kk f c (fun t ht=>Ey f t (hd t ht)) b a;have h1:=Li f c (fun t ht=>Ey f t (hd t ht)) ih b a;have e:Bd.calls f (.mk 10 n u s ks c) b=(Bd.callsL f c b).endVec b.s.length:=by rw [Bd.calls,if_pos rfl]
  have g:(Bd.callsL f c b).s.drop b.s.length=vs:=by rw [j];simp
  have h2:=dZ b.s.length (Bd.callsL f c b) c.length (by rw [g,i]);rw [e,Tr.cost];omega
 |map n u s hl h0 hd ih=>
  intro b a;rename_i c ks;obtain⟨d,vs,j,i,q,l,p⟩:=Jd f c ks hl (fun t ht=>Ey f t (hd t ht)) b a;have h1:=Lj f c ks hl (fun t ht=>Ey f t (hd t ht)) ih b a;have e:Bd.calls f (.mk 17 n u s ks c) b=(Bd.callsM f ks c b).endMap f ks b.s.length:=by
   rw [Bd.calls,if_neg (by omega),if_pos rfl]
  have g:(Bd.callsM f ks c b).s.drop b.s.length=Fc d vs:=by rw [j];simp
  obtain⟨m,o⟩:=Je d vs (by rw [l.1,i,hl]);have h2:=dY f ks b.s.length (Bd.callsM f ks c b) c.length (by rw [g,m,l.1,hl]) (by rw [g,o,i]);rw [e,Tr.cost];omega
end
end Go.Proofs.YtejpbijeifjdeaaGreat
namespace Go.Acc
open Go.RowKit
variable {N i k:Nat}{S:Nat→Prop}{p:Addr}{u:Value}
structure To(I:Nat→Prop)(w:World)(o:Nat→Nat)(w':World)(o':Nat→Nat):Prop where
 fr:Fr (fun k=>I (o k)) w w'
 ow:∀k,k<w.heap.size→o' k=o k
section
variable {I J:Nat→Prop} {w w' w'':World} {o o' o'':Nat→Nat}
theorem To.refl(I:Nat→Prop)(w:World)(o:Nat→Nat):To I w o w o:=⟨Fr.refl _ _,fun _ _=>rfl⟩
theorem To.pure(I:Nat→Prop)(h:Below w.heap.size w w')(o:Nat→Nat):To I w o w' o:=⟨Fr.of_below h _,fun _ _=>rfl⟩
def Bl(o:Nat→Nat)(N i:Nat):Nat→Nat:=fun k=>if k<N then o k else i
theorem Bs(h:k<N):Bl o N i k=o k:=if_pos h
theorem Bo(h:N≤k):Bl o N i k=i:=if_neg (by omega)
theorem To.fresh(I:Nat→Prop)(h:Below w.heap.size w w')(o:Nat→Nat)(i:Nat):To I w o w' (Bl o w.heap.size i):=⟨Fr.of_below h _,fun _ hk=>Bs hk⟩
theorem To.of_fr(h:Fr S w w')(hS:∀k,k<w.heap.size→S k→I (o k))(i:Nat):To I w o w' (Bl o w.heap.size i):=⟨h.mono hS,fun _ hk=>Bs hk⟩
theorem To.of_fr0(h:Fr S w w')(hS:∀k,k<w.heap.size→S k→I (o k)):To I w o w' o:=⟨h.mono hS,fun _ _=>rfl⟩
theorem To.trans(h:To I w o w' o')(k:To I w' o' w'' o''):To I w o w'' o'':=
 ⟨h.fr.trans k.fr fun i hi hI=>by rw [h.ow i hi] at hI;exact hI,fun i hi=>(k.ow i (Nat.lt_of_lt_of_le hi h.fr.size)).trans (h.ow i hi)⟩
theorem To.mono(h:To I w o w' o')(hJ:∀i,I i→J i):To J w o w' o':=⟨h.fr.mono fun _ _ hi=>hJ _ hi,h.ow⟩
theorem To.size(h:To I w o w' o'):w.heap.size≤w'.heap.size:=h.fr.size
theorem To.below(h:To I w o w' o')(hI:∀k,k<w.heap.size→¬I (o k)):Below w.heap.size w w':=h.fr.below hI
theorem To.keep(h:To I w o w' o')(hk:k<w.heap.size)(hI:¬I (o k)):w'.heap[k]?=w.heap[k]?:=h.fr.block k hk hI
theorem Bb.to_{g:Nat}{t:TypeId}{cs:Array Value}(hb:Bb w g t cs)(h:To I w o w' o')(hI:¬I (o g)):Bb w' g t cs:=hb.fr h.fr hI
def Of(o:Nat→Nat)(A:Option Addr)(i:Nat):Prop:=∀ad,A=some ad→o ad.block=i
theorem Of.none_(i:Nat):Of o none i:=fun _ h=>by cases h
variable {α:Type} {f:α→List Value} {sz n c B i:Nat} {e:TypeId} {A:Option Addr} {l:List α}
theorem Of.to_(h:Of o A i)(ho:Own f sz e w B A n c l)(ht:To I w o w' o'):Of o' A i:=fun ad hA=>by
 rw [ht.ow _ (ho.addr ad hA).2.2];exact h ad hA
theorem Own.to_(ho:Own f sz e w B A n c l)(h:Of o A i)(ht:To I w o w' o')(hI:¬I i):Own f sz e w' B A n c l:=
 ho.fr ht.fr fun ad hA=>by rw [h ad hA];exact hI
theorem Is.to_(ho:Is f w A n l)(h:Of o A i)(ht:To I w o w' o')(hI:¬I i):Is f w' A n l:=
 ho.fr ht.fr fun ad hA=>by rw [h ad hA];exact hI
theorem Of.grown{A':Option Addr}(h:Of o A i)(ho:Own f sz e w B A n c l)(hN:w.heap.size≤N)(hat:A'.map (·.block)=A.map (·.block)∨A'.map (·.block)=some N)(hw:N=w.heap.size):Of (Bl o w.heap.size i) A' i:=by
 intro b hA;subst hA hw;rcases hat with e|e
 ·cases hA:A with
  |none=>subst hA;simp at e
  |some a=>
   subst hA;simp at e;rw [e,Bs (ho.addr a rfl).2.2];exact h a rfl
 ·simp at e;rw [e,Bo (Nat.le_refl _)]
theorem To.cell(h:To I w o w' o')(hc:w.cell? p=some u)(hI:¬I (o p.block)):w'.cell? p=some u:=Cq h.fr hc hI
theorem Bc(h:w.cell? p=some u):w.drew.cell? p=some u:=h
theorem Ih(n:Nat)(h:w.cell? p=some u):(w.drewN n).cell? p=some u:=h
theorem Bm(b:Obj)(h:w.cell? p=some u):(w.alloc b).cell? p=some u:=Ba ((Below.refl _ _).alloc (Nat.le_refl _) b) h
theorem To.from_drew(h:To I w.drew o w' o'):To I w o w' o':=⟨(Fr.refl _ w).drew.trans h.fr fun _ _ h=>h,h.ow⟩
theorem To.from_pure{I:Nat→Prop}(hb:Below w.heap.size w w')(h:To I w' o w'' o''):To I w o w'' o'':=(To.pure I hb o).trans h
end
end Go.Acc
