/- Parts of the proof. -/
import Derived.Test.YtgbjodnegkbfoaaGreatQm02
open List renaming getElem?_eq_getElem→Asq,length_append→Ass,replicate→Ast,append_assoc→Asx,getD_eq_getElem?_getD→As0
namespace Go.Proofs.YtgbjodnegkbfoaaGreat
open Go.Acc
def Ej(n:Nat)(v:Bv):Prop:=(inl v.t=true→v.w≤8)∧(inl v.t=false→v.n≤n)
theorem Ej.mono{n n':Nat}{v:Bv}(h:Ej n v)(hn:n≤n'):Ej n' v:=⟨h.1,fun e=>Nat.le_trans (h.2 e) hn⟩
theorem Fe(u:Nat):bWidth u≤8:=by unfold bWidth;(repeat' split) <;>omega
theorem Od(n:Int):bWidthI n≤8:=by unfold bWidthI;(repeat' split) <;>omega
theorem K6(f:Nat→Bool):leastW f≤8:=by unfold leastW;(repeat' split) <;>omega
def Dp(l:List UInt8)(t:Nat)(len tags:Bool)(vs:List Bv)(v:Bv):Prop:=∃b m,l=(Bk t len tags vs b).1++m∧v=(Bk t len tags vs b).2∧∀x∈vs,Ej b.length x
def Gq(l:List UInt8)(k:Bv)(vs:List Bv)(v:Bv):Prop:=∃b m,l=(E7 k vs b).1++m∧v=(E7 k vs b).2∧Ej b.length k∧∀x∈vs,Ej b.length x
theorem Dp.app{l:List UInt8}{t:Nat}{len tags:Bool}{vs:List Bv}{v:Bv}(h:Dp l t len tags vs v)(x:List UInt8):Dp (l++x) t len tags vs v:=by
 obtain⟨b,m,rfl,rfl,hf⟩:=h;exact⟨b,m++x,by rw [Asx],rfl,hf⟩
theorem Gq.app{l:List UInt8}{k:Bv}{vs:List Bv}{v:Bv}(h:Gq l k vs v)(x:List UInt8):Gq (l++x) k vs v:=by
 obtain⟨b,m,rfl,rfl,hf⟩:=h;exact⟨b,m++x,by rw [Asx],rfl,hf⟩
def Iu(l:List UInt8)(s:List UInt8)(v:Bv):Prop:=v.t=4∧v.w=1∧At l v.n (s++ [0])
def Fw(l:List UInt8)(t:Nat)(s z:List UInt8)(v:Bv):Prop:=v.t=t∧v.w=bWidth s.length∧∃c,v.n=c+v.w∧At l c (Ai v.w s.length++s++z)∧c % v.w=0
def Iv(l:List UInt8)(t w n:Nat)(v:Bv):Prop:=v.t=t∧v.w=w∧At l v.n (Ai w (n % 2^(8*w)))∧v.n % w=0
def Ft(l:List UInt8)(ks:List (List UInt8))(vs:List Bv):Prop:=vs.length=ks.length∧∀(i:Nat) s v,ks[i]?=some s→vs[i]?=some v→Iu l s v
theorem Iu.app{l s:List UInt8}{v:Bv}(h:Iu l s v)(x:List UInt8):Iu (l++x) s v:=⟨h.1,h.2.1,h.2.2.app x⟩
theorem Fw.app{l:List UInt8}{t:Nat}{s z:List UInt8}{v:Bv}(h:Fw l t s z v)(x:List UInt8):Fw (l++x) t s z v:=by
 obtain⟨h1,h2,c,h3,h4⟩:=h;exact⟨h1,h2,c,h3,h4.1.app x,h4.2⟩
theorem Iv.app{l:List UInt8}{t w n:Nat}{v:Bv}(h:Iv l t w n v)(x:List UInt8):Iv (l++x) t w n v:=⟨h.1,h.2.1,h.2.2.1.app x,h.2.2.2⟩
theorem Ft.app{l:List UInt8}{ks:List (List UInt8)}{vs:List Bv}(h:Ft l ks vs)(x:List UInt8):Ft (l++x) ks vs:=⟨h.1,fun i s v h1 h2=>(h.2 i s v h1 h2).app x⟩
inductive D8(l:List UInt8):Bv→Tr→Prop
 |null (n u s ks c):D8 l ⟨0,1,0⟩ (.mk 1 n u s ks c)
 |truth (n u s ks c):D8 l (C8 n) (.mk 2 n u s ks c)
 |int (n u s ks c):D8 l (Cq n) (.mk 3 n u s ks c)
 |uint (n u s ks c):D8 l (Cu u) (.mk 4 n u s ks c)
 |key {v:Bv} {s:List UInt8} (n u ks c) (h:Iu l s v):D8 l v (.mk 5 n u s ks c)
 |str {v:Bv} {s:List UInt8} (n u ks c) (h:Fw l 5 s [0] v):D8 l v (.mk 6 n u s ks c)
 |blob {v:Bv} {s:List UInt8} (n u ks c) (h:Fw l 25 s [] v):D8 l v (.mk 7 n u s ks c)
 |indInt {v:Bv} {n:Int} (u s ks c) (h:Iv l 6 (bWidthI n) (bits n) v):D8 l v (.mk 8 n u s ks c)
 |indUint {v:Bv} {u:Nat} (n s ks c) (h:Iv l 7 (bWidth u) u v):D8 l v (.mk 9 n u s ks c)
 |ints {v:Bv} {c:List Tr} (n u s ks) (h:Dp l 11 true false (c.map fun t=>Cq t.n) v):D8 l v (.mk 11 n u s ks c)
 |uints {v:Bv} {c:List Tr} (n u s ks) (h:Dp l 12 true false (c.map fun t=>Cu t.u) v):D8 l v (.mk 12 n u s ks c)
 |bools {v:Bv} {c:List Tr} (n u s ks) (h:Dp l 36 true false (c.map fun t=>C8 t.n) v):D8 l v (.mk 14 n u s ks c)
 |keys {v:Bv} {c:List Tr} {vs:List Bv} (n u s ks) (hk:Ft l (c.map Tr.s) vs) (h:Dp l 14 true false vs v):D8 l v (.mk 13 n u s ks c)
 |fixInts {v:Bv} {c:List Tr} (n u s ks) (h:Dp l (10+3*c.length) false false (c.map fun t=>Cq t.n) v):D8 l v (.mk 15 n u s ks c)
 |fixUints {v:Bv} {c:List Tr} (n u s ks) (h:Dp l (11+3*c.length) false false (c.map fun t=>Cu t.u) v):D8 l v (.mk 16 n u s ks c)
 |vec {v:Bv} {c:List Tr} {vs:List Bv} (n u s ks) (hl:vs.length=c.length) (hr:∀(i:Nat) x t,vs[i]?=some x→c[i]?=some t→D8 l x t) (h:Dp l 10 true true vs v):D8 l v (.mk 10 n u s ks c)
 |map {v kv:Bv} {c:List Tr} {ks:List (List UInt8)} {kvs vs:List Bv} (n u s) (hk:Ft l ks kvs) (hv:Dp l 14 true false kvs kv) (hl:vs.length=c.length) (hr:∀(i:Nat) x t,vs[i]?=some x→c[i]?=some t→D8 l x t) (h:Gq l kv vs v):D8 l v (.mk 17 n u s ks c)
theorem D8.app{l:List UInt8}{v:Bv}{t:Tr}(h:D8 l v t)(x:List UInt8):D8 (l++x) v t:=by
 induction h with
 |null=>exact .null _ _ _ _ _
 |truth=>exact .truth _ _ _ _ _
 |int=>exact .int _ _ _ _ _
 |uint=>exact .uint _ _ _ _ _
 |key _ _ _ _ h=>exact .key _ _ _ _ (h.app x)
 |str _ _ _ _ h=>exact .str _ _ _ _ (h.app x)
 |blob _ _ _ _ h=>exact .blob _ _ _ _ (h.app x)
 |indInt _ _ _ _ h=>exact .indInt _ _ _ _ (h.app x)
 |indUint _ _ _ _ h=>exact .indUint _ _ _ _ (h.app x)
 |ints _ _ _ _ h=>exact .ints _ _ _ _ (h.app x)
 |uints _ _ _ _ h=>exact .uints _ _ _ _ (h.app x)
 |bools _ _ _ _ h=>exact .bools _ _ _ _ (h.app x)
 |keys _ _ _ _ hk h=>exact .keys _ _ _ _ (hk.app x) (h.app x)
 |fixInts _ _ _ _ h=>exact .fixInts _ _ _ _ (h.app x)
 |fixUints _ _ _ _ h=>exact .fixUints _ _ _ _ (h.app x)
 |vec _ _ _ _ hl _ h ih=>exact .vec _ _ _ _ hl ih (h.app x)
 |map _ _ _ hk hv hl _ h ih=>exact .map _ _ _ (hk.app x) (hv.app x) hl ih (h.app x)
theorem Tw(t:Nat)(len tags:Bool)(vs:List Bv)(b m:List UInt8):Ej ((Bk t len tags vs b).1++m).length (Bk t len tags vs b).2:=by
 obtain⟨w,hw⟩:∃w,Bl b.length (if len=true then 1 else 0) none vs=w:=⟨_,rfl⟩;have h8:w≤8:=by rw [←hw];exact K6 _
 obtain⟨c,hc⟩:∃c,An w b++(if len=true then Ai w vs.length else [])=c:=⟨_,rfl⟩;simp only [Bk,hw,hc];obtain⟨x,e,_⟩:=Fa w vs c;refine⟨fun _=>h8,fun _=>?_⟩;rw [e];simp only [Ass];omega
theorem Al5(k:Bv)(vs:List Bv)(b m:List UInt8):Ej ((E7 k vs b).1++m).length (E7 k vs b).2:=by
 obtain⟨w,hw⟩:∃w,Bl b.length 3 (some k) vs=w:=⟨_,rfl⟩;have h8:w≤8:=by rw [←hw];exact K6 _
 obtain⟨c,hc⟩:∃c,An w b++Ai w ((An w b).length-k.n)++Ai w k.w++Ai w vs.length=c:=⟨_,rfl⟩;simp only [E7,hw,hc];obtain⟨x,e,_⟩:=Fa w vs c;refine⟨fun _=>h8,fun _=>?_⟩;rw [e];simp only [Ass];omega
theorem Dp.fit{l:List UInt8}{t:Nat}{len tags:Bool}{vs:List Bv}{v:Bv}(h:Dp l t len tags vs v):Ej l.length v:=by
 obtain⟨b,m,rfl,rfl,_⟩:=h;exact Tw _ _ _ _ _ _
theorem Gq.fit{l:List UInt8}{k:Bv}{vs:List Bv}{v:Bv}(h:Gq l k vs v):Ej l.length v:=by
 obtain⟨b,m,rfl,rfl,_⟩:=h;exact Al5 _ _ _ _
theorem Iu.fit{l s:List UInt8}{v:Bv}(h:Iu l s v):Ej l.length v:=by
 obtain⟨h1,h2,h3⟩:=h;have:=h3.le;exact⟨fun _=>by omega,fun _=>by omega⟩
theorem Fw.fit{l:List UInt8}{t:Nat}{s z:List UInt8}{v:Bv}(h:Fw l t s z v):Ej l.length v:=by
 obtain⟨_,h2,c,h3,h4⟩:=h;have:=h4.1.le;simp only [Ass,Au] at this;exact⟨fun _=>by rw [h2];exact Fe _,fun _=>by omega⟩
theorem Iv.fit{l:List UInt8}{t w n:Nat}{v:Bv}(h:Iv l t w n v)(hw:w≤8):Ej l.length v:=by
 have:=h.2.2.1.le;exact⟨fun _=>by rw [h.2.1];exact hw,fun _=>by omega⟩
theorem O6(n:Int)(m:Nat):Ej m (Cq n):=⟨fun _=>Od n,fun h=>absurd h (show ¬inl 1=false by decide)⟩
theorem Pk(u m:Nat):Ej m (Cu u):=⟨fun _=>Fe u,fun h=>absurd h (show ¬inl 2=false by decide)⟩
theorem Vw(n:Int)(m:Nat):Ej m (C8 n):=⟨fun _=>by simp [C8],fun h=>absurd h (show ¬inl 26=false by decide)⟩
theorem D8.fit{l:List UInt8}{v:Bv}{t:Tr}(h:D8 l v t):Ej l.length v:=by
 cases h with
 |null=>exact⟨fun _=>by simp,fun h=>absurd h (by decide)⟩
 |truth=>exact Vw _ _
 |int=>exact O6 _ _
 |uint=>exact Pk _ _
 |key _ _ _ _ h=>exact h.fit
 |str _ _ _ _ h=>exact h.fit
 |blob _ _ _ _ h=>exact h.fit
 |indInt _ _ _ _ h=>exact h.fit (Od _)
 |indUint _ _ _ _ h=>exact h.fit (Fe _)
 |ints _ _ _ _ h=>exact h.fit
 |uints _ _ _ _ h=>exact h.fit
 |bools _ _ _ _ h=>exact h.fit
 |keys _ _ _ _ _ h=>exact h.fit
 |fixInts _ _ _ _ h=>exact h.fit
 |fixUints _ _ _ _ h=>exact h.fit
 |vec _ _ _ _ _ _ h=>exact h.fit
 |map _ _ _ _ _ _ _ h=>exact h.fit
theorem Ft.fit{l:List UInt8}{ks:List (List UInt8)}{vs:List Bv}(h:Ft l ks vs):∀x∈vs,Ej l.length x:=by
 intro x hx;obtain⟨i,hi,e⟩:=List.getElem_of_mem hx;have hk:i<ks.length:=by rw [←h.1];exact hi
 exact(h.2 i ks[i] x (Asq hk) (by rw [Asq hi,e])).fit
theorem Pf{l:List UInt8}{c:List Tr}{vs:List Bv}(hl:vs.length=c.length)(h:∀(i:Nat) x t,vs[i]?=some x→c[i]?=some t→D8 l x t):∀x∈vs,Ej l.length x:=by
 intro x hx;obtain⟨i,hi,e⟩:=List.getElem_of_mem hx;have hk:i<c.length:=by rw [←hl];exact hi
 exact(h i x c[i] (by rw [Asq hi,e]) (Asq hk)).fit
def Ci(ks:List (List UInt8)):List UInt8:=ks.flatMap fun s=>s++ [0]
structure Cp(b:Bd):Prop where
 keys:∀s a,Bn b.keys s=some a→At b.b a (s++ [0])
 texts:∀s a,Bn b.texts s=some a→Fw b.b 5 s [0] ⟨5,bWidth s.length,a⟩
 lists:∀ks:List (List UInt8),(∀s∈ks,(0:UInt8)∉s)→∀i,Bn b.lists (Ci ks)=some i→∃kv kvs,b.vals[i]?=some kv∧Ft b.b ks kvs∧Dp b.b 14 true false kvs kv
 vals:∀s i,Bn b.lists s=some i→i<b.vals.length
theorem On:Cp Bd.new:=⟨fun _ _ h=>by simp [Bd.new,Bn] at h,fun _ _ h=>by simp [Bd.new,Bn] at h,fun _ _ _ h=>by simp [Bd.new,Bn] at h,fun _ _ h=>by simp [Bd.new,Bn] at h⟩
theorem Cp.app{b b':Bd}(h:Cp b)(x:List UInt8)(hb:b'.b=b.b++x)(hk:b'.keys=b.keys)(ht:b'.texts=b.texts)(hl:b'.lists=b.lists)(hv:b'.vals=b.vals):Cp b':=by
 refine⟨fun s a e=>?_,fun s a e=>?_,fun ks h0 i e=>?_,fun s i e=>?_⟩
 ·rw [hb];rw [hk] at e;exact(h.keys s a e).app x
 ·rw [hb];rw [ht] at e;exact(h.texts s a e).app x
 ·rw [hl] at e;obtain⟨kv,kvs,h1,h2,h3⟩:=h.lists ks h0 i e;rw [hb,hv];exact⟨kv,kvs,h1,h2.app x,h3.app x⟩
 ·rw [hl] at e;rw [hv];exact h.vals s i e
theorem Me{l:List (List UInt8×Nat)}{k s:List UInt8}{a c:Nat}(h:Bn (E4 l k a) s=some c):Bn l s=some c∨(s=k∧c=a):=by
 unfold E4 at h;split at h
 ·exact Or.inl h
 ·rw [Bn,List.find?_append] at h;cases hg:l.find? (fun x=>x.1==s) with
  |some y=>
   rw [hg] at h;left;rw [Bn,hg];simpa using h
  |none=>
   rw [hg] at h;right;by_cases hs:k=s
   ·subst hs;simp at h;exact⟨rfl,h.symm⟩
   ·simp [hs] at h
def Fv(b b':Bd):Prop:=(∃m,b'.b=b.b++m)∧Cp b'
theorem Fv.trans{a b c:Bd}(h:Fv a b)(h':Fv b c):Fv a c:=by
 obtain⟨⟨m,e⟩,_⟩:=h;obtain⟨⟨m',e'⟩,g⟩:=h';exact⟨⟨m++m',by rw [e',e,Asx]⟩,g⟩
theorem Fv.rep{b b':Bd}(h:Fv b b'){v:Bv}{t:Tr}(r:D8 b.b v t):D8 b'.b v t:=by
 obtain⟨⟨m,e⟩,_⟩:=h;rw [e];exact r.app m
theorem Wl(f:Nat)(s:List UInt8)(b:Bd)(h:Cp b):Fv b (b.put f s).1∧Iu (b.put f s).1.b s (b.put f s).2∧(b.put f s).1.s=b.s:=by
 unfold Bd.put;split
 ·next a ha=>
  split at ha
  ·exact⟨⟨⟨[],by simp⟩,h⟩,⟨rfl,rfl,h.keys s a ha⟩,rfl⟩
  ·cases ha
 ·refine⟨⟨⟨s++ [0],by simp⟩,⟨fun k a e=>?_,fun k a e=>?_,fun ks h0 i e=>?_,fun k i e=>h.vals k i e⟩⟩,⟨rfl,rfl,?_⟩,rfl⟩
  ·rcases Me e with e|⟨rfl,rfl⟩
   ·have:=(h.keys k a e).app (s++ [0])
    rwa [←Asx] at this
   ·have:=At.last b.b (k++ [0])
    rwa [←Asx] at this
  ·have:=(h.texts k a e).app (s++ [0])
   rwa [←Asx] at this
  ·obtain⟨kv,kvs,h1,h2,h3⟩:=h.lists ks h0 i e;have h2:=h2.app (s++ [0]);have h3:=h3.app (s++ [0]);rw [←Asx] at h2 h3;exact⟨kv,kvs,h1,h2,h3⟩
  ·have:=At.last b.b (s++ [0])
   rwa [←Asx] at this
theorem Qg{b:Bd}(h:Cp b)(v:Bv):Cp (b.push v):=h.app [] (by simp [Bd.push]) rfl rfl rfl rfl
theorem Nx(f:Nat)(s:List UInt8)(b:Bd)(h:Cp b):∃v,(b.key f s).s=b.s++ [v]∧Fv b (b.key f s)∧Iu (b.key f s).b s v:=by
 obtain⟨⟨h1,h2⟩,h3,h4⟩:=Wl f s b h;exact⟨(b.put f s).2,by simp [Bd.key,Bd.push,h4],⟨h1,Qg h2 _⟩,h3⟩
theorem Tl(f:Nat):∀(ks:List (List UInt8)) (b:Bd),Cp b→Fv b (b.puts f ks).1∧Ft (b.puts f ks).1.b ks (b.puts f ks).2∧(b.puts f ks).1.s=b.s
 | [],b,h=>⟨⟨⟨[],by simp [Bd.puts]⟩,h⟩,⟨rfl,fun i s v h=>by simp at h⟩,rfl⟩
 |s::r,b,h=>by
  obtain⟨s1,k1,e1⟩:=Wl f s b h;obtain⟨s2,k2,e2⟩:=Tl f r (b.put f s).1 s1.2;refine⟨s1.trans s2,⟨by simp [Bd.puts,k2.1],fun i x v hx hv=>?_⟩,e2.trans e1⟩;cases i with
  |zero=>
   simp only [Bd.puts,List.getElem?_cons_zero,Option.some.injEq] at hx hv;subst hx hv;obtain⟨⟨m,e⟩,_⟩:=s2;simp only [Bd.puts,e];exact k1.app m
  |succ i=>
   simp only [Bd.puts,List.getElem?_cons_succ] at hx hv;exact k2.2 i x v hx hv
theorem Kr(t:Nat)(len tags:Bool)(l:List Bv)(b:Bd)(h:Cp b)(hf:∀x∈l,Ej b.b.length x):∃v,(b.vec t len tags l).s=b.s++ [v]∧Fv b (b.vec t len tags l)∧Dp (b.vec t len tags l).b t len tags l v:=by
 obtain⟨m,e⟩:=Pl t len tags l b.b;exact⟨(Bk t len tags l b.b).2,rfl,⟨⟨m,e⟩,h.app m e rfl rfl rfl rfl⟩,b.b,[],by simp [Bd.vec],rfl,hf⟩
theorem Xe{w:Nat}(hw:w=1∨w=2∨w=4∨w=8)(l:List UInt8):(An w l).length % w=0:=by
 simp only [An,Ass,List.length_replicate,Lc];rcases hw with rfl|rfl|rfl|rfl <;>omega
theorem Xg(u:Nat):bWidth u=1∨bWidth u=2∨bWidth u=4∨bWidth u=8:=by unfold bWidth;(repeat' split) <;>simp
theorem Afe(n:Int):bWidthI n=1∨bWidthI n=2∨bWidthI n=4∨bWidthI n=8:=by unfold bWidthI;(repeat' split) <;>simp
theorem Ts(t:Nat)(s z:List UInt8)(l:List UInt8):Fw (An (bWidth s.length) l++Ai (bWidth s.length) s.length++s++z) t s z ⟨t,bWidth s.length,(An (bWidth s.length) l++Ai (bWidth s.length) s.length).length⟩:=by
 refine⟨rfl,rfl,(An (bWidth s.length) l).length,by rw [Ass,Au],?_,Xe (Xg _) l⟩;have:=At.last (An (bWidth s.length) l) (Ai (bWidth s.length) s.length++s++z);simpa only [Asx] using this
theorem Ak2(s:List UInt8)(b:Bd)(h:Cp b):∃v,(b.blob s).s=b.s++ [v]∧Fv b (b.blob s)∧Fw (b.blob s).b 25 s [] v:=by
 have e:(b.blob s).b=b.b++(Ast (Lc (bWidth s.length) b.b.length) 0++(Ai (bWidth s.length) s.length++s)):=by simp only [Bd.blob,An,Asx]
 refine⟨_,rfl,⟨⟨_,e⟩,h.app _ e rfl rfl rfl rfl⟩,?_⟩;have:=Ts 25 s [] b.b;rw [List.append_nil] at this;exact this
theorem Apm(f:Nat)(s:List UInt8)(b:Bd)(h:Cp b):∃v,(b.str f s).s=b.s++ [v]∧Fv b (b.str f s)∧Fw (b.str f s).b 5 s [0] v:=by
 unfold Bd.str;simp only [];split
 ·next a ha=>
  split at ha
  ·exact⟨_,rfl,⟨⟨[],by simp [Bd.push]⟩,Qg h _⟩,h.texts s a ha⟩
  ·cases ha
 ·have e:An (bWidth s.length) b.b++Ai (bWidth s.length) s.length++s++ [0]=b.b++(Ast (Lc (bWidth s.length) b.b.length) 0++(Ai (bWidth s.length) s.length++(s++ [0]))):=by simp only [An,Asx]
  refine⟨_,rfl,⟨⟨_,e⟩,⟨fun k a i=>?_,fun k a i=>?_,fun ks h0 i j=>?_,fun k i j=>h.vals k i j⟩⟩,Ts 5 s [0] b.b⟩
  ·exact e▸(h.keys k a i).app _
  ·rcases Me i with i|⟨rfl,rfl⟩
   ·exact e▸(h.texts k a i).app _
   ·exact Ts 5 k [0] b.b
  ·obtain⟨kv,kvs,h1,h2,h3⟩:=h.lists ks h0 i j;exact⟨kv,kvs,h1,e▸h2.app _,e▸h3.app _⟩
theorem Xf(t w n:Nat)(b:Bd)(h:Cp b)(hw:w=1∨w=2∨w=4∨w=8):∃v,(b.apart t w n).s=b.s++ [v]∧Fv b (b.apart t w n)∧Iv (b.apart t w n).b t w n v:=by
 have e:(b.apart t w n).b=b.b++(Ast (Lc w b.b.length) 0++Ai w (n % 2^(8*w))):=by simp only [Bd.apart,An,Asx]
 exact⟨_,rfl,⟨⟨_,e⟩,h.app _ e rfl rfl rfl rfl⟩,rfl,rfl,At.last _ _,Xe hw _⟩
inductive Ok:Tr→Prop
 |leaf {k:Int} (n u s ks c) (h1:1≤k) (h2:k≤9):Ok (.mk k n u s ks c)
 |flat {k:Int} (n u s ks c) (h1:11≤k) (h2:k≤16):Ok (.mk k n u s ks c)
 |vec {c:List Tr} (n u s ks) (h:∀t∈c,Ok t):Ok (.mk 10 n u s ks c)
 |map {c:List Tr} {ks:List (List UInt8)} (n u s) (hl:ks.length=c.length) (h0:∀x∈ks,(0:UInt8)∉x) (h:∀t∈c,Ok t):Ok (.mk 17 n u s ks c)
def Nb(f:Nat)(t:Tr):Prop:=∀b,Cp b→∃v,(Bd.calls f t b).s=b.s++ [v]∧Fv b (Bd.calls f t b)∧D8 (Bd.calls f t b).b v t
theorem Aaw(f:Nat){k:Int}(n:Int)(u:Nat)(s:List UInt8)(ks:List (List UInt8))(c:List Tr)(h1:1≤k)(h2:k≤9)(b:Bd)(h:Cp b):∃v,(b.leaf f k n u s).s=b.s++ [v]∧Fv b (b.leaf f k n u s)∧D8 (b.leaf f k n u s).b v (.mk k n u s ks c):=by
 have hp:∀v,Fv b (b.push v):=fun v=>⟨⟨[],by simp [Bd.push]⟩,Qg h v⟩
 obtain rfl|rfl|rfl|rfl|rfl|rfl|rfl|rfl|rfl:k=1∨k=2∨k=3∨k=4∨k=5∨k=6∨k=7∨k=8∨k=9:=by omega
 ·exact⟨_,rfl,hp _,.null _ _ _ _ _⟩
 ·exact⟨_,rfl,hp _,.truth _ _ _ _ _⟩
 ·exact⟨_,rfl,hp _,.int _ _ _ _ _⟩
 ·exact⟨_,rfl,hp _,.uint _ _ _ _ _⟩
 ·obtain⟨v,e,st,k⟩:=Nx f s b h;exact⟨v,e,st,.key _ _ _ _ k⟩
 ·obtain⟨v,e,st,k⟩:=Apm f s b h;exact⟨v,e,st,.str _ _ _ _ k⟩
 ·obtain⟨v,e,st,k⟩:=Ak2 s b h;exact⟨v,e,st,.blob _ _ _ _ k⟩
 ·obtain⟨v,e,st,k⟩:=Xf 6 (bWidthI n) (bits n) b h (Afe n);exact⟨v,e,st,.indInt _ _ _ _ k⟩
 ·obtain⟨v,e,st,k⟩:=Xf 7 (bWidth u) u b h (Xg u);exact⟨v,e,st,.indUint _ _ _ _ k⟩
theorem Alp(f:Nat){k:Int}(n:Int)(u:Nat)(s:List UInt8)(ks:List (List UInt8))(c:List Tr)(h1:11≤k)(h2:k≤16)(b:Bd)(h:Cp b):∃v,(b.flat f k c).s=b.s++ [v]∧Fv b (b.flat f k c)∧D8 (b.flat f k c).b v (.mk k n u s ks c):=by
 obtain rfl|rfl|rfl|rfl|rfl|rfl:k=11∨k=12∨k=13∨k=14∨k=15∨k=16:=by omega
 ·obtain⟨v,e,st,k⟩:=Kr 11 true false (c.map fun t=>Cq t.n) b h (fun x hx=>by obtain⟨t,_,rfl⟩:=List.mem_map.1 hx;exact O6 _ _);exact⟨v,e,st,.ints _ _ _ _ k⟩
 ·obtain⟨v,e,st,k⟩:=Kr 12 true false (c.map fun t=>Cu t.u) b h (fun x hx=>by obtain⟨t,_,rfl⟩:=List.mem_map.1 hx;exact Pk _ _);exact⟨v,e,st,.uints _ _ _ _ k⟩
 ·obtain⟨s1,k1,e1⟩:=Tl f (c.map Tr.s) b h;obtain⟨v,e,st,k⟩:=Kr 14 true false (b.puts f (c.map Tr.s)).2 (b.puts f (c.map Tr.s)).1 s1.2 k1.fit;refine⟨v,e.trans (by rw [e1]),s1.trans st,.keys _ _ _ _ ?_ k⟩;obtain⟨⟨m,em⟩,_⟩:=st;exact em▸k1.app m
 ·obtain⟨v,e,st,k⟩:=Kr 36 true false (c.map fun t=>C8 t.n) b h (fun x hx=>by obtain⟨t,_,rfl⟩:=List.mem_map.1 hx;exact Vw _ _);exact⟨v,e,st,.bools _ _ _ _ k⟩
 ·obtain⟨v,e,st,k⟩:=Kr (10+3*c.length) false false (c.map fun t=>Cq t.n) b h (fun x hx=>by obtain⟨t,_,rfl⟩:=List.mem_map.1 hx;exact O6 _ _);exact⟨v,e,st,.fixInts _ _ _ _ k⟩
 ·obtain⟨v,e,st,k⟩:=Kr (11+3*c.length) false false (c.map fun t=>Cu t.u) b h (fun x hx=>by obtain⟨t,_,rfl⟩:=List.mem_map.1 hx;exact Pk _ _);exact⟨v,e,st,.fixUints _ _ _ _ k⟩
theorem Jo(f:Nat):∀(c:List Tr),(∀t∈c,Nb f t)→∀b,Cp b→∃vs,(Bd.callsL f c b).s=b.s++vs∧vs.length=c.length∧Fv b (Bd.callsL f c b)∧∀(i:Nat) x t,vs[i]?=some x→c[i]?=some t→D8 (Bd.callsL f c b).b x t
 | [],_,b,h=>⟨[],by simp [Bd.callsL],rfl,⟨⟨[],by simp [Bd.callsL]⟩,h⟩,fun i x t h=>by simp at h⟩
 |t::r,hd,b,h=>by
  obtain⟨v,e1,s1,r1⟩:=hd t (by simp) b h;obtain⟨vs,e2,l2,s2,r2⟩:=Jo f r (fun t ht=>hd t (by simp [ht])) (Bd.calls f t b) s1.2;refine⟨v::vs,by rw [Bd.callsL,e2,e1,Asx];rfl,by simp [l2],by rw [Bd.callsL];exact s1.trans s2,fun i x t' hx ht=>?_⟩;rw [Bd.callsL];cases i with
  |zero=>
   simp only [List.getElem?_cons_zero,Option.some.injEq] at hx ht;subst hx ht;exact s2.rep r1
  |succ i=>
   simp only [List.getElem?_cons_succ] at hx ht;exact r2 i x t' hx ht
def Ew:List Bv→List Bv→List Bv
 |k::r,v::q=>k::v::Ew r q
 |_,_=>[]
theorem H9:∀(ks vs:List Bv),ks.length=vs.length→Jt (Ew ks vs)=ks∧O7 (Ew ks vs)=vs
 | [],[],_=>⟨rfl,rfl⟩
 |k::r,v::q,h=>by
  obtain⟨h1,h2⟩:=H9 r q (by simpa using h);refine⟨by simp [Ew,Jt,h1],?_⟩;simp only [Ew,O7,List.tail_cons];cases r with
  |nil=>
   cases q with
   |nil=>rfl
   |cons _ _=>simp at h
  |cons a r=>
   cases q with
   |nil=>simp at h
   |cons b q=>
    simp only [Ew,O7,List.tail_cons] at h2;simp only [Ew,Jt,h2]
theorem H7(f:Nat):∀(c:List Tr) (ks:List (List UInt8)),ks.length=c.length→(∀t∈c,Nb f t)→∀b,Cp b→∃kvs vs,(Bd.callsM f ks c b).s=b.s++Ew kvs vs∧vs.length=c.length∧Fv b (Bd.callsM f ks c b)∧Ft (Bd.callsM f ks c b).b ks kvs∧∀(i:Nat) x t,vs[i]?=some x→c[i]?=some t→D8 (Bd.callsM f ks c b).b x t
 | [],ks,hk,_,b,h=>by
  obtain rfl:ks=[]:=List.eq_nil_of_length_eq_zero hk;exact⟨[],[],by simp [Bd.callsM,Ew],rfl,⟨⟨[],by simp [Bd.callsM]⟩,h⟩,⟨rfl,fun i x t h=>by simp at h⟩,fun i x t h=>by simp at h⟩
 |t::r,[],hk,_,_,_=>by simp at hk
 |t::r,s::ks,hk,hd,b,h=>by
  obtain⟨kv,e0,s0,k0⟩:=Nx f s b h;obtain⟨v,e1,s1,r1⟩:=hd t (by simp) (b.key f s) s0.2;obtain⟨kvs,vs,e2,l2,s2,k2,r2⟩:=H7 f r ks (by simpa using hk) (fun t ht=>hd t (by simp [ht])) (Bd.calls f t (b.key f s)) s1.2;have ee:Bd.callsM f (s::ks) (t::r) b=Bd.callsM f ks r (Bd.calls f t (b.key f s)):=by rw [Bd.callsM];rfl
  rw [ee];refine⟨kv::kvs,v::vs,by rw [e2,e1,e0];simp [Ew],by simp [l2],(s0.trans s1).trans s2,⟨by simp [k2.1],fun i x v' hx hv=>?_⟩,fun i x t' hx ht=>?_⟩
  ·cases i with
   |zero=>
    simp only [List.getElem?_cons_zero,Option.some.injEq] at hx hv;subst hx hv;obtain⟨⟨m,em⟩,_⟩:=s1.trans s2;rw [em];exact k0.app m
   |succ i=>
    simp only [List.getElem?_cons_succ] at hx hv;exact k2.2 i x v' hx hv
  ·cases i with
   |zero=>
    simp only [List.getElem?_cons_zero,Option.some.injEq] at hx ht;subst hx ht;exact s2.rep r1
   |succ i=>
    simp only [List.getElem?_cons_succ] at hx ht;exact r2 i x t' hx ht
theorem Z0:∀(s s' x x':List UInt8),(0:UInt8)∉s→(0:UInt8)∉s'→s++0::x=s'++0::x'→s=s'∧x=x'
 | [],[],_,_,_,_,h=>⟨rfl,by simpa using h⟩
 | [],c::s',_,_,_,h',h=>by
  simp only [List.nil_append,List.cons_append,List.cons.injEq] at h;exact absurd (by simp [←h.1]) h'
 |c::s,[],_,_,h',_,h=>by
  simp only [List.nil_append,List.cons_append,List.cons.injEq] at h;exact absurd (by simp [h.1]) h'
 |c::s,d::s',x,x',h0,h0',h=>by
  simp only [List.cons_append,List.cons.injEq] at h;obtain⟨e1,e2⟩:=Z0 s s' x x' (fun hm=>h0 (by simp [hm])) (fun hm=>h0' (by simp [hm])) h.2;exact⟨by rw [h.1,e1],e2⟩
theorem Uz:∀(a b:List (List UInt8)),(∀s∈a,(0:UInt8)∉s)→(∀s∈b,(0:UInt8)∉s)→Ci a=Ci b→a=b
 | [],[],_,_,_=>rfl
 | [],s::r,_,_,h=>by simp [Ci] at h
 |s::r,[],_,_,h=>by simp [Ci] at h
 |s::r,t::q,ha,hb,h=>by
  have h':s++0::Ci r=t++0::Ci q:=by simpa [Ci] using h
  obtain⟨e1,e2⟩:=Z0 s t _ _ (ha s (by simp)) (hb t (by simp)) h';rw [e1,Uz r q (fun s hs=>ha s (by simp [hs])) (fun s hs=>hb s (by simp [hs])) e2]
theorem Ul(f:Nat)(ks:List (List UInt8))(st:List Bv)(b:Bd)(kvs vs:List Bv)(h:Cp b)(hs:b.s=st++Ew kvs vs)(hl:kvs.length=vs.length)(h0:∀x∈ks,(0:UInt8)∉x)(hk:Ft b.b ks kvs)(hf:∀x∈vs,Ej b.b.length x):
  ∃v kv kvs',(b.endMap f ks st.length).s=st++ [v]∧Fv b (b.endMap f ks st.length)∧Ft (b.endMap f ks st.length).b ks kvs'∧Dp (b.endMap f ks st.length).b 14 true false kvs' kv∧Gq (b.endMap f ks st.length).b kv vs v:=by
 obtain⟨h1,h2⟩:=H9 kvs vs hl;have hd:b.s.drop st.length=Ew kvs vs:=by rw [hs];simp
 have ht:b.s.take st.length=st:=by rw [hs];simp
 unfold Bd.endMap;simp only [hd,ht,h1,h2];have hlist:(ks.flatMap fun s=>s++ [0])=Ci ks:=rfl;rw [hlist];split
 ·next i hi=>
  split at hi
  ·obtain⟨kv,kvs',e1,k1,v1⟩:=h.lists ks h0 i hi;have eg:b.vals.getD i ⟨0,0,0⟩=kv:=by rw [As0,e1];rfl
   obtain⟨m,em⟩:=Aa6 kv vs b.b;refine⟨(E7 kv vs b.b).2,kv,kvs',?_,⟨⟨m,?_⟩,?_⟩,?_,?_,?_⟩
   ·rw [eg]
   ·rw [eg];exact em
   ·exact h.app m (by rw [eg];exact em) rfl rfl rfl rfl
   ·rw [eg,em];exact k1.app m
   ·rw [eg,em];exact v1.app m
   ·rw [eg];exact⟨b.b,[],by simp,rfl,v1.fit,hf⟩
  ·cases hi
 ·obtain⟨m1,e1⟩:=Pl 14 true false kvs b.b;obtain⟨m2,e2⟩:=Aa6 (Bk 14 true false kvs b.b).2 vs (Bk 14 true false kvs b.b).1;have e:(E7 (Bk 14 true false kvs b.b).2 vs (Bk 14 true false kvs b.b).1).1=b.b++(m1++m2):=by rw [e2,e1,Asx]
  have hv:Dp (E7 (Bk 14 true false kvs b.b).2 vs (Bk 14 true false kvs b.b).1).1 14 true false kvs (Bk 14 true false kvs b.b).2:=⟨b.b,m2,e2,rfl,hk.fit⟩;have hfk:Ej (Bk 14 true false kvs b.b).1.length (Bk 14 true false kvs b.b).2:=by
   have:=Tw 14 true false kvs b.b []
   rwa [List.append_nil] at this
  have hfv:∀x∈vs,Ej (Bk 14 true false kvs b.b).1.length x:=fun x hx=>(hf x hx).mono (by rw [e1];simp)
  refine⟨_,(Bk 14 true false kvs b.b).2,kvs,rfl,⟨⟨m1++m2,e⟩,⟨fun s a i=>?_,fun s a i=>?_,fun ks' h0' i j=>?_,fun s i j=>?_⟩⟩,?_,hv,⟨(Bk 14 true false kvs b.b).1,[],by simp,rfl,hfk,hfv⟩⟩
  ·exact e▸(h.keys s a i).app _
  ·exact e▸(h.texts s a i).app _
  ·rcases Me j with j|⟨hq,rfl⟩
   ·obtain⟨kv,kvs',g1,g2,g3⟩:=h.lists ks' h0' i j;refine⟨kv,kvs',?_,e▸g2.app _,e▸g3.app _⟩;have hlt:=h.vals _ i j;exact(List.getElem?_append_left hlt).trans g1
   ·have:=Uz ks' ks h0' h0 hq;subst this;refine⟨_,kvs,?_,e▸hk.app _,hv⟩;simp
  ·rcases Me j with j|⟨_,rfl⟩
   ·have hlt:=h.vals _ i j;simp only [Ass,List.length_singleton];omega
   ·simp
  ·exact e▸hk.app _
theorem Em(f:Nat)(t:Tr)(h:Ok t):Nb f t:=by
 induction h with
 |leaf n u s ks c h1 h2=>
  intro b hg;rename_i k;have e:Bd.calls f (.mk k n u s ks c) b=b.leaf f k n u s:=by
   rw [Bd.calls,if_neg (by omega),if_neg (by omega),if_pos h2]
  rw [e];exact Aaw f n u s ks c h1 h2 b hg
 |flat n u s ks c h1 h2=>
  intro b hg;rename_i k;have e:Bd.calls f (.mk k n u s ks c) b=b.flat f k c:=by
   rw [Bd.calls,if_neg (by omega),if_neg (by omega),if_neg (by omega)]
  rw [e];exact Alp f n u s ks c h1 h2 b hg
 |vec n u s ks _ ih=>
  intro b hg;rename_i c _;obtain⟨vs,e1,l1,s1,r1⟩:=Jo f c ih b hg;have e:Bd.calls f (.mk 10 n u s ks c) b=(Bd.callsL f c b).endVec b.s.length:=by rw [Bd.calls,if_pos rfl]
  have hd:(Bd.callsL f c b).s.drop b.s.length=vs:=by rw [e1];simp
  have ht:(Bd.callsL f c b).s.take b.s.length=b.s:=by rw [e1];simp
  rw [e,Bd.endVec,hd,ht];have hg2:Cp { Bd.callsL f c b with s:=b.s}:=s1.2.app [] (by simp) rfl rfl rfl rfl;obtain⟨v,e2,s2,k2⟩:=Kr 10 true true vs { Bd.callsL f c b with s:=b.s} hg2 (Pf l1 r1)
  have s3:Fv (Bd.callsL f c b) (Bd.vec 10 true true vs { Bd.callsL f c b with s:=b.s}):=s2;exact⟨v,e2,s1.trans s3,.vec _ _ _ _ l1 (fun i x t hx ht=>s3.rep (r1 i x t hx ht)) k2⟩
 |map n u s hl h0 _ ih=>
  intro b hg;rename_i c ks _;obtain⟨kvs,vs,e1,l1,s1,k1,r1⟩:=H7 f c ks hl ih b hg;have e:Bd.calls f (.mk 17 n u s ks c) b=(Bd.callsM f ks c b).endMap f ks b.s.length:=by
   rw [Bd.calls,if_neg (by omega),if_pos rfl]
  rw [e];obtain⟨v,kv,kvs',e2,s2,k2,v2,m2⟩:=Ul f ks b.s (Bd.callsM f ks c b) kvs vs s1.2 e1 (by rw [k1.1,l1,hl]) h0 k1 (Pf l1 r1);exact⟨v,e2,s1.trans s2,.map _ _ _ k2 v2 l1 (fun i x t hx ht=>s2.rep (r1 i x t hx ht)) m2⟩
theorem Xj(f:Nat)(t:Tr)(h:Ok t):∃v,(Bd.calls f t Bd.new).s=[v]∧D8 (Bd.calls f t Bd.new).b v t:=by
 obtain⟨v,e,_,r⟩:=Em f t h Bd.new On;exact⟨v,e,r⟩
end Go.Proofs.YtgbjodnegkbfoaaGreat
namespace Go.Proofs.YtgbjodnegkbfoaaGreat
open Go.RowKit Go.Acc
def Gf(n:Nat)(a m:Int):Bool:=decide (0≤a∧0≤m∧a+m≤n)
theorem De{n:Nat}{a m:Int}:Gf n a m=true↔0≤a∧0≤m∧a+m≤n:=by simp [Gf]
def Hv(q t v:Int):Bool:=Bc t&&Av q&&Av v
def Bj(n:Nat)(p q t v:Int):Int:=if Hv q t v=true then(if Gf n p q=true then 0 else 6) else 2
theorem Df{n:Nat}{p q t v:Int}:Bj n p q t v=0↔Hv q t v=true∧Gf n p q=true:=by
 unfold Bj;cases Hv q t v <;>cases Gf n p q <;>simp
theorem Cc{q t v:Int}:Hv q t v=true↔Bc t=true∧Av q=true∧Av v=true:=by
 simp [Hv,and_assoc]
def Bh(l:List UInt8)(p q t v:Int):Int:=
 if Bj l.length p q t v=0 then(if Aw t=true then 60 else if p<(loadU l p q:Int) then 211 else 0) else Bj l.length p q t v
def Bb(l:List UInt8)(p q t v:Int):Int:=if Bh l p q t v=0 then p-loadU l p q else 0
theorem Al7{l:List UInt8}{p q t v:Int}(h:Bj l.length p q t v=0):D6 l.length p q=0:=by
 obtain⟨h1,h2⟩:=Df.1 h;have h1:=Cc.1 h1;have h2:=De.1 h2;unfold D6;rw [if_pos h1.2.1,if_pos ⟨h2.1,h2.2.2⟩]
theorem Ms{l:List UInt8}{p q t v:Int}(h:Bj l.length p q t v≠0):Bh l p q t v=Bj l.length p q t v:=if_neg h
theorem Aps{l:List UInt8}{p q t v:Int}(h:Bj l.length p q t v≠0):Bb l p q t v=0:=by
 unfold Bb;rw [Ms h,if_neg h]
theorem Ab3{l:List UInt8}{p q t v:Int}(h:Bj l.length p q t v=0)(hi:Aw t=true):Bh l p q t v=60:=by
 unfold Bh;rw [if_pos h,if_pos hi]
theorem Apr{l:List UInt8}{p q t v:Int}(h:Bj l.length p q t v=0)(hi:Aw t=true):Bb l p q t v=0:=by
 unfold Bb;rw [Ab3 h hi];rfl
theorem Ab4{l:List UInt8}{p q t v:Int}(h:Bj l.length p q t v=0)(hi:Aw t=false)(hu:p<(loadU l p q:Int)):Bh l p q t v=211:=by
 unfold Bh;rw [if_pos h,if_neg (by simp [hi]),if_pos hu]
theorem Apt{l:List UInt8}{p q t v:Int}(h:Bj l.length p q t v=0)(hi:Aw t=false)(hu:p<(loadU l p q:Int)):Bb l p q t v=0:=by
 unfold Bb;rw [Ab4 h hi hu];rfl
theorem R0{l:List UInt8}{p q t v:Int}(h:Bj l.length p q t v=0)(hi:Aw t=false)(hu:¬p<(loadU l p q:Int)):Bh l p q t v=0:=by
 unfold Bh;rw [if_pos h,if_neg (by simp [hi]),if_neg hu]
theorem Ab5{l:List UInt8}{p q t v:Int}(h:Bj l.length p q t v=0)(hi:Aw t=false)(hu:¬p<(loadU l p q:Int)):Bb l p q t v=p-loadU l p q:=by
 unfold Bb;rw [R0 h hi hu];rfl
def Ec(l:List UInt8):Int:=
 if l.length<3∨Av ((l.getD (l.length-1) 0).toNat:Int)=false then 210
 else if Gk (l.getD (l.length-2) 0)≠0 then Gk (l.getD (l.length-2) 0)
 else if(l.length:Int)-2-(l.getD (l.length-1) 0).toNat<0∨((l.length:Int)-2-(l.getD (l.length-1) 0).toNat) % (l.getD (l.length-1) 0).toNat≠0 then 210 else 0
def Dl(l:List UInt8):Int×Int×Int×Int:=
 if Ec l=0 then((l.length:Int)-2-(l.getD (l.length-1) 0).toNat,(l.getD (l.length-1) 0).toNat,Jl (l.getD (l.length-2) 0),Kb (l.getD (l.length-2) 0)) else(0,0,0,0)
end Go.Proofs.YtgbjodnegkbfoaaGreat
namespace Go.Proofs.YtgbjodnegkbfoaaGreat
open Go.Acc
theorem M1(f:Nat→Bool)(h:f 8=true):(leastW f=1∨leastW f=2∨leastW f=4∨leastW f=8)∧f (leastW f)=true:=by
 unfold leastW;by_cases h1:f 1=true
 ·rw [if_pos h1];exact⟨Or.inl rfl,h1⟩
 ·by_cases h2:f 2=true
  ·rw [if_neg h1,if_pos h2];exact⟨Or.inr (Or.inl rfl),h2⟩
  ·by_cases h4:f 4=true
   ·rw [if_neg h1,if_neg h2,if_pos h4];exact⟨Or.inr (Or.inr (Or.inl rfl)),h4⟩
   ·rw [if_neg h1,if_neg h2,if_neg h4,if_pos h];exact⟨Or.inr (Or.inr (Or.inr rfl)),h⟩
theorem B5{w:Nat}:Av w=true↔w=1∨w=2∨w=4∨w=8:=by
 simp only [Av,decide_eq_true_eq];omega
theorem Qe{a:Nat}{v:Bv}(h:Ej a v)(i:Nat):Cb v a i 8=true:=by
 unfold Cb;cases e:inl v.t with
 |true=>simp [h.1 e]
 |false=>simp [h.2 e,Fe]
theorem Aad{a:Nat}:∀(vs:List Bv) (i:Nat),(∀x∈vs,Ej a x)→Dc a 8 i vs=true
 | [],_,_=>rfl
 |v::r,i,h=>by
  rw [Dc,Qe (h v (by simp)),Aad r (i+1) (fun x hx=>h x (by simp [hx]))];rfl
theorem Lp{a ahead:Nat}{k:Option Bv}{vs:List Bv}(hk:∀x,k=some x→Ej a x)(h:∀x∈vs,Ej a x):Av (Bl a ahead k vs)=true:=by
 refine B5.2 (M1 _ ?_).1;rw [Hh,Aad vs ahead h];cases k with
 |none=>simp [Wb,Fe]
 |some x=>simp [Wb,Fe,Qe (hk x rfl)]
theorem Dp.width{l:List UInt8}{t:Nat}{len tags:Bool}{vs:List Bv}{v:Bv}(h:Dp l t len tags vs v):v.t=t∧Av v.w=true:=by
 obtain⟨b,m,_,rfl,hf⟩:=h;exact⟨rfl,show Av ((Bl b.length (if len=true then 1 else 0) none vs:Nat):Int)=true from Lp (k:=none) (fun _ e=>by cases e) hf⟩
theorem Gq.width{l:List UInt8}{k:Bv}{vs:List Bv}{v:Bv}(h:Gq l k vs v):v.t=9∧Av v.w=true:=by
 obtain⟨b,m,_,rfl,hk,hf⟩:=h;exact⟨rfl,show Av ((Bl b.length 3 (some k) vs:Nat):Int)=true from Lp (k:=some k) (fun x e=>by injection e with e;exact e▸hk) hf⟩
theorem D1(u:Nat):Av (bWidth u)=true:=B5.2 (by unfold bWidth;(repeat' split) <;>simp)
theorem G4(n:Int):Av (bWidthI n)=true:=B5.2 (by unfold bWidthI;(repeat' split) <;>simp)
def Rf(t:Tr):Prop:=t.k=15∨t.k=16→t.l.length=2∨t.l.length=3∨t.l.length=4
theorem D8.legal{l:List UInt8}{v:Bv}{t:Tr}(h:D8 l v t)(hx:Rf t):Bc v.t=true∧Av v.w=true∧B9 v.t=t.k:=by
 cases h with
 |null=>exact⟨by decide,by decide,show B9 0=1 by decide⟩
 |truth n u s ks c=>exact⟨show Bc 26=true by decide,show Av 1=true by decide,show B9 26=2 by decide⟩
 |int n u s ks c=>exact⟨show Bc 1=true by decide,G4 n,show B9 1=3 by decide⟩
 |uint n u s ks c=>exact⟨show Bc 2=true by decide,D1 u,show B9 2=4 by decide⟩
 |key _ _ _ _ h=>rw [h.1,h.2.1];exact⟨by decide,by decide,show B9 4=5 by decide⟩
 |str _ _ _ _ h=>rw [h.1,h.2.1];exact⟨by decide,D1 _,show B9 5=6 by decide⟩
 |blob _ _ _ _ h=>rw [h.1,h.2.1];exact⟨by decide,D1 _,show B9 25=7 by decide⟩
 |indInt _ _ _ _ h=>rw [h.1,h.2.1];exact⟨by decide,G4 _,show B9 6=8 by decide⟩
 |indUint _ _ _ _ h=>rw [h.1,h.2.1];exact⟨by decide,D1 _,show B9 7=9 by decide⟩
 |ints _ _ _ _ h=>rw [h.width.1];exact⟨by decide,h.width.2,show B9 11=11 by decide⟩
 |uints _ _ _ _ h=>rw [h.width.1];exact⟨by decide,h.width.2,show B9 12=12 by decide⟩
 |bools _ _ _ _ h=>rw [h.width.1];exact⟨by decide,h.width.2,show B9 36=14 by decide⟩
 |keys _ _ _ _ _ h=>rw [h.width.1];exact⟨by decide,h.width.2,show B9 14=13 by decide⟩
 |vec _ _ _ _ _ _ h=>rw [h.width.1];exact⟨by decide,h.width.2,show B9 10=10 by decide⟩
 |map _ _ _ _ _ _ _ h=>rw [h.width.1];exact⟨by decide,h.width.2,show B9 9=17 by decide⟩
 |fixInts _ _ _ _ h=>
  rename_i c n u s ks;have hx:c.length=2∨c.length=3∨c.length=4:=hx (Or.inl rfl);have hw:=h.width.2;rw [h.width.1];rcases hx with e|e|e <;>rw [e]
  ·exact⟨by decide,hw,show B9 16=15 by decide⟩
  ·exact⟨by decide,hw,show B9 19=15 by decide⟩
  ·exact⟨by decide,hw,show B9 22=15 by decide⟩
 |fixUints _ _ _ _ h=>
  rename_i c n u s ks;have hx:c.length=2∨c.length=3∨c.length=4:=hx (Or.inr rfl);have hw:=h.width.2;rw [h.width.1];rcases hx with e|e|e <;>rw [e]
  ·exact⟨by decide,hw,show B9 17=16 by decide⟩
  ·exact⟨by decide,hw,show B9 20=16 by decide⟩
  ·exact⟨by decide,hw,show B9 23=16 by decide⟩
theorem Akf(t w:Nat)(ht:Bc t=true)(hw:Av w=true):Jl (UInt8.ofNat (4*t+bCode w))=t∧Kb (UInt8.ofNat (4*t+bCode w))=w∧Gk (UInt8.ofNat (4*t+bCode w))=0:=by
 have h37:=Fs.1 (Gz ht);have hc:bCode w<4:=by unfold bCode;(repeat' split) <;>omega
 have hn:(UInt8.ofNat (4*t+bCode w)).toNat=4*t+bCode w:=by
  rw [UInt8.toNat_ofNat'];omega
 have hd:(((UInt8.ofNat (4*t+bCode w)).toNat:Nat):Int)/4=t:=by rw [hn];omega
 have hm:(UInt8.ofNat (4*t+bCode w)).toNat % 4=bCode w:=by rw [hn];omega
 refine⟨by rw [Jl,hd,if_pos ht],?_,by rw [Gk,hd,if_pos ht]⟩;rw [Kb,hd,if_pos ht,hm];rcases B5.1 hw with rfl|rfl|rfl|rfl <;>rfl
theorem Fc{w:Nat}(hw:Av w=true)(b:List UInt8):(An w b).length=upN b.length w∧(An w b).length % w=0∧b.length≤(An w b).length:=by
 simp only [An,Ass,List.length_replicate,Lc,upN];rcases B5.1 hw with rfl|rfl|rfl|rfl <;>omega
theorem El{u w:Nat}(hw:Av w=true)(hu:u<2^64)(h:bWidth u≤w):u<2^(8*w):=by
 unfold bWidth at h;rcases B5.1 hw with rfl|rfl|rfl|rfl <;>(repeat' split at h) <;>omega
def Di(b:List UInt8)(v:Bv)(w:Nat):List UInt8:=An w b++Ai w (Ca w (An w b).length v)++ [C5 w v,UInt8.ofNat w]
theorem Alx(y:List UInt8)(a b:UInt8):(y++ [a,b]).length=y.length+2∧(y++ [a,b]).getD ((y++ [a,b]).length-1) 0=b∧(y++ [a,b]).getD ((y++ [a,b]).length-2) 0=a:=by
 refine⟨by simp,?_,?_⟩
 ·rw [As0,List.getElem?_append_right (by simp)];simp
 ·rw [As0,List.getElem?_append_right (by simp)];simp
def ownW(w:Nat)(v:Bv):Nat:=if inl v.t=true then w else v.w
theorem Amw{x b:List UInt8}{v:Bv}{w:Nat}(hx:x.length % 8=0)(hw:Av w=true)(ht:Bc v.t=true)(hv:Av v.w=true):
  Ec (x++Di b v w)=0∧Dl (x++Di b v w)=(((x.length+(An w b).length:Nat):Int),(w:Int),(v.t:Int),(ownW w v:Int)):=by
 obtain⟨y,hy⟩:∃y,x++(An w b++Ai w (Ca w (An w b).length v))=y:=⟨_,rfl⟩;have hl:x++Di b v w=y++ [C5 w v,UInt8.ofNat w]:=by rw [←hy,Di];simp only [Asx]
 have hn:y.length=x.length+(An w b).length+w:=by rw [←hy];simp only [Ass,Au];omega
 obtain⟨h1,h2,h3⟩:=Alx y (C5 w v) (UInt8.ofNat w);obtain⟨_,ha,_⟩:=Fc hw b;have how:Av (ownW w v)=true:=by unfold ownW;split <;>assumption
 obtain⟨t1,t2,t3⟩:=Akf v.t (ownW w v) ht how;have ht:C5 w v=UInt8.ofNat (4*v.t+bCode (ownW w v)):=rfl;rw [←ht] at t1 t2 t3;have hwb:(UInt8.ofNat w).toNat=w:=by
  rw [UInt8.toNat_ofNat'];rcases B5.1 hw with rfl|rfl|rfl|rfl <;>rfl
 have he:Ec (x++Di b v w)=0:=by
  rw [hl];unfold Ec;rw [h2,h3,hwb,t3,if_neg,if_neg (by simp),if_neg]
  ·rw [h1,hn];rcases B5.1 hw with rfl|rfl|rfl|rfl <;>omega
  ·rw [h1,hn,hw];rcases B5.1 hw with rfl|rfl|rfl|rfl <;>simp <;>omega
 refine⟨he,?_⟩;unfold Dl;rw [if_pos he,hl,h2,h3,hwb,t1,t2,h1,hn];simp only [Prod.mk.injEq,and_true];omega
theorem Ss(x b:List UInt8)(v:Bv)(w:Nat):(x++Di b v w).length=x.length+(An w b).length+w+2:=by
 simp only [Di,Ass,Au,List.length_cons,List.length_nil];omega
theorem Ma{v:Bv}{a i w:Nat}(hi:inl v.t=false)(h:Cb v a i w=true):v.n≤a∧bWidth (upN a w+i*w-v.n)≤w:=by
 unfold Cb at h;rw [if_neg (by simp [hi])] at h;exact of_decide_eq_true h
theorem L9{a w:Nat}:∀(vs:List Bv) (i j:Nat) (y:Bv),Dc a w i vs=true→vs[j]?=some y→Cb y a (i+j) w=true
 | [],_,_,_,_,h=>by simp at h
 |v::r,i,0,y,hf,h=>by
  rw [Dc,Bool.and_eq_true] at hf;have e:v=y:=by simpa using h
  subst e;exact hf.1
 |v::r,i,j+1,y,hf,h=>by
  rw [Dc,Bool.and_eq_true] at hf;have:=L9 r (i+1) j y hf.2 (by simpa using h)
  rwa [show i+1+j=i+(j+1) by omega] at this
def Y9(w p:Nat)(y:Bv):Prop:=(inl y.t=true→y.w≤w)∧(inl y.t=false→y.n≤p∧p-y.n<2^(8*w))
theorem V8{y:Bv}{a i w:Nat}(hw:Av w=true)(hs:upN a w+i*w<2^40)(h:Cb y a i w=true):Y9 w (upN a w+i*w) y:=by
 refine⟨fun e=>?_,fun e=>?_⟩
 ·unfold Cb at h;rw [if_pos e] at h;exact of_decide_eq_true h
 ·obtain⟨h1,h2⟩:=Ma e h;have hup:a≤upN a w:=by
   unfold upN;rcases B5.1 hw with rfl|rfl|rfl|rfl <;>omega
  exact⟨by omega,El hw (by omega) h2⟩
theorem Mx{a ahead:Nat}{k:Option Bv}{vs:List Bv}(hk:∀x,k=some x→Ej a x)(h:∀x∈vs,Ej a x):
  (ahead=0∨bWidth vs.length≤Bl a ahead k vs)∧(∀x,k=some x→Cb x a 0 (Bl a ahead k vs)=true)∧Dc a (Bl a ahead k vs) ahead vs=true:=by
 have h8:Hh a ahead k vs 8=true:=by
  rw [Hh,Aad vs ahead h];cases k with
  |none=>simp [Wb,Fe]
  |some x=>simp [Wb,Fe,Qe (hk x rfl)]
 have hf:Hh a ahead k vs (Bl a ahead k vs)=true:=(M1 _ h8).2;rw [Hh,Bool.and_eq_true,Bool.and_eq_true,Bool.or_eq_true,decide_eq_true_eq,decide_eq_true_eq] at hf;refine⟨hf.1.1,fun x e=>?_,hf.2⟩;subst e;exact hf.1.2
structure Ard(L:List UInt8)(s:Nat)(len tags:Bool)(vs:List Bv)(v:Bv):Prop where
 w:Av v.w=true
 len:len=true→∃c,v.n=c+v.w∧At L (s+c) (Ai v.w vs.length)∧vs.length<2^(8*v.w)
 el:∀(i:Nat) y,vs[i]?=some y→At L (s+(v.n+i*v.w)) (Ai v.w (Ca v.w (v.n+i*v.w) y))∧Y9 v.w (v.n+i*v.w) y
 tags:tags=true→At L (s+(v.n+vs.length*v.w)) (vs.map (C5 v.w))
 le:s+(v.n+vs.length*v.w)≤L.length
theorem Dp.facts{l:List UInt8}{t:Nat}{len tags:Bool}{vs:List Bv}{v:Bv}(h:Dp l t len tags vs v)(hb:l.length<2^32)(x:List UInt8):Ard (x++l) x.length len tags vs v:=by
 have hw0:=h.width.2;obtain⟨b,m,rfl,rfl,hf⟩:=h;obtain⟨f1,_,f3⟩:=Mx (a:=b.length) (ahead:=if len=true then 1 else 0) (k:=none) (fun _ e=>by cases e) hf;have hw:Av ((Bl b.length (if len=true then 1 else 0) none vs:Nat):Int)=true:=hw0;clear hw0;obtain⟨w,hwd⟩:∃w,Bl b.length (if len=true then 1 else 0) none vs=w:=⟨_,rfl⟩;obtain⟨c,hc⟩:∃c,An w b++(if len=true then Ai w vs.length else [])=c:=⟨_,rfl⟩;simp only [Bk,hwd,hc] at hb hw f1 f3⊢;obtain⟨a1,a2,a3⟩:=Fc hw b;obtain⟨q,e,hq⟩:=Fa w vs c;have hcl:c.length=upN b.length w+(if len=true then 1 else 0)*w:=by
  rw [←hc,Ass,a1];cases len <;>simp [Au]
 have hlen:c.length+w*vs.length≤(Bt w c vs++(if tags=true then vs.map (C5 w) else [])++m).length:=by
  rw [e];simp only [Ass,hq];omega
 have hvl:vs.length≤w*vs.length:=Nat.le_mul_of_pos_left _ (by rcases B5.1 hw with rfl|rfl|rfl|rfl <;>omega);refine⟨hw,fun hl=>?_,fun i y hy=>?_,fun ht=>?_,?_⟩
 ·subst hl;simp only [if_true] at hc hcl f1;refine⟨(An w b).length,by simp only [hcl];omega,?_,El hw (by omega) (f1.resolve_left (by omega))⟩;refine At.ahead ?_ x;refine At.app ?_ m;refine At.app ?_ _;rw [e,←hc];exact(At.last _ _).app q
 ·have hi:i<vs.length:=by
   rw [←Nat.not_le];intro hn;rw [List.getElem?_eq_none hn] at hy;cases hy
  have hiw:i*w≤w*vs.length:=by rw [Nat.mul_comm];exact Nat.mul_le_mul_left _ (by omega)
  refine⟨At.ahead (((Qa w vs c i y hy).app _).app m) x,?_⟩;have h1:=L9 vs _ i y f3 hy;have h2:upN b.length w+((if len=true then 1 else 0)+i)*w=c.length+i*w:=by rw [hcl,Nat.add_mul,Nat.add_assoc]
  have h3:=V8 hw (by rw [h2];omega) h1;rw [h2] at h3;exact h3
 ·subst ht;refine At.ahead ?_ x;refine At.app ?_ m;have:(Bt w c vs).length=c.length+vs.length*w:=by rw [e,Ass,hq,Nat.mul_comm]
  rw [←this];exact At.last _ _
 ·show x.length+(c.length+vs.length*w)≤_;rw [Ass,Nat.mul_comm vs.length];omega
structure Arc(L:List UInt8)(s:Nat)(k:Bv)(vs:List Bv)(v:Bv):Prop where
 w:Av v.w=true
 head:∃c,v.n=c+3*v.w∧At L (s+c) (Ai v.w (c-k.n))∧k.n≤c∧c-k.n<2^(8*v.w)∧At L (s+(c+v.w)) (Ai v.w k.w)∧At L (s+(c+2*v.w)) (Ai v.w vs.length)∧vs.length<2^(8*v.w)
 el:∀(i:Nat) y,vs[i]?=some y→At L (s+(v.n+i*v.w)) (Ai v.w (Ca v.w (v.n+i*v.w) y))∧Y9 v.w (v.n+i*v.w) y
 tags:At L (s+(v.n+vs.length*v.w)) (vs.map (C5 v.w))
 le:s+(v.n+vs.length*v.w)≤L.length
theorem Gq.facts{l:List UInt8}{k:Bv}{vs:List Bv}{v:Bv}(h:Gq l k vs v)(hk0:inl k.t=false)(hb:l.length<2^32)(x:List UInt8):Arc (x++l) x.length k vs v:=by
 have hw0:=h.width.2;obtain⟨b,m,rfl,rfl,hk,hf⟩:=h;obtain⟨f1,f2,f3⟩:=Mx (a:=b.length) (ahead:=3) (k:=some k) (fun x e=>by injection e with e;exact e▸hk) hf;have f2:=f2 k rfl;have hw:Av ((Bl b.length 3 (some k) vs:Nat):Int)=true:=hw0;clear hw0;obtain⟨w,hwd⟩:∃w,Bl b.length 3 (some k) vs=w:=⟨_,rfl⟩;obtain⟨a,ha⟩:∃a,An w b=a:=⟨_,rfl⟩;obtain⟨c,hc⟩:∃c,a++Ai w (a.length-k.n)++Ai w k.w++Ai w vs.length=c:=⟨_,rfl⟩;simp only [E7,hwd,ha,hc] at hb hw f1 f2 f3⊢;obtain⟨a1,a2,a3⟩:=Fc hw b;rw [ha] at a1 a2 a3;obtain⟨q,e,hq⟩:=Fa w vs c;have hcl:c.length=a.length+3*w:=by
  rw [←hc];simp only [Ass,Au];omega
 have hlen:c.length+w*vs.length≤(Bt w c vs++vs.map (C5 w)++m).length:=by
  rw [e];simp only [Ass,hq];omega
 have hvl:vs.length≤w*vs.length:=Nat.le_mul_of_pos_left _ (by rcases B5.1 hw with rfl|rfl|rfl|rfl <;>omega);obtain⟨g1,g2⟩:=Ma hk0 f2;rw [Nat.zero_mul,Nat.add_zero,←a1] at g2;refine⟨hw,⟨a.length,hcl,?_,by omega,El hw (by omega) g2,?_,?_,El hw (by omega) (f1.resolve_left (by omega))⟩,fun i y hy=>?_,?_,?_⟩
 ·refine At.ahead (At.app (At.app ?_ _) m) x;rw [e,←hc];exact(((At.last a _).app _).app _).app q
 ·refine At.ahead (At.app (At.app ?_ _) m) x;rw [e,←hc];have:=At.last (a++Ai w (a.length-k.n)) (Ai w k.w);rw [Ass,Au] at this;exact(this.app _).app q
 ·refine At.ahead (At.app (At.app ?_ _) m) x;rw [e,←hc];have:=At.last (a++Ai w (a.length-k.n)++Ai w k.w) (Ai w vs.length);rw [Ass,Ass,Au,Au,show a.length+w+w=a.length+2*w by omega] at this;exact this.app q
 ·have hi:i<vs.length:=by
   rw [←Nat.not_le];intro hn;rw [List.getElem?_eq_none hn] at hy;cases hy
  have hiw:i*w≤w*vs.length:=by rw [Nat.mul_comm];exact Nat.mul_le_mul_left _ (by omega)
  refine⟨At.ahead (((Qa w vs c i y hy).app _).app m) x,?_⟩;have h1:=L9 vs _ i y f3 hy;have h2:upN b.length w+(3+i)*w=c.length+i*w:=by rw [hcl,Nat.add_mul,a1,Nat.add_assoc]
  have h3:=V8 hw (by rw [h2];omega) h1;rw [h2] at h3;exact h3
 ·refine At.ahead (At.app ?_ m) x;have:(Bt w c vs).length=c.length+vs.length*w:=by rw [e,Ass,hq,Nat.mul_comm]
  rw [←this];exact At.last _ _
 ·show x.length+(c.length+vs.length*w)≤_;rw [Ass,Nat.mul_comm vs.length];omega
def Az(k:Int):Int:=if k=10∨k=17 then 0 else if k=11∨k=15 then 3 else if k=12∨k=16 then 4 else if k=13 then 5 else if k=14 then 2 else -1
def Fi(t:Tr):Bool:=
 decide (1≤t.k∧t.k≤17)&&decide (t.k=2∨t.k=3∨t.k=8∨t.n=0)&&decide (t.k=4∨t.k=9∨t.u=0)&&decide (t.k=5∨t.k=6∨t.k=7∨t.s=[])&&decide (t.k=17∨t.ks=[])&&decide (t.k=2→t.n=0∨t.n=1)&&decide (t.k=17→t.ks.length=t.l.length)&&decide (t.k=15∨t.k=16→2≤t.l.length∧t.l.length≤4)&&t.l.all fun x=>decide (Az t.k=0∨x.k=Az t.k)
def Br(s:List UInt8):Bool:=s.any fun c=>c==0
def Jz(ez et:Int):List (List UInt8)→List (List UInt8)→Int
 |_,[]=>0
 |had,k::r=>if Br k=true then ez else if had.contains k=true then et else Jz ez et (k::had) r
def Hx(ez et:Int)(t:Tr):Int:=if t.k=5∧Br t.s=true then ez else Jz ez et [] t.ks
structure Zb where
 limit:Int
 deep:Int
 kind:Int
 key:Int
 twice:Int
mutual
def Hk(e:Zb)(d:Nat):Tr→Nat→Int×Nat
 | .mk k n u s ks l,c=>
  if c+1>4096 then(e.limit,c+1)
  else if d≥64 then(e.deep,c+1)
  else if Fi (.mk k n u s ks l)=false then(e.kind,c+1)
  else if Hx e.key e.twice (.mk k n u s ks l)≠0 then(Hx e.key e.twice (.mk k n u s ks l),c+1)
  else Oi e (d+1) l (c+1)
def Oi(e:Zb)(d:Nat):List Tr→Nat→Int×Nat
 | [],c=>(0,c)
 |t::r,c=>if(Hk e d t c).1≠0 then Hk e d t c else Oi e d r (Hk e d t c).2
end
theorem Lk{s:List UInt8}(h:Br s=false):(0:UInt8)∉s:=by
 intro hm;have:Br s=true:=List.any_eq_true.2 ⟨0,hm,by simp⟩;rw [h] at this;cases this
theorem Aao{ez et:Int}(hz:ez≠0)(ht:et≠0):∀(l had:List (List UInt8)),Jz ez et had l=0→(∀s∈l,(0:UInt8)∉s)∧l.Nodup∧∀s∈l,s∉had
 | [],_,_=>⟨fun s h=>by simp at h,List.nodup_nil,fun s h=>by simp at h⟩
 |k::r,had,h=>by
  unfold Jz at h;by_cases h1:Br k=true
  ·rw [if_pos h1] at h;exact absurd h hz
  ·by_cases h2:had.contains k=true
   ·rw [if_neg h1,if_pos h2] at h;exact absurd h ht
   ·rw [if_neg h1,if_neg h2] at h;obtain⟨a,b,c⟩:=Aao hz ht r (k::had) h;have hk:k∉had:=fun hm=>h2 (by simpa using hm)
    refine⟨fun s hs=>?_,List.nodup_cons.2 ⟨fun hm=>c k hm (by simp),b⟩,fun s hs=>?_⟩
    ·rcases List.mem_cons.1 hs with rfl|hs
     ·exact Lk (by simpa using h1)
     ·exact a s hs
    ·rcases List.mem_cons.1 hs with rfl|hs
     ·exact hk
     ·exact fun hm=>c s hs (by simp [hm])
end Go.Proofs.YtgbjodnegkbfoaaGreat
