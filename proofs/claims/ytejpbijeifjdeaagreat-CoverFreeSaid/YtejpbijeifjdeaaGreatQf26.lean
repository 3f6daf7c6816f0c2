/- Parts of the proof. -/
import Derived.Test.YtejpbijeifjdeaaGreatQf25
open List renaming getElem?_eq_getElem→Ag,append_assoc→Am,mem_of_getElem?→Aq,mem_append_left→Ar,length_map→As,length_cons→Au,length_nil→Aw,nil_append→A6,mem_append_right→Bf,getElem?_eq_none→Bg
open Nat renaming zero_add→Av
open Go.Proofs.Tryz
open Go.Proofs.Tryz renaming prog→Ad
namespace Go.Proofs.YtejpbijeifjdeaaGreat
variable {k p q n K T:Int}{l L s:List UInt8}{vs kvs:List Bv}{pss:List (List P3)}{ks:List (List UInt8)}{P:Int→Int→Int→Int→Prop}{v:Bv}{z w u t:Nat}{r:Rq}{x:P3}
section
open Go.Acc
mutual
def Tr.refs:Tr→Nat
 | .mk k _ _ _ ks l=>if k=10 then 1+Tr.refsL l else if k=17 then 2+ks.length+Tr.refsL l else if k≤9 then 1 else 1+l.length
def Tr.refsL:List Tr→Nat
 | []=>0
 |t::r=>t.refs+Tr.refsL r
end
theorem Rm(t:Tr):1≤t.refs:=by
 obtain⟨k,n,u,s,ks,l⟩:=t;rw [Tr.refs]
 (repeat' split) <;>omega
theorem Nd:∀(l:List Tr),l.length≤Tr.refsL l
 | []=>Nat.zero_le _
 |t::r=>by
  have:=Nd r;have h1:=Rm t;rw [Tr.refsL,Au];omega
def lR(f:Nat)(t:Tr):Prop:=∀b log,Gx f b log→∃v ps log',(Bd.calls f t b).s=b.s++ [v]∧Fw f b log (Bd.calls f t b) log' ps (t.refs-1)∧Rp (Bd.calls f t b).b v t ps
theorem Adc(f:Nat)(n:Int)(u:Nat)(s:List UInt8)(ks:List (List UInt8))(c:List Tr)(h1:1≤k)(h2:k≤9)(b:Bd)(log:List P3)(h:Gx f b log):∃v ps log',(b.leaf f k n u s).s=b.s++ [v]∧Fw f b log (b.leaf f k n u s) log' ps 0∧Rp (b.leaf f k n u s).b v (.mk k n u s ks c) ps:=by
 obtain rfl|rfl|rfl|rfl|rfl|rfl|rfl|rfl|rfl:k=1∨k=2∨k=3∨k=4∨k=5∨k=6∨k=7∨k=8∨k=9:=by omega
 ·exact⟨_,_,_,rfl,J6 h _,.null _ _ _ _ _⟩
 ·exact⟨_,_,_,rfl,J6 h _,.truth _ _ _ _ _⟩
 ·exact⟨_,_,_,rfl,J6 h _,.int _ _ _ _ _⟩
 ·exact⟨_,_,_,rfl,J6 h _,.uint _ _ _ _ _⟩
 ·obtain⟨v,log',e,a,k,_⟩:=zH f s b h;exact⟨v,_,log',e,a,.key _ _ _ _ k⟩
 ·obtain⟨v,log',e,a,k⟩:=Aem f s b h;exact⟨v,_,log',e,a,.str _ _ _ _ k⟩
 ·obtain⟨v,log',e,a,k⟩:=Acl f s b h;exact⟨v,_,log',e,a,.blob _ _ _ _ k⟩
 ·obtain⟨v,log',e,a,k⟩:=jL f 6 (bWidthI n) (bits n) 12 (by decide) b h (V6 n);exact⟨v,_,log',e,a,.indInt _ _ _ _ k⟩
 ·obtain⟨v,log',e,a,k⟩:=jL f 7 (bWidth u) u 13 (by decide) b h (M6 u);exact⟨v,_,log',e,a,.indUint _ _ _ _ k⟩
theorem Ac4(f:Nat)(n:Int)(u:Nat)(s:List UInt8)(ks:List (List UInt8))(c:List Tr)(h1:11≤k)(h2:k≤16)(b:Bd)(log:List P3)(h:Gx f b log):∃v ps log',(b.flat f k c).s=b.s++ [v]∧Fw f b log (b.flat f k c) log' ps c.length∧Rp (b.flat f k c).b v (.mk k n u s ks c) ps:=by
 obtain rfl|rfl|rfl|rfl|rfl|rfl:k=11∨k=12∨k=13∨k=14∨k=15∨k=16:=by omega
 ·obtain⟨v,log',e,a,k⟩:=Ru f 11 true false (c.map fun t=>C5 t.n) b h (fun x hx=>by obtain⟨t,_,rfl⟩:=List.mem_map.1 hx;exact Mn _ _);rw [As] at a;exact⟨v,_,log',e,a,.ints _ _ _ _ k⟩
 ·obtain⟨v,log',e,a,k⟩:=Ru f 12 true false (c.map fun t=>C9 t.u) b h (fun x hx=>by obtain⟨t,_,rfl⟩:=List.mem_map.1 hx;exact Ms _ _);rw [As] at a;exact⟨v,_,log',e,a,.uints _ _ _ _ k⟩
 ·obtain⟨o,i,g,j⟩:=tI f (c.map Tr.s) b log h;obtain⟨v,log',e,a,k⟩:=Ru f 14 true false (b.puts f (c.map Tr.s)).2 (b.puts f (c.map Tr.s)).1 i.goodq g.fit;have d:=i.trans a;rw [g.1,As,Av] at d;refine⟨v,_,log',e.trans (by rw [j]),d,.keys _ _ _ _ ?_ k⟩;obtain⟨m,l⟩:=a.app;exact l▸g.app m
 ·obtain⟨v,log',e,a,k⟩:=Ru f 36 true false (c.map fun t=>Dh t.n) b h (fun x hx=>by obtain⟨t,_,rfl⟩:=List.mem_map.1 hx;exact Rr _ _);rw [As] at a;exact⟨v,_,log',e,a,.bools _ _ _ _ k⟩
 ·obtain⟨v,log',e,a,k⟩:=Ru f (10+3*c.length) false false (c.map fun t=>C5 t.n) b h (fun x hx=>by obtain⟨t,_,rfl⟩:=List.mem_map.1 hx;exact Mn _ _);rw [As] at a;exact⟨v,_,log',e,a,.fixInts _ _ _ _ k⟩
 ·obtain⟨v,log',e,a,k⟩:=Ru f (11+3*c.length) false false (c.map fun t=>C9 t.u) b h (fun x hx=>by obtain⟨t,_,rfl⟩:=List.mem_map.1 hx;exact Ms _ _);rw [As] at a;exact⟨v,_,log',e,a,.fixUints _ _ _ _ k⟩
theorem bH(f:Nat):∀(c:List Tr),(∀t∈c,lR f t)→∀b log,Gx f b log→∃(vs:List Bv) (pss:List (List P3)) (log':List P3),(Bd.callsL f c b).s=b.s++vs∧vs.length=c.length∧pss.length=c.length∧Fw f b log (Bd.callsL f c b) log' pss.flatten (Tr.refsL c-c.length)∧
  ∀(i:Nat) x t ps,vs[i]?=some x→c[i]?=some t→pss[i]?=some ps→Rp (Bd.callsL f c b).b x t ps
 | [],_,b,log,h=>⟨[],[],log,by simp [Bd.callsL],rfl,rfl,⟨⟨[],by simp [Bd.callsL]⟩,h,fun _=>by simp,fun _ _ e=>e,fun _=>rfl⟩,fun i x t ps h=>by simp at h⟩
 |t::r,hd,b,log,h=>by
  obtain⟨v,ps,m,j,a,q⟩:=hd t (by simp) b log h;obtain⟨vs,pss,n,k,o,p,d,u⟩:=bH f r (fun t ht=>hd t (by simp [ht])) (Bd.calls f t b) m a.goodq;have g:=a.trans d;have l:t.refs-1+(Tr.refsL r-r.length)=Tr.refsL (t::r)-(t::r).length:=by
   have h1:=Rm t;have h2:=Nd r;rw [Tr.refsL,Au];omega
  rw [l] at g;refine⟨v::vs,ps::pss,n,by rw [Bd.callsL,k,j,Am];rfl,by simp [o],by simp [p],by rw [Bd.callsL];exact g,fun i x t' qs hx ht hq=>?_⟩;rw [Bd.callsL];cases i with
  |zero=>
   simp only [List.getElem?_cons_zero,Option.some.injEq] at hx ht hq;subst hx ht hq;exact d.rp q
  |succ i=>
   simp only [List.getElem?_cons_succ] at hx ht hq;exact u i x t' qs hx ht hq
theorem kT{c:List Tr}(hl:vs.length=c.length)(hp:pss.length=c.length)(h:∀(i:Nat) x t ps,vs[i]?=some x→c[i]?=some t→pss[i]?=some ps→Rp l x t ps):∀x∈vs,Eu l.length x:=
 Ow hl fun i x t hx ht=>(h i x t _ hx ht (Ag (by rw [hp];exact(List.getElem?_eq_some_iff.1 ht).1))).rep
theorem bI(f:Nat):∀(c:List Tr) (ks:List (List UInt8)),ks.length=c.length→(∀t∈c,lR f t)→∀b log,Gx f b log→∃(kvs vs:List Bv) (pss:List (List P3)) (log':List P3),(Bd.callsM f ks c b).s=b.s++E6 kvs vs∧vs.length=c.length∧pss.length=c.length∧
  Fw f b log (Bd.callsM f ks c b) log' (Hp ks kvs++pss.flatten) (Tr.refsL c-c.length)∧Dp (Bd.callsM f ks c b).b ks kvs∧(Fq f 1=true→∀(j:Nat) s v,ks[j]?=some s→kvs[j]?=some v→Cf (Bd.callsM f ks c b).keys s=some v.n)∧
  ∀(i:Nat) x t ps,vs[i]?=some x→c[i]?=some t→pss[i]?=some ps→Rp (Bd.callsM f ks c b).b x t ps
 | [],ks,hk,_,b,log,h=>by
  obtain rfl:ks=[]:=List.eq_nil_of_length_eq_zero hk;exact⟨[],[],[],log,by simp [Bd.callsM,E6],rfl,rfl,⟨⟨[],by simp [Bd.callsM]⟩,h,fun _=>by simp [Hp],fun _ _ e=>e,fun _=>rfl⟩,⟨rfl,fun i x t h=>by simp at h⟩,fun _ i s v h=>by simp at h,fun i x t ps h=>by simp at h⟩
 |t::r,[],hk,_,_,_,_=>by simp at hk
 |t::r,s::ks,hk,hd,b,log,h=>by
  obtain⟨D,E,p,g,C,z⟩:=zH f s b h;obtain⟨v,ps,F,q,k,J⟩:=hd t (by simp) (b.key f s) E g.goodq;obtain⟨kvs,vs,pss,G,u,H,I,l,d,A,K⟩:=bI f r ks (by simpa using hk) (fun t ht=>hd t (by simp [ht])) (Bd.calls f t (b.key f s)) F k.goodq;have w:Bd.callsM f (s::ks) (t::r) b=Bd.callsM f ks r (Bd.calls f t (b.key f s)):=by rw [Bd.callsM];rfl
  rw [w];have a:=k.trans l;have B:t.refs-1+(Tr.refsL r-r.length)=Tr.refsL (t::r)-(t::r).length:=by
   have h1:=Rm t;have h2:=Nd r;rw [Tr.refsL,Au];omega
  have o:=g.trans a;rw [B,Av] at o;refine⟨D::kvs,v::vs,ps::pss,G,by rw [u,q,p];simp [E6],by simp [H],by simp [I],o.sub (fun x=>?_) rfl,⟨by simp [d.1],fun i x v' hx hv=>?_⟩,fun hf i x v' hx hv=>?_,fun i x t' qs hx ht hq=>?_⟩
  ·simp only [Hp,List.flatten_cons,List.mem_append,List.mem_cons,List.not_mem_nil,or_false];refine or_congr_right ?_;constructor
   ·rintro((h|h)|h|h)
    ·exact .inl h
    ·exact .inr (.inr (.inl h))
    ·exact .inr (.inl h)
    ·exact .inr (.inr (.inr h))
   ·rintro(h|h|h|h)
    ·exact .inl (.inl h)
    ·exact .inr (.inl h)
    ·exact .inl (.inr h)
    ·exact .inr (.inr h)
  ·cases i with
   |zero=>
    simp only [List.getElem?_cons_zero,Option.some.injEq] at hx hv;subst hx hv;obtain⟨m,y⟩:=a.app;rw [y];exact C.app m
   |succ i=>
    simp only [List.getElem?_cons_succ] at hx hv;exact d.2 i x v' hx hv
  ·cases i with
   |zero=>
    simp only [List.getElem?_cons_zero,Option.some.injEq] at hx hv;subst hx hv;exact a.keys _ _ (z hf)
   |succ i=>
    simp only [List.getElem?_cons_succ] at hx hv;exact A hf i x v' hx hv
  ·cases i with
   |zero=>
    simp only [List.getElem?_cons_zero,Option.some.injEq] at hx ht hq;subst hx ht hq;exact l.rp J
   |succ i=>
    simp only [List.getElem?_cons_succ] at hx ht hq;exact K i x t' qs hx ht hq
theorem rX{l':List UInt8}{kvs':List Bv}(h:Dp l ks kvs)(h':Dp l' ks kvs')(g:∀(j:Nat) s v v',ks[j]?=some s→kvs[j]?=some v→kvs'[j]?=some v'→v.n=v'.n):kvs=kvs':=by
 refine List.ext_getElem? fun i=>?_
 by_cases a:i<ks.length
 ·have h1:kvs[i]?=some (kvs[i]'(by rw [h.1];exact a)):=Ag _;have h2:kvs'[i]?=some (kvs'[i]'(by rw [h'.1];exact a)):=Ag _;have h3:ks[i]?=some ks[i]:=Ag a;obtain⟨b,c,_⟩:=h.2 i _ _ h3 h1;obtain⟨d,e,_⟩:=h'.2 i _ _ h3 h2;have:=g i _ _ _ h3 h1 h2;rw [h1,h2];generalize kvs[i]'(by rw [h.1];exact a)=x at*;generalize kvs'[i]'(by rw [h'.1];exact a)=y at*;obtain⟨k,m,f⟩:=x;obtain⟨p,q,o⟩:=y;simp only at b c d e this;subst b c d e this;rfl
 ·rw [Bg (by rw [h.1];omega),Bg (by rw [h'.1];omega)]
theorem vY(f:Nat)(hfl:Fq f 4=true→Fq f 1=true)(ks:List (List UInt8))(st:List Bv)(b:Bd)(log:List P3)(kvs vs:List Bv)(h:Gx f b log)(hs:b.s=st++E6 kvs vs)(hl:kvs.length=vs.length)(h0:∀x∈ks,(0:UInt8)∉x)(hk:Dp b.b ks kvs)
  (hkp:∀x∈Hp ks kvs,x∈log) (hg:Fq f 1=true→∀(j:Nat) s v,ks[j]?=some s→kvs[j]?=some v→Cf b.keys s=some v.n) (hf:∀x∈vs,Eu b.b.length x):
  ∃v kv log',(b.endMap f ks st.length).s=st++ [v]∧Fw f b log (b.endMap f ks st.length) log' (Gh true false kvs kv++Nn vs v) (kvs.length+vs.length+1)∧
   Dp (b.endMap f ks st.length).b ks kvs∧Dc (b.endMap f ks st.length).b 14 true false kvs kv∧G5 (b.endMap f ks st.length).b kv vs v:=by
 obtain⟨N,O⟩:=I7 kvs vs hl;have L:b.s.drop st.length=E6 kvs vs:=by rw [hs];simp
 have ht:b.s.take st.length=st:=by rw [hs];simp
 obtain⟨_,_,_,_,P,_,_,_⟩:=Qu f ks st b kvs vs h.good hs hl h0 hk hf;have d:=P.2;revert d;unfold Bd.endMap;simp only [L,ht,N,O];have g:(ks.flatMap fun s=>s++ [0])=Dg ks:=rfl;rw [g];split
 ·next i hi=>
  intro _;split at hi
  ·next h4=>
   have h1:=hfl h4;obtain⟨kv,c,o,C,z,E,q⟩:=h.lists ks h0 i hi;have G:c=kvs:=rX C hk fun j s x y hs hx hy=>by
    have a:=q h1 j s x hs hx;rw [hg h1 j s y hs hy] at a;exact(Option.some.inj a).symm
   subst G;have F:b.vals.getD i ⟨0,0,0⟩=kv:=by rw [List.getD_eq_getElem?_getD,o];rfl
   rw [F];obtain⟨m,p⟩:=Q9 kv vs b.b;have u:=gI h.tile kv z.fit hf;refine⟨(Ef kv vs b.b).2,kv,log++Nn vs (Ef kv vs b.b).2,rfl,⟨⟨m,p⟩,h.app u (fun _ hx=>Ar _ hx) m p rfl rfl rfl rfl,fun x=>?_,fun _ _ e=>e,fun hz=>?_⟩,?_,?_,b.b,[],by simp,rfl,z.fit,hf⟩
   ·simp only [List.mem_append] at E⊢;constructor
    ·rintro(h|h)
     ·exact .inl h
     ·exact .inr (.inr h)
    ·rintro(h|h|h)
     ·exact .inl h
     ·exact .inl (E x (.inr h))
     ·exact .inr h
   ·rw [hz] at h4;exact absurd h4 (by decide)
   ·show Dp (Ef kv vs b.b).1 ks c;rw [p];exact C.app m
   ·show Dc (Ef kv vs b.b).1 14 true false c kv;rw [p];exact z.app m
  ·cases hi
 ·intro d;obtain⟨D,o⟩:=Mt 14 true false kvs b.b;obtain⟨w,A⟩:=Q9 (Cd 14 true false kvs b.b).2 vs (Cd 14 true false kvs b.b).1;have e:(Ef (Cd 14 true false kvs b.b).2 vs (Cd 14 true false kvs b.b).1).1=b.b++(D++w):=by rw [A,o,Am]
  have B:Dc (Ef (Cd 14 true false kvs b.b).2 vs (Cd 14 true false kvs b.b).1).1 14 true false kvs (Cd 14 true false kvs b.b).2:=⟨b.b,w,A,rfl,hk.fit⟩;have k:Eu (Cd 14 true false kvs b.b).1.length (Cd 14 true false kvs b.b).2:=by
   have:=Rt 14 true false kvs b.b []
   rwa [List.append_nil] at this
  have l:∀x∈vs,Eu (Cd 14 true false kvs b.b).1.length x:=fun x hx=>(hf x hx).mono (by rw [o];simp)
  have t:=gI (gJ h.tile 14 true false hk.fit) (Cd 14 true false kvs b.b).2 k l;refine⟨(Ef (Cd 14 true false kvs b.b).2 vs (Cd 14 true false kvs b.b).1).2,(Cd 14 true false kvs b.b).2,log++Gh true false kvs (Cd 14 true false kvs b.b).2++Nn vs (Ef (Cd 14 true false kvs b.b).2 vs (Cd 14 true false kvs b.b).1).2,rfl,
   ⟨⟨D++w,e⟩,⟨t,d,fun s a i=>?_,fun s a i y hy=>?_,fun ks' h0' i j=>?_⟩,fun x=>?_,fun _ _ e=>e,fun _=>?_⟩,e▸hk.app _,B,(Cd 14 true false kvs b.b).1,[],by simp,rfl,k,l⟩
  ·exact Ar _ (Ar _ (h.keys s a i))
  ·exact Ar _ (Ar _ (h.texts s a i y hy))
  ·rcases Jw j with j|⟨M,rfl⟩
   ·obtain⟨kv,c,q,H,I,J,K⟩:=h.lists ks' h0' i j;have r:=h.good.vals _ i j;exact⟨kv,c,(List.getElem?_append_left r).trans q,e▸H.app _,e▸I.app _,fun y hy=>Ar _ (Ar _ (J y hy)),K⟩
   ·have:=Q1 ks' ks h0' h0 M;subst this;refine⟨_,kvs,?_,e▸hk.app _,B,fun y hy=>?_,hg⟩
    ·simp
    ·rcases List.mem_append.1 hy with hy|hy
     ·exact Ar _ (Ar _ (hkp y hy))
     ·exact Ar _ (Bf _ hy)
  ·rw [Am,List.mem_append]
  ·rw [Fp,Fp,Zt,sV];omega
theorem Aad(f:Nat)(hfl:Fq f 4=true→Fq f 1=true)(t:Tr)(h:Ok t):lR f t:=by
 induction h with
 |leaf n u s ks c h1 h2=>
  intro b a j;rename_i k;have e:Bd.calls f (.mk k n u s ks c) b=b.leaf f k n u s:=by
   rw [Bd.calls,if_neg (by omega),if_neg (by omega),if_pos h2]
  have g:Tr.refs (.mk k n u s ks c)-1=0:=by rw [Tr.refs,if_neg (by omega),if_neg (by omega),if_pos h2]
  rw [e,g];exact Adc f n u s ks c h1 h2 b a j
 |flat n u s ks c h1 h2=>
  intro b a j;rename_i k;have e:Bd.calls f (.mk k n u s ks c) b=b.flat f k c:=by
   rw [Bd.calls,if_neg (by omega),if_neg (by omega),if_neg (by omega)]
  have g:Tr.refs (.mk k n u s ks c)-1=c.length:=by rw [Tr.refs,if_neg (by omega),if_neg (by omega),if_neg (by omega)];omega
  rw [e,g];exact Ac4 f n u s ks c h1 h2 b a j
 |vec n u s ks _ ih=>
  intro b a j;rename_i c _;obtain⟨vs,C,l1,r,o,p,m,q⟩:=bH f c ih b a j;have e:Bd.calls f (.mk 10 n u s ks c) b=(Bd.callsL f c b).endVec b.s.length:=by rw [Bd.calls,if_pos rfl]
  have H:(Bd.callsL f c b).s.drop b.s.length=vs:=by rw [r];simp
  have ht:(Bd.callsL f c b).s.take b.s.length=b.s:=by rw [r];simp
  have g:Tr.refs (.mk 10 n u s ks c)-1=Tr.refsL c-c.length+vs.length:=by
   have:=Nd c;rw [Tr.refs,if_pos rfl];omega
  rw [e,g,Bd.endVec,H,ht];have z:Gx f { Bd.callsL f c b with s:=b.s} l1:=m.goodq.app m.goodq.tile (fun _ hx=>hx) [] (by simp) rfl rfl rfl rfl;obtain⟨v,w,y,d,B⟩:=Ru f 10 true true vs { Bd.callsL f c b with s:=b.s} z (kT o p q)
  have E:Fw f (Bd.callsL f c b) l1 (Bd.vec 10 true true vs { Bd.callsL f c b with s:=b.s}) w (Gh true true vs v) vs.length:=⟨d.app,d.goodq,d.mem,d.keys,d.cnt⟩;exact⟨v,_,w,y,m.trans E,.vec _ _ _ _ o p (fun i x t ps hx ht hp=>E.rp (q i x t ps hx ht hp)) B⟩
 |map n u s hl h0 _ ih=>
  intro b a j;rename_i c ks _;obtain⟨l,vs,C,l1,r,o,p,m,D,G,q⟩:=bI f c ks hl ih b a j;have e:Bd.calls f (.mk 17 n u s ks c) b=(Bd.callsM f ks c b).endMap f ks b.s.length:=by
   rw [Bd.calls,if_neg (by omega),if_pos rfl]
  have A:l.length=vs.length:=by rw [D.1,o,hl]
  obtain⟨v,K,w,y,d,B,J,I⟩:=vY f hfl ks b.s (Bd.callsM f ks c b) l1 l vs m.goodq r A h0 D (fun x hx=>(m.mem x).2 (.inr (Ar _ hx))) G (kT o p q);have g:Tr.refs (.mk 17 n u s ks c)-1=Tr.refsL c-c.length+(l.length+vs.length+1):=by
   have:=Nd c;rw [Tr.refs,if_neg (by decide),if_pos rfl];omega
  rw [e,g];have F:=m.trans d;rw [←Am] at F;exact⟨v,_,w,y,F,.map _ _ _ B J o p (fun i x t ps hx ht hp=>d.rp (q i x t ps hx ht hp)) I⟩
theorem Aab(f:Nat)(hfl:Fq f 4=true→Fq f 1=true)(t:Tr)(h:Ok t):∃v ps log,(Bd.calls f t Bd.new).s=[v]∧Rp (Bd.calls f t Bd.new).b v t ps∧F9 (Bd.calls f t Bd.new).b log∧(∀x,x∈log↔x∈ps)∧(f=0→nslot log+1=t.refs):=by
 obtain⟨v,ps,log,e,a,r⟩:=Aad f hfl t h Bd.new [] (rK f);refine⟨v,ps,log,e,r,a.goodq.tile,fun x=>by rw [a.mem];simp,fun hf=>?_⟩;have h1:=a.cnt hf;have h2:=Rm t;have h3:nslot []=0:=rfl;omega
end
section
open Go.RowKit Go.Acc
inductive Hb:Tr→Prop
 |mk {k n:Int} {u:Nat} {s:List UInt8} {ks:List (List UInt8)} {l:List Tr} (hk:1≤k∧k≤17) (hz:k=5→(0:UInt8)∉s) (hkz:∀x∈ks,(0:UInt8)∉x) (hf:k=15∨k=16→l.length=2∨l.length=3∨l.length=4) (hp:∀c∈l,B5 k=0∨c.k=B5 k)
  (hn: -9223372036854775808≤n∧n≤9223372036854775807) (hu:u<18446744073709551616) (hl:k=17→ks.length=l.length) (h:∀t∈l,Hb t):Hb (.mk k n u s ks l)
theorem Hb.fix{t:Tr}(h:Hb t):Ts t:=by
 cases h with
 |mk _ _ _ hf _ _ _ _ _=>exact hf
theorem Hb.vals{t:Tr}(h:Hb t):(-9223372036854775808≤t.n∧t.n≤9223372036854775807)∧t.u<18446744073709551616:=by
 cases h with
 |mk _ _ _ _ _ hn hu _ _=>exact⟨hn,hu⟩
theorem Yj{t:Tr}(h:Ft t):G0 t→Hb (By t):=by
 induction h with
 |mk h1 h2 h3 h4 hl ih=>
  rename_i k n u s ks l;intro hN;cases hN with
  |mk n1 n2 n3=>
   have p:Ft (.mk k n u s ks l):= .mk h1 h2 h3 h4 hl;obtain⟨g,a,i⟩:=tV p;have b:=O1 p;have m:∀t∈Cp l,Hb t:=by
    intro t ht;rw [Cx] at ht;obtain⟨x,hx,rfl⟩:=List.mem_map.1 ht;exact ih x hx (n3 x hx)
   simp only [Ep,Bool.and_eq_true,decide_eq_true_eq] at h1;obtain⟨⟨⟨⟨⟨⟨⟨⟨⟨c,d⟩,_⟩,_⟩,_⟩,_⟩,_⟩,j⟩,_⟩,_⟩:=h1;have c:1≤k:=c;have d:k≤17:=d;rw [By] at g a i b⊢;by_cases e:k=17
   ·rw [if_pos e] at g a i b⊢;have o:=Eo (ks.zip (Cp l));refine .mk ⟨c,d⟩ h2 (fun x hx=>?_) b a n1 n2 (fun _=>by simp) (fun t ht=>?_)
    ·obtain⟨y,f,rfl⟩:=List.mem_map.1 hx;exact h3 _ (List.of_mem_zip (o.mem_iff.1 f)).1
    ·obtain⟨y,f,rfl⟩:=List.mem_map.1 ht;exact m _ (List.of_mem_zip (o.mem_iff.1 f)).2
   ·rw [if_neg e] at g a i b⊢;exact .mk ⟨c,d⟩ h2 h3 b a n1 n2 (fun h=>absurd h e) m
theorem Q7{c:List Tr}(h:Fk L 0 vs v)(r:Lh L 0 v p q)(hlen:vs.length=c.length)(hleg:Cj (v.t:Int)=true→∀y∈vs,Cb (y.t:Int)=true∧Bz (y.w:Int)=true)
  (hk:∀(i:Nat) y x,vs[i]?=some y→c[i]?=some x→Cn L (v.n+i*v.w) v.w y→J8 L P ((v.n+i*v.w:Nat):Int) v.w (if Cj (v.t:Int)=true then(y.t:Int) else E9 (v.t:Int)) (if Cj (v.t:Int)=true then(ownW v.w y:Int) else(v.w:Int)) x):
  (C2 L p q v.t v.w=0∧lsLen L p q v.t v.w=c.length)∧(∀i:Nat,i<c.length→F5 L p q v.t v.w i=0)∧∀(i:Nat) x,c[i]?=some x→J8 L P (Ka L p q v.t v.w i) (Kb L p q v.t v.w i) (Kv L p q v.t v.w i) (Kw L p q v.t v.w i) x:=by
 obtain⟨k,l,_⟩:=N1 h r;have b:∀i:Nat,i<c.length→∃y,vs[i]?=some y∧F5 L p q v.t v.w i=0∧Ka L p q v.t v.w i=((v.n+i*v.w:Nat):Int)∧Kb L p q v.t v.w i=(v.w:Int)∧Kv L p q v.t v.w i=(if Cj (v.t:Int)=true then(y.t:Int) else E9 (v.t:Int))∧Kw L p q v.t v.w i=(if Cj (v.t:Int)=true then(ownW v.w y:Int) else(v.w:Int)):=by
  intro i hi;have a:vs[i]?=some vs[i]:=Ag (by omega);obtain⟨e,d,f,g,j⟩:=eP h r a (fun ht=>hleg ht _ (List.getElem_mem _));rw [Av] at d;exact⟨vs[i],a,e,d,f,g,j⟩
 refine⟨⟨k,by rw [l,hlen]⟩,fun i hi=>?_,fun i x hx=>?_⟩
 ·obtain⟨_,_,e,_⟩:=b i hi;exact e
 ·obtain⟨y,a,_,d,f,g,j⟩:=b i (List.getElem?_eq_some_iff.1 hx).1;rw [d,f,g,j];exact hk i y x a hx (h.slot a)
theorem Oz(s ks c)(h:Cn L z w v)(hv:(k=1∧v=⟨0,1,0⟩)∨(k=2∧v=Dh n)∨(k=3∧v=C5 n)∨(k=4∧v=C9 u))(hn: -9223372036854775808≤n∧n≤9223372036854775807)(hu:u<18446744073709551616):J8 L P z w v.t w (.mk k n u s ks c):=by
 obtain⟨h1,h2,h3,h4⟩:=xC h hv hn hu;exact .inl s ks c h1 h2 h3 (by rcases hv with⟨h,_⟩|⟨h,_⟩|⟨h,_⟩|⟨h,_⟩ <;>omega) h4
theorem L6{c:List Tr}{f:Tr→Bv}{T:Nat}(h:Fk L 0 (c.map f) v)(r:Lh L 0 v p q)(htag:Cj (v.t:Int)=false)(hel:E9 (v.t:Int)=(T:Int))(hc:∀x∈c,x.k=K∧Hb x)(hT:∀x,(f x).t=T)
  (hf:∀x,(K=1∧f x=⟨0,1,0⟩)∨(K=2∧f x=Dh x.n)∨(K=3∧f x=C5 x.n)∨(K=4∧f x=C9 x.u)):
  (C2 L p q v.t v.w=0∧lsLen L p q v.t v.w=c.length)∧(∀i:Nat,i<c.length→F5 L p q v.t v.w i=0)∧∀(i:Nat) x,c[i]?=some x→J8 L P (Ka L p q v.t v.w i) (Kb L p q v.t v.w i) (Kv L p q v.t v.w i) (Kw L p q v.t v.w i) x:=by
 refine Q7 h r (by rw [As]) (fun ht=>by rw [htag] at ht;cases ht) (fun i y x hy hx hs=>?_);rw [if_neg (by rw [htag];decide),if_neg (by rw [htag];decide),hel];rw [List.getElem?_map,hx] at hy;injection hy with hy
 obtain⟨h1,h2⟩:=hc x (Aq hx);have h3:=h2.vals;rw [←hy] at hs;have e:=hT x;obtain⟨d,j,l,xs,a,g⟩:=x;have h1:d=K:=h1;subst h1;have b:=Oz (P:=P) xs a g hs (hf _) h3.1 h3.2;rw [e] at b;exact b
theorem Ce{c:List Tr}(h:Hb (.mk k n u s ks c)):(∀x∈c,Hb x∧(B5 k=0∨x.k=B5 k))∧(k=5→(0:UInt8)∉s)∧(∀x∈ks,(0:UInt8)∉x)∧(k=15∨k=16→c.length=2∨c.length=3∨c.length=4)∧
  (-9223372036854775808≤n∧n≤9223372036854775807)∧u<18446744073709551616∧(k=17→ks.length=c.length):=by
 cases h with
 |mk hk hz hkz hf hp hn hu hl h=>exact⟨fun x hx=>⟨h x hx,hp x hx⟩,hz,hkz,hf,hn,hu,hl⟩
theorem C6{c:List Tr}(h:Hb (.mk k n u s ks c))(hK:B5 k=K)(h0:K≠0):∀x∈c,x.k=K∧Hb x:=by
 intro x hx;obtain⟨h1,h2⟩:=(Ce h).1 x hx;rw [hK] at h2;exact⟨h2.resolve_left h0,h1⟩
theorem Gr{c:List Tr}{f:Tr→Bv}{tf:Nat}(hc:∀x∈c,x.k=K∧Hb x)(hT:E9 T=(tf:Int))(hTf:∀x,(f x).t=tf)(hf:∀x,(K=1∧f x=⟨0,1,0⟩)∨(K=2∧f x=Dh x.n)∨(K=3∧f x=C5 x.n)∨(K=4∧f x=C9 x.u)):Ji T (c.map f):=by
 intro y b;obtain⟨x,a,rfl⟩:=List.mem_map.1 b;have h3:=(hc x a).2.vals;refine⟨?_,?_,?_,fun _=>by rw [hT,hTf]⟩
 ·rcases hf x with⟨_,e⟩|⟨_,e⟩|⟨_,e⟩|⟨_,e⟩ <;>rw [e]
  ·exact .inl rfl
  ·exact .inr (.inl ⟨_,rfl⟩)
  ·exact .inr (.inr (.inl ⟨_,h3.1,rfl⟩))
  ·exact .inr (.inr (.inr (.inl ⟨_,h3.2,rfl⟩)))
 ·rcases hf x with⟨_,e⟩|⟨_,e⟩|⟨_,e⟩|⟨_,e⟩ <;>rw [e]
  ·decide
  ·exact(by decide:Cb ((26:Nat):Int)=true)
  ·exact(by decide:Cb ((1:Nat):Int)=true)
  ·exact(by decide:Cb ((2:Nat):Int)=true)
 ·rcases hf x with⟨_,e⟩|⟨_,e⟩|⟨_,e⟩|⟨_,e⟩ <;>rw [e]
  ·decide
  ·exact(by decide:Bz ((1:Nat):Int)=true)
  ·exact Hv _
  ·exact Dy _
theorem Abl{t:Tr}(h:E4 L v t)(hok:Hb t):Prp v:=by
 have b:=hok.vals;cases h with
 |null=>exact .inl rfl
 |truth=>exact .inr (.inl ⟨_,rfl⟩)
 |int n=>exact .inr (.inr (.inl ⟨_,b.1,rfl⟩))
 |uint n u=>exact .inr (.inr (.inr (.inl ⟨_,b.2,rfl⟩)))
 |key _ _ _ _ h=>exact .inr (.inr (.inr (.inr (by rw [h.1];decide))))
 |str _ _ _ _ h=>exact .inr (.inr (.inr (.inr (by rw [h.1];decide))))
 |blob _ _ _ _ h=>exact .inr (.inr (.inr (.inr (by rw [h.1];decide))))
 |indInt _ _ _ _ h=>exact .inr (.inr (.inr (.inr (by rw [h.1];decide))))
 |indUint _ _ _ _ h=>exact .inr (.inr (.inr (.inr (by rw [h.1];decide))))
 |ints _ _ _ _ h=>exact .inr (.inr (.inr (.inr (by rw [h.width.1];decide))))
 |uints _ _ _ _ h=>exact .inr (.inr (.inr (.inr (by rw [h.width.1];decide))))
 |bools _ _ _ _ h=>exact .inr (.inr (.inr (.inr (by rw [h.width.1];decide))))
 |keys _ _ _ _ _ h=>exact .inr (.inr (.inr (.inr (by rw [h.width.1];decide))))
 | @fixInts _ c _ _ _ _ h=>
  have a:=(Ce hok).2.2.2.1 (.inl rfl);exact .inr (.inr (.inr (.inr (by rw [h.width.1];rcases a with h|h|h <;>rw [h] <;>decide))))
 | @fixUints _ c _ _ _ _ h=>
  have a:=(Ce hok).2.2.2.1 (.inr rfl);exact .inr (.inr (.inr (.inr (by rw [h.width.1];rcases a with h|h|h <;>rw [h] <;>decide))))
 |vec _ _ _ _ _ _ h=>exact .inr (.inr (.inr (.inr (by rw [h.width.1];decide))))
 |map _ _ _ _ _ _ _ h=>exact .inr (.inr (.inr (.inr (by rw [h.width.1];decide))))
theorem Nz{c:List Tr}(hl:vs.length=c.length)(hr:∀(i:Nat) x t,vs[i]?=some x→c[i]?=some t→E4 L x t)(hc:∀x∈c,Hb x)(hT:Cj T=true):Ji T vs:=by
 intro y j;obtain⟨i,f,rfl⟩:=List.mem_iff_getElem.1 j;have g:c[i]?=some c[i]:=Ag (by omega);have h:=hr i vs[i] c[i] (Ag f) g;have a:=hc c[i] (List.getElem_mem _);obtain⟨b,d,_⟩:=h.legal a.fix;exact⟨Abl h a,b,d,fun e=>by rw [hT] at e;cases e⟩
theorem Mh(h:Dp L ks vs)(hT:E9 T=4):Ji T vs:=by
 intro y e;obtain⟨i,b,rfl⟩:=List.mem_iff_getElem.1 e;have d:ks[i]?=some (ks[i]'(by rw [←h.1];exact b)):=Ag (by rw [←h.1];exact b);obtain⟨a,c,_⟩:=h.2 i _ vs[i] d (Ag b);refine⟨.inr (.inr (.inr (.inr (by rw [a];decide)))),by rw [a];decide,by rw [c];decide,fun _=>by rw [hT,a];rfl⟩
theorem J1{c:List Tr}(n u s ks)(hs:Cn L z w v)(hi:inl v.t=false)(hl:Cb (v.t:Int)=true)(hw:Bz (v.w:Int)=true)(hk:Cs (v.t:Int)=k)(h10:10≤k∧k≤16)(hP:P z w v.t v.w)
  (h:(C2 L z w v.t v.w=0∧lsLen L z w v.t v.w=c.length)∧(∀i:Nat,i<c.length→F5 L z w v.t v.w i=0)∧∀(i:Nat) x,c[i]?=some x→J8 L P (Ka L z w v.t v.w i) (Kb L z w v.t v.w i) (Kv L z w v.t v.w i) (Kw L z w v.t v.w i) x):J8 L P z w v.t (ownW w v) (.mk k n u s ks c):=by
 have b:ownW w v=v.w:=by unfold ownW;rw [if_neg (by rw [hi];decide)]
 rw [b];have a:=hs.leads hi hl hw;exact .list n u s ks a.may hi hk h10 a.tgE h.1 hP h.2.1 h.2.2
theorem Abp(hP:Vz L P){t:Tr}(hr:E4 L v t)(hL:L.length<2^32):Hb t→∀z w,Cn L z w v→J8 L P z w v.t (ownW w v) t:=by
 have B:∀{w:Nat} {v:Bv},inl v.t=true→ownW w v=w:=fun h=>by unfold ownW;rw [if_pos h]
 induction hr with
 |null n u s ks c=>
  intro b z w d;obtain⟨_,_,_,_,j,A,_⟩:=Ce b;rw [B (by decide)];exact Oz s ks c d (.inl ⟨rfl,rfl⟩) j A
 |truth n u s ks c=>
  intro b z w d;obtain⟨_,_,_,_,j,A,_⟩:=Ce b;rw [B (show inl (Dh n).t=true from(by decide:inl 26=true))];exact Oz s ks c d (.inr (.inl ⟨rfl,rfl⟩)) j A
 |int n u s ks c=>
  intro b z w d;obtain⟨_,_,_,_,j,A,_⟩:=Ce b;rw [B (show inl (C5 n).t=true from(by decide:inl 1=true))];exact Oz s ks c d (.inr (.inr (.inl ⟨rfl,rfl⟩))) j A
 |uint n u s ks c=>
  intro b z w d;obtain⟨_,_,_,_,j,A,_⟩:=Ce b;rw [B (show inl (C9 u).t=true from(by decide:inl 2=true))];exact Oz s ks c d (.inr (.inr (.inr ⟨rfl,rfl⟩))) j A
 | @key v s n u ks c h=>
  intro b z w d;obtain⟨_,hz,_,_,j,A,_⟩:=Ce b;have f:inl v.t=false:=by rw [h.1];decide
  have I:ownW w v=v.w:=by unfold ownW;rw [if_neg (by rw [f];decide)]
  have ht:=Qx d h (hz rfl) (y:=(v.w:Int)) (by rw [h.2.1];decide);rw [I,h.1];exact .txt n u ks c ht (hP.key d h (hz rfl) (by rw [h.2.1];decide))
 | @str v s n u ks c h=>
  intro b z w d;have f:inl v.t=false:=by rw [h.1];decide
  have I:ownW w v=v.w:=by unfold ownW;rw [if_neg (by rw [f];decide)]
  rw [I];exact .txt n u ks c (Tk d (.inl ⟨rfl,h⟩) hL) (hP.text d (.inl h))
 | @blob v s n u ks c h=>
  intro b z w d;have f:inl v.t=false:=by rw [h.1];decide
  have I:ownW w v=v.w:=by unfold ownW;rw [if_neg (by rw [f];decide)]
  rw [I];exact .txt n u ks c (Tk d (.inr ⟨rfl,h⟩) hL) (hP.text d (.inr h))
 | @indInt v n u s ks c h=>
  intro b z w d;obtain⟨_,_,_,_,j,A,_⟩:=Ce b;obtain⟨h1,h2,h3,h4,_,h5⟩:=V2 (k:=8) d (.inl ⟨rfl,h⟩) j A;have I:ownW w v=v.w:=by unfold ownW;rw [if_neg (by rw [show inl v.t=false from h2];decide)]
  rw [I];exact .num s ks c h1 h2 h3 (.inl rfl) h4 h5 (hP.num (n:=n) (u:=u) d (.inl h) j A)
 | @indUint v u n s ks c h=>
  intro b z w d;obtain⟨_,_,_,_,j,A,_⟩:=Ce b;obtain⟨h1,h2,h3,h4,_,h5⟩:=V2 (k:=9) d (.inr ⟨rfl,h⟩) j A;have I:ownW w v=v.w:=by unfold ownW;rw [if_neg (by rw [show inl v.t=false from h2];decide)]
  rw [I];exact .num s ks c h1 h2 h3 (.inr rfl) h4 h5 (hP.num (n:=n) (u:=u) d (.inr h) j A)
 | @ints v c n u s ks h=>
  intro b z w d;obtain⟨ht,l⟩:=h.width;have m:=El h hL [] rfl (.inr ⟨.inl rfl,rfl⟩);simp only [A6,Aw] at m;have f:inl v.t=false:=by rw [ht];decide
  have o:Cb (v.t:Int)=true:=by rw [ht];decide
  exact J1 n u s ks d f o l (by rw [ht];decide) (by omega) (hP.vec d (d.leads f o l) m (ht▸h) (by rw [ht];decide) (by rw [ht];decide) (Gr (K:=3) (tf:=1) (C6 b (K:=3) (by decide) (by decide)) (by rw [ht];decide) (fun _=>rfl) (fun _=> .inr (.inr (.inl ⟨rfl,rfl⟩))))) (L6 (T:=1) m (d.leads f o l) (by rw [ht];decide) (by rw [ht];decide) (C6 b (K:=3) (by decide) (by decide)) (fun _=>rfl) (fun _=> .inr (.inr (.inl ⟨rfl,rfl⟩))))
 | @uints v c n u s ks h=>
  intro b z w d;obtain⟨ht,l⟩:=h.width;have m:=El h hL [] rfl (.inr ⟨.inr (.inl rfl),rfl⟩);simp only [A6,Aw] at m;have f:inl v.t=false:=by rw [ht];decide
  have o:Cb (v.t:Int)=true:=by rw [ht];decide
  exact J1 n u s ks d f o l (by rw [ht];decide) (by omega) (hP.vec d (d.leads f o l) m (ht▸h) (by rw [ht];decide) (by rw [ht];decide) (Gr (K:=4) (tf:=2) (C6 b (K:=4) (by decide) (by decide)) (by rw [ht];decide) (fun _=>rfl) (fun _=> .inr (.inr (.inr ⟨rfl,rfl⟩))))) (L6 (T:=2) m (d.leads f o l) (by rw [ht];decide) (by rw [ht];decide) (C6 b (K:=4) (by decide) (by decide)) (fun _=>rfl) (fun _=> .inr (.inr (.inr ⟨rfl,rfl⟩))))
 | @bools v c n u s ks h=>
  intro b z w d;obtain⟨ht,l⟩:=h.width;have m:=El h hL [] rfl (.inr ⟨.inr (.inr (.inr rfl)),rfl⟩);simp only [A6,Aw] at m;have f:inl v.t=false:=by rw [ht];decide
  have o:Cb (v.t:Int)=true:=by rw [ht];decide
  exact J1 n u s ks d f o l (by rw [ht];decide) (by omega) (hP.vec d (d.leads f o l) m (ht▸h) (by rw [ht];decide) (by rw [ht];decide) (Gr (K:=2) (tf:=26) (C6 b (K:=2) (by decide) (by decide)) (by rw [ht];decide) (fun _=>rfl) (fun _=> .inr (.inl ⟨rfl,rfl⟩)))) (L6 (T:=26) m (d.leads f o l) (by rw [ht];decide) (by rw [ht];decide) (C6 b (K:=2) (by decide) (by decide)) (fun _=>rfl) (fun _=> .inr (.inl ⟨rfl,rfl⟩)))
 | @keys v c vs n u s ks hk h=>
  intro b z w d;obtain⟨ht,l⟩:=h.width;have m:=El h hL [] rfl (.inr ⟨.inr (.inr (.inl rfl)),rfl⟩);simp only [A6,Aw] at m;have f:inl v.t=false:=by rw [ht];decide
  have o:Cb (v.t:Int)=true:=by rw [ht];decide
  have g:Cj (v.t:Int)=false:=by rw [ht];decide
  refine J1 n u s ks d f o l (by rw [ht];decide) (by omega) (hP.vec d (d.leads f o l) m (ht▸h) (by rw [ht];decide) (by rw [ht];decide) (Mh hk (by rw [ht];decide))) (Q7 m (d.leads f o l) (by rw [hk.1,As]) (fun e=>by rw [g] at e;cases e) (fun i y x hy hx hsl=>?_));rw [if_neg (by rw [g];decide),if_neg (by rw [g];decide),show E9 (v.t:Int)=4 by rw [ht];decide];obtain⟨h1,h2⟩:=C6 b (K:=5) (by decide) (by decide) x (Aq hx);have h3:=hk.2 i x.s y (by rw [List.getElem?_map,hx];rfl) hy;obtain⟨xk,xn,xu,xs,av,xl⟩:=x;have h1:xk=5:=h1;subst h1;exact .txt xn xu av xl (Qx hsl h3 ((Ce h2).2.1 rfl) l) (hP.key hsl h3 ((Ce h2).2.1 rfl) l)
 | @fixInts v c n u s ks h=>
  intro b z w d;obtain⟨ht,l⟩:=h.width;have j:=(Ce b).2.2.2.1 (.inl rfl);obtain⟨⟨m1,_⟩,⟨m3,m4⟩,_⟩:=Mm j;have m:=Mi h hL [] rfl (by rcases j with h|h|h <;>rw [h] <;>simp) (by rw [As];exact m1);simp only [A6,Aw] at m;have f:inl v.t=false:=by rw [ht];rcases j with h|h|h <;>rw [h] <;>decide
  have o:Cb (v.t:Int)=true:=by rw [ht];rcases j with h|h|h <;>rw [h] <;>decide
  exact J1 n u s ks d f o l (by rw [ht];rcases j with h|h|h <;>rw [h] <;>decide) (by omega) (hP.vec d (d.leads f o l) m (ht▸h) (by rw [ht];rcases j with h|h|h <;>rw [h] <;>decide) (by rw [ht];rcases j with h|h|h <;>rw [h] <;>decide) (Gr (K:=3) (tf:=1) (C6 b (K:=3) (by decide) (by decide)) (by rw [ht];rcases j with h|h|h <;>rw [h] <;>decide) (fun _=>rfl) (fun _=> .inr (.inr (.inl ⟨rfl,rfl⟩))))) (L6 (T:=1) m (d.leads f o l) (by rw [ht];exact m3) (by rw [ht];rcases j with h|h|h <;>rw [h] <;>decide) (C6 b (K:=3) (by decide) (by decide)) (fun _=>rfl) (fun _=> .inr (.inr (.inl ⟨rfl,rfl⟩))))
 | @fixUints v c n u s ks h=>
  intro b z w d;obtain⟨ht,l⟩:=h.width;have j:=(Ce b).2.2.2.1 (.inr rfl);obtain⟨⟨_,m1⟩,_,⟨m3,m4⟩⟩:=Mm j;have m:=Mi h hL [] rfl (by rcases j with h|h|h <;>rw [h] <;>simp) (by rw [As];exact m1);simp only [A6,Aw] at m;have f:inl v.t=false:=by rw [ht];rcases j with h|h|h <;>rw [h] <;>decide
  have o:Cb (v.t:Int)=true:=by rw [ht];rcases j with h|h|h <;>rw [h] <;>decide
  exact J1 n u s ks d f o l (by rw [ht];rcases j with h|h|h <;>rw [h] <;>decide) (by omega) (hP.vec d (d.leads f o l) m (ht▸h) (by rw [ht];rcases j with h|h|h <;>rw [h] <;>decide) (by rw [ht];rcases j with h|h|h <;>rw [h] <;>decide) (Gr (K:=4) (tf:=2) (C6 b (K:=4) (by decide) (by decide)) (by rw [ht];rcases j with h|h|h <;>rw [h] <;>decide) (fun _=>rfl) (fun _=> .inr (.inr (.inr ⟨rfl,rfl⟩))))) (L6 (T:=2) m (d.leads f o l) (by rw [ht];exact m3) (by rw [ht];rcases j with h|h|h <;>rw [h] <;>decide) (C6 b (K:=4) (by decide) (by decide)) (fun _=>rfl) (fun _=> .inr (.inr (.inr ⟨rfl,rfl⟩))))
 | @vec v c vs n u s ks m hr h ih=>
  intro b z w d;obtain⟨ht,l⟩:=h.width;have S:=El h hL [] rfl (.inl ⟨rfl,rfl⟩);simp only [A6,Aw] at S;have f:inl v.t=false:=by rw [ht];decide
  have o:Cb (v.t:Int)=true:=by rw [ht];decide
  have g:Cj (v.t:Int)=true:=by rw [ht];decide
  refine J1 n u s ks d f o l (by rw [ht];decide) (by omega) (hP.vec d (d.leads f o l) S (ht▸h) (by rw [ht];decide) (by rw [ht];decide) (Nz m hr (fun x hx=>((Ce b).1 x hx).1) g)) (Q7 S (d.leads f o l) m (fun _ y hy=>?_) (fun i y x hy hx hsl=>?_))
  ·obtain⟨i,f,rfl⟩:=List.mem_iff_getElem.1 hy;have hx:c[i]?=some c[i]:=Ag (by omega);obtain⟨U,X,_⟩:=(hr i vs[i] c[i] (Ag f) hx).legal (((Ce b).1 c[i] (List.getElem_mem _)).1.fix);exact⟨U,X⟩
  ·rw [if_pos g,if_pos g];exact ih i y x hy hx ((Ce b).1 x (Aq hx)).1 _ _ hsl
 | @map v kv c ks kvs vs n u s hk hv m hr h ih=>
  intro b z w d;obtain⟨ht,l⟩:=h.width;obtain⟨p,H⟩:=hv.width;have F:inl kv.t=false:=by rw [p];decide
  have M:=Vg h F hL [] rfl;have V:=El hv hL [] rfl (.inr ⟨.inr (.inr (.inl rfl)),rfl⟩);have hM:=h.facts F hL [];simp only [A6,Aw] at M V hM;have f:inl v.t=false:=by rw [ht];decide
  have o:Cb (v.t:Int)=true:=by rw [ht];decide
  have g:Cj (v.t:Int)=true:=by rw [ht];decide
  have I:ownW w v=v.w:=by unfold ownW;rw [if_neg (by rw [f];decide)]
  have r:=d.leads f o l;obtain⟨af,ag,ah⟩:=Q7 M r m (fun _ y hy=>by
   obtain⟨i,f,rfl⟩:=List.mem_iff_getElem.1 hy;have hx:c[i]?=some c[i]:=Ag (by omega);obtain⟨U,X,_⟩:=(hr i vs[i] c[i] (Ag f) hx).legal (((Ce b).1 c[i] (List.getElem_mem _)).1.fix);exact⟨U,X⟩) (fun i y x hy hx hsl=>by
   rw [if_pos g,if_pos g];exact ih i y x hy hx ((Ce b).1 x (Aq hx)).1 _ _ hsl)
  have G:ks.length=c.length:=(Ce b).2.2.2.2.2.2 rfl;have h0:=(Ce b).2.2.1;obtain⟨e1,e2,e3⟩:=N1 M r;have Z:=hP.map d r M hv h (by rw [ht];rfl) (Nz m hr (fun x hx=>((Ce b).1 x hx).1) g);obtain⟨cc,hc,U,X,g3,g4,_,_⟩:=hM.head;rw [Av] at U g4 e3;have ha:aheadT (v.t:Int)=3:=by rw [ht];decide
  have hF:lsFrom L z w (v.t:Int) (v.w:Int)=cc:=by
   unfold lsFrom;rw [if_pos e1,r.tg,ha];omega
  have hU:kyU L z w (v.t:Int) (v.w:Int)=kv.w:=by
   unfold kyU;rw [hF];have e:((cc:Int)+(v.w:Int))=((cc+v.w:Nat):Int):=by omega
   rw [e];refine Ml l g4 ?_;have h8:kv.w≤8:=by rcases C8.1 H with h|h|h|h <;>omega
   rcases C8.1 l with h|h|h|h <;>rw [h] <;>omega
  have q:Ib L z w (v.t:Int) (v.w:Int)=0:=by
   unfold Ib;rw [r.may,if_neg (by decide),if_neg (by rw [ht];decide),e1,if_neg (by decide),hU,if_neg (by rw [H];decide)]
  have C:Gm L z w (v.t:Int) (v.w:Int)=(cc:Int):=by unfold Gm;rw [if_pos q,hF]
  have D:Gn L z w (v.t:Int) (v.w:Int)=(v.w:Int):=by unfold Gn;rw [if_pos q]
  have Q:Nq L z w (v.t:Int) (v.w:Int)=14:=by unfold Nq;rw [if_pos q]
  have E:Gw L z w (v.t:Int) (v.w:Int)=(kv.w:Int):=by unfold Gw;rw [if_pos q,hU]
  have aj:Cn L cc v.w kv:=⟨l,by unfold Da;rw [if_neg (by rw [F];decide)];exact U,(⟨fun e=>(by rw [F] at e;cases e),fun _=>⟨X,g3⟩⟩:_∧_)⟩;have J:=aj.leads F (by rw [p];decide) H;obtain⟨f1,f2,_⟩:=N1 V J;have Y:P (cc:Int) (v.w:Int) (kv.t:Int) (kv.w:Int):=hP.vec aj J V (p▸hv) (by rw [p];decide) (by rw [p];decide) (Mh hk (by rw [p];decide));have R:kvs.length=ks.length:=hk.1;have W:(kv.t:Int)=14:=by rw [p];rfl
  have ai:opE L z w (v.t:Int) (v.w:Int)=0:=by
   unfold opE;rw [if_neg (by rw [q];decide),C,D,Q,E,←W,if_neg (by rw [f1];decide),if_neg];rw [f2,e2,m,R,G];simp
  have ae:∀(i:Nat) s',ks[i]?=some s'→F5 L (cc:Int) (v.w:Int) (kv.t:Int) (kv.w:Int) i=0∧∃a,X2 L (Ka L (cc:Int) (v.w:Int) (kv.t:Int) (kv.w:Int) i) (Kb L (cc:Int) (v.w:Int) (kv.t:Int) (kv.w:Int) i) (Kv L (cc:Int) (v.w:Int) (kv.t:Int) (kv.w:Int) i) (Kw L (cc:Int) (v.w:Int) (kv.t:Int) (kv.w:Int) i) 5 s' a∧P (Ka L (cc:Int) (v.w:Int) (kv.t:Int) (kv.w:Int) i) (Kb L (cc:Int) (v.w:Int) (kv.t:Int) (kv.w:Int) i) (Kv L (cc:Int) (v.w:Int) (kv.t:Int) (kv.w:Int) i) (Kw L (cc:Int) (v.w:Int) (kv.t:Int) (kv.w:Int) i):=by
   intro i s' N;have ap:i<kvs.length:=by rw [R];exact(List.getElem?_eq_some_iff.1 N).1
   have hy:kvs[i]?=some kvs[i]:=Ag ap;have ad:=hk.2 i s' kvs[i] N hy;have ak:Cj (kv.t:Int)=false:=by rw [p];decide
   obtain⟨a1,a2,a3,a4,a5⟩:=eP V J hy (fun h=>by rw [ak] at h;cases h);rw [if_neg (by rw [ak];decide)] at a4 a5;rw [Av] at a2;have aq:=hP.key (V.slot hy) ad (h0 s' (Aq N)) H;have hq:=Qx (V.slot hy) ad (h0 s' (Aq N)) H;refine⟨a1,kvs[i].n,?_⟩;rw [a2,a3,a4,a5,show E9 (kv.t:Int)=4 by rw [p];decide];exact⟨hq,aq⟩
  rw [I];have e9:(v.t:Int)=9:=by rw [ht];rfl
  rw [e9] at Z af ag ah q C D Q E ai⊢;have aa:=r.may;have ab:=r.tgE;rw [e9] at aa ab;have O:=J.tgE;rw [W] at O f1 f2 ae Y;refine .map n u s aa ab af G q ai ?_ ⟨Z,by rw [C,D,E];exact Y⟩ ?_ ag ah
  ·rw [C,D,E];exact⟨Q,O,f1,by rw [f2,R,G]⟩
  ·rw [C,D,E];exact ae
theorem vW{T:Tr}(hv:Ft T)(hN:G0 T){b:List UInt8}(hr:E4 b v (By T))(hw:Bz (w:Int)=true)(hb:b.length≤65000)(hf:Dt v b.length 0 w=true)(hP:Vz (Di b v w) P):
  J8 (Di b v w) P ((Bm w b).length:Int) (w:Int) (v.t:Int) (ownW w v:Int) (By T):=by
 have a:(Di b v w).length<2^32:=by
  have h1:=Uz [] b v w;have h2:=Nt b (C8.2 (C8.1 hw));have h3:w≤8:=by rcases C8.1 hw with h|h|h|h <;>omega
  simp only [A6,Aw] at h1;omega
 have e:=cU hw (by omega) hf;have d:∃m,Di b v w=b++m:=⟨_,by unfold Di Bm;rw [Am,Am]⟩;obtain⟨m,c⟩:=d;refine Abp hP ?_ a (Yj hv hN) _ _ e;rw [c];exact hr.app m
theorem Aa8{kv:Bv}(hL:L.length<2^32)(hld:Lh L 0 v z w)(hLi:Fk L 0 vs v)(hv:Dc L 14 true false kvs kv)(h:G5 L kv vs v)(ht:(v.t:Int)=9):
  ∃cc,v.n=cc+3*v.w∧lsFrom L z w (v.t:Int) (v.w:Int)=cc∧En L ⟨z,w,v.t,v.w⟩=⟨(cc:Int),(v.w:Int),14,(kv.w:Int)⟩∧Cn L cc v.w kv:=by
 obtain⟨k,c⟩:=hv.width;have l:=hLi.w;have b:inl kv.t=false:=by rw [k];decide
 have q:=h.facts b hL [];simp only [A6,Aw] at q;obtain⟨m,B,s⟩:=N1 hLi hld;obtain⟨cc,A,o,u,x,p,_,_⟩:=q.head;rw [Av] at o p s;have y:aheadT (v.t:Int)=3:=by rw [ht];decide
 have d:lsFrom L z w (v.t:Int) (v.w:Int)=cc:=by
  unfold lsFrom;rw [if_pos m,hld.tg,y];omega
 have r:kyU L z w (v.t:Int) (v.w:Int)=kv.w:=by
  unfold kyU;rw [d];have e:((cc:Int)+(v.w:Int))=((cc+v.w:Nat):Int):=by omega
  rw [e];refine Ml l p ?_;have C:kv.w≤8:=by rcases C8.1 c with h|h|h|h <;>omega
  rcases C8.1 l with h|h|h|h <;>rw [h] <;>omega
 have a:Ib L z w (v.t:Int) (v.w:Int)=0:=by
  unfold Ib;rw [hld.may,if_neg (by decide),if_neg (by rw [ht];decide),m,if_neg (by decide),r,if_neg (by rw [c];decide)]
 have f:Gm L z w (v.t:Int) (v.w:Int)=(cc:Int):=by unfold Gm;rw [if_pos a,d]
 have g:Gn L z w (v.t:Int) (v.w:Int)=(v.w:Int):=by unfold Gn;rw [if_pos a]
 have i:Nq L z w (v.t:Int) (v.w:Int)=14:=by unfold Nq;rw [if_pos a]
 have j:Gw L z w (v.t:Int) (v.w:Int)=(kv.w:Int):=by unfold Gw;rw [if_pos a,r]
 refine⟨cc,A,d,?_,⟨l,by unfold Da;rw [if_neg (by rw [b];decide)];exact o,(⟨fun e=>(by rw [b] at e;cases e),fun _=>⟨u,x⟩⟩:_∧_)⟩⟩;show(⟨Gm L z w (v.t:Int) (v.w:Int),Gn L z w (v.t:Int) (v.w:Int),Nq L z w (v.t:Int) (v.w:Int),Gw L z w (v.t:Int) (v.w:Int)⟩:Rq)=_;rw [f,g,i,j]
theorem Le:Ds l r x↔Bq r.t=false∧(x∈J0 l r∨∃c∈Gy l r,x∈Hq c∨Ds l c x):=by
 constructor
 ·intro h;cases h with
  |own hi h=>exact⟨hi,.inl h⟩
  |slot hi hc h=>exact⟨hi,.inr ⟨_,hc,.inl h⟩⟩
  |deep hi hc h=>exact⟨hi,.inr ⟨_,hc,.inr h⟩⟩
 ·rintro⟨hi,h|⟨c,hc,h|h⟩⟩
  ·exact .own hi h
  ·exact .slot hi hc h
  ·exact .deep hi hc h
theorem aA(h:Bq r.t=true):¬Ds l r x:=by
 intro hu;have:=(Le.1 hu).1;rw [h] at this;cases this
theorem Ii{a b:Int}(h:a<b)(c:Int):He a b c=[(a,b,c)]:=by unfold He;rw [if_pos h]
theorem Nb(w:Nat):∀(vs:List Bv) (a:Nat) (x:P3),x∈Iu w a vs↔∃(i:Nat) (y:Bv),vs[i]?=some y∧x=(((a+i*w:Nat):Int),((a+i*w+w:Nat):Int),Er y.t)
 | [],a,x=>by simp [Iu]
 |v::r,a,x=>by
  rw [Iu,List.mem_cons,Nb w r (a+w) x];constructor
  ·rintro(h|⟨i,y,b,h⟩)
   ·exact⟨0,v,rfl,by rw [h,Nat.zero_mul,Nat.add_zero]⟩
   ·refine⟨i+1,y,by simpa using b,?_⟩;rw [h,show a+w+i*w=a+(i+1)*w by rw [Nat.succ_mul];omega]
  ·rintro⟨i,y,b,h⟩;cases i with
   |zero=>
    left;have e:v=y:=by simpa using b
    rw [h,←e,Nat.zero_mul,Nat.add_zero]
   |succ i=>
    right;refine⟨i,y,by simpa using b,?_⟩;rw [h,show a+w+i*w=a+(i+1)*w by rw [Nat.succ_mul];omega]
theorem Vi:∀(n a:Nat) (x:P3),x∈Ih a n↔∃i:Nat,i<n∧x=(((a+i:Nat):Int),((a+i+1:Nat):Int),8)
 |0,a,x=>by simp [Ih]
 |n+1,a,x=>by
  rw [Ih,List.mem_cons,Vi n (a+1) x];constructor
  ·rintro(h|⟨i,b,h⟩)
   ·exact⟨0,by omega,h⟩
   ·refine⟨i+1,by omega,?_⟩;rw [h,show a+1+i=a+(i+1) by omega]
  ·rintro⟨i,b,h⟩;cases i with
   |zero=>exact .inl h
   |succ i=>
    right;refine⟨i,by omega,?_⟩;rw [h,show a+1+i=a+(i+1) by omega]
theorem Pb:∀(ks:List (List UInt8)) (kvs:List Bv) (x:P3),x∈Hp ks kvs↔∃(i:Nat) (s:List UInt8) (v:Bv),ks[i]?=some s∧kvs[i]?=some v∧x=Nl s v
 | [],_,x=>by simp [Hp]
 |s::r,[],x=>by simp [Hp]
 |s::r,v::q,x=>by
  rw [Hp,List.mem_cons,Pb r q x];constructor
  ·rintro(h|⟨i,s',v',h1,h2,h3⟩)
   ·exact⟨0,s,v,rfl,rfl,h⟩
   ·exact⟨i+1,s',v',by simpa using h1,by simpa using h2,h3⟩
  ·rintro⟨i,s',v',h1,h2,h3⟩;cases i with
   |zero=>
    left;have a:s=s':=by simpa using h1
    have b:v=v':=by simpa using h2
    rw [h3,a,b]
   |succ i=>exact .inr ⟨i,s',v',by simpa using h1,by simpa using h2,h3⟩
theorem Ra:x∈pss.flatten↔∃(i:Nat) (ps:List P3),pss[i]?=some ps∧x∈ps:=by
 rw [List.mem_flatten];constructor
 ·rintro⟨ps,hp,hx⟩;obtain⟨i,hi,e⟩:=List.mem_iff_getElem.1 hp;exact⟨i,ps,by rw [Ag hi,e],hx⟩
 ·rintro⟨i,ps,hp,hx⟩;exact⟨ps,Aq hp,hx⟩
theorem S2(h:Cn L z w v)(hk:Gc L s v)(h0:(0:UInt8)∉s){y:Int}(hy:Bz y=true)(x:P3):Ds L ⟨z,w,4,y⟩ x↔x=Nl s v:=by
 obtain⟨_,_,_,i⟩:=Qx h hk h0 hy;obtain⟨_,d,f⟩:=i [4,5,25] (by decide);have b:J0 L ⟨z,w,4,y⟩=[Nl s v]:=by
  have e:J0 L ⟨z,w,4,y⟩=He (Dj L z w 4 y [4,5,25]) (Dj L z w 4 y [4,5,25]+(Fc L z w 4 y [4,5,25]).length+1) 9:=rfl;rw [e,d,f,Ii (by omega)];unfold Nl;norm_cast
 have a:Gy L ⟨z,w,4,y⟩=[]:=rfl;rw [Le,b,a];constructor
 ·rintro⟨_,h|⟨c,g,_⟩⟩
  ·exact List.mem_singleton.1 h
  ·simp at g
 ·intro e;exact⟨(by decide:Bq 4=false),.inl (List.mem_singleton.2 e)⟩
theorem Xp(h:Cn L z w v)(hk:(t=5∧D3 L 5 s [0] v)∨(t=25∧D3 L 25 s [] v))(hL:L.length<2^32)(x:P3):Ds L ⟨z,w,v.t,v.w⟩ x↔x∈Jc t s v:=by
 obtain⟨ht,r,u⟩:v.t=t∧v.w=bWidth s.length∧v.w≤v.n:=by
  rcases hk with⟨rfl,a,b,c,d,_⟩|⟨rfl,a,b,c,d,_⟩ <;>exact⟨a,b,by omega⟩
 have f:(v.t:Int)=5∨(v.t:Int)=25:=by rcases hk with⟨e,_⟩|⟨e,_⟩ <;>omega
 obtain⟨_,_,_,q⟩:=Tk (k:=if t=5 then 6 else 7) h (by
  rcases hk with⟨e,hk⟩|⟨e,hk⟩
  ·exact .inl ⟨if_pos e,hk⟩
  ·exact .inr ⟨if_neg (by omega),hk⟩) hL
 obtain⟨_,m,o⟩:=q [4,5,25] (by rcases f with e|e <;>rw [e] <;>decide);have h0:0<v.w:=by rw [r];rcases M6 s.length with h|h|h|h <;>omega
 have l:((v.n:Int)-(v.w:Int))=((v.n-v.w:Nat):Int):=by omega
 have g:J0 L ⟨z,w,v.t,v.w⟩=Jc t s v:=by
  unfold J0 Jc;simp only [];rw [if_pos (by rcases f with e|e <;>rw [e] <;>decide),if_neg (by rcases f with e|e <;>rw [e] <;>decide),m,o,Ii (by omega),l];by_cases j:t=5
  ·rw [if_pos (by omega),if_pos j,Ii (by omega)];simp
  ·rw [if_neg (by omega),if_neg j];by_cases i:s=[]
   ·rw [if_pos i,i];unfold He;rw [if_neg (by simp)];simp
   ·have:0<s.length:=List.length_pos_iff.2 i;rw [if_neg i,Ii (by omega)];simp
 rw [Le,g];unfold Gy;rw [if_pos (.inl (by show G3 [4,5,25] (v.t:Int)=true;rcases f with e|e <;>rw [e] <;>decide))];constructor
 ·rintro⟨_,h|⟨c,p,_⟩⟩
  ·exact h
  ·simp at p
 ·intro e;exact⟨by show Bq (v.t:Int)=false;rcases f with e|e <;>rw [e] <;>decide,.inl e⟩
theorem Zu{n:Nat}{a:Nat}(h:Cn L z w v)(ha:Bz (a:Int)=true)(hk:(t=6∨t=7)∧Gi L t a n v)(x:P3):Ds L ⟨z,w,v.t,v.w⟩ x↔x∈ [Rc v (if t=6 then 12 else 13)]:=by
 obtain⟨B,h1,h2,h3,A⟩:=hk;have b:(v.t:Int)=6∨(v.t:Int)=7:=by rw [h1];omega
 have d:inl v.t=false:=by rcases b with e|e <;>(show Bq (v.t:Int)=false;rw [e];decide)
 have m:Cb (v.t:Int)=true:=by rcases b with e|e <;>rw [e] <;>decide
 have j:O9 (v.t:Int)=true:=by rcases b with e|e <;>rw [e] <;>decide
 have u:=h.may (t:=v.t) (y:=a) m ha;obtain⟨p,k⟩:=h.goes d m ha d;have i:=h3.le;rw [Bo] at i;have h0:0<a:=by rcases C8.1 ha with h|h|h|h <;>omega
 have o:D8 L z w v.t a=0:=by
  unfold D8;rw [if_neg (by rw [u];decide),if_neg (by rw [j];decide),if_neg (by rw [show Bq (v.t:Int)=false from d];decide),if_neg (by rw [p];decide),k,if_neg (by omega),if_neg (by rw [Eh.2 ⟨by omega,by omega,by omega⟩];decide)]
 have q:Gu L z w v.t a=v.n:=by unfold Gu;rw [if_pos o,if_neg (by rw [show Bq (v.t:Int)=false from d];decide),k]
 have r:G7 L z w v.t a=a:=by unfold G7;rw [if_pos o,if_neg (by rw [show Bq (v.t:Int)=false from d];decide)]
 have g:J0 L ⟨z,w,v.t,v.w⟩=[Rc v (if t=6 then 12 else 13)]:=by
  unfold J0 Rc;simp only [];rw [if_neg (by rcases b with e|e <;>rw [e] <;>decide),if_pos b,h2,q,r,Ii (by omega)];have:(if(v.t:Int)=6 then(12:Int) else 13)=if t=6 then 12 else 13:=by
   by_cases l:t=6
   ·rw [if_pos (by omega),if_pos l]
   ·rw [if_neg (by omega),if_neg l]
  rw [this];norm_cast
 have f:Gy L ⟨z,w,v.t,v.w⟩=[]:=by
  unfold Gy;rw [if_pos (show G3 [4,5,25] (v.t:Int)=true∨(v.t:Int)=6∨(v.t:Int)=7 from .inr b)]
 rw [Le,g,f];constructor
 ·rintro⟨_,h|⟨c,s,_⟩⟩
  ·exact h
  ·simp at s
 ·intro e;exact⟨d,.inl e⟩
theorem Zl(li:Fk L 0 vs v)(ld:Lh L 0 v z w)(he:Ji v.t vs)(hn:aheadT (v.t:Int)*v.w≤v.n)(x:P3):
  Ds L ⟨z,w,v.t,v.w⟩ x↔(x∈(if(v.t:Int)=9 then He ((v.n-3*v.w:Nat)+v.w) ((v.n-3*v.w:Nat)+2*v.w) 7++Hq (En L ⟨z,w,v.t,v.w⟩) else []))∨((v.t:Int)=9∧Ds L (En L ⟨z,w,v.t,v.w⟩) x)∨(0<aheadT (v.t:Int)∧x=(((v.n-v.w:Nat):Int),(v.n:Int),6))∨x∈Iu v.w v.n vs∨
   (Cj (v.t:Int)=true∧x∈Ih (v.n+vs.length*v.w) vs.length)∨∃(i:Nat) (y:Bv),vs[i]?=some y∧Ds L ⟨((v.n+i*v.w:Nat):Int),(v.w:Int),(y.t:Int),(if Cj (v.t:Int)=true then(ownW v.w y:Int) else(v.w:Int))⟩ x:=by
 obtain⟨F,u,A⟩:=N1 li ld;rw [Av] at A;have h0:0<v.w:=by rcases C8.1 li.w with h|h|h|h <;>omega
 have G:lsFrom L z w (v.t:Int) (v.w:Int)=v.n-aheadT (v.t:Int)*v.w:=by
  unfold lsFrom;rw [if_pos F,ld.tg,Av];rfl
 have B:∀(i:Nat) y,vs[i]?=some y→Ga L ⟨z,w,v.t,v.w⟩ i=⟨((v.n+i*v.w:Nat):Int),(v.w:Int),(y.t:Int),(if Cj (v.t:Int)=true then(ownW v.w y:Int) else(v.w:Int))⟩:=by
  intro i y b;obtain⟨M,H,I,J⟩:=he y (Aq b);obtain⟨K,s,C,D,E⟩:=eP li ld b (fun _=>⟨H,I⟩);rw [Av] at s;have ht:(if Cj (v.t:Int)=true then(y.t:Int) else E9 (v.t:Int))=(y.t:Int):=by
   split
   ·rfl
   ·rename_i hh;exact J (by simpa using hh)
  unfold Ga;simp only [];rw [s,C,D,E,ht]
 have d:G3 [4,5,25] (v.t:Int)=false∧¬((v.t:Int)=6∨(v.t:Int)=7):=by
  have f:=li.typ;constructor
  ·cases e:G3 [4,5,25] (v.t:Int) with
   |false=>rfl
   |true=>
    exfalso;have:v.t=4∨v.t=5∨v.t=25:=by simpa [G3] using e
    rcases this with e|e|e <;>(rw [e] at f;exact absurd f (by decide))
  ·rintro(e|e) <;>(rw [e] at f;exact absurd f (by decide))
 have g:Bq (v.t:Int)=false:=by
  cases e:Bq (v.t:Int) with
  |false=>rfl
  |true=>
   have f:=li.typ;exfalso;revert f;have r:=Ic (Ls e);revert e;refine Lc (p:=fun t=>Bq t=true→K5 t=true→False) ?_ r;decide
 have a:∀c,c∈Gy L ⟨z,w,v.t,v.w⟩↔((v.t:Int)=9∧c=En L ⟨z,w,v.t,v.w⟩)∨∃(i:Nat) (y:Bv),vs[i]?=some y∧c=⟨((v.n+i*v.w:Nat):Int),(v.w:Int),(y.t:Int),(if Cj (v.t:Int)=true then(ownW v.w y:Int) else(v.w:Int))⟩:=by
  intro c;unfold Gy;simp only [];rw [if_neg (by rintro(h|h);rw [d.1] at h;cases h;exact d.2 h),List.mem_append,u];refine or_congr ?_ ?_
  ·split
   ·rename_i h9;rw [List.mem_singleton];exact⟨fun h=>⟨h9,h⟩,fun h=>h.2⟩
   ·rename_i h9;simp [h9]
  ·rw [List.mem_map];constructor
   ·rintro⟨i,g,rfl⟩;have g:=List.mem_range.1 g;have b:vs[i]?=some vs[i]:=Ag g;exact⟨i,vs[i],b,B i _ b⟩
   ·rintro⟨i,y,b,rfl⟩;exact⟨i,List.mem_range.2 (List.getElem?_eq_some_iff.1 b).1,B i y b⟩
 have j:x∈J0 L ⟨z,w,v.t,v.w⟩↔(x∈(if(v.t:Int)=9 then He ((v.n-3*v.w:Nat)+v.w) ((v.n-3*v.w:Nat)+2*v.w) 7 else []))∨(0<aheadT (v.t:Int)∧x=(((v.n-v.w:Nat):Int),(v.n:Int),6))∨(Cj (v.t:Int)=true∧x∈Ih (v.n+vs.length*v.w) vs.length):=by
  unfold J0;simp only [];rw [if_neg (by rw [d.1];decide),if_neg d.2,List.mem_append,List.mem_append,or_assoc,u,A,G];refine or_congr ?_ (or_congr ?_ ?_)
  ·split
   ·rename_i h9;have:aheadT (v.t:Int)=3:=by rw [h9];decide
    rw [this]
   ·exact Iff.rfl
  ·by_cases q:0<aheadT (v.t:Int)
   ·have:0<aheadT (v.t:Int)*v.w:=Nat.mul_pos q h0;have h1:v.w≤aheadT (v.t:Int)*v.w:=Nat.le_mul_of_pos_left _ q;rw [if_pos (by omega),Ii (by omega),List.mem_singleton,show(v.n:Int)-(v.w:Int)=((v.n-v.w:Nat):Int) by omega];exact⟨fun h=>⟨q,h⟩,fun h=>h.2⟩
   ·have:aheadT (v.t:Int)=0:=by omega
    rw [if_neg (by rw [this,Nat.zero_mul];omega),this];simp
  ·split
   ·rename_i ht;rw [List.mem_flatMap,Vi];have m:∀i:Nat,(v.n:Int)+(vs.length:Int)*(v.w:Int)+(i:Int)=((v.n+vs.length*v.w+i:Nat):Int):=fun i=>by
     rw [Int.natCast_add,Int.natCast_add,Int.natCast_mul]
    constructor
    ·rintro⟨i,g,o⟩;rw [m,Ii (by omega),List.mem_singleton] at o;exact⟨ht,i,List.mem_range.1 g,o⟩
    ·rintro⟨_,i,g,o⟩;refine⟨i,List.mem_range.2 g,?_⟩;rw [m,Ii (by omega),List.mem_singleton];exact o
   ·rename_i ht;simp [ht]
 rw [Le,j];have l:∀(i:Nat) (y:Bv) (k:Int),Hq ⟨((v.n+i*v.w:Nat):Int),(v.w:Int),(y.t:Int),k⟩=[(((v.n+i*v.w:Nat):Int),((v.n+i*v.w+v.w:Nat):Int),Er y.t)]:=by
  intro i y k;unfold Hq;simp only [];rw [Ii (by omega)];norm_cast
 rw [Nb];constructor
 ·rintro⟨_,(h|h|h)|⟨c,m,h⟩⟩
  ·left;by_cases h9:(v.t:Int)=9
   ·rw [if_pos h9] at h⊢;exact Ar _ h
   ·rw [if_neg h9] at h⊢;exact h
  ·exact .inr (.inr (.inl h))
  ·exact .inr (.inr (.inr (.inr (.inl h))))
  ·rcases(a c).1 m with⟨h9,rfl⟩|⟨i,y,b,rfl⟩
   ·rcases h with h|h
    ·left;rw [if_pos h9];exact Bf _ h
    ·exact .inr (.inl ⟨h9,h⟩)
   ·rcases h with h|h
    ·rw [l,List.mem_singleton] at h;exact .inr (.inr (.inr (.inl ⟨i,y,b,h⟩)))
    ·exact .inr (.inr (.inr (.inr (.inr ⟨i,y,b,h⟩))))
 ·intro h;refine⟨g,?_⟩;rcases h with h|⟨h9,h⟩|h|⟨i,y,b,h⟩|h|⟨i,y,b,h⟩
  ·split at h
   ·rename_i h9;rcases List.mem_append.1 h with h|h
    ·exact .inl (.inl (by rw [if_pos h9];exact h))
    ·exact .inr ⟨_,(a _).2 (.inl ⟨h9,rfl⟩),.inl h⟩
   ·simp at h
  ·exact .inr ⟨_,(a _).2 (.inl ⟨h9,rfl⟩),.inr h⟩
  ·exact .inl (.inr (.inl h))
  ·exact .inr ⟨_,(a _).2 (.inr ⟨i,y,b,rfl⟩),.inl (by rw [l,h];exact List.mem_singleton.2 rfl)⟩
  ·exact .inl (.inr (.inr h))
  ·exact .inr ⟨_,(a _).2 (.inr ⟨i,y,b,rfl⟩),.inr h⟩
end
end Go.Proofs.YtejpbijeifjdeaaGreat
