/- Parts of the proof. -/
import Derived.Test.YtgbjodnegkbfoaaGreatQa32
open List renaming getElem?_eq_getElem→Ati,append_assoc→Ato,length_cons→Atp,length_map→Atq,mem_of_getElem?→Atu
namespace Go.Proofs.YtgbjodnegkbfoaaGreat
open Go.Acc
mutual
def Tr.refs:Tr→Nat
 | .mk k _ _ _ ks l=>if k=10 then 1+Tr.refsL l else if k=17 then 2+ks.length+Tr.refsL l else if k≤9 then 1 else 1+l.length
def Tr.refsL:List Tr→Nat
 | []=>0
 |t::r=>t.refs+Tr.refsL r
end
theorem Pw(t:Tr):1≤t.refs:=by
 obtain⟨k,n,u,s,ks,l⟩:=t;rw [Tr.refs]
 (repeat' split) <;>omega
theorem Lq:∀(l:List Tr),l.length≤Tr.refsL l
 | []=>Nat.zero_le _
 |t::r=>by
  have:=Lq r;have h1:=Pw t;rw [Tr.refsL,Atp];omega
def Afl(f:Nat)(t:Tr):Prop:=∀b log,Fq f b log→∃v ps log',(Bd.calls f t b).s=b.s++ [v]∧Ep f b log (Bd.calls f t b) log' ps (t.refs-1)∧Rp (Bd.calls f t b).b v t ps
theorem Arm(f:Nat){k:Int}(n:Int)(u:Nat)(s:List UInt8)(ks:List (List UInt8))(c:List Tr)(h1:1≤k)(h2:k≤9)(b:Bd)(log:List P3)(h:Fq f b log):∃v ps log',(b.leaf f k n u s).s=b.s++ [v]∧Ep f b log (b.leaf f k n u s) log' ps 0∧Rp (b.leaf f k n u s).b v (.mk k n u s ks c) ps:=by
 obtain rfl|rfl|rfl|rfl|rfl|rfl|rfl|rfl|rfl:k=1∨k=2∨k=3∨k=4∨k=5∨k=6∨k=7∨k=8∨k=9:=by omega
 ·exact⟨_,_,_,rfl,I4 h _,.null _ _ _ _ _⟩
 ·exact⟨_,_,_,rfl,I4 h _,.truth _ _ _ _ _⟩
 ·exact⟨_,_,_,rfl,I4 h _,.int _ _ _ _ _⟩
 ·exact⟨_,_,_,rfl,I4 h _,.uint _ _ _ _ _⟩
 ·obtain⟨v,log',e,st,k,_⟩:=Aoo f s b h;exact⟨v,_,log',e,st,.key _ _ _ _ k⟩
 ·obtain⟨v,log',e,st,k⟩:=Asr f s b h;exact⟨v,_,log',e,st,.str _ _ _ _ k⟩
 ·obtain⟨v,log',e,st,k⟩:=Aq9 f s b h;exact⟨v,_,log',e,st,.blob _ _ _ _ k⟩
 ·obtain⟨v,log',e,st,k⟩:=Ad5 f 6 (bWidthI n) (bits n) 12 (by decide) b h (Ub n);exact⟨v,_,log',e,st,.indInt _ _ _ _ k⟩
 ·obtain⟨v,log',e,st,k⟩:=Ad5 f 7 (bWidth u) u 13 (by decide) b h (Ll u);exact⟨v,_,log',e,st,.indUint _ _ _ _ k⟩
theorem Ard(f:Nat){k:Int}(n:Int)(u:Nat)(s:List UInt8)(ks:List (List UInt8))(c:List Tr)(h1:11≤k)(h2:k≤16)(b:Bd)(log:List P3)(h:Fq f b log):∃v ps log',(b.flat f k c).s=b.s++ [v]∧Ep f b log (b.flat f k c) log' ps c.length∧Rp (b.flat f k c).b v (.mk k n u s ks c) ps:=by
 obtain rfl|rfl|rfl|rfl|rfl|rfl:k=11∨k=12∨k=13∨k=14∨k=15∨k=16:=by omega
 ·obtain⟨v,log',e,st,k⟩:=P4 f 11 true false (c.map fun t=>Cf t.n) b h (fun x hx=>by obtain⟨t,_,rfl⟩:=List.mem_map.1 hx;exact K4 _ _);rw [Atq] at st;exact⟨v,_,log',e,st,.ints _ _ _ _ k⟩
 ·obtain⟨v,log',e,st,k⟩:=P4 f 12 true false (c.map fun t=>Ch t.u) b h (fun x hx=>by obtain⟨t,_,rfl⟩:=List.mem_map.1 hx;exact La _ _);rw [Atq] at st;exact⟨v,_,log',e,st,.uints _ _ _ _ k⟩
 ·obtain⟨l1,s1,k1,e1⟩:=Akr f (c.map Tr.s) b log h;obtain⟨v,log',e,st,k⟩:=P4 f 14 true false (b.puts f (c.map Tr.s)).2 (b.puts f (c.map Tr.s)).1 s1.goodq k1.fit;have st2:=s1.trans st;rw [k1.1,Atq,Nat.zero_add] at st2;refine⟨v,_,log',e.trans (by rw [e1]),st2,.keys _ _ _ _ ?_ k⟩;obtain⟨m,em⟩:=st.app;exact em▸k1.app m
 ·obtain⟨v,log',e,st,k⟩:=P4 f 36 true false (c.map fun t=>Cz t.n) b h (fun x hx=>by obtain⟨t,_,rfl⟩:=List.mem_map.1 hx;exact Pz _ _);rw [Atq] at st;exact⟨v,_,log',e,st,.bools _ _ _ _ k⟩
 ·obtain⟨v,log',e,st,k⟩:=P4 f (10+3*c.length) false false (c.map fun t=>Cf t.n) b h (fun x hx=>by obtain⟨t,_,rfl⟩:=List.mem_map.1 hx;exact K4 _ _);rw [Atq] at st;exact⟨v,_,log',e,st,.fixInts _ _ _ _ k⟩
 ·obtain⟨v,log',e,st,k⟩:=P4 f (11+3*c.length) false false (c.map fun t=>Ch t.u) b h (fun x hx=>by obtain⟨t,_,rfl⟩:=List.mem_map.1 hx;exact La _ _);rw [Atq] at st;exact⟨v,_,log',e,st,.fixUints _ _ _ _ k⟩
theorem Zu(f:Nat):∀(c:List Tr),(∀t∈c,Afl f t)→∀b log,Fq f b log→∃(vs:List Bv) (pss:List (List P3)) (log':List P3),(Bd.callsL f c b).s=b.s++vs∧vs.length=c.length∧pss.length=c.length∧Ep f b log (Bd.callsL f c b) log' pss.flatten (Tr.refsL c-c.length)∧
  ∀(i:Nat) x t ps,vs[i]?=some x→c[i]?=some t→pss[i]?=some ps→Rp (Bd.callsL f c b).b x t ps
 | [],_,b,log,h=>⟨[],[],log,by simp [Bd.callsL],rfl,rfl,⟨⟨[],by simp [Bd.callsL]⟩,h,fun _=>by simp,fun _ _ e=>e,fun _=>rfl⟩,fun i x t ps h=>by simp at h⟩
 |t::r,hd,b,log,h=>by
  obtain⟨v,ps,l1,e1,s1,r1⟩:=hd t (by simp) b log h;obtain⟨vs,pss,l2,e2,n2,p2,s2,r2⟩:=Zu f r (fun t ht=>hd t (by simp [ht])) (Bd.calls f t b) l1 s1.goodq;have st:=s1.trans s2;have hn:t.refs-1+(Tr.refsL r-r.length)=Tr.refsL (t::r)-(t::r).length:=by
   have h1:=Pw t;have h2:=Lq r;rw [Tr.refsL,Atp];omega
  rw [hn] at st;refine⟨v::vs,ps::pss,l2,by rw [Bd.callsL,e2,e1,Ato];rfl,by simp [n2],by simp [p2],by rw [Bd.callsL];exact st,fun i x t' qs hx ht hq=>?_⟩;rw [Bd.callsL];cases i with
  |zero=>
   simp only [List.getElem?_cons_zero,Option.some.injEq] at hx ht hq;subst hx ht hq;exact s2.rp r1
  |succ i=>
   simp only [List.getElem?_cons_succ] at hx ht hq;exact r2 i x t' qs hx ht hq
theorem Aez{l:List UInt8}{c:List Tr}{vs:List Bv}{pss:List (List P3)}(hl:vs.length=c.length)(hp:pss.length=c.length)(h:∀(i:Nat) x t ps,vs[i]?=some x→c[i]?=some t→pss[i]?=some ps→Rp l x t ps):∀x∈vs,Dx l.length x:=
 M7 hl fun i x t hx ht=>(h i x t _ hx ht (Ati (by rw [hp];exact(List.getElem?_eq_some_iff.1 ht).1))).rep
theorem Zv(f:Nat):∀(c:List Tr) (ks:List (List UInt8)),ks.length=c.length→(∀t∈c,Afl f t)→∀b log,Fq f b log→∃(kvs vs:List Bv) (pss:List (List P3)) (log':List P3),(Bd.callsM f ks c b).s=b.s++D2 kvs vs∧vs.length=c.length∧pss.length=c.length∧
  Ep f b log (Bd.callsM f ks c b) log' (Hs ks kvs++pss.flatten) (Tr.refsL c-c.length)∧De (Bd.callsM f ks c b).b ks kvs∧(Ek f 1=true→∀(j:Nat) s v,ks[j]?=some s→kvs[j]?=some v→Bf (Bd.callsM f ks c b).keys s=some v.n)∧
  ∀(i:Nat) x t ps,vs[i]?=some x→c[i]?=some t→pss[i]?=some ps→Rp (Bd.callsM f ks c b).b x t ps
 | [],ks,hk,_,b,log,h=>by
  obtain rfl:ks=[]:=List.eq_nil_of_length_eq_zero hk;exact⟨[],[],[],log,by simp [Bd.callsM,D2],rfl,rfl,⟨⟨[],by simp [Bd.callsM]⟩,h,fun _=>by simp [Hs],fun _ _ e=>e,fun _=>rfl⟩,⟨rfl,fun i x t h=>by simp at h⟩,fun _ i s v h=>by simp at h,fun i x t ps h=>by simp at h⟩
 |t::r,[],hk,_,_,_,_=>by simp at hk
 |t::r,s::ks,hk,hd,b,log,h=>by
  obtain⟨kv,l0,e0,s0,k0,g0⟩:=Aoo f s b h;obtain⟨v,ps,l1,e1,s1,r1⟩:=hd t (by simp) (b.key f s) l0 s0.goodq;obtain⟨kvs,vs,pss,l2,e2,n2,p2,s2,k2,g2,r2⟩:=Zv f r ks (by simpa using hk) (fun t ht=>hd t (by simp [ht])) (Bd.calls f t (b.key f s)) l1 s1.goodq;have ee:Bd.callsM f (s::ks) (t::r) b=Bd.callsM f ks r (Bd.calls f t (b.key f s)):=by rw [Bd.callsM];rfl
  rw [ee];have s12:=s1.trans s2;have hn:t.refs-1+(Tr.refsL r-r.length)=Tr.refsL (t::r)-(t::r).length:=by
   have h1:=Pw t;have h2:=Lq r;rw [Tr.refsL,Atp];omega
  have st:=s0.trans s12;rw [hn,Nat.zero_add] at st;refine⟨kv::kvs,v::vs,ps::pss,l2,by rw [e2,e1,e0];simp [D2],by simp [n2],by simp [p2],st.sub (fun x=>?_) rfl,⟨by simp [k2.1],fun i x v' hx hv=>?_⟩,fun hf i x v' hx hv=>?_,fun i x t' qs hx ht hq=>?_⟩
  ·simp only [Hs,List.flatten_cons,List.mem_append,List.mem_cons,List.not_mem_nil,or_false];refine or_congr_right ?_;constructor
   ·rintro((h|h)|h|h)
    ·exact .inl h
    ·exact .inr (.inr (.inl h))
    ·exact .inr (.inl h)
    ·exact .inr (.inr (.inr h))
   ·rintro(h|h|h|h)
    ·exact .inl (.inl h)
    ·exact .inr (.inl h)
    ·exact .inl (.inr h)
    ·exact .inr (.inr h)
  ·cases i with
   |zero=>
    simp only [List.getElem?_cons_zero,Option.some.injEq] at hx hv;subst hx hv;obtain⟨m,em⟩:=s12.app;rw [em];exact k0.app m
   |succ i=>
    simp only [List.getElem?_cons_succ] at hx hv;exact k2.2 i x v' hx hv
  ·cases i with
   |zero=>
    simp only [List.getElem?_cons_zero,Option.some.injEq] at hx hv;subst hx hv;exact s12.keys _ _ (g0 hf)
   |succ i=>
    simp only [List.getElem?_cons_succ] at hx hv;exact g2 hf i x v' hx hv
  ·cases i with
   |zero=>
    simp only [List.getElem?_cons_zero,Option.some.injEq] at hx ht hq;subst hx ht hq;exact s2.rp r1
   |succ i=>
    simp only [List.getElem?_cons_succ] at hx ht hq;exact r2 i x t' qs hx ht hq
theorem Ajq{l l':List UInt8}{ks:List (List UInt8)}{kvs kvs':List Bv}(h:De l ks kvs)(h':De l' ks kvs')(g:∀(j:Nat) s v v',ks[j]?=some s→kvs[j]?=some v→kvs'[j]?=some v'→v.n=v'.n):kvs=kvs':=by
 refine List.ext_getElem? fun i=>?_
 by_cases hi:i<ks.length
 ·have h1:kvs[i]?=some (kvs[i]'(by rw [h.1];exact hi)):=Ati _;have h2:kvs'[i]?=some (kvs'[i]'(by rw [h'.1];exact hi)):=Ati _;have h3:ks[i]?=some ks[i]:=Ati hi;obtain⟨a1,a2,_⟩:=h.2 i _ _ h3 h1;obtain⟨b1,b2,_⟩:=h'.2 i _ _ h3 h2;have:=g i _ _ _ h3 h1 h2;rw [h1,h2];generalize kvs[i]'(by rw [h.1];exact hi)=x at*;generalize kvs'[i]'(by rw [h'.1];exact hi)=y at*;obtain⟨xt,xw,xn⟩:=x;obtain⟨yt,yw,yn⟩:=y;simp only at a1 a2 b1 b2 this;subst a1 a2 b1 b2 this;rfl
 ·rw [List.getElem?_eq_none (by rw [h.1];omega),List.getElem?_eq_none (by rw [h'.1];omega)]
theorem Amf(f:Nat)(hfl:Ek f 4=true→Ek f 1=true)(ks:List (List UInt8))(st:List Bv)(b:Bd)(log:List P3)(kvs vs:List Bv)(h:Fq f b log)(hs:b.s=st++D2 kvs vs)(hl:kvs.length=vs.length)(h0:∀x∈ks,(0:UInt8)∉x)(hk:De b.b ks kvs)
  (hkp:∀x∈Hs ks kvs,x∈log) (hg:Ek f 1=true→∀(j:Nat) s v,ks[j]?=some s→kvs[j]?=some v→Bf b.keys s=some v.n) (hf:∀x∈vs,Dx b.b.length x):
  ∃v kv log',(b.endMap f ks st.length).s=st++ [v]∧Ep f b log (b.endMap f ks st.length) log' (Hv true false kvs kv++N2 vs v) (kvs.length+vs.length+1)∧
   De (b.endMap f ks st.length).b ks kvs∧Cd (b.endMap f ks st.length).b 14 true false kvs kv∧F2 (b.endMap f ks st.length).b kv vs v:=by
 obtain⟨q1,q2⟩:=Hq kvs vs hl;have hd:b.s.drop st.length=D2 kvs vs:=by rw [hs];simp
 have ht:b.s.take st.length=st:=by rw [hs];simp
 obtain⟨_,_,_,_,s2,_,_,_⟩:=O6 f ks st b kvs vs h.good hs hl h0 hk hf;have hgd:=s2.2;revert hgd;unfold Bd.endMap;simp only [hd,ht,q1,q2];have hlist:(ks.flatMap fun s=>s++ [0])=Cl ks:=rfl;rw [hlist];split
 ·next i hi=>
  intro _;split at hi
  ·next h4=>
   have h1:=hfl h4;obtain⟨kv,kvs',e1,k1,v1,p1,g1⟩:=h.lists ks h0 i hi;have es:kvs'=kvs:=Ajq k1 hk fun j s x y hs hx hy=>by
    have a:=g1 h1 j s x hs hx;rw [hg h1 j s y hs hy] at a;exact(Option.some.inj a).symm
   subst es;have eg:b.vals.getD i ⟨0,0,0⟩=kv:=by rw [List.getD_eq_getElem?_getD,e1];rfl
   rw [eg];obtain⟨m,em⟩:=Pl kv vs b.b;have htl:=Acm h.tile kv v1.fit hf;refine⟨(Ds kv vs b.b).2,kv,log++N2 vs (Ds kv vs b.b).2,rfl,⟨⟨m,em⟩,h.app htl (fun _ hx=>List.mem_append_left _ hx) m em rfl rfl rfl rfl,fun x=>?_,fun _ _ e=>e,fun hz=>?_⟩,?_,?_,b.b,[],by simp,rfl,v1.fit,hf⟩
   ·simp only [List.mem_append] at p1⊢;constructor
    ·rintro(h|h)
     ·exact .inl h
     ·exact .inr (.inr h)
    ·rintro(h|h|h)
     ·exact .inl h
     ·exact .inl (p1 x (.inr h))
     ·exact .inr h
   ·rw [hz] at h4;exact absurd h4 (by decide)
   ·show De (Ds kv vs b.b).1 ks kvs';rw [em];exact k1.app m
   ·show Cd (Ds kv vs b.b).1 14 true false kvs' kv;rw [em];exact v1.app m
  ·cases hi
 ·intro hgd;obtain⟨m1,e1⟩:=Lb 14 true false kvs b.b;obtain⟨m2,e2⟩:=Pl (Bc 14 true false kvs b.b).2 vs (Bc 14 true false kvs b.b).1;have e:(Ds (Bc 14 true false kvs b.b).2 vs (Bc 14 true false kvs b.b).1).1=b.b++(m1++m2):=by rw [e2,e1,Ato]
  have hv:Cd (Ds (Bc 14 true false kvs b.b).2 vs (Bc 14 true false kvs b.b).1).1 14 true false kvs (Bc 14 true false kvs b.b).2:=⟨b.b,m2,e2,rfl,hk.fit⟩;have hfk:Dx (Bc 14 true false kvs b.b).1.length (Bc 14 true false kvs b.b).2:=by
   have:=P2 14 true false kvs b.b []
   rwa [List.append_nil] at this
  have hfv:∀x∈vs,Dx (Bc 14 true false kvs b.b).1.length x:=fun x hx=>(hf x hx).mono (by rw [e1];simp)
  have ht2:=Acm (Acn h.tile 14 true false hk.fit) (Bc 14 true false kvs b.b).2 hfk hfv;refine⟨(Ds (Bc 14 true false kvs b.b).2 vs (Bc 14 true false kvs b.b).1).2,(Bc 14 true false kvs b.b).2,log++Hv true false kvs (Bc 14 true false kvs b.b).2++N2 vs (Ds (Bc 14 true false kvs b.b).2 vs (Bc 14 true false kvs b.b).1).2,rfl,
   ⟨⟨m1++m2,e⟩,⟨ht2,hgd,fun s a i=>?_,fun s a i y hy=>?_,fun ks' h0' i j=>?_⟩,fun x=>?_,fun _ _ e=>e,fun _=>?_⟩,e▸hk.app _,hv,(Bc 14 true false kvs b.b).1,[],by simp,rfl,hfk,hfv⟩
  ·exact List.mem_append_left _ (List.mem_append_left _ (h.keys s a i))
  ·exact List.mem_append_left _ (List.mem_append_left _ (h.texts s a i y hy))
  ·rcases Ir j with j|⟨hq,rfl⟩
   ·obtain⟨kv,kvs',g1,g2,g3,g4,g5⟩:=h.lists ks' h0' i j;have hlt:=h.good.vals _ i j;exact⟨kv,kvs',(List.getElem?_append_left hlt).trans g1,e▸g2.app _,e▸g3.app _,fun y hy=>List.mem_append_left _ (List.mem_append_left _ (g4 y hy)),g5⟩
   ·have:=Pd ks' ks h0' h0 hq;subst this;refine⟨_,kvs,?_,e▸hk.app _,hv,fun y hy=>?_,hg⟩
    ·simp
    ·rcases List.mem_append.1 hy with hy|hy
     ·exact List.mem_append_left _ (List.mem_append_left _ (hkp y hy))
     ·exact List.mem_append_left _ (List.mem_append_right _ hy)
  ·rw [Ato,List.mem_append]
  ·rw [Ej,Ej,X8,Ake];omega
theorem Ao9(f:Nat)(hfl:Ek f 4=true→Ek f 1=true)(t:Tr)(h:Ok t):Afl f t:=by
 induction h with
 |leaf n u s ks c h1 h2=>
  intro b log hg;rename_i k;have e:Bd.calls f (.mk k n u s ks c) b=b.leaf f k n u s:=by
   rw [Bd.calls,if_neg (by omega),if_neg (by omega),if_pos h2]
  have er:Tr.refs (.mk k n u s ks c)-1=0:=by rw [Tr.refs,if_neg (by omega),if_neg (by omega),if_pos h2]
  rw [e,er];exact Arm f n u s ks c h1 h2 b log hg
 |flat n u s ks c h1 h2=>
  intro b log hg;rename_i k;have e:Bd.calls f (.mk k n u s ks c) b=b.flat f k c:=by
   rw [Bd.calls,if_neg (by omega),if_neg (by omega),if_neg (by omega)]
  have er:Tr.refs (.mk k n u s ks c)-1=c.length:=by rw [Tr.refs,if_neg (by omega),if_neg (by omega),if_neg (by omega)];omega
  rw [e,er];exact Ard f n u s ks c h1 h2 b log hg
 |vec n u s ks _ ih=>
  intro b log hg;rename_i c _;obtain⟨vs,pss,l1,e1,n1,p1,s1,r1⟩:=Zu f c ih b log hg;have e:Bd.calls f (.mk 10 n u s ks c) b=(Bd.callsL f c b).endVec b.s.length:=by rw [Bd.calls,if_pos rfl]
  have hd:(Bd.callsL f c b).s.drop b.s.length=vs:=by rw [e1];simp
  have ht:(Bd.callsL f c b).s.take b.s.length=b.s:=by rw [e1];simp
  have er:Tr.refs (.mk 10 n u s ks c)-1=Tr.refsL c-c.length+vs.length:=by
   have:=Lq c;rw [Tr.refs,if_pos rfl];omega
  rw [e,er,Bd.endVec,hd,ht];have hg2:Fq f { Bd.callsL f c b with s:=b.s} l1:=s1.goodq.app s1.goodq.tile (fun _ hx=>hx) [] (by simp) rfl rfl rfl rfl;obtain⟨v,l2,e2,s2,k2⟩:=P4 f 10 true true vs { Bd.callsL f c b with s:=b.s} hg2 (Aez n1 p1 r1)
  have s3:Ep f (Bd.callsL f c b) l1 (Bd.vec 10 true true vs { Bd.callsL f c b with s:=b.s}) l2 (Hv true true vs v) vs.length:=⟨s2.app,s2.goodq,s2.mem,s2.keys,s2.cnt⟩;exact⟨v,_,l2,e2,s1.trans s3,.vec _ _ _ _ n1 p1 (fun i x t ps hx ht hp=>s3.rp (r1 i x t ps hx ht hp)) k2⟩
 |map n u s hl h0 _ ih=>
  intro b log hg;rename_i c ks _;obtain⟨kvs,vs,pss,l1,e1,n1,p1,s1,k1,g1,r1⟩:=Zv f c ks hl ih b log hg;have e:Bd.calls f (.mk 17 n u s ks c) b=(Bd.callsM f ks c b).endMap f ks b.s.length:=by
   rw [Bd.calls,if_neg (by omega),if_pos rfl]
  have hkl:kvs.length=vs.length:=by rw [k1.1,n1,hl]
  obtain⟨v,kv,l2,e2,s2,k2,v2,m2⟩:=Amf f hfl ks b.s (Bd.callsM f ks c b) l1 kvs vs s1.goodq e1 hkl h0 k1 (fun x hx=>(s1.mem x).2 (.inr (List.mem_append_left _ hx))) g1 (Aez n1 p1 r1);have er:Tr.refs (.mk 17 n u s ks c)-1=Tr.refsL c-c.length+(kvs.length+vs.length+1):=by
   have:=Lq c;rw [Tr.refs,if_neg (by decide),if_pos rfl];omega
  rw [e,er];have st:=s1.trans s2;rw [←Ato] at st;exact⟨v,_,l2,e2,st,.map _ _ _ k2 v2 n1 p1 (fun i x t ps hx ht hp=>s2.rp (r1 i x t ps hx ht hp)) m2⟩
theorem Ao7(f:Nat)(hfl:Ek f 4=true→Ek f 1=true)(t:Tr)(h:Ok t):∃v ps log,(Bd.calls f t Bd.new).s=[v]∧Rp (Bd.calls f t Bd.new).b v t ps∧E8 (Bd.calls f t Bd.new).b log∧(∀x,x∈log↔x∈ps)∧(f=0→nslot log+1=t.refs):=by
 obtain⟨v,ps,log,e,st,r⟩:=Ao9 f hfl t h Bd.new [] (Ajd f);refine⟨v,ps,log,e,r,st.goodq.tile,fun x=>by rw [st.mem];simp,fun hf=>?_⟩;have h1:=st.cnt hf;have h2:=Pw t;have h3:nslot []=0:=rfl;omega
end Go.Proofs.YtgbjodnegkbfoaaGreat
namespace Go.Proofs.YtgbjodnegkbfoaaGreat
open Go.RowKit Go.Acc
inductive H9:Tr→Prop
 |mk {k n:Int} {u:Nat} {s:List UInt8} {ks:List (List UInt8)} {l:List Tr} (hk:1≤k∧k≤17) (hz:k=5→(0:UInt8)∉s) (hkz:∀x∈ks,(0:UInt8)∉x) (hf:k=15∨k=16→l.length=2∨l.length=3∨l.length=4) (hp:∀c∈l,As k=0∨c.k=As k)
  (hn: -9223372036854775808≤n∧n≤9223372036854775807) (hu:u<18446744073709551616) (hl:k=17→ks.length=l.length) (h:∀t∈l,H9 t):H9 (.mk k n u s ks l)
theorem H9.fix{t:Tr}(h:H9 t):Rx t:=by
 cases h with
 |mk _ _ _ hf _ _ _ _ _=>exact hf
theorem H9.vals{t:Tr}(h:H9 t):(-9223372036854775808≤t.n∧t.n≤9223372036854775807)∧t.u<18446744073709551616:=by
 cases h with
 |mk _ _ _ _ _ hn hu _ _=>exact⟨hn,hu⟩
theorem Aev{t:Tr}(h:Ff t):Fb t→H9 (Aq t):=by
 induction h with
 |mk h1 h2 h3 h4 hl ih=>
  rename_i k n u s ks l;intro hN;cases hN with
  |mk n1 n2 n3=>
   have hv:Ff (.mk k n u s ks l):= .mk h1 h2 h3 h4 hl;obtain⟨s1,s2,s3⟩:=Ak2 hv;have s4:=Na hv;have hm:∀t∈Bz l,H9 t:=by
    intro t ht;rw [Ca] at ht;obtain⟨x,hx,rfl⟩:=List.mem_map.1 ht;exact ih x hx (n3 x hx)
   simp only [Dv,Bool.and_eq_true,decide_eq_true_eq] at h1;obtain⟨⟨⟨⟨⟨⟨⟨⟨⟨g1,g2⟩,_⟩,_⟩,_⟩,_⟩,_⟩,glen⟩,_⟩,_⟩:=h1;have g1:1≤k:=g1;have g2:k≤17:=g2;rw [Aq] at s1 s2 s3 s4⊢;by_cases hk:k=17
   ·rw [if_pos hk] at s1 s2 s3 s4⊢;have hp:=D8 (ks.zip (Bz l));refine .mk ⟨g1,g2⟩ h2 (fun x hx=>?_) s4 s2 n1 n2 (fun _=>by simp) (fun t ht=>?_)
    ·obtain⟨y,hy,rfl⟩:=List.mem_map.1 hx;exact h3 _ (List.of_mem_zip (hp.mem_iff.1 hy)).1
    ·obtain⟨y,hy,rfl⟩:=List.mem_map.1 ht;exact hm _ (List.of_mem_zip (hp.mem_iff.1 hy)).2
   ·rw [if_neg hk] at s1 s2 s3 s4⊢;exact .mk ⟨g1,g2⟩ h2 h3 s4 s2 n1 n2 (fun h=>absurd h hk) hm
theorem Ph{L:List UInt8}{P:Int→Int→Int→Int→Prop}{vs:List Bv}{v:Bv}{p q:Int}{c:List Tr}(h:G4 L 0 vs v)(r:J7 L 0 v p q)(hlen:vs.length=c.length)(hleg:Bo (v.t:Int)=true→∀y∈vs,Be (y.t:Int)=true∧Av (y.w:Int)=true)
  (hk:∀(i:Nat) y x,vs[i]?=some y→c[i]?=some x→Ci L (v.n+i*v.w) v.w y→I6 L P ((v.n+i*v.w:Nat):Int) v.w (if Bo (v.t:Int)=true then(y.t:Int) else F4 (v.t:Int)) (if Bo (v.t:Int)=true then(ownW v.w y:Int) else(v.w:Int)) x):
  (Bw L p q v.t v.w=0∧lsLen L p q v.t v.w=c.length)∧(∀i:Nat,i<c.length→Ez L p q v.t v.w i=0)∧∀(i:Nat) x,c[i]?=some x→I6 L P (I8 L p q v.t v.w i) (I9 L p q v.t v.w i) (Jr L p q v.t v.w i) (Js L p q v.t v.w i) x:=by
 obtain⟨e1,e2,_⟩:=Mf h r;have key:∀i:Nat,i<c.length→∃y,vs[i]?=some y∧Ez L p q v.t v.w i=0∧I8 L p q v.t v.w i=((v.n+i*v.w:Nat):Int)∧I9 L p q v.t v.w i=(v.w:Int)∧Jr L p q v.t v.w i=(if Bo (v.t:Int)=true then(y.t:Int) else F4 (v.t:Int))∧Js L p q v.t v.w i=(if Bo (v.t:Int)=true then(ownW v.w y:Int) else(v.w:Int)):=by
  intro i hi;have hy:vs[i]?=some vs[i]:=Ati (by omega);obtain⟨a1,a2,a3,a4,a5⟩:=Abh h r hy (fun ht=>hleg ht _ (List.getElem_mem _));rw [Nat.zero_add] at a2;exact⟨vs[i],hy,a1,a2,a3,a4,a5⟩
 refine⟨⟨e1,by rw [e2,hlen]⟩,fun i hi=>?_,fun i x hx=>?_⟩
 ·obtain⟨_,_,a1,_⟩:=key i hi;exact a1
 ·obtain⟨y,hy,_,a2,a3,a4,a5⟩:=key i (List.getElem?_eq_some_iff.1 hx).1;rw [a2,a3,a4,a5];exact hk i y x hy hx (h.slot hy)
theorem M9{L:List UInt8}{P:Int→Int→Int→Int→Prop}{z w:Nat}{v:Bv}{k n:Int}{u:Nat}(s ks c)(h:Ci L z w v)(hv:(k=1∧v=⟨0,1,0⟩)∨(k=2∧v=Cz n)∨(k=3∧v=Cf n)∨(k=4∧v=Ch u))(hn: -9223372036854775808≤n∧n≤9223372036854775807)(hu:u<18446744073709551616):I6 L P z w v.t w (.mk k n u s ks c):=by
 obtain⟨h1,h2,h3,h4⟩:=Am4 h hv hn hu;exact .inl s ks c h1 h2 h3 (by rcases hv with⟨h,_⟩|⟨h,_⟩|⟨h,_⟩|⟨h,_⟩ <;>omega) h4
theorem Ks{L:List UInt8}{P:Int→Int→Int→Int→Prop}{v:Bv}{p q:Int}{c:List Tr}{K:Int}{f:Tr→Bv}{T:Nat}(h:G4 L 0 (c.map f) v)(r:J7 L 0 v p q)(htag:Bo (v.t:Int)=false)(hel:F4 (v.t:Int)=(T:Int))(hc:∀x∈c,x.k=K∧H9 x)(hT:∀x,(f x).t=T)
  (hf:∀x,(K=1∧f x=⟨0,1,0⟩)∨(K=2∧f x=Cz x.n)∨(K=3∧f x=Cf x.n)∨(K=4∧f x=Ch x.u)):
  (Bw L p q v.t v.w=0∧lsLen L p q v.t v.w=c.length)∧(∀i:Nat,i<c.length→Ez L p q v.t v.w i=0)∧∀(i:Nat) x,c[i]?=some x→I6 L P (I8 L p q v.t v.w i) (I9 L p q v.t v.w i) (Jr L p q v.t v.w i) (Js L p q v.t v.w i) x:=by
 refine Ph h r (by rw [Atq]) (fun ht=>by rw [htag] at ht;cases ht) (fun i y x hy hx hs=>?_);rw [if_neg (by rw [htag];decide),if_neg (by rw [htag];decide),hel];rw [List.getElem?_map,hx] at hy;injection hy with hy
 obtain⟨h1,h2⟩:=hc x (Atu hx);have h3:=h2.vals;rw [←hy] at hs;have e:=hT x;obtain⟨xk,xn,xu,xs,xks,xl⟩:=x;have h1:xk=K:=h1;subst h1;have hq:=M9 (P:=P) xs xks xl hs (hf _) h3.1 h3.2;rw [e] at hq;exact hq
theorem Bt{k n:Int}{u:Nat}{s:List UInt8}{ks:List (List UInt8)}{c:List Tr}(h:H9 (.mk k n u s ks c)):(∀x∈c,H9 x∧(As k=0∨x.k=As k))∧(k=5→(0:UInt8)∉s)∧(∀x∈ks,(0:UInt8)∉x)∧(k=15∨k=16→c.length=2∨c.length=3∨c.length=4)∧
  (-9223372036854775808≤n∧n≤9223372036854775807)∧u<18446744073709551616∧(k=17→ks.length=c.length):=by
 cases h with
 |mk hk hz hkz hf hp hn hu hl h=>exact⟨fun x hx=>⟨h x hx,hp x hx⟩,hz,hkz,hf,hn,hu,hl⟩
theorem C2{k n:Int}{u:Nat}{s:List UInt8}{ks:List (List UInt8)}{c:List Tr}{K:Int}(h:H9 (.mk k n u s ks c))(hK:As k=K)(h0:K≠0):∀x∈c,x.k=K∧H9 x:=by
 intro x hx;obtain⟨h1,h2⟩:=(Bt h).1 x hx;rw [hK] at h2;exact⟨h2.resolve_left h0,h1⟩
theorem H6{T:Int}{c:List Tr}{K:Int}{f:Tr→Bv}{tf:Nat}(hc:∀x∈c,x.k=K∧H9 x)(hT:F4 T=(tf:Int))(hTf:∀x,(f x).t=tf)(hf:∀x,(K=1∧f x=⟨0,1,0⟩)∨(K=2∧f x=Cz x.n)∨(K=3∧f x=Cf x.n)∨(K=4∧f x=Ch x.u)):Nc T (c.map f):=by
 intro y hy;obtain⟨x,hx,rfl⟩:=List.mem_map.1 hy;have h3:=(hc x hx).2.vals;refine⟨?_,?_,?_,fun _=>by rw [hT,hTf]⟩
 ·rcases hf x with⟨_,e⟩|⟨_,e⟩|⟨_,e⟩|⟨_,e⟩ <;>rw [e]
  ·exact .inl rfl
  ·exact .inr (.inl ⟨_,rfl⟩)
  ·exact .inr (.inr (.inl ⟨_,h3.1,rfl⟩))
  ·exact .inr (.inr (.inr (.inl ⟨_,h3.2,rfl⟩)))
 ·rcases hf x with⟨_,e⟩|⟨_,e⟩|⟨_,e⟩|⟨_,e⟩ <;>rw [e]
  ·decide
  ·exact(by decide:Be ((26:Nat):Int)=true)
  ·exact(by decide:Be ((1:Nat):Int)=true)
  ·exact(by decide:Be ((2:Nat):Int)=true)
 ·rcases hf x with⟨_,e⟩|⟨_,e⟩|⟨_,e⟩|⟨_,e⟩ <;>rw [e]
  ·decide
  ·exact(by decide:Av ((1:Nat):Int)=true)
  ·exact Hp _
  ·exact E3 _
theorem Aqd{L:List UInt8}{v:Bv}{t:Tr}(h:Ee L v t)(hok:H9 t):Prp v:=by
 have hv:=hok.vals;cases h with
 |null=>exact .inl rfl
 |truth=>exact .inr (.inl ⟨_,rfl⟩)
 |int n=>exact .inr (.inr (.inl ⟨_,hv.1,rfl⟩))
 |uint n u=>exact .inr (.inr (.inr (.inl ⟨_,hv.2,rfl⟩)))
 |key _ _ _ _ h=>exact .inr (.inr (.inr (.inr (by rw [h.1];decide))))
 |str _ _ _ _ h=>exact .inr (.inr (.inr (.inr (by rw [h.1];decide))))
 |blob _ _ _ _ h=>exact .inr (.inr (.inr (.inr (by rw [h.1];decide))))
 |indInt _ _ _ _ h=>exact .inr (.inr (.inr (.inr (by rw [h.1];decide))))
 |indUint _ _ _ _ h=>exact .inr (.inr (.inr (.inr (by rw [h.1];decide))))
 |ints _ _ _ _ h=>exact .inr (.inr (.inr (.inr (by rw [h.width.1];decide))))
 |uints _ _ _ _ h=>exact .inr (.inr (.inr (.inr (by rw [h.width.1];decide))))
 |bools _ _ _ _ h=>exact .inr (.inr (.inr (.inr (by rw [h.width.1];decide))))
 |keys _ _ _ _ _ h=>exact .inr (.inr (.inr (.inr (by rw [h.width.1];decide))))
 | @fixInts _ c _ _ _ _ h=>
  have hn:=(Bt hok).2.2.2.1 (.inl rfl);exact .inr (.inr (.inr (.inr (by rw [h.width.1];rcases hn with h|h|h <;>rw [h] <;>decide))))
 | @fixUints _ c _ _ _ _ h=>
  have hn:=(Bt hok).2.2.2.1 (.inr rfl);exact .inr (.inr (.inr (.inr (by rw [h.width.1];rcases hn with h|h|h <;>rw [h] <;>decide))))
 |vec _ _ _ _ _ _ h=>exact .inr (.inr (.inr (.inr (by rw [h.width.1];decide))))
 |map _ _ _ _ _ _ _ h=>exact .inr (.inr (.inr (.inr (by rw [h.width.1];decide))))
theorem R0{L:List UInt8}{T:Int}{vs:List Bv}{c:List Tr}(hl:vs.length=c.length)(hr:∀(i:Nat) x t,vs[i]?=some x→c[i]?=some t→Ee L x t)(hc:∀x∈c,H9 x)(hT:Bo T=true):Nc T vs:=by
 intro y hy;obtain⟨i,hi,rfl⟩:=List.mem_iff_getElem.1 hy;have hx:c[i]?=some c[i]:=Ati (by omega);have h:=hr i vs[i] c[i] (Ati hi) hx;have ho:=hc c[i] (List.getElem_mem _);obtain⟨g1,g2,_⟩:=h.legal ho.fix;exact⟨Aqd h ho,g1,g2,fun e=>by rw [hT] at e;cases e⟩
theorem O5{L:List UInt8}{T:Int}{ks:List (List UInt8)}{vs:List Bv}(h:De L ks vs)(hT:F4 T=4):Nc T vs:=by
 intro y hy;obtain⟨i,hi,rfl⟩:=List.mem_iff_getElem.1 hy;have hx:ks[i]?=some (ks[i]'(by rw [←h.1];exact hi)):=Ati (by rw [←h.1];exact hi);obtain⟨g1,g2,_⟩:=h.2 i _ vs[i] hx (Ati hi);refine⟨.inr (.inr (.inr (.inr (by rw [g1];decide)))),by rw [g1];decide,by rw [g2];decide,fun _=>by rw [hT,g1];rfl⟩
theorem Iw{L:List UInt8}{P:Int→Int→Int→Int→Prop}{z w:Nat}{v:Bv}{k:Int}{c:List Tr}(n u s ks)(hs:Ci L z w v)(hi:inl v.t=false)(hl:Be (v.t:Int)=true)(hw:Av (v.w:Int)=true)(hk:Cg (v.t:Int)=k)(h10:10≤k∧k≤16)(hP:P z w v.t v.w)
  (h:(Bw L z w v.t v.w=0∧lsLen L z w v.t v.w=c.length)∧(∀i:Nat,i<c.length→Ez L z w v.t v.w i=0)∧∀(i:Nat) x,c[i]?=some x→I6 L P (I8 L z w v.t v.w i) (I9 L z w v.t v.w i) (Jr L z w v.t v.w i) (Js L z w v.t v.w i) x):I6 L P z w v.t (ownW w v) (.mk k n u s ks c):=by
 have ho:ownW w v=v.w:=by unfold ownW;rw [if_neg (by rw [hi];decide)]
 rw [ho];have hd:=hs.leads hi hl hw;exact .list n u s ks hd.may hi hk h10 hd.tgE h.1 hP h.2.1 h.2.2
theorem Aqf{L:List UInt8}{P:Int→Int→Int→Int→Prop}(hP:T5 L P){v:Bv}{t:Tr}(hr:Ee L v t)(hL:L.length<2^32):H9 t→∀z w,Ci L z w v→I6 L P z w v.t (ownW w v) t:=by
 have inlW:∀{w:Nat} {v:Bv},inl v.t=true→ownW w v=w:=fun h=>by unfold ownW;rw [if_pos h]
 induction hr with
 |null n u s ks c=>
  intro hok z w hs;obtain⟨_,_,_,_,hn,hu,_⟩:=Bt hok;rw [inlW (by decide)];exact M9 s ks c hs (.inl ⟨rfl,rfl⟩) hn hu
 |truth n u s ks c=>
  intro hok z w hs;obtain⟨_,_,_,_,hn,hu,_⟩:=Bt hok;rw [inlW (show inl (Cz n).t=true from(by decide:inl 26=true))];exact M9 s ks c hs (.inr (.inl ⟨rfl,rfl⟩)) hn hu
 |int n u s ks c=>
  intro hok z w hs;obtain⟨_,_,_,_,hn,hu,_⟩:=Bt hok;rw [inlW (show inl (Cf n).t=true from(by decide:inl 1=true))];exact M9 s ks c hs (.inr (.inr (.inl ⟨rfl,rfl⟩))) hn hu
 |uint n u s ks c=>
  intro hok z w hs;obtain⟨_,_,_,_,hn,hu,_⟩:=Bt hok;rw [inlW (show inl (Ch u).t=true from(by decide:inl 2=true))];exact M9 s ks c hs (.inr (.inr (.inr ⟨rfl,rfl⟩))) hn hu
 | @key v s n u ks c h=>
  intro hok z w hs;obtain⟨_,hz,_,_,hn,hu,_⟩:=Bt hok;have hi:inl v.t=false:=by rw [h.1];decide
  have ho:ownW w v=v.w:=by unfold ownW;rw [if_neg (by rw [hi];decide)]
  have ht:=Pa hs h (hz rfl) (y:=(v.w:Int)) (by rw [h.2.1];decide);rw [ho,h.1];exact .txt n u ks c ht (hP.key hs h (hz rfl) (by rw [h.2.1];decide))
 | @str v s n u ks c h=>
  intro hok z w hs;have hi:inl v.t=false:=by rw [h.1];decide
  have ho:ownW w v=v.w:=by unfold ownW;rw [if_neg (by rw [hi];decide)]
  rw [ho];exact .txt n u ks c (Rs hs (.inl ⟨rfl,h⟩) hL) (hP.text hs (.inl h))
 | @blob v s n u ks c h=>
  intro hok z w hs;have hi:inl v.t=false:=by rw [h.1];decide
  have ho:ownW w v=v.w:=by unfold ownW;rw [if_neg (by rw [hi];decide)]
  rw [ho];exact .txt n u ks c (Rs hs (.inr ⟨rfl,h⟩) hL) (hP.text hs (.inr h))
 | @indInt v n u s ks c h=>
  intro hok z w hs;obtain⟨_,_,_,_,hn,hu,_⟩:=Bt hok;obtain⟨h1,h2,h3,h4,_,h5⟩:=T8 (k:=8) hs (.inl ⟨rfl,h⟩) hn hu;have ho:ownW w v=v.w:=by unfold ownW;rw [if_neg (by rw [show inl v.t=false from h2];decide)]
  rw [ho];exact .num s ks c h1 h2 h3 (.inl rfl) h4 h5 (hP.num (n:=n) (u:=u) hs (.inl h) hn hu)
 | @indUint v u n s ks c h=>
  intro hok z w hs;obtain⟨_,_,_,_,hn,hu,_⟩:=Bt hok;obtain⟨h1,h2,h3,h4,_,h5⟩:=T8 (k:=9) hs (.inr ⟨rfl,h⟩) hn hu;have ho:ownW w v=v.w:=by unfold ownW;rw [if_neg (by rw [show inl v.t=false from h2];decide)]
  rw [ho];exact .num s ks c h1 h2 h3 (.inr rfl) h4 h5 (hP.num (n:=n) (u:=u) hs (.inr h) hn hu)
 | @ints v c n u s ks h=>
  intro hok z w hs;obtain⟨ht,hw⟩:=h.width;have hl:=F0 h hL [] rfl (.inr ⟨.inl rfl,rfl⟩);simp only [List.nil_append,List.length_nil] at hl;have hi:inl v.t=false:=by rw [ht];decide
  have hg:Be (v.t:Int)=true:=by rw [ht];decide
  exact Iw n u s ks hs hi hg hw (by rw [ht];decide) (by omega) (hP.vec hs (hs.leads hi hg hw) hl (ht▸h) (by rw [ht];decide) (by rw [ht];decide) (H6 (K:=3) (tf:=1) (C2 hok (K:=3) (by decide) (by decide)) (by rw [ht];decide) (fun _=>rfl) (fun _=> .inr (.inr (.inl ⟨rfl,rfl⟩))))) (Ks (T:=1) hl (hs.leads hi hg hw) (by rw [ht];decide) (by rw [ht];decide) (C2 hok (K:=3) (by decide) (by decide)) (fun _=>rfl) (fun _=> .inr (.inr (.inl ⟨rfl,rfl⟩))))
 | @uints v c n u s ks h=>
  intro hok z w hs;obtain⟨ht,hw⟩:=h.width;have hl:=F0 h hL [] rfl (.inr ⟨.inr (.inl rfl),rfl⟩);simp only [List.nil_append,List.length_nil] at hl;have hi:inl v.t=false:=by rw [ht];decide
  have hg:Be (v.t:Int)=true:=by rw [ht];decide
  exact Iw n u s ks hs hi hg hw (by rw [ht];decide) (by omega) (hP.vec hs (hs.leads hi hg hw) hl (ht▸h) (by rw [ht];decide) (by rw [ht];decide) (H6 (K:=4) (tf:=2) (C2 hok (K:=4) (by decide) (by decide)) (by rw [ht];decide) (fun _=>rfl) (fun _=> .inr (.inr (.inr ⟨rfl,rfl⟩))))) (Ks (T:=2) hl (hs.leads hi hg hw) (by rw [ht];decide) (by rw [ht];decide) (C2 hok (K:=4) (by decide) (by decide)) (fun _=>rfl) (fun _=> .inr (.inr (.inr ⟨rfl,rfl⟩))))
 | @bools v c n u s ks h=>
  intro hok z w hs;obtain⟨ht,hw⟩:=h.width;have hl:=F0 h hL [] rfl (.inr ⟨.inr (.inr (.inr rfl)),rfl⟩);simp only [List.nil_append,List.length_nil] at hl;have hi:inl v.t=false:=by rw [ht];decide
  have hg:Be (v.t:Int)=true:=by rw [ht];decide
  exact Iw n u s ks hs hi hg hw (by rw [ht];decide) (by omega) (hP.vec hs (hs.leads hi hg hw) hl (ht▸h) (by rw [ht];decide) (by rw [ht];decide) (H6 (K:=2) (tf:=26) (C2 hok (K:=2) (by decide) (by decide)) (by rw [ht];decide) (fun _=>rfl) (fun _=> .inr (.inl ⟨rfl,rfl⟩)))) (Ks (T:=26) hl (hs.leads hi hg hw) (by rw [ht];decide) (by rw [ht];decide) (C2 hok (K:=2) (by decide) (by decide)) (fun _=>rfl) (fun _=> .inr (.inl ⟨rfl,rfl⟩)))
 | @keys v c vs n u s ks hk h=>
  intro hok z w hs;obtain⟨ht,hw⟩:=h.width;have hl:=F0 h hL [] rfl (.inr ⟨.inr (.inr (.inl rfl)),rfl⟩);simp only [List.nil_append,List.length_nil] at hl;have hi:inl v.t=false:=by rw [ht];decide
  have hg:Be (v.t:Int)=true:=by rw [ht];decide
  have htag:Bo (v.t:Int)=false:=by rw [ht];decide
  refine Iw n u s ks hs hi hg hw (by rw [ht];decide) (by omega) (hP.vec hs (hs.leads hi hg hw) hl (ht▸h) (by rw [ht];decide) (by rw [ht];decide) (O5 hk (by rw [ht];decide))) (Ph hl (hs.leads hi hg hw) (by rw [hk.1,Atq]) (fun e=>by rw [htag] at e;cases e) (fun i y x hy hx hsl=>?_));rw [if_neg (by rw [htag];decide),if_neg (by rw [htag];decide),show F4 (v.t:Int)=4 by rw [ht];decide];obtain⟨h1,h2⟩:=C2 hok (K:=5) (by decide) (by decide) x (Atu hx);have h3:=hk.2 i x.s y (by rw [List.getElem?_map,hx];rfl) hy;obtain⟨xk,xn,xu,xs,xks,xl⟩:=x;have h1:xk=5:=h1;subst h1;exact .txt xn xu xks xl (Pa hsl h3 ((Bt h2).2.1 rfl) hw) (hP.key hsl h3 ((Bt h2).2.1 rfl) hw)
 | @fixInts v c n u s ks h=>
  intro hok z w hs;obtain⟨ht,hw⟩:=h.width;have hn:=(Bt hok).2.2.2.1 (.inl rfl);obtain⟨⟨m1,_⟩,⟨m3,m4⟩,_⟩:=Pk hn;have hl:=O7 h hL [] rfl (by rcases hn with h|h|h <;>rw [h] <;>simp) (by rw [Atq];exact m1);simp only [List.nil_append,List.length_nil] at hl;have hi:inl v.t=false:=by rw [ht];rcases hn with h|h|h <;>rw [h] <;>decide
  have hg:Be (v.t:Int)=true:=by rw [ht];rcases hn with h|h|h <;>rw [h] <;>decide
  exact Iw n u s ks hs hi hg hw (by rw [ht];rcases hn with h|h|h <;>rw [h] <;>decide) (by omega) (hP.vec hs (hs.leads hi hg hw) hl (ht▸h) (by rw [ht];rcases hn with h|h|h <;>rw [h] <;>decide) (by rw [ht];rcases hn with h|h|h <;>rw [h] <;>decide) (H6 (K:=3) (tf:=1) (C2 hok (K:=3) (by decide) (by decide)) (by rw [ht];rcases hn with h|h|h <;>rw [h] <;>decide) (fun _=>rfl) (fun _=> .inr (.inr (.inl ⟨rfl,rfl⟩))))) (Ks (T:=1) hl (hs.leads hi hg hw) (by rw [ht];exact m3) (by rw [ht];rcases hn with h|h|h <;>rw [h] <;>decide) (C2 hok (K:=3) (by decide) (by decide)) (fun _=>rfl) (fun _=> .inr (.inr (.inl ⟨rfl,rfl⟩))))
 | @fixUints v c n u s ks h=>
  intro hok z w hs;obtain⟨ht,hw⟩:=h.width;have hn:=(Bt hok).2.2.2.1 (.inr rfl);obtain⟨⟨_,m1⟩,_,⟨m3,m4⟩⟩:=Pk hn;have hl:=O7 h hL [] rfl (by rcases hn with h|h|h <;>rw [h] <;>simp) (by rw [Atq];exact m1);simp only [List.nil_append,List.length_nil] at hl;have hi:inl v.t=false:=by rw [ht];rcases hn with h|h|h <;>rw [h] <;>decide
  have hg:Be (v.t:Int)=true:=by rw [ht];rcases hn with h|h|h <;>rw [h] <;>decide
  exact Iw n u s ks hs hi hg hw (by rw [ht];rcases hn with h|h|h <;>rw [h] <;>decide) (by omega) (hP.vec hs (hs.leads hi hg hw) hl (ht▸h) (by rw [ht];rcases hn with h|h|h <;>rw [h] <;>decide) (by rw [ht];rcases hn with h|h|h <;>rw [h] <;>decide) (H6 (K:=4) (tf:=2) (C2 hok (K:=4) (by decide) (by decide)) (by rw [ht];rcases hn with h|h|h <;>rw [h] <;>decide) (fun _=>rfl) (fun _=> .inr (.inr (.inr ⟨rfl,rfl⟩))))) (Ks (T:=2) hl (hs.leads hi hg hw) (by rw [ht];exact m3) (by rw [ht];rcases hn with h|h|h <;>rw [h] <;>decide) (C2 hok (K:=4) (by decide) (by decide)) (fun _=>rfl) (fun _=> .inr (.inr (.inr ⟨rfl,rfl⟩))))
 | @vec v c vs n u s ks hl hr h ih=>
  intro hok z w hs;obtain⟨ht,hw⟩:=h.width;have hli:=F0 h hL [] rfl (.inl ⟨rfl,rfl⟩);simp only [List.nil_append,List.length_nil] at hli;have hi:inl v.t=false:=by rw [ht];decide
  have hg:Be (v.t:Int)=true:=by rw [ht];decide
  have htag:Bo (v.t:Int)=true:=by rw [ht];decide
  refine Iw n u s ks hs hi hg hw (by rw [ht];decide) (by omega) (hP.vec hs (hs.leads hi hg hw) hli (ht▸h) (by rw [ht];decide) (by rw [ht];decide) (R0 hl hr (fun x hx=>((Bt hok).1 x hx).1) htag)) (Ph hli (hs.leads hi hg hw) hl (fun _ y hy=>?_) (fun i y x hy hx hsl=>?_))
  ·obtain⟨i,hi,rfl⟩:=List.mem_iff_getElem.1 hy;have hx:c[i]?=some c[i]:=Ati (by omega);obtain⟨g1,g2,_⟩:=(hr i vs[i] c[i] (Ati hi) hx).legal (((Bt hok).1 c[i] (List.getElem_mem _)).1.fix);exact⟨g1,g2⟩
  ·rw [if_pos htag,if_pos htag];exact ih i y x hy hx ((Bt hok).1 x (Atu hx)).1 _ _ hsl
 | @map v kv c ks kvs vs n u s hk hv hl hr h ih=>
  intro hok z w hs;obtain⟨ht,hw⟩:=h.width;obtain⟨hkt,hkw⟩:=hv.width;have hki:inl kv.t=false:=by rw [hkt];decide
  have hLi:=Abk h hki hL [] rfl;have hK:=F0 hv hL [] rfl (.inr ⟨.inr (.inr (.inl rfl)),rfl⟩);have hM:=h.facts hki hL [];simp only [List.nil_append,List.length_nil] at hLi hK hM;have hi:inl v.t=false:=by rw [ht];decide
  have hg:Be (v.t:Int)=true:=by rw [ht];decide
  have htag:Bo (v.t:Int)=true:=by rw [ht];decide
  have ho:ownW w v=v.w:=by unfold ownW;rw [if_neg (by rw [hi];decide)]
  have hld:=hs.leads hi hg hw;obtain⟨hl1,hl2,hl3⟩:=Ph hLi hld hl (fun _ y hy=>by
   obtain⟨i,hi,rfl⟩:=List.mem_iff_getElem.1 hy;have hx:c[i]?=some c[i]:=Ati (by omega);obtain⟨g1,g2,_⟩:=(hr i vs[i] c[i] (Ati hi) hx).legal (((Bt hok).1 c[i] (List.getElem_mem _)).1.fix);exact⟨g1,g2⟩) (fun i y x hy hx hsl=>by
   rw [if_pos htag,if_pos htag];exact ih i y x hy hx ((Bt hok).1 x (Atu hx)).1 _ _ hsl)
  have hksl:ks.length=c.length:=(Bt hok).2.2.2.2.2.2 rfl;have h0:=(Bt hok).2.2.1;obtain⟨e1,e2,e3⟩:=Mf hLi hld;have hPm:=hP.map hs hld hLi hv h (by rw [ht];rfl) (R0 hl hr (fun x hx=>((Bt hok).1 x hx).1) htag);obtain⟨cc,hc,g1,g2,g3,g4,_,_⟩:=hM.head;rw [Nat.zero_add] at g1 g4 e3;have ha:aheadT (v.t:Int)=3:=by rw [ht];decide
  have hF:lsFrom L z w (v.t:Int) (v.w:Int)=cc:=by
   unfold lsFrom;rw [if_pos e1,hld.tg,ha];omega
  have hU:kyU L z w (v.t:Int) (v.w:Int)=kv.w:=by
   unfold kyU;rw [hF];have e:((cc:Int)+(v.w:Int))=((cc+v.w:Nat):Int):=by omega
   rw [e];refine Pf hw g4 ?_;have h8:kv.w≤8:=by rcases Cc.1 hkw with h|h|h|h <;>omega
   rcases Cc.1 hw with h|h|h|h <;>rw [h] <;>omega
  have hkE:Gu L z w (v.t:Int) (v.w:Int)=0:=by
   unfold Gu;rw [hld.may,if_neg (by decide),if_neg (by rw [ht];decide),e1,if_neg (by decide),hU,if_neg (by rw [hkw];decide)]
  have hkP:Fi L z w (v.t:Int) (v.w:Int)=(cc:Int):=by unfold Fi;rw [if_pos hkE,hF]
  have hkQ:Fj L z w (v.t:Int) (v.w:Int)=(v.w:Int):=by unfold Fj;rw [if_pos hkE]
  have hkT:Lx L z w (v.t:Int) (v.w:Int)=14:=by unfold Lx;rw [if_pos hkE]
  have hkV:Fp L z w (v.t:Int) (v.w:Int)=(kv.w:Int):=by unfold Fp;rw [if_pos hkE,hU]
  have hsk:Ci L cc v.w kv:=⟨hw,by unfold B9;rw [if_neg (by rw [hki];decide)];exact g1,(⟨fun e=>(by rw [hki] at e;cases e),fun _=>⟨g2,g3⟩⟩:_∧_)⟩;have hKL:=hsk.leads hki (by rw [hkt];decide) hkw;obtain⟨f1,f2,_⟩:=Mf hK hKL;have hPk:P (cc:Int) (v.w:Int) (kv.t:Int) (kv.w:Int):=hP.vec hsk hKL hK (hkt▸hv) (by rw [hkt];decide) (by rw [hkt];decide) (O5 hk (by rw [hkt];decide));have hkl:kvs.length=ks.length:=hk.1;have e14:(kv.t:Int)=14:=by rw [hkt];rfl
  have hop:opE L z w (v.t:Int) (v.w:Int)=0:=by
   unfold opE;rw [if_neg (by rw [hkE];decide),hkP,hkQ,hkT,hkV,←e14,if_neg (by rw [f1];decide),if_neg];rw [f2,e2,hl,hkl,hksl];simp
  have hke:∀(i:Nat) s',ks[i]?=some s'→Ez L (cc:Int) (v.w:Int) (kv.t:Int) (kv.w:Int) i=0∧∃a,Vz L (I8 L (cc:Int) (v.w:Int) (kv.t:Int) (kv.w:Int) i) (I9 L (cc:Int) (v.w:Int) (kv.t:Int) (kv.w:Int) i) (Jr L (cc:Int) (v.w:Int) (kv.t:Int) (kv.w:Int) i) (Js L (cc:Int) (v.w:Int) (kv.t:Int) (kv.w:Int) i) 5 s' a∧P (I8 L (cc:Int) (v.w:Int) (kv.t:Int) (kv.w:Int) i) (I9 L (cc:Int) (v.w:Int) (kv.t:Int) (kv.w:Int) i) (Jr L (cc:Int) (v.w:Int) (kv.t:Int) (kv.w:Int) i) (Js L (cc:Int) (v.w:Int) (kv.t:Int) (kv.w:Int) i):=by
   intro i s' hs';have hil:i<kvs.length:=by rw [hkl];exact(List.getElem?_eq_some_iff.1 hs').1
   have hy:kvs[i]?=some kvs[i]:=Ati hil;have hk3:=hk.2 i s' kvs[i] hs' hy;have htg:Bo (kv.t:Int)=false:=by rw [hkt];decide
   obtain⟨a1,a2,a3,a4,a5⟩:=Abh hK hKL hy (fun h=>by rw [htg] at h;cases h);rw [if_neg (by rw [htg];decide)] at a4 a5;rw [Nat.zero_add] at a2;have hq2:=hP.key (hK.slot hy) hk3 (h0 s' (Atu hs')) hkw;have hq:=Pa (hK.slot hy) hk3 (h0 s' (Atu hs')) hkw;refine⟨a1,kvs[i].n,?_⟩;rw [a2,a3,a4,a5,show F4 (kv.t:Int)=4 by rw [hkt];decide];exact⟨hq,hq2⟩
  rw [ho];have e9:(v.t:Int)=9:=by rw [ht];rfl
  rw [e9] at hPm hl1 hl2 hl3 hkE hkP hkQ hkT hkV hop⊢;have hdm:=hld.may;have hdt:=hld.tgE;rw [e9] at hdm hdt;have hkt':=hKL.tgE;rw [e14] at hkt' f1 f2 hke hPk;refine .map n u s hdm hdt hl1 hksl hkE hop ?_ ⟨hPm,by rw [hkP,hkQ,hkV];exact hPk⟩ ?_ hl2 hl3
  ·rw [hkP,hkQ,hkV];exact⟨hkT,hkt',f1,by rw [f2,hkl,hksl]⟩
  ·rw [hkP,hkQ,hkV];exact hke
theorem Ame{P:Int→Int→Int→Int→Prop}{T:Tr}(hv:Ff T)(hN:Fb T){b:List UInt8}{v:Bv}{w:Nat}(hr:Ee b v (Aq T))(hw:Av (w:Int)=true)(hb:b.length≤65000)(hf:Cu v b.length 0 w=true)(hP:T5 (Cp b v w) P):
  I6 (Cp b v w) P ((Ah w b).length:Int) (w:Int) (v.t:Int) (ownW w v:Int) (Aq T):=by
 have hlm:(Cp b v w).length<2^32:=by
  have h1:=Zn [] b v w;have h2:=L7 b (Cc.2 (Cc.1 hw));have h3:w≤8:=by rcases Cc.1 hw with h|h|h|h <;>omega
  simp only [List.nil_append,List.length_nil] at h1;omega
 have hs:=Aae hw (by omega) hf;have hd:∃m,Cp b v w=b++m:=⟨_,by unfold Cp Ah;rw [Ato,Ato]⟩;obtain⟨m,em⟩:=hd;refine Aqf hP ?_ hlm (Aev hv hN) _ _ hs;rw [em];exact hr.app m
theorem Ap0{L:List UInt8}{z w:Nat}{v kv:Bv}{vs kvs:List Bv}(hL:L.length<2^32)(hld:J7 L 0 v z w)(hLi:G4 L 0 vs v)(hv:Cd L 14 true false kvs kv)(h:F2 L kv vs v)(ht:(v.t:Int)=9):
  ∃cc,v.n=cc+3*v.w∧lsFrom L z w (v.t:Int) (v.w:Int)=cc∧C9 L ⟨z,w,v.t,v.w⟩=⟨(cc:Int),(v.w:Int),14,(kv.w:Int)⟩∧Ci L cc v.w kv:=by
 obtain⟨hkt,hkw⟩:=hv.width;have hw:=hLi.w;have hki:inl kv.t=false:=by rw [hkt];decide
 have hM:=h.facts hki hL [];simp only [List.nil_append,List.length_nil] at hM;obtain⟨e1,e2,e3⟩:=Mf hLi hld;obtain⟨cc,hc,g1,g2,g3,g4,_,_⟩:=hM.head;rw [Nat.zero_add] at g1 g4 e3;have ha:aheadT (v.t:Int)=3:=by rw [ht];decide
 have hF:lsFrom L z w (v.t:Int) (v.w:Int)=cc:=by
  unfold lsFrom;rw [if_pos e1,hld.tg,ha];omega
 have hU:kyU L z w (v.t:Int) (v.w:Int)=kv.w:=by
  unfold kyU;rw [hF];have e:((cc:Int)+(v.w:Int))=((cc+v.w:Nat):Int):=by omega
  rw [e];refine Pf hw g4 ?_;have h8:kv.w≤8:=by rcases Cc.1 hkw with h|h|h|h <;>omega
  rcases Cc.1 hw with h|h|h|h <;>rw [h] <;>omega
 have hkE:Gu L z w (v.t:Int) (v.w:Int)=0:=by
  unfold Gu;rw [hld.may,if_neg (by decide),if_neg (by rw [ht];decide),e1,if_neg (by decide),hU,if_neg (by rw [hkw];decide)]
 have hkP:Fi L z w (v.t:Int) (v.w:Int)=(cc:Int):=by unfold Fi;rw [if_pos hkE,hF]
 have hkQ:Fj L z w (v.t:Int) (v.w:Int)=(v.w:Int):=by unfold Fj;rw [if_pos hkE]
 have hkT:Lx L z w (v.t:Int) (v.w:Int)=14:=by unfold Lx;rw [if_pos hkE]
 have hkV:Fp L z w (v.t:Int) (v.w:Int)=(kv.w:Int):=by unfold Fp;rw [if_pos hkE,hU]
 refine⟨cc,hc,hF,?_,⟨hw,by unfold B9;rw [if_neg (by rw [hki];decide)];exact g1,(⟨fun e=>(by rw [hki] at e;cases e),fun _=>⟨g2,g3⟩⟩:_∧_)⟩⟩;show(⟨Fi L z w (v.t:Int) (v.w:Int),Fj L z w (v.t:Int) (v.w:Int),Lx L z w (v.t:Int) (v.w:Int),Fp L z w (v.t:Int) (v.w:Int)⟩:Rq)=_;rw [hkP,hkQ,hkT,hkV]
end Go.Proofs.YtgbjodnegkbfoaaGreat
