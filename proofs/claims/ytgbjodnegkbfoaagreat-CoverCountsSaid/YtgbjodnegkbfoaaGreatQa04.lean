/- Parts of the proof. -/
import Derived.Test.YtgbjodnegkbfoaaGreatQa03
set_option maxHeartbeats 1000000
set_option maxRecDepth 100000
open Go.Value renaming int→Aa
open Go.IntKind renaming i64→Ab,u64→Ac
open Nat renaming le_refl→Ath,zero_le→Atl
open List renaming length_append→Atj,replicate→Atm,length_cons→Atp,length_map→Atq
namespace Go.Proofs.YtgbjodnegkbfoaaGreat
open Go.Acc
structure Asd(L:List UInt8)(s:Nat)(k:Bv)(vs:List Bv)(v:Bv):Prop where
 w:Av v.w=true
 head:∃c,v.n=c+3*v.w∧At L (s+c) (Ai v.w (c-k.n))∧k.n≤c∧c-k.n<2^(8*v.w)∧At L (s+(c+v.w)) (Ai v.w k.w)∧At L (s+(c+2*v.w)) (Ai v.w vs.length)∧vs.length<2^(8*v.w)
 el:∀(i:Nat) y,vs[i]?=some y→At L (s+(v.n+i*v.w)) (Ai v.w (B9 v.w (v.n+i*v.w) y))∧Zh v.w (v.n+i*v.w) y
 tags:At L (s+(v.n+vs.length*v.w)) (vs.map (C3 v.w))
 le:s+(v.n+vs.length*v.w)≤L.length
theorem F2.facts{l:List UInt8}{k:Bv}{vs:List Bv}{v:Bv}(h:F2 l k vs v)(hk0:inl k.t=false)(hb:l.length<2^32)(x:List UInt8):Asd (x++l) x.length k vs v:=by
 have hw0:=h.width.2;obtain⟨b,m,rfl,rfl,hk,hf⟩:=h;obtain⟨f1,f2,f3⟩:=Nj (a:=b.length) (ahead:=3) (k:=some k) (fun x e=>by injection e with e;exact e▸hk) hf;have f2:=f2 k rfl;have hw:Av ((B3 b.length 3 (some k) vs:Nat):Int)=true:=hw0;clear hw0;obtain⟨w,hwd⟩:∃w,B3 b.length 3 (some k) vs=w:=⟨_,rfl⟩;obtain⟨a,ha⟩:∃a,Ah w b=a:=⟨_,rfl⟩;obtain⟨c,hc⟩:∃c,a++Ai w (a.length-k.n)++Ai w k.w++Ai w vs.length=c:=⟨_,rfl⟩;simp only [Ds,hwd,ha,hc] at hb hw f1 f2 f3⊢;obtain⟨a1,a2,a3⟩:=Hf hw b;rw [ha] at a1 a2 a3;obtain⟨q,e,hq⟩:=D3 w vs c;have hcl:c.length=a.length+3*w:=by
  rw [←hc];simp only [Atj,Aj];omega
 have hlen:c.length+w*vs.length≤(Bn w c vs++vs.map (C3 w)++m).length:=by
  rw [e];simp only [Atj,hq];omega
 have hvl:vs.length≤w*vs.length:=Nat.le_mul_of_pos_left _ (by rcases Cc.1 hw with rfl|rfl|rfl|rfl <;>omega);obtain⟨g1,g2⟩:=Mr hk0 f2;rw [Nat.zero_mul,Nat.add_zero,←a1] at g2;refine⟨hw,⟨a.length,hcl,?_,by omega,E4 hw (by omega) g2,?_,?_,E4 hw (by omega) (f1.resolve_left (by omega))⟩,fun i y hy=>?_,?_,?_⟩
 ·refine At.ahead (At.app (At.app ?_ _) m) x;rw [e,←hc];exact(((At.last a _).app _).app _).app q
 ·refine At.ahead (At.app (At.app ?_ _) m) x;rw [e,←hc];have:=At.last (a++Ai w (a.length-k.n)) (Ai w k.w);rw [Atj,Aj] at this;exact(this.app _).app q
 ·refine At.ahead (At.app (At.app ?_ _) m) x;rw [e,←hc];have:=At.last (a++Ai w (a.length-k.n)++Ai w k.w) (Ai w vs.length);rw [Atj,Atj,Aj,Aj,show a.length+w+w=a.length+2*w by omega] at this;exact this.app q
 ·have hi:i<vs.length:=by
   rw [←Nat.not_le];intro hn;rw [List.getElem?_eq_none hn] at hy;cases hy
  have hiw:i*w≤w*vs.length:=by rw [Nat.mul_comm];exact Nat.mul_le_mul_left _ (by omega)
  refine⟨At.ahead (((Qw w vs c i y hy).app _).app m) x,?_⟩;have h1:=Mq vs _ i y f3 hy;have h2:upN b.length w+(3+i)*w=c.length+i*w:=by rw [hcl,Nat.add_mul,a1,Nat.add_assoc]
  have h3:=Wc hw (by rw [h2];omega) h1;rw [h2] at h3;exact h3
 ·refine At.ahead (At.app ?_ m) x;have:(Bn w c vs).length=c.length+vs.length*w:=by rw [e,Atj,hq,Nat.mul_comm]
  rw [←this];exact At.last _ _
 ·show x.length+(c.length+vs.length*w)≤_;rw [Atj,Nat.mul_comm vs.length];omega
def As(k:Int):Int:=if k=10∨k=17 then 0 else if k=11∨k=15 then 3 else if k=12∨k=16 then 4 else if k=13 then 5 else if k=14 then 2 else -1
def Dv(t:Tr):Bool:=
 decide (1≤t.k∧t.k≤17)&&decide (t.k=2∨t.k=3∨t.k=8∨t.n=0)&&decide (t.k=4∨t.k=9∨t.u=0)&&decide (t.k=5∨t.k=6∨t.k=7∨t.s=[])&&decide (t.k=17∨t.ks=[])&&decide (t.k=2→t.n=0∨t.n=1)&&decide (t.k=17→t.ks.length=t.l.length)&&decide (t.k=15∨t.k=16→2≤t.l.length∧t.l.length≤4)&&t.l.all fun x=>decide (As t.k=0∨x.k=As t.k)
def Br(s:List UInt8):Bool:=s.any fun c=>c==0
def Ib(ez et:Int):List (List UInt8)→List (List UInt8)→Int
 |_,[]=>0
 |had,k::r=>if Br k=true then ez else if had.contains k=true then et else Ib ez et (k::had) r
def Hc(ez et:Int)(t:Tr):Int:=if t.k=5∧Br t.s=true then ez else Ib ez et [] t.ks
structure P6 where
 limit:Int
 deep:Int
 kind:Int
 key:Int
 twice:Int
mutual
def Fa(e:P6)(d:Nat):Tr→Nat→Int×Nat
 | .mk k n u s ks l,c=>
  if c+1>4096 then(e.limit,c+1)
  else if d≥64 then(e.deep,c+1)
  else if Dv (.mk k n u s ks l)=false then(e.kind,c+1)
  else if Hc e.key e.twice (.mk k n u s ks l)≠0 then(Hc e.key e.twice (.mk k n u s ks l),c+1)
  else Kc e (d+1) l (c+1)
def Kc(e:P6)(d:Nat):List Tr→Nat→Int×Nat
 | [],c=>(0,c)
 |t::r,c=>if(Fa e d t c).1≠0 then Fa e d t c else Kc e d r (Fa e d t c).2
end
theorem L9{s:List UInt8}(h:Br s=false):(0:UInt8)∉s:=by
 intro hm;have:Br s=true:=List.any_eq_true.2 ⟨0,hm,by simp⟩;rw [h] at this;cases this
theorem Aa2{ez et:Int}(hz:ez≠0)(ht:et≠0):∀(l had:List (List UInt8)),Ib ez et had l=0→(∀s∈l,(0:UInt8)∉s)∧l.Nodup∧∀s∈l,s∉had
 | [],_,_=>⟨fun s h=>by simp at h,List.nodup_nil,fun s h=>by simp at h⟩
 |k::r,had,h=>by
  unfold Ib at h;by_cases h1:Br k=true
  ·rw [if_pos h1] at h;exact absurd h hz
  ·by_cases h2:had.contains k=true
   ·rw [if_neg h1,if_pos h2] at h;exact absurd h ht
   ·rw [if_neg h1,if_neg h2] at h;obtain⟨a,b,c⟩:=Aa2 hz ht r (k::had) h;have hk:k∉had:=fun hm=>h2 (by simpa using hm)
    refine⟨fun s hs=>?_,List.nodup_cons.2 ⟨fun hm=>c k hm (by simp),b⟩,fun s hs=>?_⟩
    ·rcases List.mem_cons.1 hs with rfl|hs
     ·exact L9 (by simpa using h1)
     ·exact a s hs
    ·rcases List.mem_cons.1 hs with rfl|hs
     ·exact hk
     ·exact fun hm=>c s hs (by simp [hm])
inductive Ff:Tr→Prop
 |mk {k n:Int} {u:Nat} {s:List UInt8} {ks:List (List UInt8)} {l:List Tr} (h1:Dv (.mk k n u s ks l)=true) (h2:k=5→(0:UInt8)∉s) (h3:∀x∈ks,(0:UInt8)∉x) (h4:ks.Nodup) (h:∀t∈l,Ff t):Ff (.mk k n u s ks l)
structure P6.Ok(e:P6):Prop where
 limit:e.limit≠0
 deep:e.deep≠0
 kind:e.kind≠0
 key:e.key≠0
 twice:e.twice≠0
mutual
theorem H0{e:P6}(he:e.Ok):∀(t:Tr) (d c:Nat),(Fa e d t c).1=0→Ff t
 | .mk k n u s ks l,d,c,h=>by
  rw [Fa] at h;by_cases h1:c+1>4096
  ·rw [if_pos h1] at h;exact absurd h he.limit
  rw [if_neg h1] at h;by_cases h2:d≥64
  ·rw [if_pos h2] at h;exact absurd h he.deep
  rw [if_neg h2] at h;by_cases h3:Dv (.mk k n u s ks l)=false
  ·rw [if_pos h3] at h;exact absurd h he.kind
  rw [if_neg h3] at h;by_cases h4:Hc e.key e.twice (.mk k n u s ks l)≠0
  ·rw [if_pos h4] at h;exact absurd h h4
  rw [if_neg h4] at h;have h4:Hc e.key e.twice (.mk k n u s ks l)=0:=Decidable.not_not.1 h4;have h4:(if k=5∧Br s=true then e.key else Ib e.key e.twice [] ks)=0:=h4;by_cases h5:k=5∧Br s=true
  ·rw [if_pos h5] at h4;exact absurd h4 he.key
  rw [if_neg h5] at h4;obtain⟨a,b,_⟩:=Aa2 he.key he.twice ks [] h4;exact .mk (by simpa using h3) (fun hk=>L9 (by cases hz:Br s with|false=>rfl|true=>exact absurd ⟨hk,hz⟩ h5)) a b (Zy he l (d+1) (c+1) h)
theorem Zy{e:P6}(he:e.Ok):∀(l:List Tr) (d c:Nat),(Kc e d l c).1=0→∀t∈l,Ff t
 | [],_,_,_,t,ht=>by simp at ht
 |x::r,d,c,h,t,ht=>by
  rw [Kc] at h;by_cases h1:(Fa e d x c).1≠0
  ·rw [if_pos h1] at h;exact absurd h h1
  rw [if_neg h1] at h;have h1:(Fa e d x c).1=0:=Decidable.not_not.1 h1;rcases List.mem_cons.1 ht with e1|hr
  ·rw [e1];exact H0 he x d c h1
  ·exact Zy he r d _ h t hr
end
def Tb(x:List UInt8×Tr):List (List UInt8×Tr)→List (List UInt8×Tr)
 | []=>[x]
 |y::r=>if x.1<y.1 then x::y::r else y::Tb x r
def Sb(l:List (List UInt8×Tr)):List (List UInt8×Tr):=l.foldr Tb []
mutual
def Aq:Tr→Tr
 | .mk k n u s ks l=>if k=17 then .mk k n u s ((Sb (ks.zip (Bz l))).map (·.1)) ((Sb (ks.zip (Bz l))).map (·.2)) else .mk k n u s ks (Bz l)
def Bz:List Tr→List Tr
 | []=>[]
 |t::r=>Aq t::Bz r
end
theorem Ca:∀(l:List Tr),Bz l=l.map Aq
 | []=>rfl
 |t::r=>by rw [Bz,Ca r];rfl
theorem Q4(x:List UInt8×Tr):∀(l:List (List UInt8×Tr)),(Tb x l).Perm (x::l)
 | []=>List.Perm.refl _
 |y::r=>by
  rw [Tb];split
  ·exact List.Perm.refl _
  ·exact((Q4 x r).cons y).trans (List.Perm.swap x y r)
theorem D8:∀(l:List (List UInt8×Tr)),(Sb l).Perm l
 | []=>List.Perm.refl _
 |x::r=>(Q4 x _).trans ((D8 r).cons x)
theorem Vp{t:Tr}(h:Ff t):Ok (Aq t):=by
 induction h with
 |mk h1 h2 h3 h4 hl ih=>
  rename_i k n u s ks l;have hm:∀t∈Bz l,Ok t:=by
   intro t ht;rw [Ca] at ht;obtain⟨x,hx,rfl⟩:=List.mem_map.1 ht;exact ih x hx
  simp only [Dv,Bool.and_eq_true,decide_eq_true_eq] at h1;obtain⟨⟨⟨⟨⟨⟨⟨⟨⟨g1,g2⟩,_⟩,_⟩,_⟩,_⟩,_⟩,glen⟩,_⟩,_⟩:=h1;have g1:1≤k:=g1;have g2:k≤17:=g2;rw [Aq];by_cases hk:k=17
  ·rw [if_pos hk];subst hk;have hp:=D8 (ks.zip (Bz l));refine .map n u s (by simp) (fun x hx=>?_) (fun t ht=>?_)
   ·obtain⟨y,hy,rfl⟩:=List.mem_map.1 hx;exact h3 _ (List.of_mem_zip (hp.mem_iff.1 hy)).1
   ·obtain⟨y,hy,rfl⟩:=List.mem_map.1 ht;exact hm _ (List.of_mem_zip (hp.mem_iff.1 hy)).2
  ·rw [if_neg hk];by_cases h10:k=10
   ·subst h10;exact .vec n u s ks hm
   ·by_cases h9:k≤9
    ·exact .leaf n u s ks _ g1 h9
    ·exact .flat n u s ks _ (by omega) (by omega)
theorem Arl{a b:List UInt8}(h:¬a<b)(hne:a≠b):b<a:=by
 rcases List.le_total a b with h1|h1
 ·exact absurd (List.le_antisymm h1 (List.not_lt.1 h)) hne
 ·exact Decidable.byContradiction fun h2=>hne (List.le_antisymm (List.not_lt.1 h2) h1)
theorem Aeg(x:List UInt8×Tr):∀(l:List (List UInt8×Tr)),l.Pairwise (fun a b=>a.1<b.1)→(∀y∈l,x.1≠y.1)→(Tb x l).Pairwise (fun a b=>a.1<b.1)
 | [],_,_=>by simp [Tb]
 |y::r,h,hne=>by
  obtain⟨h1,h2⟩:=List.pairwise_cons.1 h;rw [Tb];by_cases hlt:x.1<y.1
  ·rw [if_pos hlt];refine List.pairwise_cons.2 ⟨fun z hz=>?_,h⟩;rcases List.mem_cons.1 hz with rfl|hz
   ·exact hlt
   ·exact List.lt_trans hlt (h1 z hz)
  ·rw [if_neg hlt];refine List.pairwise_cons.2 ⟨fun z hz=>?_,Aeg x r h2 (fun z hz=>hne z (by simp [hz]))⟩;rcases List.mem_cons.1 ((Q4 x r).mem_iff.1 hz) with rfl|hz
   ·exact Arl hlt (hne y (by simp))
   ·exact h1 z hz
theorem Tu:∀(l:List (List UInt8×Tr)),(l.map (·.1)).Nodup→(Sb l).Pairwise (fun a b=>a.1<b.1)
 | [],_=>List.Pairwise.nil
 |x::r,h=>by
  rw [List.map_cons,List.nodup_cons] at h;refine Aeg x _ (Tu r h.2) (fun y hy e=>h.1 ?_);exact List.mem_map.2 ⟨y,(D8 r).mem_iff.1 hy,e.symm⟩
theorem Aca(t:Tr):(Aq t).k=t.k:=by
 obtain⟨k,n,u,s,ks,l⟩:=t;rw [Aq];split <;>rfl
theorem Na{t:Tr}(h:Ff t):Rx (Aq t):=by
 cases h with
 |mk h1 h2 h3 h4 h=>
  rename_i k n u s ks l;intro hk;rw [Aca] at hk;have hk:k=15∨k=16:=hk;simp only [Dv,Bool.and_eq_true,decide_eq_true_eq] at h1;have hl:k=15∨k=16→2≤l.length∧l.length≤4:=h1.1.2;have hl:=hl hk;rw [Aq,if_neg (by omega)];show(Bz l).length=2∨(Bz l).length=3∨(Bz l).length=4;rw [Ca,Atq];omega
def Bb:List (List UInt8)→Nat
 | []=>0
 |s::r=>s.length+20+Bb r
mutual
def Tr.cost:Tr→Nat
 | .mk _ _ _ s ks l=>64+s.length+Bb ks+Tr.costL l
def Tr.costL:List Tr→Nat
 | []=>0
 |t::r=>40+Tr.cost t+Tr.costL r
end
def Bd.size(b:Bd):Nat:=b.b.length+b.s.length+b.keys.length+b.texts.length+b.lists.length+b.names.length+b.vals.length
theorem Aen{w:Nat}(n:Nat)(hw:w≤8):Jk w n≤7:=by
 unfold Jk;rcases Nat.eq_zero_or_pos w with rfl|h
 ·simp
 ·have:=Nat.mod_lt (w-n % w) h;omega
theorem C5{w:Nat}(b:List UInt8)(hw:w≤8):(Ah w b).length≤b.length+7:=by
 have:=Aen b.length hw;simp [Ah];omega
theorem Um{w:Nat}(vs:List Bv)(l:List UInt8)(hw:w≤8):(Bn w l vs).length≤l.length+8*vs.length:=by
 obtain⟨m,e,h⟩:=D3 w vs l;have:=Nat.mul_le_mul_right vs.length hw;rw [e,Atj];omega
theorem Oy(t:Nat)(len tags:Bool)(l:List Bv)(b:List UInt8):(Bc t len tags l b).1.length≤b.length+15+9*l.length:=by
 have h8:B3 b.length (if len=true then 1 else 0) none l≤8:=Ln _;have h1:=C5 b h8;unfold Bc;simp only [Atj];have h2:=Um l (Ah (B3 b.length (if len=true then 1 else 0) none l) b++(if len=true then Ai (B3 b.length (if len=true then 1 else 0) none l) l.length else [])) h8;have h3:(if len=true then Ai (B3 b.length (if len=true then 1 else 0) none l) l.length else []).length≤8:=by
  split
  ·rw [Aj];exact Ln _
  ·simp
 have h4:(if tags=true then l.map (C3 (B3 b.length (if len=true then 1 else 0) none l)) else []).length≤l.length:=by
  split <;>simp
 rw [Atj] at h2;omega
theorem Abj(k:Bv)(l:List Bv)(b:List UInt8):(Ds k l b).1.length≤b.length+31+9*l.length:=by
 have h8:B3 b.length 3 (some k) l≤8:=Ln _;have h1:=C5 b h8;unfold Ds;simp only [Atj,Atq];generalize hw:B3 b.length 3 (some k) l=w at*;have h2:=Um l (Ah w b++Ai w ((Ah w b).length-k.n)++Ai w k.w++Ai w l.length) h8;simp only [Atj,Aj] at h2;omega
theorem Pt(l:List (List UInt8×Nat))(k:List UInt8)(a:Nat):(En l k a).length≤l.length+1:=by
 unfold En;split <;>simp
theorem Ab0(f:Nat)(s:List UInt8)(b:Bd):(b.put f s).1.size≤b.size+s.length+3∧(b.put f s).1.s=b.s:=by
 unfold Bd.put;have h:=Pt b.keys s b.b.length;cases(if Ek f 1=true then Bf b.keys s else none) with
 |some a=>exact⟨by simp;omega,rfl⟩
 |none=>exact⟨by simp [Bd.size];omega,rfl⟩
theorem Tc(f:Nat)(s:List UInt8)(b:Bd):(b.key f s).size≤b.size+s.length+4:=by
 have h:=(Ab0 f s b).1;simp only [Bd.key,Bd.push,Bd.size,Atj,Atp,List.length_nil] at h⊢;omega
theorem Ye(f:Nat):∀(l:List Tr) (b:Bd),(b.puts f (l.map Tr.s)).1.size+90*l.length≤b.size+Tr.costL l
 | [],b=>by simp [Bd.puts,Tr.costL]
 | .mk k n u s ks c::r,b=>by
  have h1:=(Ab0 f s b).1;have h2:=Ye f r (b.put f s).1;simp only [List.map_cons,Bd.puts,Tr.costL,Tr.cost,Tr.s,Atp];omega
theorem Ab1(f:Nat):∀(l:List (List UInt8)) (b:Bd),(b.puts f l).2.length=l.length
 | [],b=>by simp [Bd.puts]
 |s::r,b=>by simp [Bd.puts,Ab1 f r]
theorem Acr(t:Nat)(len tags:Bool)(l:List Bv)(b:Bd):(b.vec t len tags l).size≤b.size+16+9*l.length:=by
 have h:=Oy t len tags l b.b;simp only [Bd.vec,Bd.size,Atj,Atp,List.length_nil];omega
theorem Ju(l:List Tr):40*l.length≤Tr.costL l:=by
 induction l with
 |nil=>simp
 |cons t r ih=>simp only [Tr.costL,Atp];omega
theorem Anw(f:Nat)(s:List UInt8)(b:Bd):(b.str f s).size≤b.size+s.length+20:=by
 have h8:bWidth s.length≤8:=Fu _;have h1:=C5 b.b h8;unfold Bd.str;cases(if Ek f 2=true then Bf b.texts s else none) with
 |some a=>simp [Bd.push,Bd.size];omega
 |none=>
  have h:=Pt b.texts s (Ah (bWidth s.length) b.b++Ai (bWidth s.length) s.length).length;simp only [Bd.size,Atj,Aj,Atp,List.length_nil] at h⊢;omega
theorem Ah8(s:List UInt8)(b:Bd):(b.blob s).size≤b.size+s.length+20:=by
 have h8:bWidth s.length≤8:=Fu _;have h1:=C5 b.b h8;unfold Bd.blob;simp only [Bd.size,Atj,Aj,Atp,List.length_nil];omega
theorem T7(t w n:Nat)(b:Bd)(hw:w≤8):(b.apart t w n).size≤b.size+20:=by
 have h1:=C5 b.b hw;unfold Bd.apart;simp only [Bd.size,Atj,Aj,Atp,List.length_nil];omega
theorem Ako(b:Bd)(v:Bv):(b.push v).size=b.size+1:=by
 simp [Bd.push,Bd.size];omega
theorem Ajv(f:Nat)(k n:Int)(u:Nat)(s:List UInt8)(b:Bd):(b.leaf f k n u s).size≤b.size+64+s.length:=by
 have h1:=Tc f s b;have h2:=Anw f s b;have h3:=Ah8 s b;have h4:=T7 6 (bWidthI n) (bits n) b (Oz _);have h5:=T7 7 (bWidth u) u b (Fu _);unfold Bd.leaf
 (repeat' split) <;>(try rw [Ako]) <;>omega
theorem Ai8(f:Nat)(k:Int)(l:List Tr)(b:Bd):(b.flat f k l).size≤b.size+64+Tr.costL l:=by
 have hl:=Ju l;have hp:=Ye f l b;have hn:=Ab1 f (l.map Tr.s) b;rw [Atq] at hn;have hv:∀(t:Nat) (len tags:Bool) (x:List Bv),x.length=l.length→(b.vec t len tags x).size≤b.size+64+Tr.costL l:=by
  intro t len tags x hx;have:=Acr t len tags x b;omega
 unfold Bd.flat;split
 ·exact hv _ _ _ _ (by simp)
 split
 ·exact hv _ _ _ _ (by simp)
 split
 ·exact hv _ _ _ _ (by simp)
 split
 ·
  have h:=Acr 14 true false (b.puts f (l.map Tr.s)).2 (b.puts f (l.map Tr.s)).1;show(Bd.vec 14 true false (b.puts f (l.map Tr.s)).2 (b.puts f (l.map Tr.s)).1).size≤_;omega
 split
 ·exact hv _ _ _ _ (by simp)
 ·exact hv _ _ _ _ (by simp)
theorem Adg(start:Nat)(b:Bd)(n:Nat)(h:(b.s.drop start).length=n):(b.endVec start).size≤b.size+16+9*n:=by
 have h1:=Oy 10 true true (b.s.drop start) b.b;have h3:(b.s.take start).length≤b.s.length:=by rw [List.length_take];omega
 simp only [Bd.endVec,Bd.vec,Bd.size,Atj,Atp,List.length_nil];omega
theorem Le(f:Nat):∀(c:List Tr),(∀t∈c,Nu f t)→(∀t∈c,∀b,Cr b→(Bd.calls f t b).size≤b.size+t.cost)→∀b,Cr b→(Bd.callsL f c b).size+40*c.length≤b.size+Tr.costL c
 | [],_,_,b,h=>by simp [Bd.callsL,Tr.costL]
 |t::r,hd,hc,b,h=>by
  obtain⟨v,e1,s1,r1⟩:=hd t (by simp) b h;have h1:=hc t (by simp) b h;have h2:=Le f r (fun t ht=>hd t (by simp [ht])) (fun t ht=>hc t (by simp [ht])) (Bd.calls f t b) s1.2;simp only [Bd.callsL,Tr.costL,Atp];omega
theorem Lf(f:Nat):∀(c:List Tr) (ks:List (List UInt8)),ks.length=c.length→(∀t∈c,Nu f t)→(∀t∈c,∀b,Cr b→(Bd.calls f t b).size≤b.size+t.cost)→∀b,Cr b→(Bd.callsM f ks c b).size+50*c.length≤b.size+Bb ks+Tr.costL c
 | [],ks,hk,_,_,b,h=>by simp [Bd.callsM,Tr.costL]
 |t::r,[],hk,_,_,_,_=>by simp at hk
 |t::r,s::ks,hk,hd,hc,b,h=>by
  obtain⟨kv,e0,s0,k0⟩:=Od f s b h;have h0:=Tc f s b;obtain⟨v,e1,s1,r1⟩:=hd t (by simp) (b.key f s) s0.2;have h1:=hc t (by simp) (b.key f s) s0.2;have h2:=Lf f r ks (by simpa using hk) (fun t ht=>hd t (by simp [ht])) (fun t ht=>hc t (by simp [ht])) (Bd.calls f t (b.key f s)) s1.2;have ee:Bd.callsM f (s::ks) (t::r) b=Bd.callsM f ks r (Bd.calls f t (b.key f s)):=by rw [Bd.callsM];rfl
  rw [ee];simp only [Tr.costL,Atp,Bb];omega
theorem Adf(f:Nat)(ks:List (List UInt8))(start:Nat)(b:Bd)(n:Nat)(h1:(Kh (b.s.drop start)).length=n)(h2:(Po (b.s.drop start)).length=n):
  (b.endMap f ks start).size≤b.size+50+18*n:=by
 have h3:(b.s.take start).length≤b.s.length:=by rw [List.length_take];omega
 unfold Bd.endMap;simp only [];cases(if Ek f 4=true then Bf b.lists (ks.flatMap fun s=>s++ [0]) else none) with
 |some i=>
  have h:=Abj (b.vals.getD i ⟨0,0,0⟩) (Po (b.s.drop start)) b.b;simp only [Bd.size,Atj,Atp,List.length_nil] at h⊢;omega
 |none=>
  have h4:=Oy 14 true false (Kh (b.s.drop start)) b.b;have h:=Abj (Bc 14 true false (Kh (b.s.drop start)) b.b).2 (Po (b.s.drop start)) (Bc 14 true false (Kh (b.s.drop start)) b.b).1;have h5:=Pt b.lists (ks.flatMap fun s=>s++ [0]) b.vals.length;simp only [Bd.size,Atj,Atp,List.length_nil] at h⊢;omega
theorem I0(f:Nat)(t:Tr)(h:Ok t):∀b,Cr b→(Bd.calls f t b).size≤b.size+t.cost:=by
 induction h with
 |leaf n u s ks c h1 h2=>
  intro b hg;rename_i k;have e:Bd.calls f (.mk k n u s ks c) b=b.leaf f k n u s:=by
   rw [Bd.calls,if_neg (by omega),if_neg (by omega),if_pos h2]
  rw [e,Tr.cost];have:=Ajv f k n u s b;omega
 |flat n u s ks c h1 h2=>
  intro b hg;rename_i k;have e:Bd.calls f (.mk k n u s ks c) b=b.flat f k c:=by
   rw [Bd.calls,if_neg (by omega),if_neg (by omega),if_neg (by omega)]
  rw [e,Tr.cost];have:=Ai8 f k c b;omega
 |vec n u s ks hd ih=>
  intro b hg;rename_i c;obtain⟨vs,e1,l1,s1,r1⟩:=Ka f c (fun t ht=>E5 f t (hd t ht)) b hg;have h1:=Le f c (fun t ht=>E5 f t (hd t ht)) ih b hg;have e:Bd.calls f (.mk 10 n u s ks c) b=(Bd.callsL f c b).endVec b.s.length:=by rw [Bd.calls,if_pos rfl]
  have hv:(Bd.callsL f c b).s.drop b.s.length=vs:=by rw [e1];simp
  have h2:=Adg b.s.length (Bd.callsL f c b) c.length (by rw [hv,l1]);rw [e,Tr.cost];omega
 |map n u s hl h0 hd ih=>
  intro b hg;rename_i c ks;obtain⟨kvs,vs,e1,l1,s1,k1,r1⟩:=Iz f c ks hl (fun t ht=>E5 f t (hd t ht)) b hg;have h1:=Lf f c ks hl (fun t ht=>E5 f t (hd t ht)) ih b hg;have e:Bd.calls f (.mk 17 n u s ks c) b=(Bd.callsM f ks c b).endMap f ks b.s.length:=by
   rw [Bd.calls,if_neg (by omega),if_pos rfl]
  have hv:(Bd.callsM f ks c b).s.drop b.s.length=D2 kvs vs:=by rw [e1];simp
  obtain⟨ev,od⟩:=Hq kvs vs (by rw [k1.1,l1,hl]);have h2:=Adf f ks b.s.length (Bd.callsM f ks c b) c.length (by rw [hv,ev,k1.1,hl]) (by rw [hv,od,l1]);rw [e,Tr.cost];omega
end Go.Proofs.YtgbjodnegkbfoaaGreat
namespace Go.Acc
open Go.RowKit
structure To(I:Nat→Prop)(w:World)(o:Nat→Nat)(w':World)(o':Nat→Nat):Prop where
 fr:Fr (fun k=>I (o k)) w w'
 ow:∀k,k<w.heap.size→o' k=o k
section
variable {I J:Nat→Prop} {w w' w'':World} {o o' o'':Nat→Nat}
theorem To.refl(I:Nat→Prop)(w:World)(o:Nat→Nat):To I w o w o:=⟨Fr.refl _ _,fun _ _=>rfl⟩
theorem To.pure(I:Nat→Prop)(h:Below w.heap.size w w')(o:Nat→Nat):To I w o w' o:=⟨Fr.of_below h _,fun _ _=>rfl⟩
def Ak(o:Nat→Nat)(N i:Nat):Nat→Nat:=fun k=>if k<N then o k else i
theorem Au{N i k:Nat}(h:k<N):Ak o N i k=o k:=if_pos h
theorem Am{N i k:Nat}(h:N≤k):Ak o N i k=i:=if_neg (by omega)
theorem To.fresh(I:Nat→Prop)(h:Below w.heap.size w w')(o:Nat→Nat)(i:Nat):To I w o w' (Ak o w.heap.size i):=⟨Fr.of_below h _,fun _ hk=>Au hk⟩
theorem To.of_fr{S:Nat→Prop}(h:Fr S w w')(hS:∀k,k<w.heap.size→S k→I (o k))(i:Nat):To I w o w' (Ak o w.heap.size i):=⟨h.mono hS,fun _ hk=>Au hk⟩
theorem To.of_fr0{S:Nat→Prop}(h:Fr S w w')(hS:∀k,k<w.heap.size→S k→I (o k)):To I w o w' o:=⟨h.mono hS,fun _ _=>rfl⟩
theorem To.trans(h:To I w o w' o')(k:To I w' o' w'' o''):To I w o w'' o'':=
 ⟨h.fr.trans k.fr fun i hi hI=>by rw [h.ow i hi] at hI;exact hI,fun i hi=>(k.ow i (Nat.lt_of_lt_of_le hi h.fr.size)).trans (h.ow i hi)⟩
theorem To.mono(h:To I w o w' o')(hJ:∀i,I i→J i):To J w o w' o':=⟨h.fr.mono fun _ _ hi=>hJ _ hi,h.ow⟩
theorem To.size(h:To I w o w' o'):w.heap.size≤w'.heap.size:=h.fr.size
theorem To.below(h:To I w o w' o')(hI:∀k,k<w.heap.size→¬I (o k)):Below w.heap.size w w':=h.fr.below hI
theorem To.keep{k:Nat}(h:To I w o w' o')(hk:k<w.heap.size)(hI:¬I (o k)):w'.heap[k]?=w.heap[k]?:=h.fr.block k hk hI
theorem Af.to_{g:Nat}{t:TypeId}{cs:Array Value}(hb:Af w g t cs)(h:To I w o w' o')(hI:¬I (o g)):Af w' g t cs:=hb.fr h.fr hI
def Of(o:Nat→Nat)(A:Option Addr)(i:Nat):Prop:=∀ad,A=some ad→o ad.block=i
theorem Of.none_(i:Nat):Of o none i:=fun _ h=>by cases h
variable {α:Type} {f:α→List Value} {sz n c B i:Nat} {e:TypeId} {A:Option Addr} {l:List α}
theorem Of.to_(h:Of o A i)(ho:Own f sz e w B A n c l)(ht:To I w o w' o'):Of o' A i:=fun ad hA=>by
 rw [ht.ow _ (ho.addr ad hA).2.2];exact h ad hA
theorem Own.to_(ho:Own f sz e w B A n c l)(h:Of o A i)(ht:To I w o w' o')(hI:¬I i):Own f sz e w' B A n c l:=
 ho.fr ht.fr fun ad hA=>by rw [h ad hA];exact hI
theorem Is.to_(ho:Is f w A n l)(h:Of o A i)(ht:To I w o w' o')(hI:¬I i):Is f w' A n l:=
 ho.fr ht.fr fun ad hA=>by rw [h ad hA];exact hI
theorem Of.grown{A':Option Addr}{N:Nat}(h:Of o A i)(ho:Own f sz e w B A n c l)(hN:w.heap.size≤N)(hat:A'.map (·.block)=A.map (·.block)∨A'.map (·.block)=some N)(hw:N=w.heap.size):Of (Ak o w.heap.size i) A' i:=by
 intro ad hA;subst hA hw;rcases hat with e|e
 ·cases hA:A with
  |none=>subst hA;simp at e
  |some a=>
   subst hA;simp at e;rw [e,Au (ho.addr a rfl).2.2];exact h a rfl
 ·simp at e;rw [e,Am (Ath _)]
theorem To.cell{p:Addr}{u:Value}(h:To I w o w' o')(hc:w.cell? p=some u)(hI:¬I (o p.block)):w'.cell? p=some u:=By h.fr hc hI
theorem Ae{p:Addr}{u:Value}(h:w.cell? p=some u):w.drew.cell? p=some u:=h
theorem Df{p:Addr}{u:Value}(n:Nat)(h:w.cell? p=some u):(w.drewN n).cell? p=some u:=h
theorem Al{p:Addr}{u:Value}(b:Obj)(h:w.cell? p=some u):(w.alloc b).cell? p=some u:=Ag ((Below.refl _ _).alloc (Ath _) b) h
theorem To.from_drew(h:To I w.drew o w' o'):To I w o w' o':=⟨(Fr.refl _ w).drew.trans h.fr fun _ _ h=>h,h.ow⟩
theorem To.from_pure{I:Nat→Prop}(hb:Below w.heap.size w w')(h:To I w' o w'' o''):To I w o w'' o'':=(To.pure I hb o).trans h
end
end Go.Acc
namespace Go.Proofs.YtgbjodnegkbfoaaGreat
open Go.RowKit Go.Acc
def Co(w:World)(o:Nat→Nat)(b:Nat)(l:List UInt8):Prop:=
 ∃A n c,Af w b 257 #[.bool true,.slice A n c,Aa Ab 1048576,Aa Ab 0]∧J8 w 0 A n c l∧Of o A 1∧o b=1
def Di(w:World)(o:Nat→Nat)(b:Nat)(l:List UInt8)(e:Ending)(w':World):Prop:=
 e= .returned (.tuple #[])∧∃o',Co w' o' b l∧To (fun i=>i=1) w o w' o'
section
variable {I:Nat→Prop} {w w':World} {o o':Nat→Nat} {b:Nat} {l:List UInt8}
theorem Co.to_(h:Co w o b l)(ht:To I w o w' o')(hI:¬I 1):Co w' o' b l:=by
 obtain⟨A,n,c,hb,ho,h1,h2⟩:=h;exact⟨A,n,c,hb.to_ ht (by rw [h2];exact hI),ho.to_ h1 ht hI,h1.to_ ho ht,by rw [ht.ow _ hb.lt];exact h2⟩
theorem Co.pure(h:Co w o b l)(ht:Below w.heap.size w w'):Co w' o b l:=h.to_ (To.pure (fun _=>False) ht o) id
theorem Co.drew(h:Co w o b l):Co w.drew o b l:=h
theorem Co.drewN(n:Nat)(h:Co w o b l):Co (w.drewN n) o b l:=h
theorem Co.alloc(h:Co w o b l)(x:Obj):Co (w.alloc x) o b l:=h.pure ((Below.refl _ _).alloc (Ath _) x)
theorem Di.from_pure{w0:World}{e:Ending}(hb:Below w0.heap.size w0 w)(h:Di w o b l e w'):Di w0 o b l e w':=by
 obtain⟨h1,o',h2,h3⟩:=h;exact⟨h1,o',h2,h3.from_pure hb⟩
theorem Co.fresh(h:Co w o b l)(hb:Below w.heap.size w w')(i:Nat):Co w' (Ak o w.heap.size i) b l:=h.to_ (To.fresh (fun _=>False) hb o i) id
theorem Di.from_fresh{w0:World}{i:Nat}{e:Ending}(hb:Below w0.heap.size w0 w)(h:Di w (Ak o w0.heap.size i) b l e w'):Di w0 o b l e w':=by
 obtain⟨h1,o',h2,h3⟩:=h;exact⟨h1,o',h2,(To.fresh _ hb o i).trans h3⟩
theorem Co.lt(h:Co w o b l):b<w.heap.size:=by obtain⟨A,n,c,hb,_⟩:=h;exact hb.lt
theorem Co.own(h:Co w o b l):o b=1:=by obtain⟨A,n,c,_,_,_,h⟩:=h;exact h
end
theorem Ud(b:Nat)(w:World)(h:w.cell? ⟨b,0,none⟩=some (.bool true)):
  Calls Tryz.prog 256 #[.pointer (some ⟨b,0,none⟩)] w fun e w'=>e= .returned (.bool false)∧w=w':=by
 go_enter Tryz.func256,Tryz.ntmps256;go_wp2;go_ret;exact⟨rfl,rfl⟩
theorem Xe(b:Nat)(w:World)(h:w.cell? ⟨b,0,none⟩=some (.bool true))(h3:w.cell? ⟨b,3,none⟩=some (Aa Ab 0)):
  Calls Tryz.prog 262 #[.pointer (some ⟨b,0,none⟩)] w fun e w'=>e= .returned (Aa Ab 0)∧w=w':=by
 go_enter Tryz.func262,Tryz.ntmps262;go_wp2_with (go_at_call 256;refine(Ud b _ (by assumption)).mono ?_;rintro e w' ⟨rfl,rfl⟩);go_ret;exact⟨rfl,rfl⟩
theorem Ah7(b n c:Nat)(A:Option Addr)(w:World)(h:w.cell? ⟨b,0,none⟩=some (.bool true))(h3:w.cell? ⟨b,1,none⟩=some (.slice A n c)):
  Calls Tryz.prog 159 #[.pointer (some ⟨b,0,none⟩)] w fun e w'=>e= .returned (Aa Ab n)∧w=w':=by
 go_enter Tryz.func159,Tryz.ntmps159;go_wp2_with (go_at_call 256;refine(Ud b _ (by assumption)).mono ?_;rintro e w' ⟨rfl,rfl⟩);go_ret;exact⟨rfl,rfl⟩
theorem F8{w:World}{o:Nat→Nat}{b:Nat}{l:List UInt8}(h:Co w o b l):Calls Tryz.prog 262 #[.pointer (some ⟨b,0,none⟩)] w fun e w'=>e= .returned (Aa Ab 0)∧w=w':=by
 obtain⟨A,n,c,hb,_⟩:=h;exact Xe b w (hb.cell 0) (hb.cell 3)
theorem Dg{w:World}{o:Nat→Nat}{b:Nat}{l:List UInt8}(n:Nat)(h:Co w o b l)(hn:l.length=n):Calls Tryz.prog 159 #[.pointer (some ⟨b,0,none⟩)] w fun e w'=>e= .returned (Aa Ab n)∧w=w':=by
 obtain⟨A,n',c,hb,ho,_⟩:=h;obtain rfl:n=n':=by rw [←hn,ho.1]
 exact Ah7 b n c A w (hb.cell 0) (hb.cell 1)
theorem Anm{w w1:World}{o:Nat→Nat}{A A1:Option Addr}{b n c n2 c1:Nat}{l x:List UInt8}(hb:Af w b 257 #[.bool true,.slice A n c,Aa Ab 1048576,Aa Ab 0])(ho:J8 w 0 A n c l)(h1:Of o A 1)(h2:o b=1)
  (hw:J8 w1 0 A1 (n+n2) c1 (l++x)) (hf:Fr (fun k=>∃ad,A=some ad∧k=ad.block) w w1) (hat:A1.map (·.block)=A.map (·.block)∨A1.map (·.block)=some w.heap.size)
  (hb1:Af w1 b 257 #[.bool true,.slice A n c,Aa Ab 1048576,Aa Ab 0]):
  ∃o',Co (w1.setCell ⟨b,1,none⟩ (.slice A1 (n+n2) c1)) o' b (l++x)∧To (fun i=>i=1) w o (w1.setCell ⟨b,1,none⟩ (.slice A1 (n+n2) c1)) o':=by
 have hset:Fr (fun k=>k=b) w1 (w1.setCell ⟨b,1,none⟩ (.slice A1 (n+n2) c1)):=Fr.setCell (S:=fun k=>k=b) (Fr.refl _ _) (fun _=>rfl) _;refine⟨Ak o w.heap.size 1,⟨A1,n+n2,c1,by have:=hb1.set_ 1 (.slice A1 (n+n2) c1);simpa using this,hw.fr hset ?_,h1.grown ho (Ath _) hat rfl,by rw [Au hb.lt];exact h2⟩,To.of_fr ((hf.mono (T:=fun k=>o k=1) ?_).setCell (fun _=>h2) _) (fun _ _ h=>h) 1⟩
 ·rintro ad rfl rfl;exact Hu hw.2 hb1 (by decide) (by simp [Value.ownBlock])
 ·rintro i _ ⟨ad,rfl,rfl⟩;exact h1 ad rfl
theorem Qm(b m d:Nat)(X:Option Addr)(l x:List UInt8)(w:World)(o:Nat→Nat)(h:Co w o b l)(hx:Cw w X m x)(hm:l.length+m≤1048576):
  Calls Tryz.prog 259 #[.pointer (some ⟨b,0,none⟩),.slice X m d] w (Di w o b (l++x)):=by
 obtain⟨A,n,c,hb,ho,h1,h2⟩:=h;obtain ⟨c0,c1,c2,c3⟩:=hb.c4;rw [ho.1] at hm;have hne:∀ad,A=some ad→ad.block≠b:=by
  rintro ad rfl e;exact Hu ho.2 hb (by decide) (by simp [Value.ownBlock,e])
 have HO:=Hd ho;have HX:=Hd hx;have HB:=Hd hb;have HN:=Hd hne;have H1:=Hd h1;have H2:=Hd h2;have hlt:=hb.lt;clear hb ho hx hne h1 h2;go_enter Tryz.func259,Tryz.ntmps259;go_wp2_with (go_at_call 262;refine(Xe b _ (by assumption) (by assumption)).mono ?_;rintro e w' ⟨rfl,rfl⟩);go_quiet (fail);go_wp2_with (at_builtin;refine Dt _ rfl (.tmp 8) (.tmp 9) _ rfl 5 _ 1 1 Tryz.underlying28 Q3 rfl (by omega) Dk Uc _ _ _ _ _ rfl HO.o _ _ _ _ rfl HX.o (by omega) (Atl _) ?_;intro A1 d1 w1 hown1 hfr0 hat1;have hfr1:=((Fr.refl _ w).drewN _).trans hfr0 (fun _ _ h=>h);have B1:=HB.o.fr hfr1 (by rintro⟨ad,h,h'⟩;exact HN.o ad h h'.symm);have f1:=B1.frozen 1;have d1:w1.cell? ⟨b,1,none⟩=some (.slice A n c):=B1.cell 1;have HB1:=Hd B1;clear B1 c0 c1 c2 c3);go_end0;exact⟨rfl,Anm HB.o HO.o H1.o H2.o hown1 hfr1 hat1 HB1.o⟩
theorem Apw(n:Nat):(madeCells #[.int .u8 0] n).toList=(Atm n (0:UInt8)).flatMap bc:=by
 apply List.ext_getElem?;intro j;by_cases hj:j<n
 ·have h1:=G7 Dk (Atm n (0:UInt8)) j 0 (by simpa using hj) (by omega);rw [Nat.mul_one,Nat.add_zero,List.getElem_replicate] at h1;rw [h1];simp [madeCells,hj,bc,Nat.mod_one]
 ·rw [List.getElem?_eq_none (by simp [madeCells];omega),List.getElem?_eq_none (by rw [Bj Dk];simp;omega)]
theorem Abi(n:Nat)(hn:n≤1099511627776):∃Z:Array Value,Z.size=n∧Z.toList=(Atm n (0:UInt8)).flatMap bc∧∀W:World,(Instr.makeSlice 28 (Aa Ab (n:Int)) (Aa Ab (n:Int))).run Tryz.prog W= .ok (.slice (some ⟨W.heap.size,0,none⟩) n n) (W.alloc (.cells Z 5)):=by
 obtain⟨i,hi,hz,hs,hb⟩:=info_parts Q3;have hm:=Apw n;refine⟨_,?_,hm,fun W=>?_⟩
 ·have:=congrArg List.length hm;rw [Bj Dk] at this;simpa using this
 ·have hr:=run_make (P:=Tryz.prog) W 28 5 i _ Tryz.underlying28 hi hz .i64 .i64 n n (by omega) (Int.le_refl _) (by rw [hb];omega) (by omega);simp only [Int.toNat_natCast,hs,Nat.mul_one] at hr;exact hr
theorem Anc(W:World)(Z:Array Value)(n B:Nat)(l:List UInt8)(hB:B≤W.heap.size)(hn:l.length=n)(hm:n≤1099511627776)(hZ:Z.toList=l.flatMap bc):J8 (W.alloc (.cells Z 5)) B (some ⟨W.heap.size,0,none⟩) n n l:=by
 refine⟨hn,?_⟩;have hs:Z.size=n*1:=by rw [←Array.length_toList,hZ,Bj Dk,hn]
 have:=World.ownsRow_lit (base:=B) (e:=5) (size:=1) W Z n hB (by simp only [maxLen];omega) hs;rw [hZ] at this;exact this
theorem Md(x:Int)(w:World)(h:Av x=true):Calls Tryz.prog 53 #[Aa Ab x] w fun e w'=>(∃c:Int,e= .returned (.tuple #[Aa Ab c,Aa Ab 0]))∧w=w':=by
 rcases Ck.1 h with rfl|rfl|rfl|rfl
 all_goals
  clear h;go_enter Tryz.func53,Tryz.ntmps53;go_wp2;refine wp_loop_rounds 5 ?_
  repeat (rw [rounds_succ];go_wp2)
  all_goals
   go_ret2;exact⟨⟨_,rfl⟩,rfl⟩
theorem Ue(b:Nat)(x:Int)(F:Nat)(caps:Array Value)(w:World)(R:Ending→World→Prop)(hx:Av x=true)
  (hF:∀(args:Array Value) (w:World),(callFunc F args).run Tryz.prog w= .ok (.enter F args) w)
  (h:Calls Tryz.prog F caps w fun e w'=>e= .returned (.tuple #[])∧R e w'):
  Calls Tryz.prog 257 #[.pointer (some ⟨b,0,none⟩),Aa Ab x,.func (.func F) #[] caps] w R:=by
 have HX:=Hd hx;have HC:=Hd h;clear hx h;go_enter Tryz.func257,Tryz.ntmps257;go_wp2_with (go_at_call 53;refine(Md x _ HX.o).mono ?_;rintro e w' ⟨⟨c,rfl⟩,rfl⟩);refine HC.o.mono ?_;rintro e w' ⟨rfl,hR⟩;have HR:=Hd hR;clear hR hF;go_wp2;go_end0;exact HR.o
theorem Ane(n y:Nat)(hy:0<y):∃r p:Nat,(n:Int).tmod y=r∧r<y∧((y:Int)-(r:Int)).tmod y=p∧Jk y n=p:=by
 have h1:(n:Int).tmod y=((n % y:Nat):Int):=by rw [Int.tmod_eq_emod_of_nonneg (by omega)];rfl
 have h2:=Nat.mod_lt n hy;refine⟨n % y,Jk y n,h1,h2,?_,rfl⟩;rw [show(y:Int)-((n % y:Nat):Int)=((y-n % y:Nat):Int) by omega,Int.tmod_eq_emod_of_nonneg (by omega)];rfl
theorem Afk(n:Int)(h: -9223372036854775808≤n∧n≤9223372036854775807):IntKind.i64.wrap n=n:=by rw [IntKind.wrap_i64];omega
theorem Ah5{w:World}{A:Option Addr}{n:Nat}{l:List UInt8}(h:Cw w A n l):Cw w.drew A n l:=h
theorem Zm(bx bw b y:Nat)(l:List UInt8)(w:World)(o:Nat→Nat)(h:Co w o b l)(hx:Af w bx 176 #[.pointer (some ⟨b,0,none⟩)])(hw:Af w bw 3 #[Aa Ab (y:Int)])(hy:Av (y:Int)=true)(ox:o bx≠1)(ow:o bw≠1)(hm:l.length+7≤1048576):
  Calls Tryz.prog 258 #[.pointer (some ⟨bx,0,none⟩),.pointer (some ⟨bw,0,none⟩)] w (Di w o b (Ah y l)):=by
 have x0:w.cell? ⟨bx,0,none⟩=some (.pointer (some ⟨b,0,none⟩)):=hx.cell 0;have w0:w.cell? ⟨bw,0,none⟩=some (Aa Ab (y:Int)):=hw.cell 0;obtain⟨n,hn⟩:∃n,l.length=n:=⟨_,rfl⟩;have hn':n≤1048576:=by omega
 have hy8:1≤y∧y≤8:=by have:=Ck.1 hy;omega
 obtain⟨r,p,e1,hr,e2,e3⟩:=Ane n y (by omega);have hp7:p≤7:=by rw [←e3];exact Aen n hy8.2
 have hy0:(0:Int)<(y:Int):=by omega
 have hyn:¬y=0:=by omega
 have hy9:(y:Int)≤8:=by omega
 have hr0:(0:Int)≤(r:Int):=by omega
 have hr1:(r:Int)<(y:Int):=by omega
 have hp0:(0:Int)≤(p:Int):=by omega
 have hp1:(p:Int)≤7:=by omega
 obtain⟨Z,hZ1,hZ2,hmk⟩:=Abi p (by omega);have HZ2:=Hd hZ2;have HZ1:=Hd hZ1;clear hZ1 hZ2;have HY:=Hd hy;have H:=Hd h;have HNN:=Hd hn;have HP:=Hd e3;have HL:=Hd (show l.length+p≤1048576 by omega);clear hx hw hy h hn hm e3;have hwr:IntKind.i64.wrap ((y:Int)-(r:Int))=(y:Int)-(r:Int):=Afk ((y:Int)-(r:Int)) (by omega);go_enter Tryz.func258,Tryz.ntmps258;have HI:=Hd (Anc w Z p 0 (Atm p (0:UInt8)) (Atl _) (by simp) (by omega) HZ2.o).is;go_region_held3 (fun w'=>w'.cell? ⟨bx,0,none⟩=some (.pointer (some ⟨b,0,none⟩))∧w'.cell? ⟨bw,0,none⟩=some (Aa Ab (y:Int))) (first|with_reducible exact⟨x0,w0⟩|with_reducible exact⟨Ae x0,Ae w0⟩|with_reducible exact⟨Ae (Al _ x0),Ae (Al _ w0)⟩|with_reducible exact⟨x1,w1⟩) (first|(go_at_call 159;(with_reducible refine(Dg n H.o.drew HNN.o).mono ?_);rintro e w' ⟨rfl,rfl⟩)|(go_at_call 259;(with_reducible refine(Qm b p p _ l (Atm p (0:UInt8)) _ o (H.o.alloc _).drew (Ah5 HI.o) HL.o).mono ?_);rintro e w' ⟨rfl,o',hB,hT⟩;have x1:=hT.cell (Ae (Al _ x0)) ox;have w1:=hT.cell (Ae (Al _ w0)) ow;have HB:=Hd hB;have HT:=Hd hT;clear hB hT));go_end0;have e3:Ah y l=l++Atm p 0:=by unfold Ah;rw [HNN.o,HP.o]
 rw [e3];exact⟨rfl,o',HB.o,To.from_pure ((Below.refl _ _).alloc (Ath _) _) HT.o.from_drew⟩
theorem G0(b y:Nat)(l:List UInt8)(w:World)(o:Nat→Nat)(h:Co w o b l)(hy:Av (y:Int)=true)(hm:l.length+7≤1048576):
  Calls Tryz.prog 160 #[.pointer (some ⟨b,0,none⟩),Aa Ab (y:Int)] w (Di w o b (Ah y l)):=by
 have H:=Hd h;have HY:=Hd hy;clear h hy;go_enter Tryz.func160,Tryz.ntmps160;go_wp2_with fail;have hB:Below w.heap.size w ((w.alloc (.cells #[.pointer (some ⟨b,0,none⟩)] 176)).alloc (.cells #[Aa Ab (y:Int)] 3)):=((Below.refl _ _).alloc (Ath _) _).alloc (by simp) _;have hK1:=(Af.new w 176 #[.pointer (some ⟨b,0,none⟩)]).alloc (.cells #[Aa Ab (y:Int)] 3);have hK2:=B5 w (.cells #[.pointer (some ⟨b,0,none⟩)] 176) 3 #[Aa Ab (y:Int)];have HBW:=Hd hB;refine(Ue b y 258 _ _ _ HY.o Tryz.call258 ((Zm w.heap.size (w.heap.size+1) b y l _ (Ak o w.heap.size 0) (H.o.fresh hB 0) hK1 hK2 HY.o (by rw [Am (by omega)];omega) (by rw [Am (by omega)];omega) hm).mono fun e w' h=>⟨h.1,h⟩)).mono ?_;rintro e w' ⟨rfl,o',hB',hT⟩;have HE:=Hd (show Di w o b (Ah y l) (.returned (.tuple #[])) w' from Di.from_fresh HBW.o ⟨rfl,o',hB',hT⟩);clear hB hK1 hK2 hB' hT HBW;go_wp2;go_end0;exact HE.o
theorem K1(w:World)(o o':Obj)(t:TypeId)(cs:Array Value):Af (((w.alloc o).alloc o').alloc (.cells cs t)) (w.heap.size+1+1) t cs:=by
 have h:=B5 (w.alloc o) o' t cs;have e:(w.alloc o).heap.size=w.heap.size+1:=by simp
 rw [e] at h;exact h
theorem Afy(bx bw bu b y u:Nat)(l:List UInt8)(w:World)(o:Nat→Nat)(h:Co w o b l)(hx:Af w bx 176 #[.pointer (some ⟨b,0,none⟩)])(hw:Af w bw 3 #[Aa Ab (y:Int)])(hu:Af w bu 22 #[Aa Ac (u:Int)])
  (hy:Av (y:Int)=true) (hf:D4 y u=true) (hu64:(u:Int)<18446744073709551616) (hm:l.length+y≤1048576):
  Calls Tryz.prog 260 #[.pointer (some ⟨bw,0,none⟩),.pointer (some ⟨bu,0,none⟩),.pointer (some ⟨bx,0,none⟩)] w (Di w o b (l++Ai y u)):=by
 have w0:w.cell? ⟨bw,0,none⟩=some (Aa Ab (y:Int)):=hw.cell 0;have u0:w.cell? ⟨bu,0,none⟩=some (Aa Ac (u:Int)):=hu.cell 0;have H:=Hd h;have HX:=Hd hx;have HU:=Hd hu64;have e1:N6 (y:Int) (D4 (y:Int).toNat u)=0:=by
  rw [show(y:Int).toNat=y from rfl,hf];simp [N6,hy]
 have e2:N5 [] (y:Int) u (D4 (y:Int).toNat u)=Ai y u:=by
  rw [show(y:Int).toNat=y from rfl,hf];simp [N5,hy]
 have hP:=Ann none 0 0 u (y:Int) [] w (Is.nil _ _) (Ath _) (by omega) hu64;rw [e1,e2] at hP;have HP:=Hd hP;clear h hx hw hu hy hf hu64 e1 e2 hP;go_enter Tryz.func260,Tryz.ntmps260;go_wp2_with fail;go_at_call 15;refine HP.o.mono ?_;rintro e w1 ⟨A,n,c,rfl,hO,hB⟩;have hn:n=y:=by rw [←hO.1,Aj]
 have x1:w1.cell? ⟨bx,0,none⟩=some (.pointer (some ⟨b,0,none⟩)):=(HX.o.pure hB).cell 0;have HI:=Hd (show Cw w1 A y (Ai y u) by have h:=hO.is;rw [hn] at h;exact h);have HN:=Hd hn;have H1:=Hd (H.o.pure hB);have HB:=Hd hB;clear hO hB w0 u0 hn;rw [HN.o];go_wp2_with fail;go_at_call 259;refine(Qm b y _ _ l (Ai y u) _ o H1.o HI.o hm).mono ?_;intro e w2 hB2;obtain rfl:=hB2.1;have HB2:=Hd hB2;clear hB2;go_wp2;go_end0;exact HB2.o.from_pure HB.o
theorem Ef(b y u:Nat)(l:List UInt8)(w:World)(o:Nat→Nat)(h:Co w o b l)(hy:Av (y:Int)=true)(hf:D4 y u=true)(hu64:(u:Int)<18446744073709551616)(hm:l.length+y≤1048576):
  Calls Tryz.prog 163 #[.pointer (some ⟨b,0,none⟩),Aa Ab (y:Int),Aa Ac (u:Int)] w (Di w o b (l++Ai y u)):=by
 have H:=Hd h;have HY:=Hd hy;have HF:=Hd hf;have HU:=Hd hu64;clear h hy hf hu64;go_enter Tryz.func163,Tryz.ntmps163;go_wp2_with fail;have hB:Below w.heap.size w (((w.alloc (.cells #[.pointer (some ⟨b,0,none⟩)] 176)).alloc (.cells #[Aa Ab (y:Int)] 3)).alloc (.cells #[Aa Ac (u:Int)] 22)):=(((Below.refl _ _).alloc (Ath _) _).alloc (by simp) _).alloc (by simp;omega) _;have hK1:=((Af.new w 176 #[.pointer (some ⟨b,0,none⟩)]).alloc (.cells #[Aa Ab (y:Int)] 3)).alloc (.cells #[Aa Ac (u:Int)] 22);have hK2:=(B5 w (.cells #[.pointer (some ⟨b,0,none⟩)] 176) 3 #[Aa Ab (y:Int)]).alloc (.cells #[Aa Ac (u:Int)] 22);have hK3:=K1 w (.cells #[.pointer (some ⟨b,0,none⟩)] 176) (.cells #[Aa Ab (y:Int)] 3) 22 #[Aa Ac (u:Int)];have HBW:=Hd hB;refine(Ue b y 260 _ _ _ HY.o Tryz.call260 ((Afy w.heap.size (w.heap.size+1) (w.heap.size+1+1) b y u l _ o (H.o.pure hB) hK1 hK2 hK3 HY.o HF.o HU.o hm).mono fun e w' h=>⟨h.1,h⟩)).mono ?_;rintro e w' ⟨rfl,o',hB',hT⟩;have HE:=Hd (show Di w o b (l++Ai y u) (.returned (.tuple #[])) w' from Di.from_pure HBW.o ⟨rfl,o',hB',hT⟩);clear hB hK1 hK2 hK3 hB' hT HBW;go_wp2;go_end0;exact HE.o
def Jc(s:List UInt8):List Value:=[.string ⟨s.toArray⟩]
theorem Dp(s:List UInt8):(Jc s).length=1:=rfl
theorem Ot(s:List UInt8):∀u∈Jc s,u.oneCell'=true:=by
 intro u hu;simp [Jc] at hu;subst hu;rfl
abbrev Ey:=Is Jc
theorem Gd{w:World}{A:Option Addr}{n:Nat}{l:List (List UInt8)}(h:Ey w A n l){k:Nat}(hk:k<n):
  ∃b off,A=some ⟨b,off,none⟩∧∃hk:k<l.length,w.cell? ⟨b,off+k,none⟩=some (.string ⟨l[k].toArray⟩):=by
 obtain⟨b,off,e,hk',hc⟩:=h.at_ Dp (by omega) hk;exact⟨b,off,e,hk',by have:=hc 0 (by omega);simpa [Jc] using this⟩
theorem Xv(l:List (List UInt8)){k:Nat}(hk:k<l.length):(l.take (k+1)).flatten=(l.take k).flatten++l[k]:=by
 rw [List.take_succ_eq_append_getElem hk,List.flatten_append];simp
theorem Aed(l:List (List UInt8))(k:Nat):(l.take k).flatten.length≤l.flatten.length:=by
 conv=>rhs;rw [←List.take_append_drop k l]
 rw [List.flatten_append,Atj];omega
theorem Aia(A:Option Addr)(n c:Nat)(l:List (List UInt8))(w:World)(h:Ey w A n l)(hm:l.flatten.length≤1048576)(hn:n≤1048576):
  Calls Tryz.prog 263 #[.slice A n c] w fun e w'=>e= .returned (Aa Ab (l.flatten.length:Int))∧∃nd,w'=w.drewN nd:=by
 go_enter Tryz.func263,Tryz.ntmps263;go_wp2;go_loopw [2,7] (fun s i wr=>∃k:Nat,k≤n∧i= Aa Ab k∧s= Aa Ab ((l.take k).flatten.length:Int)∧∃nd,wr=w.drewN nd) (fun _ i _=>n-(intOf i).toNat)
 case atStart=>exact⟨0,Atl _,rfl,rfl,0,rfl⟩
 case round=>
  obtain⟨k,hk,rfl,rfl,nd,rfl⟩:=hrel;by_cases hlt:k<n
  ·obtain⟨b1,o1,rfl,hk1,a0⟩:=Gd h hlt;have hs:=Hd (Xv l hk1);have h1:=Aed l (k+1);rw [hs.o,Atj] at h1;generalize hP:(l.take k).flatten.length=P at*;have HPP:=Hd hP;clear hP h;go_wp2;go_roundw
   case rel=>exact⟨k+1,by omega,by go_num,by rw [hs.o,Atj,HPP.o];go_num,⟨_,rfl⟩⟩
   case measure=>simp [intOf];omega
  ·have hk':k=n:=by omega
   have e:=Hd (show(l.take k).flatten.length=l.flatten.length by rw [hk',List.take_of_length_le (by rw [h.1];exact Ath _)]);clear h hk';go_wp2;go_ret;exact⟨by rw [e.o];rfl,nd,rfl⟩
end Go.Proofs.YtgbjodnegkbfoaaGreat
namespace Go.Acc
open Go.RowKit Go.ChangeShapes Go.WideShapes Go.Deep
section
variable {H:Type} {enc:TypeId×Value→H} {P:Program} {W W':World}
theorem Ql{t:TypeId}(hl:laidOutB P=true)(hr:P.readableRec t=true)(hrow:t<P.types.size){v:Value}{d:DataW H}{ps:List MemPlace}
  (h:DataW.Trod enc P W 0 (fun _=>true) true t v d ps) (hb:Below W.heap.size W W'):DataW.Trod enc P W' 0 (fun b=>decide (b<W.heap.size)) true t v d ps:=
 Below.trod hl hr hrow h hb (by obtain⟨m,hm⟩:=h;exact DataW.trod_lt m _ _ _ hm)
theorem Ajg{n:Int}(h:(Lit.int .i64 n).wf=true): -9223372036854775808≤n∧n≤9223372036854775807:=by
 simp [Lit.wf,IntKind.min,IntKind.max,IntKind.signed,IntKind.bits] at h;exact⟨by omega,by omega⟩
theorem Asa{n:Int}(h:(Lit.int .u64 n).wf=true):0≤n∧n≤18446744073709551615:=by
 simp [Lit.wf,IntKind.min,IntKind.max,IntKind.signed,IntKind.bits] at h;exact⟨by omega,by omega⟩
theorem Wh{α:Type}(p:Nat→α→Prop)(n:Nat)(h:∀i,i<n→∃x,p i x):∃l:List α,l.length=n∧∀i (hi:i<l.length),p i l[i]:=by
 induction n with
 |zero=>exact⟨[],rfl,fun i hi=>by simp at hi⟩
 |succ n ih=>
  obtain⟨l,hl,hp⟩:=ih fun i hi=>h i (by omega)
  obtain⟨x,hx⟩:=h n (by omega);refine⟨l++ [x],by simp [hl],fun i hi=>?_⟩;by_cases hin:i<l.length
  ·rw [List.getElem_append_left hin];exact hp i hin
  ·have:i=n:=by simp at hi;omega
   subst this;rw [List.getElem_append_right (by omega)];simpa [hl] using hx
theorem Zl{w:World}{a:Addr}{u:Value}(h:w.cell? a=some u):a=⟨a.block,a.off,none⟩:=by
 have:=Acd h;cases a
 simp_all
theorem Sl{α:Type}{f:α→List Value}{sz:Nat}(hf:∀x,(f x).length=sz)(hz:0<sz){w:World}{a:Addr}{n:Nat}(q:α→Prop)
  (h:∀i,i<n→∃x,q x∧∀j,j<sz→w.cell? (a.add (i*sz+j))=(f x)[j]?):∃l,Is f w (some a) n l∧∀x∈l,q x:=by
 obtain⟨l,hl,hp⟩:=Wh _ n h;refine⟨l,⟨hl,fun t u hu=>?_⟩,fun x hx=>?_⟩
 ·have ht:t<n*sz:=by
   have:=(List.getElem?_eq_some_iff.1 hu).1;rw [Bj hf,hl] at this;exact this
  have hpos:0<n:=by
   rcases Nat.eq_zero_or_pos n with h0|h0
   ·subst h0;simp at ht
   ·exact h0
  have h0:=(hp 0 (by omega)).2 0 hz;rw [List.getElem?_eq_getElem (by rw [hf];exact hz)] at h0;have ha:a=⟨a.block,a.off,none⟩:=by
   have:=Zl h0;simpa [Addr.add] using Zl (w:=w) (a:=a) (by simpa [Addr.add] using h0)
  have hi:t/sz<l.length:=by rw [hl];exact Nat.div_lt_of_lt_mul (by rw [Nat.mul_comm];exact ht)
  have hj:t % sz<sz:=Nat.mod_lt _ hz;have e:t/sz*sz+t % sz=t:=by rw [Nat.mul_comm];exact Nat.div_add_mod t sz
  have hc:=(hp _ hi).2 _ hj;have hu':=G7 hf l (t/sz) (t % sz) hi hj;rw [e,hu] at hu';rw [e,←hu'] at hc;refine⟨a.block,a.off,by rw [←ha],?_⟩;rw [ha,Ho] at hc;exact hc
 ·obtain⟨i,hi,rfl⟩:=List.mem_iff_getElem.1 hx;exact(hp i hi).1
variable {w:World} {base:Nat} {spare:Nat→Bool} {held:Bool}
end
end Go.Acc
