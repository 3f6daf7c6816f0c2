/- Parts of the proof. -/
import Derived.Test.YtgbjodnegkbfoaaGreatQm33
set_option maxHeartbeats 4000000
set_option maxRecDepth 100000
open Go.Value renaming int→Aa
open Go.IntKind renaming i64→Ab,u64→Ac
open Nat renaming le_refl→Asp,lt_of_lt_of_le→Asu
open List renaming getElem?_eq_getElem→Asq,length_append→Ass,take_of_length_le→Asy,take_succ_eq_append_getElem→Asz
namespace Go.Proofs.YtgbjodnegkbfoaaGreat
open Go.RowKit Go.Acc
def Y0(t:Tr):Prop:=(-9223372036854775808≤t.n∧t.n≤9223372036854775807)∧t.u<18446744073709551616
inductive F0:Tr→Prop
 |leaf {k n:Int} {u:Nat} (s:List UInt8) (ks c) (h1:1≤k) (h2:k≤9) (hn:(-9223372036854775808≤n∧n≤9223372036854775807)∧u<18446744073709551616) (hz:k=5→Br s=false):F0 (.mk k n u s ks c)
 |flat {k:Int} {c:List Tr} (n u s ks) (h1:11≤k) (h2:k≤16) (hn:∀t∈c,Y0 t) (hz:k=13→∀t∈c,Br t.s=false) (hf:k=15∨k=16→c.length=2∨c.length=3∨c.length=4):F0 (.mk k n u s ks c)
 |vec {c:List Tr} (n u s ks) (h:∀t∈c,F0 t):F0 (.mk 10 n u s ks c)
 |map {c:List Tr} {ks:List (List UInt8)} (n u s) (hl:ks.length=c.length) (h0:∀x∈ks,Br x=false) (hu:ks.Pairwise (· < ·)) (h:∀t∈c,F0 t):F0 (.mk 17 n u s ks c)
theorem S6{α:Type}{w:World}{p:Nat→Prop}{vs:List Nv}{l:List Tr}(hl:vs.length=l.length)(hc:∀(i:Nat) v t,vs[i]?=some v→l[i]?=some t→Bm w p v t){f:Tr→α}{g:Nv→α}(hfg:∀v t,Bm w p v t→f t=g v):l.map f=vs.map g:=by
 apply List.ext_getElem (by simp [hl]);intro i h1 h2;rw [List.getElem_map,List.getElem_map];exact hfg _ _ (hc i _ _ (Asq (by simpa using h2)) (Asq (by simpa using h1)))
theorem Ue:∀(l:List Tr),A6 (l.map Tr.s)+40*l.length≤Tr.costL l
 | []=>by simp [A6,Tr.costL]
 | .mk k n u s ks c::r=>by
  have h1:=Ue r;simp only [List.map_cons,A6,Tr.costL,Tr.cost,List.length_cons,Tr.s];omega
theorem Aim(M:Bp)(fl:Int)(b:Bd)(x:Nv)(k n:Int)(u:Nat)(s:List UInt8)(ks:List (List UInt8))(c:List Tr)(w:World)(o:Nat→Nat)(p:Nat→Prop)(h:BM M fl w o b)(hg:Cp b)(hR:Bm w p x (.mk k n u s ks c))(h1:11≤k)(h2:k≤16)
  (hn:∀t∈c,Y0 t) (hz:k=13→∀t∈c,Br t.s=false) (hf:k=15∨k=16→c.length=2∨c.length=3∨c.length=4) (hm:b.size+Tr.costL c≤65000):
  Calls Tryz.prog 83 #[.pointer (some ⟨M.β,0,none⟩),.agg #[Aa Ab x.k,Aa Ab x.n,Aa Ac (x.u:Int),.string ⟨x.s.toArray⟩,.slice x.A x.an x.ac,.slice x.B x.bn x.bc]] w (Ck M fl (b.flat (bits fl) k c) w o):=by
 obtain⟨hk,_,_,_,_,hbn⟩:=hR.fields;have hk:k=x.k:=hk;have hbn:c.length=x.bn:=hbn;cases hR with
 | @mk _ _ _ vs _ _ _ _ hI _ _ _ hl hc=>
  have en:=S6 hl hc (f:=Tr.n) (g:=Nv.n) (fun v t r=>r.fields.2.1);have eu:=S6 hl hc (f:=Tr.u) (g:=Nv.u) (fun v t r=>r.fields.2.2.1);have es:=S6 hl hc (f:=Tr.s) (g:=Nv.s) (fun v t r=>r.fields.2.2.2.1);have hcl:=Jb c;have hsz:b.b.length+b.s.length+b.keys.length+b.names.length≤b.size:=by unfold Bd.size;omega
  have hbi:∀y∈vs.map Nv.n, -9223372036854775808≤y∧y≤9223372036854775807:=by
   rw [←en];intro y hy;obtain⟨t,ht,rfl⟩:=List.mem_map.1 hy;exact(hn t ht).1
  have hbu:∀y∈vs.map Nv.u,y<18446744073709551616:=by
   rw [←eu];intro y hy;obtain⟨t,ht,rfl⟩:=List.mem_map.1 hy;exact(hn t ht).2
  have hln:b.b.length+40+9*(vs.map Nv.n).length≤1048576:=by rw [List.length_map];omega
  have hlu:b.b.length+40+9*(vs.map Nv.u).length≤1048576:=by rw [List.length_map];omega
  have hbn2:x.bn≤1000000:=by omega
  have hst:b.s.length<65536:=by omega
  have m1:∀{β:Type} (g:Int→β),c.map (fun t=>g t.n)=(vs.map Nv.n).map g:=fun g=>by rw [←en,List.map_map];rfl
  have m2:∀{β:Type} (g:Nat→β),c.map (fun t=>g t.u)=(vs.map Nv.u).map g:=fun g=>by rw [←eu,List.map_map];rfl
  have hcases:x.k=11∨x.k=12∨x.k=13∨x.k=14∨x.k=15∨x.k=16:=by omega
  rcases hcases with hx|hx|hx|hx|hx|hx
  ·have e:b.flat (bits fl) x.k c=b.vec 11 true false ((vs.map Nv.n).map Cq):=by
    rw [hx,←m1];rfl
   rw [e];exact Ak7 M fl b x vs w o h hI hx hbn2 hst hbi hln
  ·have e:b.flat (bits fl) x.k c=b.vec 12 true false ((vs.map Nv.u).map Cu):=by
    rw [hx,←m2];rfl
   rw [e];exact Ak8 M fl b x vs w o h hI hx hbn2 hst hbu hlu
  ·have e:b.flat (bits fl) x.k c=(b.puts (bits fl) (vs.map Nv.s)).1.vec 14 true false (b.puts (bits fl) (vs.map Nv.s)).2:=by
    rw [hx,←es];rfl
   rw [e];have hck:=Ue c;rw [es] at hck;refine Ak9 M fl b x vs w o h hI hx hbn2 ⟨hst,by omega,by rw [List.length_map];omega,by rw [List.length_map];omega⟩ ?_ ⟨hg,by rw [List.length_map];omega⟩;rw [←es];intro y hy;obtain⟨t,ht,rfl⟩:=List.mem_map.1 hy;exact hz hx t ht
  ·have e:b.flat (bits fl) x.k c=b.vec 36 true false ((vs.map (fun v:Nv=>decide (v.n=1))).map F6):=by
    have m3:c.map (fun t=>C8 t.n)=(vs.map (fun v:Nv=>decide (v.n=1))).map F6:=by
     rw [m1 C8,List.map_map,List.map_map];apply List.map_congr_left;intro v _;simp [C8,F6]
    rw [hx,←m3];rfl
   rw [e];exact Ala M fl b x vs w o h hI hx hbn2 hst (fun y _=>by cases y <;>simp) (by rw [List.length_map];omega)
  ·have e:b.flat (bits fl) x.k c=b.vec (10+3*x.bn) false false ((vs.map Nv.n).map Cq):=by
    rw [hx,←m1,←hbn];rfl
   rw [e];exact Alb M fl b x vs w o h hI hx (by rw [←hbn];exact hf (.inl hx)) hst hbi hln
  ·have e:b.flat (bits fl) x.k c=b.vec (11+3*x.bn) false false ((vs.map Nv.u).map Cu):=by
    rw [hx,←m2,←hbn];rfl
   rw [e];exact Alc M fl b x vs w o h hI hx (by rw [←hbn];exact hf (.inr hx)) hst hbu hlu
end Go.Proofs.YtgbjodnegkbfoaaGreat
namespace Go.Proofs.YtgbjodnegkbfoaaGreat
open Go.Acc
theorem F8.ok{t:Tr}(h:F8 t):Y0 t:=by
 cases h with
 |mk h1 h2 _=>exact⟨h1,h2⟩
theorem Wh{s:List UInt8}(h:(0:UInt8)∉s):Br s=false:=by
 cases hz:Br s with
 |false=>rfl
 |true=>
  obtain⟨c,hc,e⟩:=List.any_eq_true.1 hz;exact absurd (by simpa using(beq_iff_eq.1 e)▸hc) h
theorem Ap9{t:Tr}(h:Gw t):F8 t→F0 (Bf t):=by
 induction h with
 |mk h1 h2 h3 h4 hl ih=>
  rename_i k n u s ks l;intro hN;cases hN with
  |mk n1 n2 nl=>
   have hm:∀t∈C3 l,F0 t:=by
    intro t ht;rw [Cx] at ht;obtain⟨x,hx,rfl⟩:=List.mem_map.1 ht;exact ih x hx (nl x hx)
   have hfx:=Kp (Gw.mk h1 h2 h3 h4 hl);simp only [Fi,Bool.and_eq_true,decide_eq_true_eq] at h1;obtain⟨⟨⟨⟨⟨⟨⟨⟨⟨g1,g2⟩,_⟩,_⟩,_⟩,_⟩,_⟩,glen⟩,_⟩,gp⟩:=h1;have g1:1≤k:=g1;have g2:k≤17:=g2;rw [Bf] at hfx⊢;by_cases hk:k=17
   ·rw [if_pos hk];subst hk;have hp:=Fl (ks.zip (C3 l));have glen:ks.length=l.length:=glen rfl;have hll:(C3 l).length=l.length:=by rw [Cx,List.length_map]
    refine .map n u s (by simp) (fun x hx=>?_) ?_ (fun t ht=>?_)
    ·obtain⟨y,hy,rfl⟩:=List.mem_map.1 hx;exact Wh (h3 _ (List.of_mem_zip (hp.mem_iff.1 hy)).1)
    ·rw [List.pairwise_map];exact Tp _ (by rw [List.map_fst_zip (by omega)];exact h4)
    ·obtain⟨y,hy,rfl⟩:=List.mem_map.1 ht;exact hm _ (List.of_mem_zip (hp.mem_iff.1 hy)).2
   ·rw [if_neg hk] at hfx⊢;by_cases h10:k=10
    ·subst h10;exact .vec n u s ks hm
    ·by_cases h9:k≤9
     ·exact .leaf s ks _ g1 h9 ⟨n1,n2⟩ (fun e=>Wh (h2 e))
     ·refine .flat n u s ks (by omega) (by omega) (fun t ht=>?_) (fun e t ht=>?_) (fun e=>hfx e)
      ·rw [Cx] at ht;obtain⟨x,hx,rfl⟩:=List.mem_map.1 ht;obtain⟨e1,e2,_⟩:=Aby x;unfold Y0;rw [e1,e2];exact(nl x hx).ok
      ·rw [Cx] at ht;obtain⟨x,hx,rfl⟩:=List.mem_map.1 ht;obtain⟨_,_,e3⟩:=Aby x;rw [e3];have hx5:x.k=5:=by
        have hg:=List.all_eq_true.1 gp x hx;have hg:=of_decide_eq_true hg;have e5:Az k=5:=by subst e;rfl
        have hg:Az k=0∨x.k=Az k:=hg;rw [e5] at hg;omega
       cases hl x hx with
       |mk _ q2 _ _ _=>exact Wh (q2 hx5)
end Go.Proofs.YtgbjodnegkbfoaaGreat
namespace Go.Proofs.YtgbjodnegkbfoaaGreat
open Go.RowKit Go.Acc
theorem Aax(M:Bp)(fl:Int)(b:Bd)(x:Nv)(k n:Int)(u:Nat)(s:List UInt8)(ks:List (List UInt8))(c:List Tr)(w:World)(o:Nat→Nat)(p:Nat→Prop)(h:BM M fl w o b)(hR:Bm w p x (.mk k n u s ks c))(h1:1≤k)(h2:k≤9)
  (hn:(-9223372036854775808≤n∧n≤9223372036854775807)∧u<18446744073709551616) (hz:k=5→Br s=false) (hm:b.size+64+s.length≤65000):
  Calls Tryz.prog 83 #[.pointer (some ⟨M.β,0,none⟩),.agg #[Aa Ab x.k,Aa Ab x.n,Aa Ac (x.u:Int),.string ⟨x.s.toArray⟩,.slice x.A x.an x.ac,.slice x.B x.bn x.bc]] w (Ck M fl (b.leaf (bits fl) k n u s) w o):=by
 obtain⟨hk,hxn,hxu,hxs,_,_⟩:=hR.fields;have hk:k=x.k:=hk;have hxn:n=x.n:=hxn;have hxu:u=x.u:=hxu;have hxs:s=x.s:=hxs;subst hk hxn hxu hxs;have hsz:b.b.length+b.s.length+b.keys.length+b.texts.length+b.names.length≤b.size:=by unfold Bd.size;omega
 refine V6 M fl _ x.k x.n x.u x.s x.A x.an x.ac x.B x.bn x.bc w o ⟨h1,h2⟩ (fun W hB=>?_);have hcases:(x.k=1∨x.k=2∨x.k=3∨x.k=4∨x.k=8∨x.k=9)∨(x.k=5∨x.k=6∨x.k=7):=by omega
 rcases hcases with hx|hx
 ·exact Agb M fl _ b x.k x.n x.u x.s x.A x.an x.ac x.B x.bn x.bc W o (h.pure hB) (by omega) (by omega) hn.1 hn.2 hx
 ·exact Agc M fl b x.k x.n x.u x.s x.A x.an x.ac x.B x.bn x.bc W o (h.pure hB) ⟨by omega,by omega,by omega⟩ ⟨by omega,by omega,by omega,by omega⟩ hx hz
end Go.Proofs.YtgbjodnegkbfoaaGreat
namespace Go.Proofs.YtgbjodnegkbfoaaGreat
open Go.Acc
theorem F0.ok{t:Tr}(h:F0 t):Ok t:=by
 induction h with
 |leaf s ks c h1 h2 hn hz=>exact .leaf _ _ _ _ _ h1 h2
 |flat n u s ks h1 h2 hn hz hf=>exact .flat _ _ _ _ _ h1 h2
 |vec n u s ks h ih=>exact .vec _ _ _ _ ih
 |map n u s hl h0 hu h ih=>exact .map _ _ _ hl (fun x hx=>Lk (h0 x hx)) ih
theorem F0.fix{t:Tr}(h:F0 t):Rf t:=by
 cases h with
 |leaf s ks c h1 h2 hn hz=>
  rename_i k n u;intro hk;have hk:k=15∨k=16:=hk;omega
 |flat n u s ks h1 h2 hn hz hf=>exact fun hk=>hf hk
 |vec n u s ks h=>
  intro hk;have hk:(10:Int)=15∨(10:Int)=16:=hk;omega
 |map n u s hl h0 hu h=>
  intro hk;have hk:(17:Int)=15∨(17:Int)=16:=hk;omega
theorem R4(f:Nat):∀(l:List Tr) (t:Tr) (b:Bd),Bd.callsL f (l++ [t]) b=Bd.calls f t (Bd.callsL f l b)
 | [],t,b=>by simp [Bd.callsL]
 |x::r,t,b=>by rw [List.cons_append,Bd.callsL,R4 f r t,Bd.callsL]
theorem P4:∀(l m:List Tr),Tr.costL (l++m)=Tr.costL l+Tr.costL m
 | [],m=>by simp [Tr.costL]
 |x::r,m=>by rw [List.cons_append,Tr.costL,Tr.costL,P4 r m];omega
theorem Aeh{l:List UInt8}{c:List Tr}{vs:List Bv}(hl:vs.length=c.length)(h:∀(i:Nat) x t,vs[i]?=some x→c[i]?=some t→D8 l x t)(hf:∀t∈c,Rf t)(hm:l.length+40+9*vs.length≤1048576):Du vs l:=by
 have hv:∀v∈vs,∃t∈c,D8 l v t:=by
  intro v hv;obtain⟨i,hi,e⟩:=List.getElem_of_mem hv;exact⟨c[i]'(by omega),List.getElem_mem _,h i v _ (by rw [Asq hi,e]) (Asq (by omega))⟩
 refine⟨fun v hm=>?_,fun v hm=>?_,Pf hl h,hm⟩
 ·obtain⟨t,ht,r⟩:=hv v hm;exact(r.legal (hf t ht)).1
 ·obtain⟨t,ht,r⟩:=hv v hm;exact(r.legal (hf t ht)).2.1
end Go.Proofs.YtgbjodnegkbfoaaGreat
namespace Go.Proofs.YtgbjodnegkbfoaaGreat
open Go.RowKit Go.Acc
def Kz(t:Tr):Prop:=∀(M:Bp) (fl:Int) (b:Bd) (x:Nv) (w:World) (o:Nat→Nat) (p:Nat→Prop),BM M fl w o b→Cp b→G9 b→Bm w p x t→(∀k,p k→k<w.heap.size∧o k=0)→b.size+t.cost≤65000→
 Calls Tryz.prog 83 #[.pointer (some ⟨M.β,0,none⟩),.agg #[Aa Ab x.k,Aa Ab x.n,Aa Ac (x.u:Int),.string ⟨x.s.toArray⟩,.slice x.A x.an x.ac,.slice x.B x.bn x.bc]] w (Ck M fl (Bd.calls (bits fl) t b) w o)
theorem Ai0(f:Nat){c:List Tr}(hO:∀t∈c,F0 t){b:Bd}(hg:Cp b)(hn:G9 b)(hm:b.size+Tr.costL c≤65000)(j:Nat):
  Cp (Bd.callsL f (c.take j) b)∧G9 (Bd.callsL f (c.take j) b)∧(∀t,c[j]?=some t→(Bd.callsL f (c.take j) b).size+t.cost≤65000):=by
 have hD:∀t∈c.take j,Nb f t:=fun t ht=>Em f t (hO t (List.mem_of_mem_take ht)).ok
 obtain⟨vs,_,_,s1,_⟩:=Jo f (c.take j) hD b hg;refine⟨s1.2,(L7 f (c.take j) hD (fun t ht=>Ng f t (hO t (List.mem_of_mem_take ht)).ok) b hg hn).ok,fun t ht=>?_⟩;have h1:=Ku f (c.take j) hD (fun t ht=>H8 f t (hO t (List.mem_of_mem_take ht)).ok) b hg;obtain⟨hj',e⟩:=List.getElem?_eq_some_iff.1 ht;have h2:Tr.costL c=Tr.costL (c.take j)+(40+t.cost+Tr.costL (c.drop (j+1))):=by
  conv=>lhs;rw [←List.take_append_drop j c,List.drop_eq_getElem_cons hj',e]
  rw [P4,Tr.costL]
 omega
theorem Yq(n:Int)(u:Nat)(s:List UInt8)(ks:List (List UInt8))(c:List Tr)(hO:∀t∈c,F0 t)(hD:∀t∈c,Kz t):Kz (.mk 10 n u s ks c):=by
 intro M fl b x w o p h hg hn hR hp hm;obtain⟨f,hf⟩:∃f,bits fl=f:=⟨_,rfl⟩;rw [hf];obtain⟨hk,_,_,_,_,hbn⟩:=hR.fields;have hk:10=x.k:=hk;have hbn:c.length=x.bn:=hbn;have hmc:b.size+Tr.costL c≤65000:=by unfold Tr.cost at hm;omega
 have ecl:=Jb c;generalize ht:Tr.mk 10 n u s ks c=t0 at hR;cases hR with
 | @mk _ ks' l' vs _ _ _ _ hI hpb _ _ hl hc=>
  injection ht with e1 e2 e3 e4 e5 e6
  subst e6;obtain⟨k,xn,xu,xs,XA,xan,xac,XB,xbn,xbc⟩:=x;obtain rfl:10=k:=hk;clear e1 e2 e3 e4 e5;have hbn:c.length=xbn:=hbn;have hI:Fb w XB xbn vs:=hI;have hpb:∀ad,XB=some ad→p ad.block:=hpb;have HI:=Hd hI;have HKR:=Hd (show ∀(i:Nat) v t,vs[i]?=some v→c[i]?=some t→Bm w p v t from hc);have HD:=Hd hD;have HP:=Hd hp;have HPB:=Hd hpb;have HF:=Hd hf;have HBN:=Hd hbn;have HVL:=Hd hl;have HST:=Hd (fun j=>Ai0 f hO hg hn hmc j);have HBL:=Hd (show b.s.length≤65000 by unfold Bd.size at hmc;omega);have hB:=Ba w (.cells #[.pointer (some ⟨M.β,0,none⟩)] 120) (.cells #[Aa Ab (⟨10,xn,xu,xs,XA,xan,xac,XB,xbn,xbc⟩:Nv).k,Aa Ab (⟨10,xn,xu,xs,XA,xan,xac,XB,xbn,xbc⟩:Nv).n,Aa Ac ((⟨10,xn,xu,xs,XA,xan,xac,XB,xbn,xbc⟩:Nv).u:Int),.string ⟨(⟨10,xn,xu,xs,XA,xan,xac,XB,xbn,xbc⟩:Nv).s.toArray⟩,.slice (⟨10,xn,xu,xs,XA,xan,xac,XB,xbn,xbc⟩:Nv).A (⟨10,xn,xu,xs,XA,xan,xac,XB,xbn,xbc⟩:Nv).an (⟨10,xn,xu,xs,XA,xan,xac,XB,xbn,xbc⟩:Nv).ac,.slice (⟨10,xn,xu,xs,XA,xan,xac,XB,xbn,xbc⟩:Nv).B (⟨10,xn,xu,xs,XA,xan,xac,XB,xbn,xbc⟩:Nv).bn (⟨10,xn,xu,xs,XA,xan,xac,XB,xbn,xbc⟩:Nv).bc] 26);have HT0:=Hd (To.fresh B6 hB o 0);have HM0:=Hd (h.fresh hB 0);have HC0:=Hd (Ja M ⟨10,xn,xu,xs,XA,xan,xac,XB,xbn,xbc⟩ w o);obtain⟨m,hmm⟩:∃m,b.s.length=m:=⟨_,rfl⟩;have HMM:=Hd hmm;have hxl:xbn≤65000:=by omega
  obtain⟨vs',es,ls,ss,rs⟩:=Jo f c (fun t ht=>Em f t (hO t ht).ok) b hg;have hsz:=Ku f c (fun t ht=>Em f t (hO t ht).ok) (fun t ht=>H8 f t (hO t ht).ok) b hg;have HEV:=Hd (show m≤(Bd.callsL f c b).s.length∧(Bd.callsL f c b).s.length≤65536∧m<65536∧Du ((Bd.callsL f c b).s.drop m) (Bd.callsL f c b).b by
   have e1:(Bd.callsL f c b).s.drop m=vs':=by rw [es,←hmm];simp
   have e2:(Bd.callsL f c b).s.length=m+vs'.length:=by rw [es,Ass,hmm]
   have e3:(Bd.callsL f c b).b.length≤(Bd.callsL f c b).size:=by unfold Bd.size;omega
   have e4:m≤b.size:=by unfold Bd.size;omega
   rw [e1];exact⟨by omega,by omega,by omega,Aeh ls rs (fun t ht=>(hO t ht).fix) (by omega)⟩)
  have HEQ:=Hd (show Bd.calls f (.mk 10 xn xu xs ks' c) b=(Bd.callsL f c b).endVec m by rw [Bd.calls,if_pos rfl,hmm]);clear h hg hn hp hm hI hpb hl hc hD hO hf hB hmm es ls ss rs hsz hmc ecl;go_enter Tryz.func83,Tryz.ntmps83;go_upto_region 1 with fail
  generalize (w.alloc (.cells #[.pointer (some ⟨M.β,0,none⟩)] 120)).alloc (.cells #[Aa Ab (⟨10,xn,xu,xs,XA,xan,xac,XB,xbn,xbc⟩:Nv).k,Aa Ab (⟨10,xn,xu,xs,XA,xan,xac,XB,xbn,xbc⟩:Nv).n,Aa Ac ((⟨10,xn,xu,xs,XA,xan,xac,XB,xbn,xbc⟩:Nv).u:Int),.string ⟨(⟨10,xn,xu,xs,XA,xan,xac,XB,xbn,xbc⟩:Nv).s.toArray⟩,.slice (⟨10,xn,xu,xs,XA,xan,xac,XB,xbn,xbc⟩:Nv).A (⟨10,xn,xu,xs,XA,xan,xac,XB,xbn,xbc⟩:Nv).an (⟨10,xn,xu,xs,XA,xan,xac,XB,xbn,xbc⟩:Nv).ac,.slice (⟨10,xn,xu,xs,XA,xan,xac,XB,xbn,xbc⟩:Nv).B (⟨10,xn,xu,xs,XA,xan,xac,XB,xbn,xbc⟩:Nv).bn (⟨10,xn,xu,xs,XA,xan,xac,XB,xbn,xbc⟩:Nv).bc] 26)=w1 at HT0 HM0 HC0⊢;generalize Aq o w.heap.size 0=o1 at HT0 HM0 HC0;generalize w.heap.size+1=bn at HC0⊢;generalize w.heap.size=bx at HC0⊢;obtain⟨x0,x1,x2,x3,x4,x5,x6⟩:=HC0.o.cells;go_wp2_with fail;go_at_call 148;refine(Ah9 M fl b m _ o1 HM0.o HMM.o).mono ?_;rintro e w' ⟨rfl,rfl⟩;go_wp2_with fail;go_loopw [58] (fun uu wr=>∃j:Nat,j≤xbn∧uu= Aa Ab (j:Int)∧∃o',BM M fl wr o' (Bd.callsL f (c.take j) b)∧To B6 w o wr o'∧Tx M ⟨10,xn,xu,xs,XA,xan,xac,XB,xbn,xbc⟩ bx bn wr o') (fun uu _=>xbn-(intOf uu).toNat)
  case atStart=>exact⟨0,Nat.zero_le _,rfl,o1,by rw [List.take_zero];exact HM0.o,HT0.o,HC0.o⟩
  case round=>
   obtain⟨j,hj,rfl,o',hMr,hTr,hCr⟩:=hrel;have HMR:=Hd hMr;have HTR:=Hd hTr;have HCR:=Hd hCr;clear hMr hTr hCr x0 x1 x2 x3 x4 x5 x6;obtain⟨x0,x1,x2,x3,x4,x5,x6⟩:=HCR.o.cells;by_cases hlt:j<xbn
   ·obtain⟨v,hv⟩:∃v,vs[j]?=some v:=⟨_,Asq (by have h1:=HVL.o;have h2:=HBN.o;omega)⟩;obtain⟨t,ht⟩:∃t,c[j]?=some t:=⟨_,Asq (by have h2:=HBN.o;omega)⟩;have hp':∀q,p q→q<w.heap.size∧o q=0:=HP.o;have hIr:Fb wr XB xbn vs:=HI.o.fr HTR.o.fr (fun ad e=>by rw [(hp' _ (HPB.o ad e)).2];exact Bg);obtain⟨g,off,e,v0,v1,v2,v3,v4,v5⟩:=Gt hIr hv;have hal:=(Below.refl wr.heap.size wr).alloc (Asp _) (.cells #[Aa Ab v.k,Aa Ab v.n,Aa Ac (v.u:Int),.string ⟨v.s.toArray⟩,.slice v.A v.an v.ac,.slice v.B v.bn v.bc] 26);have HMA:=Hd (HMR.o.fresh hal 0);have HTA:=Hd (HTR.o.trans (To.fresh B6 hal o' 0));have HCA:=Hd (HCR.o.to_ (To.fresh B6 hal o' 0) Bg);have hNR:Bm (wr.alloc (.cells #[Aa Ab v.k,Aa Ab v.n,Aa Ac (v.u:Int),.string ⟨v.s.toArray⟩,.slice v.A v.an v.ac,.slice v.B v.bn v.bc] 26)) p v t:=(HKR.o j v t hv ht).to_ HTA.o (fun q hq=>by rw [(hp' q hq).2];exact Bg);have hcd:=HD.o t (List.mem_of_getElem? ht) M fl _ v _ _ p HMA.o (HST.o j).1 (HST.o j).2.1 hNR (fun q hq=>⟨Asu (hp' q hq).1 HTA.o.size,(HTA.o.ow _ (hp' q hq).1).trans (hp' q hq).2⟩) ((HST.o j).2.2 t ht);rw [HF.o] at hcd;have HCD:=Hd hcd;have HSN:=Hd (show Bd.callsL f (c.take (j+1)) b=Bd.calls f t (Bd.callsL f (c.take j) b) by
     obtain⟨q1,q2⟩:=List.getElem?_eq_some_iff.1 ht;rw [Asz q1,q2,R4])
    have hj0:(0:Int)≤(j:Int):=by omega
    have hjn:(j:Int)<(xbn:Int):=by omega
    rw [e] at x6⊢;have HEE:=Hd e;have a0:(wr.alloc (.cells #[Aa Ab v.k,Aa Ab v.n,Aa Ac (v.u:Int),.string ⟨v.s.toArray⟩,.slice v.A v.an v.ac,.slice v.B v.bn v.bc] 26)).cell? ⟨bx,0,none⟩=some (.pointer (some ⟨M.β,0,none⟩)):=HCA.o.cells.1;clear hv ht hp' hIr hal hNR hcd e;go_wp2_with fail;go_at_call 83;refine HCD.o.mono ?_;rintro e w2 ⟨rfl,o2,hM2,hT2⟩;have HM2:=Hd hM2;have HT2:=Hd (HTA.o.trans hT2);have HC2:=Hd (HCA.o.to_ hT2 Bg);clear hM2 hT2 x0 x1 x2 x3 x4 x5 x6;go_wp2_with fail;go_roundw
    case rel=>exact⟨j+1,by omega,by go_num,o2,by rw [HSN.o];exact HM2.o,HT2.o,by rw [←HEE.o];exact HC2.o⟩
    case measure=>simp [intOf];omega
   ·obtain rfl:j=xbn:=by omega
    have hct:c.take j=c:=Asy (by have h2:=HBN.o;omega);rw [hct] at HMR;clear hct;go_wp2_with fail;go_at_call 149;refine(Acz M fl (Bd.callsL f c b) m _ o' HMR.o HEV.o.1 HEV.o.2.1 HEV.o.2.2.1 HEV.o.2.2.2).mono ?_;rintro e w2 ⟨rfl,o2,hM2,hT2⟩;have HM2:=Hd hM2;have HT2:=Hd (HTR.o.trans hT2);clear hM2 hT2;go_wp2_with fail;go_end0;exact⟨rfl,o2,by rw [HEQ.o];exact HM2.o,HT2.o⟩
theorem Af1(M:Bp)(fl:Int)(b:Bd)(x v:Nv)(t:Tr)(s:List UInt8)(j g1 o1 g2 o2 bx bn:Nat)(w:World)(o:Nat→Nat)(p:Nat→Prop)(h:BM M fl w o b)(hg:Cp b)(hn:G9 b)(hC:Tx M x bx bn w o)(hp:∀k,p k→k<w.heap.size∧o k=0)
  (eA:x.A=some ⟨g1,o1,none⟩) (eB:x.B=some ⟨g2,o2,none⟩) (pA:p g1) (pB:p g2) (hja:j<x.an) (hjb:j<x.bn) (hs:w.cell? ⟨g1,o1+j,none⟩=some (.string ⟨s.toArray⟩))
  (hv:∀i u,#[Aa Ab v.k,Aa Ab v.n,Aa Ac (v.u:Int),.string ⟨v.s.toArray⟩,.slice v.A v.an v.ac,.slice v.B v.bn v.bc][i]?=some u→w.cell? ⟨g2,o2+j*6+i,none⟩=some u) (hR:Bm w p v t) (hD:Kz t) (hz:Br s=false) (hk:Oa b s) (hm:(b.key (bits fl) s).size+t.cost≤65000):
  Calls Tryz.prog 151 #[Aa Ab (j:Int),.pointer (some ⟨bx,0,none⟩),.pointer (some ⟨bn,0,none⟩)] w (Ck M fl (Bd.calls (bits fl) t (b.key (bits fl) s)) w o):=by
 obtain⟨f,hf⟩:∃f,bits fl=f:=⟨_,rfl⟩;have hck:=Xl M fl b s w.drew o h.drew hk hz;rw [hf] at hck hm⊢;have gk:Cp (b.key f s):=(Nx f s b hg).elim fun _ h=>h.2.1.2
 have nk:G9 (b.key f s):=⟨(Jh f s b hn).1.ok.1,(Jh f s b hn).1.ok.2⟩;have HCK:=Hd hck;have HG:=Hd gk;have HN:=Hd nk;have HM:=Hd hm;have HD:=Hd hD;have HR:=Hd hR;have HP:=Hd hp;have HPP:=Hd (And.intro pA pB);have HC:=Hd hC;have HF:=Hd hf;have HV:=Hd hv;obtain⟨x0,_,_,_,_,x5,_⟩:=hC.cells;rw [eA] at x5;have hj0:(0:Int)≤(j:Int):=by omega
 have hja':(j:Int)<(x.an:Int):=by omega
 have hjb':(j:Int)<(x.bn:Int):=by omega
 have HEB:=Hd eB;clear h hg hn hC hp pA pB hv hR hD hz hk hm hck gk nk hf eA eB;go_enter Tryz.func151,Tryz.ntmps151;go_wp2_with fail;go_region_held3 (fun w'=>w'.cell? ⟨bx,0,none⟩=some (.pointer (some ⟨M.β,0,none⟩))∧w'.cell? ⟨bn,4,none⟩=some (.slice (some ⟨g1,o1,none⟩) x.an x.ac)∧w'.cell? ⟨g1,o1+j,none⟩=some (.string ⟨s.toArray⟩)) (first|with_reducible exact⟨x0,x5,hs⟩|with_reducible exact⟨Af x0,Af x5,Af hs⟩|with_reducible exact⟨y0,y5,ys⟩) (first
  |(go_at_call 152;(with_reducible refine HCK.o.mono ?_);rintro e w2 ⟨rfl,oo,hM2,hT2⟩;have hT2':=hT2.from_drew;have hC2:=HC.o.to_ hT2' Bg;have y0:=hC2.cells.1;have y5:w2.cell? ⟨bn,4,none⟩=some (.slice (some ⟨g1,o1,none⟩) x.an x.ac):=Co hT2' x5 (by rw [HC.o.on];exact Bg);have ys:w2.cell? ⟨g1,o1+j,none⟩=some (.string ⟨s.toArray⟩):=Co hT2' hs (by rw [(HP.o _ HPP.o.1).2];exact Bg);have HC2:=Hd hC2;have HM2:=Hd hM2;have HT2:=Hd hT2';clear hM2 hT2 hT2' hC2))
 clear x0 x5 y0 y5 ys;obtain⟨x0,_,_,_,_,_,x6⟩:=HC2.o.cells;rw [HEB.o] at x6;have hc:∀i u,#[Aa Ab v.k,Aa Ab v.n,Aa Ac (v.u:Int),.string ⟨v.s.toArray⟩,.slice v.A v.an v.ac,.slice v.B v.bn v.bc][i]?=some u→w2.cell? ⟨g2,o2+j*6+i,none⟩=some u:=fun i u e=>Co HT2.o (HV.o i u e) (by rw [(HP.o _ HPP.o.2).2];exact Bg)
 have c0:w2.cell? ⟨g2,o2+j*6,none⟩=some (Aa Ab v.k):=hc 0 _ rfl;have c1:w2.cell? ⟨g2,o2+j*6+1,none⟩=some (Aa Ab v.n):=hc 1 _ rfl;have c2:w2.cell? ⟨g2,o2+j*6+2,none⟩=some (Aa Ac (v.u:Int)):=hc 2 _ rfl;have c3:w2.cell? ⟨g2,o2+j*6+3,none⟩=some (.string ⟨v.s.toArray⟩):=hc 3 _ rfl;have c4:w2.cell? ⟨g2,o2+j*6+4,none⟩=some (.slice v.A v.an v.ac):=hc 4 _ rfl;have c5:w2.cell? ⟨g2,o2+j*6+5,none⟩=some (.slice v.B v.bn v.bc):=hc 5 _ rfl;have hcd:=HD.o M fl (b.key f s) v w2.drew oo p HM2.o.drew HG.o HN.o ((HR.o.to_ HT2.o (fun q hq=>by rw [(HP.o q hq).2];exact Bg)).pure (Below.refl _ _).drew) (fun q hq=>⟨Asu (HP.o q hq).1 HT2.o.size,(HT2.o.ow _ (HP.o q hq).1).trans (HP.o q hq).2⟩) HM.o;rw [HF.o] at hcd;have HCD:=Hd hcd;clear hc hcd;go_wp2_with fail;go_region_held3 (fun w'=>w'.cell? ⟨bx,0,none⟩=some (.pointer (some ⟨M.β,0,none⟩))∧w'.cell? ⟨bn,5,none⟩=some (.slice (some ⟨g2,o2,none⟩) x.bn x.bc)∧w'.cell? ⟨g2,o2+j*6,none⟩=some (Aa Ab v.k)∧w'.cell? ⟨g2,o2+j*6+1,none⟩=some (Aa Ab v.n)∧w'.cell? ⟨g2,o2+j*6+2,none⟩=some (Aa Ac (v.u:Int))∧w'.cell? ⟨g2,o2+j*6+3,none⟩=some (.string ⟨v.s.toArray⟩)∧w'.cell? ⟨g2,o2+j*6+4,none⟩=some (.slice v.A v.an v.ac)∧w'.cell? ⟨g2,o2+j*6+5,none⟩=some (.slice v.B v.bn v.bc)) (first|with_reducible exact⟨x0,x6,c0,c1,c2,c3,c4,c5⟩|with_reducible exact⟨Af x0,Af x6,Af c0,Af c1,Af c2,Af c3,Af c4,Af c5⟩|with_reducible exact⟨z0,z6,d0,d1,d2,d3,d4,d5⟩) (first
  |(go_at_call 83;(with_reducible refine HCD.o.mono ?_);rintro e w3 ⟨rfl,o3,hM3,hT3⟩;have hT3':=hT3.from_drew;have hog:¬B6 (oo g2):=by { rw [(HT2.o.ow _ (HP.o _ HPP.o.2).1),(HP.o _ HPP.o.2).2];exact Bg};have z0:=(HC2.o.to_ hT3' Bg).cells.1;have z6:=Co hT3' x6 (by rw [HC2.o.on];exact Bg);have d0:=Co hT3' c0 hog;have d1:=Co hT3' c1 hog;have d2:=Co hT3' c2 hog;have d3:=Co hT3' c3 hog;have d4:=Co hT3' c4 hog;have d5:=Co hT3' c5 hog;have HM3:=Hd hM3;have HT3:=Hd (HT2.o.trans hT3');clear hM3 hT3 hT3'))
 go_wp2_with fail;go_end0;exact⟨rfl,o3,HM3.o,HT3.o⟩
end Go.Proofs.YtgbjodnegkbfoaaGreat
namespace Go.Proofs.YtgbjodnegkbfoaaGreat
open Go.Acc
theorem R5(f:Nat):∀(l:List Tr) (ks:List (List UInt8)) (t:Tr) (s:List UInt8) (b:Bd),ks.length=l.length→Bd.callsM f (ks++ [s]) (l++ [t]) b=Bd.calls f t ((Bd.callsM f ks l b).key f s)
 | [],ks,t,s,b,h=>by
  obtain rfl:ks=[]:=List.eq_nil_of_length_eq_zero h;simp [Bd.callsM]
 |x::r,[],t,s,b,h=>by simp at h
 |x::r,k::ks,t,s,b,h=>by
  rw [List.cons_append,List.cons_append,Bd.callsM,Bd.callsM];exact R5 f r ks t s _ (by simpa using h)
theorem Aq3{ks:List (List UInt8)}{kvs vs st:List Bv}{b:Bd}(hg:Cp b)(hk:Ft b.b ks kvs)(h0:∀x∈ks,Br x=false)(hv:Du vs b.b)(hl:vs.length=kvs.length)(hm:b.size+100+18*kvs.length≤1000000)(hs:st.length<65536):Ae8 (Ci ks) kvs vs { b with s:=st}:=by
 have hsz:b.b.length+b.lists.length+b.vals.length≤b.size:=by unfold Bd.size;omega
 have hkl:kvs.length=ks.length:=hk.1;obtain⟨hok,hel⟩:=Xz hk (by omega);have hlen:=Oc 14 true false kvs b.b;obtain⟨m,hmm⟩:=Pl 14 true false kvs b.b;have hge:b.b.length≤(Bk 14 true false kvs b.b).1.length:=by rw [hmm,Ass];omega
 refine⟨hok,hel,hv,⟨hv.legal,hv.own,fun v h=>(hv.fit v h).mono hge,?_⟩,Lp (fun x e=>by cases e) hok.fit,?_,fun i e=>?_,?_,?_,hs⟩
 ·show(Bk 14 true false kvs b.b).1.length+40+9*vs.length≤1048576;omega
 ·have h:=Tw 14 true false kvs b.b [];rw [List.append_nil] at h;exact h
 ·obtain⟨kv,kvs',h1,_,h3⟩:=hg.lists ks (fun s hs=>Lk (h0 s hs)) i e;have hf:=h3.fit;obtain⟨b0,m0,_,e2,h4⟩:=h3;exact⟨kv,h1,by rw [e2];rfl,by rw [e2];exact Lp (fun x e=>by cases e) h4,hf⟩
 ·show b.lists.length≤1048575;omega
 ·show b.vals.length≤1048576;omega
theorem Ac3{ks:List (List UInt8)}{j:Nat}{s:List UInt8}(hs:ks[j]?=some s):A6 (ks.take j)+(s.length+20)≤A6 ks:=by
 obtain⟨hj,e⟩:=List.getElem?_eq_some_iff.1 hs;have h:A6 ks=A6 (ks.take j)+(s.length+20+A6 (ks.drop (j+1))):=by
  conv=>lhs;rw [←List.take_append_drop j ks,List.drop_eq_getElem_cons hj,e]
  rw [Qo];rfl
 omega
theorem Ale{c:List Tr}{j:Nat}{t:Tr}(ht:c[j]?=some t):Tr.costL (c.take j)+(40+t.cost)≤Tr.costL c:=by
 obtain⟨hj,e⟩:=List.getElem?_eq_some_iff.1 ht;have h:Tr.costL c=Tr.costL (c.take j)+(40+t.cost+Tr.costL (c.drop (j+1))):=by
  conv=>lhs;rw [←List.take_append_drop j c,List.drop_eq_getElem_cons hj,e]
  rw [P4,Tr.costL]
 omega
theorem Aab(f:Nat){ks:List (List UInt8)}{c:List Tr}(hl:ks.length=c.length)(hO:∀t∈c,F0 t){b:Bd}(hg:Cp b)(hn:G9 b)(hm:b.size+A6 ks+Tr.costL c≤65000)(j:Nat):
  Cp (Bd.callsM f (ks.take j) (c.take j) b)∧G9 (Bd.callsM f (ks.take j) (c.take j) b)∧(∀t s,c[j]?=some t→ks[j]?=some s→Oa (Bd.callsM f (ks.take j) (c.take j) b) s∧((Bd.callsM f (ks.take j) (c.take j) b).key f s).size+t.cost≤65000):=by
 have hD:∀t∈c.take j,Nb f t:=fun t ht=>Em f t (hO t (List.mem_of_mem_take ht)).ok
 have hl':(ks.take j).length=(c.take j).length:=by rw [List.length_take,List.length_take,hl]
 obtain⟨kvs,vs,_,_,s1,_,_⟩:=H7 f (c.take j) (ks.take j) hl' hD b hg;refine⟨s1.2,(Jp f (c.take j) (ks.take j) hl' hD (fun t ht=>Ng f t (hO t (List.mem_of_mem_take ht)).ok) b hg hn).1.ok,fun t s ht hs=>?_⟩;have h1:=Kv f (c.take j) (ks.take j) hl' hD (fun t ht=>H8 f t (hO t (List.mem_of_mem_take ht)).ok) b hg;have h2:=Ac3 hs;have h3:=Ale ht;have h4:=S4 f s (Bd.callsM f (ks.take j) (c.take j) b);have h5:(Bd.callsM f (ks.take j) (c.take j) b).b.length+(Bd.callsM f (ks.take j) (c.take j) b).s.length+(Bd.callsM f (ks.take j) (c.take j) b).keys.length+(Bd.callsM f (ks.take j) (c.take j) b).names.length≤(Bd.callsM f (ks.take j) (c.take j) b).size:=by unfold Bd.size;omega
 exact⟨⟨by omega,by omega,by omega,by omega⟩,by omega⟩
theorem Arj(f:Nat){ks:List (List UInt8)}{c:List Tr}(hl:ks.length=c.length)(h0:∀x∈ks,Br x=false)(hu:ks.Pairwise (· < ·))(hO:∀t∈c,F0 t){b:Bd}(hg:Cp b)(hn:G9 b)(hm:b.size+A6 ks+Tr.costL c≤65000):
  ∃kvs vs,Za ks kvs vs b.s.length (Bd.callsM f ks c b):=by
 have hD:∀t∈c,Nb f t:=fun t ht=>Em f t (hO t ht).ok
 obtain⟨kvs,vs,e1,l1,s1,k1,r1⟩:=H7 f c ks hl hD b hg;obtain⟨n1,kvs',vs',e2,l2,l3,nm⟩:=Jp f c ks hl hD (fun t ht=>Ng f t (hO t ht).ok) b hg hn;have hsz:=Kv f c ks hl hD (fun t ht=>H8 f t (hO t ht).ok) b hg;have hkl:kvs.length=ks.length:=k1.1;have hvl:vs.length=kvs.length:=by omega
 have e3:Ew kvs vs=Ew kvs' vs':=List.append_cancel_left (e1.symm.trans e2);obtain⟨a1,a2⟩:=H9 kvs vs hvl.symm;obtain⟨a3,a4⟩:=H9 kvs' vs' (by omega);obtain rfl:kvs=kvs':=by rw [←a1,e3,a3]
 have hd:(Bd.callsM f ks c b).s.drop b.s.length=Ew kvs vs:=by rw [e1];simp
 have hb:=Oh kvs vs hvl.symm;have hs:(Bd.callsM f ks c b).s.length=b.s.length+2*kvs.length:=by rw [e1,Ass,hb]
 have hbs:b.s.length≤b.size:=by unfold Bd.size;omega
 have hss:(Bd.callsM f ks c b).s.length+(Bd.callsM f ks c b).b.length≤(Bd.callsM f ks c b).size:=by unfold Bd.size;omega
 have hcl:=Jb c;have hll:=U0 ks;have hok:Du vs (Bd.callsM f ks c b).b:=Aeh l1 r1 (fun t ht=>(hO t ht).fix) (by omega);refine⟨kvs,vs,hd,hkl,by omega,nm,fun x hx=>?_,hu,by omega,by omega,by omega,by omega,?_⟩
 ·have:=n1.ok.lt x hx;omega
 ·exact Aq3 s1.2 k1 h0 hok hvl (by omega) (by rw [List.length_take];omega)
end Go.Proofs.YtgbjodnegkbfoaaGreat
namespace Go.Proofs.YtgbjodnegkbfoaaGreat
open Go.RowKit Go.Acc
theorem Yp(n:Int)(u:Nat)(s:List UInt8)(ks:List (List UInt8))(c:List Tr)(hkc:ks.length=c.length)(h0:∀x∈ks,Br x=false)(hu:ks.Pairwise (· < ·))(hO:∀t∈c,F0 t)(hD:∀t∈c,Kz t):Kz (.mk 17 n u s ks c):=by
 intro M fl b x w o p h hg hn hR hp hm;obtain⟨f,hf⟩:∃f,bits fl=f:=⟨_,rfl⟩;rw [hf];obtain⟨hk,_,_,_,_,hbn⟩:=hR.fields;have hk:17=x.k:=hk;have hbn:c.length=x.bn:=hbn;have hmc:b.size+A6 ks+Tr.costL c≤65000:=by unfold Tr.cost at hm;omega
 have ecl:=Jb c;generalize ht:Tr.mk 17 n u s ks c=t0 at hR;cases hR with
 | @mk _ ks' l' vs hKs hka _ _ hI hpb _ _ hl hc=>
  injection ht with e1 e2 e3 e4 e5 e6
  subst e5 e6;obtain⟨k,xn,xu,xs,XA,xan,xac,XB,xbn,xbc⟩:=x;obtain rfl:17=k:=hk;clear e1 e2 e3 e4;have hbn:c.length=xbn:=hbn;have hI:Fb w XB xbn vs:=hI;have hpb:∀ad,XB=some ad→p ad.block:=hpb;have HI:=Hd hI;have hKs:Ek w XA xan ks:=hKs;have hka:∀ad,XA=some ad→p ad.block:=hka;have HKS:=Hd hKs;have HKA:=Hd hka;have HKC:=Hd (show ks.length=c.length from hkc);have HXA:=Hd (show ks.length=xan by have:=hKs.1;simpa using this);have HZ:=Hd h0;have HKR:=Hd (show ∀(i:Nat) v t,vs[i]?=some v→c[i]?=some t→Bm w p v t from hc);have HD:=Hd hD;have HP:=Hd hp;have HPB:=Hd hpb;have HF:=Hd hf;have HBN:=Hd hbn;have HVL:=Hd hl;have HST:=Hd (fun j=>Aab f hkc hO hg hn hmc j);have HBL:=Hd (show b.s.length≤65000 by unfold Bd.size at hmc;omega);have hB:=Ba w (.cells #[.pointer (some ⟨M.β,0,none⟩)] 120) (.cells #[Aa Ab (⟨17,xn,xu,xs,XA,xan,xac,XB,xbn,xbc⟩:Nv).k,Aa Ab (⟨17,xn,xu,xs,XA,xan,xac,XB,xbn,xbc⟩:Nv).n,Aa Ac ((⟨17,xn,xu,xs,XA,xan,xac,XB,xbn,xbc⟩:Nv).u:Int),.string ⟨(⟨17,xn,xu,xs,XA,xan,xac,XB,xbn,xbc⟩:Nv).s.toArray⟩,.slice (⟨17,xn,xu,xs,XA,xan,xac,XB,xbn,xbc⟩:Nv).A (⟨17,xn,xu,xs,XA,xan,xac,XB,xbn,xbc⟩:Nv).an (⟨17,xn,xu,xs,XA,xan,xac,XB,xbn,xbc⟩:Nv).ac,.slice (⟨17,xn,xu,xs,XA,xan,xac,XB,xbn,xbc⟩:Nv).B (⟨17,xn,xu,xs,XA,xan,xac,XB,xbn,xbc⟩:Nv).bn (⟨17,xn,xu,xs,XA,xan,xac,XB,xbn,xbc⟩:Nv).bc] 26);have HT0:=Hd (To.fresh B6 hB o 0);have HM0:=Hd (h.fresh hB 0);have HC0:=Hd (Ja M ⟨17,xn,xu,xs,XA,xan,xac,XB,xbn,xbc⟩ w o);obtain⟨m,hmm⟩:∃m,b.s.length=m:=⟨_,rfl⟩;have HMM:=Hd hmm;have hxl:xbn≤65000:=by omega
  obtain⟨kvs,vs',hem⟩:=Arj f hkc h0 hu hO hg hn hmc;rw [hmm] at hem;have HEM:=Hd hem;have HEQ:=Hd (show Bd.calls f (.mk 17 xn xu xs ks c) b=(Bd.callsM f ks c b).endMap f ks m by rw [Bd.calls,if_neg (by omega),if_pos rfl,hmm]);clear h hg hn hp hm hI hpb hl hc hD hO hf hB hmm hem hmc ecl hKs hka h0 hu hkc;go_enter Tryz.func83,Tryz.ntmps83;go_upto_region 1 with fail
  generalize (w.alloc (.cells #[.pointer (some ⟨M.β,0,none⟩)] 120)).alloc (.cells #[Aa Ab (⟨17,xn,xu,xs,XA,xan,xac,XB,xbn,xbc⟩:Nv).k,Aa Ab (⟨17,xn,xu,xs,XA,xan,xac,XB,xbn,xbc⟩:Nv).n,Aa Ac ((⟨17,xn,xu,xs,XA,xan,xac,XB,xbn,xbc⟩:Nv).u:Int),.string ⟨(⟨17,xn,xu,xs,XA,xan,xac,XB,xbn,xbc⟩:Nv).s.toArray⟩,.slice (⟨17,xn,xu,xs,XA,xan,xac,XB,xbn,xbc⟩:Nv).A (⟨17,xn,xu,xs,XA,xan,xac,XB,xbn,xbc⟩:Nv).an (⟨17,xn,xu,xs,XA,xan,xac,XB,xbn,xbc⟩:Nv).ac,.slice (⟨17,xn,xu,xs,XA,xan,xac,XB,xbn,xbc⟩:Nv).B (⟨17,xn,xu,xs,XA,xan,xac,XB,xbn,xbc⟩:Nv).bn (⟨17,xn,xu,xs,XA,xan,xac,XB,xbn,xbc⟩:Nv).bc] 26)=w1 at HT0 HM0 HC0⊢;generalize Aq o w.heap.size 0=o1 at HT0 HM0 HC0;generalize w.heap.size+1=bn at HC0⊢;generalize w.heap.size=bx at HC0⊢;obtain⟨x0,x1,x2,x3,x4,x5,x6⟩:=HC0.o.cells;go_wp2_with fail;go_at_call 150;refine(Ah0 M fl b m _ o1 HM0.o HMM.o).mono ?_;rintro e w' ⟨rfl,rfl⟩;go_wp2_with fail;go_loopw [77] (fun uu wr=>∃j:Nat,j≤xbn∧uu= Aa Ab (j:Int)∧∃o',BM M fl wr o' (Bd.callsM f (ks.take j) (c.take j) b)∧To B6 w o wr o'∧Tx M ⟨17,xn,xu,xs,XA,xan,xac,XB,xbn,xbc⟩ bx bn wr o') (fun uu _=>xbn-(intOf uu).toNat)
  case atStart=>exact⟨0,Nat.zero_le _,rfl,o1,by rw [List.take_zero,List.take_zero];exact HM0.o,HT0.o,HC0.o⟩
  case round=>
   obtain⟨j,hj,rfl,o',hMr,hTr,hCr⟩:=hrel;have HMR:=Hd hMr;have HTR:=Hd hTr;have HCR:=Hd hCr;clear hMr hTr hCr x0 x1 x2 x3 x4 x5 x6;obtain⟨x0,x1,x2,x3,x4,x5,x6⟩:=HCR.o.cells;by_cases hlt:j<xbn
   ·obtain⟨v,hv⟩:∃v,vs[j]?=some v:=⟨_,Asq (by have h1:=HVL.o;have h2:=HBN.o;omega)⟩;obtain⟨t,ht⟩:∃t,c[j]?=some t:=⟨_,Asq (by have h2:=HBN.o;omega)⟩;have hp':∀q,p q→q<w.heap.size∧o q=0:=HP.o;have hIr:Fb wr XB xbn vs:=HI.o.fr HTR.o.fr (fun ad e=>by rw [(hp' _ (HPB.o ad e)).2];exact Bg);have hKr:Ek wr XA xan ks:=HKS.o.fr HTR.o.fr (fun ad e=>by rw [(hp' _ (HKA.o ad e)).2];exact Bg);have hja:j<xan:=by have h1:=HXA.o;have h2:=HKC.o;have h3:=HBN.o;omega
    obtain⟨g2,o2,e,v0,v1,v2,v3,v4,v5⟩:=Gt hIr hv;obtain⟨g1,o1',eA,hk',hs⟩:=Fy hKr hja;have hks:ks[j]?=some ks[j]:=Asq hk';have hes:=HST.o j;have hE:=Af1 M fl (Bd.callsM f (ks.take j) (c.take j) b) ⟨17,xn,xu,xs,XA,xan,xac,XB,xbn,xbc⟩ v t ks[j] j g1 o1' g2 o2 bx bn wr o' p HMR.o hes.1 hes.2.1 HCR.o (fun q hq=>⟨Asu (hp' q hq).1 HTR.o.size,(HTR.o.ow _ (hp' q hq).1).trans (hp' q hq).2⟩) eA e (HKA.o _ eA) (HPB.o _ e) hja hlt hs
     (fun i u hu=>by match i,hu with
      |0,hu=>simp at hu;rw [←hu];exact v0
      |1,hu=>simp at hu;rw [←hu];exact v1
      |2,hu=>simp at hu;rw [←hu];exact v2
      |3,hu=>simp at hu;rw [←hu];exact v3
      |4,hu=>simp at hu;rw [←hu];exact v4
      |5,hu=>simp at hu;rw [←hu];exact v5
      |i+6,hu=>simp at hu)
     ((HKR.o j v t hv ht).to_ HTR.o (fun q hq=>by rw [(hp' q hq).2];exact Bg)) (HD.o t (List.mem_of_getElem? ht)) (HZ.o _ (List.getElem_mem _)) (hes.2.2 t _ ht hks).1 (by rw [HF.o];exact(hes.2.2 t _ ht hks).2)
    rw [HF.o] at hE;have HCD:=Hd hE;have HSN:=Hd (show Bd.callsM f (ks.take (j+1)) (c.take (j+1)) b=Bd.calls f t ((Bd.callsM f (ks.take j) (c.take j) b).key f ks[j]) by
     obtain⟨q1,q2⟩:=List.getElem?_eq_some_iff.1 ht;rw [Asz q1,q2,Asz hk',R5 f _ _ _ _ _ (by rw [List.length_take,List.length_take,HKC.o])])
    have hj0:(0:Int)≤(j:Int):=by omega
    have hjn:(j:Int)<(xbn:Int):=by omega
    clear hv ht hp' hIr hKr hE hes hks hs v0 v1 v2 v3 v4 v5 e eA;go_wp2_with fail;go_at_call 151;refine HCD.o.mono ?_;rintro e w2 ⟨rfl,o2,hM2,hT2⟩;have HM2:=Hd hM2;have HT2:=Hd (HTR.o.trans hT2);have HC2:=Hd (HCR.o.to_ hT2 Bg);clear hM2 hT2 x0 x1 x2 x3 x4 x5 x6;go_wp2_with fail;go_roundw
    case rel=>exact⟨j+1,by omega,by go_num,o2,by rw [HSN.o];exact HM2.o,HT2.o,HC2.o⟩
    case measure=>simp [intOf];omega
   ·obtain rfl:j=xbn:=by omega
    have hct:c.take j=c:=Asy (by have h2:=HBN.o;omega);have hkt:ks.take j=ks:=Asy (by have h2:=HBN.o;have h3:=HKC.o;omega);rw [hct,hkt] at HMR;clear hct hkt;have hee:=Acy M fl (Bd.callsM f ks c b) ks kvs vs' m wr o' HMR.o HEM.o;rw [HF.o] at hee;have HEE:=Hd hee;clear hee;go_wp2_with fail;go_at_call 153;refine HEE.o.mono ?_;rintro e w2 ⟨rfl,o2,hM2,hT2⟩;have HM2:=Hd hM2;have HT2:=Hd (HTR.o.trans hT2);clear hM2 hT2;go_wp2_with fail;go_end0;exact⟨rfl,o2,by rw [HEQ.o];exact HM2.o,HT2.o⟩
theorem Ahv{t:Tr}(h:F0 t):Kz t:=by
 induction h with
 | @leaf k n u s ks c h1 h2 hn hz=>
  intro M fl b x w o p hM hg hN hR hp hm;have e:Bd.calls (bits fl) (.mk k n u s ks c) b=b.leaf (bits fl) k n u s:=by rw [Bd.calls,if_neg (by omega),if_neg (by omega),if_pos h2]
  rw [e];exact Aax M fl b x k n u s ks c w o p hM hR h1 h2 hn hz (by unfold Tr.cost at hm;omega)
 | @flat k c n u s ks h1 h2 hn hz hf=>
  intro M fl b x w o p hM hg hN hR hp hm;have e:Bd.calls (bits fl) (.mk k n u s ks c) b=b.flat (bits fl) k c:=by rw [Bd.calls,if_neg (by omega),if_neg (by omega),if_neg (by omega)]
  rw [e];exact Aim M fl b x k n u s ks c w o p hM hg hR h1 h2 hn hz hf (by unfold Tr.cost at hm;omega)
 | @vec c n u s ks h ih=>exact Yq n u s ks c h ih
 | @map c ks n u s hl h0 hu h ih=>exact Yp n u s ks c hl h0 hu h ih
theorem Aqb(f:Nat){t:Tr}(h:Gw t)(hc:t.cost≤65000):∃v y,(Bd.calls f (Bf t) Bd.new).s=[v]∧Ae4 (Bd.calls f (Bf t) Bd.new).b v y∧Di (Bd.calls f (Bf t) Bd.new).b v y=L0 f (Bf t):=by
 obtain⟨v,e,r⟩:=Xj f (Bf t) (Vx h);obtain⟨h1,h2,h3⟩:=r.legal (Kp h);have hs:=H8 f (Bf t) (Vx h) Bd.new On;rw [Mv t h] at hs;have hb:(Bd.calls f (Bf t) Bd.new).b.length≤(Bd.calls f (Bf t) Bd.new).size:=by unfold Bd.size;omega
 have hz:Bd.new.size=0:=rfl;have e':(Bd.calls f (Bf t) Bd.new).s=[v]:=e;exact⟨v,_,e',Aii h1 h2 r.fit (by omega),by simp only [L0,Bd.finish,e',Di]⟩
theorem Afk(fl:Int){x:Nv}{t:Tr}{p:Nat→Prop}{w:World}(h:Bm w p x t)(hp:∀k,p k→k<w.heap.size)(hca:Kz (Bf t))(hc:t.cost≤65000)(he:(Hk Ha 0 t 0).1=0):
  Calls Tryz.prog 42 #[.agg #[Aa Ab x.k,Aa Ab x.n,Aa Ac (x.u:Int),.string ⟨x.s.toArray⟩,.slice x.A x.an x.ac,.slice x.B x.bn x.bc],Aa Ab fl,Aa Ab 1048576] w (Y8 w (L0 (bits fl) (Bf t))):=by
 have hv:=Lo Qc t 0 0 he;obtain⟨v,y,es,hf,ed⟩:=Aqb (bits fl) hv hc;have HV:=Hd (And.intro es hf);have HD:=Hd ed;have HCA:=Hd hca;have HCO:=Hd (show Bd.new.size+(Bf t).cost≤65000 by rw [Mv t hv];have hz:Bd.new.size=0:=rfl;omega);have hb:=(Below.refl w.heap.size w).alloc (Asp _) (.cells #[Aa Ab x.k,Aa Ab x.n,Aa Ac (x.u:Int),.string ⟨x.s.toArray⟩,.slice x.A x.an x.ac,.slice x.B x.bn x.bc] 26);have HB:=Hd hb;have HX:=Hd (Ag.new w 26 #[Aa Ab x.k,Aa Ab x.n,Aa Ac (x.u:Int),.string ⟨x.s.toArray⟩,.slice x.A x.an x.ac,.slice x.B x.bn x.bc]);have HS:=Hd (Yx (h.pure hb) (fun k hk=>Asu (hp k hk) hb.size) (by omega) he);obtain⟨b',hb'⟩:∃b',Bd.calls (bits fl) (Bf t) Bd.new=b':=⟨_,rfl⟩;rw [hb'] at HV HD;have HBB:=Hd hb';clear h hp hca hc he hv es hf ed hb hb';go_enter Tryz.func42,Tryz.ntmps42;go_wp2_with fail;go_at_call 37;refine HS.o.mono ?_;rintro e w1 ⟨z,rfl,hN1,hb1⟩;have HB1:=Hd (Ad HB.o hb1);have HN1:=Hd hN1;have HL1:=Hd (show(w.alloc (.cells #[Aa Ab x.k,Aa Ab x.n,Aa Ac (x.u:Int),.string ⟨x.s.toArray⟩,.slice x.A x.an x.ac,.slice x.B x.bn x.bc] 26)).heap.size≤w1.heap.size from hb1.size);clear hN1 hb1;have hB2:=(Below.refl w1.heap.size w1).alloc (Asp _) (.cells #[Aa Ab z.k,Aa Ab z.n,Aa Ac (z.u:Int),.string ⟨z.s.toArray⟩,.slice z.A z.an z.ac,.slice z.B z.bn z.bc] 26);have HX2:=Hd (Ag.new w1 26 #[Aa Ab z.k,Aa Ab z.n,Aa Ac (z.u:Int),.string ⟨z.s.toArray⟩,.slice z.A z.an z.ac,.slice z.B z.bn z.bc]);have HB2:=Hd (Ad HB1.o hB2);have HN2:=Hd (HN1.o.pure hB2);have HL2:=Hd (show w1.heap.size≤(w1.alloc (.cells #[Aa Ab z.k,Aa Ab z.n,Aa Ac (z.u:Int),.string ⟨z.s.toArray⟩,.slice z.A z.an z.ac,.slice z.B z.bn z.bc] 26)).heap.size from hB2.size);clear hB2;go_wp2_with fail;go_at_call 82;refine(Ah1 fl _ (fun _=>0)).mono ?_;rintro e w3 ⟨M,o3,rfl,hM,hT⟩;have hb3:=hT.below (fun _ _ h=>h);have HX3:=Hd (HX2.o.pure hb3);have HM3:=Hd hM;have HT3:=Hd (hT.mono (J:=B6) fun _ h=>h.elim);have HB3:=Hd (Ad HB2.o hb3);have HC3:=Hd (HCA.o M fl Bd.new z w3 o3 _ hM On Ao2 (HN2.o.pure hb3) (fun k hk=>by have h1:=HL2.o;exact⟨by have h2:=hb3.size;omega,hT.ow k (by omega)⟩) HCO.o);rw [HBB.o] at HC3;obtain ⟨x0,x1,x2,x3,x4,x5⟩:=HX3.o.c6;clear hM hT hb3;go_wp2_with fail;go_at_call 83;refine HC3.o.mono ?_;rintro e w4 ⟨rfl,o4,hM4,hT4⟩;have HM4:=Hd hM4;have HT4:=Hd (HT3.o.trans hT4);clear hM4 hT4 x0 x1 x2 x3 x4 x5;go_wp2_with fail;go_at_call 84;refine(Ac0 M fl b' v y _ o4 HM4.o HV.o.1 HV.o.2).mono ?_;rintro e w5 ⟨A,m,c,rfl,hO,o5,hT5⟩;have HO:=Hd hO;have HT5:=Hd (HT4.o.trans hT5);have HSZ:=Hd (show w.heap.size≤w4.heap.size from Nat.le_trans HB2.o.size HT4.o.size);clear hO hT5;go_wp2_with fail;go_ret2;exact⟨A,m,c,rfl,by rw [←HD.o];exact HO.o.rebase HSZ.o,Ad HB2.o (HT5.o.below fun _ _=>Bg)⟩
theorem Ahw(fl:Int){x:Nv}{t:Tr}{p:Nat→Prop}{w:World}{er:Int}(h:Bm w p x t)(hp:∀k,p k→k<w.heap.size)(hc:V4 t)(he:(Hk Ha 0 t 0).1=er)(hne:er≠0):
  Calls Tryz.prog 42 #[.agg #[Aa Ab x.k,Aa Ab x.n,Aa Ac (x.u:Int),.string ⟨x.s.toArray⟩,.slice x.A x.an x.ac,.slice x.B x.bn x.bc],Aa Ab fl,Aa Ab 1048576] w fun e w'=>e= .returned (.tuple #[.slice none 0 0,Aa Ab er])∧Below w.heap.size w w':=by
 have hb:=(Below.refl w.heap.size w).alloc (Asp _) (.cells #[Aa Ab x.k,Aa Ab x.n,Aa Ac (x.u:Int),.string ⟨x.s.toArray⟩,.slice x.A x.an x.ac,.slice x.B x.bn x.bc] 26);have HB:=Hd hb;have HX:=Hd (Ag.new w 26 #[Aa Ab x.k,Aa Ab x.n,Aa Ac (x.u:Int),.string ⟨x.s.toArray⟩,.slice x.A x.an x.ac,.slice x.B x.bn x.bc]);have HS:=Hd (Wo (h.pure hb) (fun k hk=>Asu (hp k hk) hb.size) hc he hne);have hbn:(er != 0)=true:=by simpa using hne
 clear h hp hc he hne hb;go_enter Tryz.func42,Tryz.ntmps42;go_wp2_with fail;go_at_call 37;refine HS.o.mono ?_;rintro e w1 ⟨rfl,hb1⟩;have HB1:=Hd (Ad HB.o hb1);clear hb1;go_wp2_with fail;go_ret2;exact⟨rfl,HB1.o.alloc HB1.o.size _⟩
theorem Ahu(fl:Int){x:Nv}{t:Tr}{p:Nat→Prop}{w:World}(h:Bm w p x t)(hp:∀k,p k→k<w.heap.size)(hca:Kz (Bf t))(hc:t.cost≤65000)(he:(Hk Ha 0 t 0).1=0):
  Calls Tryz.prog 12 #[.agg #[Aa Ab x.k,Aa Ab x.n,Aa Ac (x.u:Int),.string ⟨x.s.toArray⟩,.slice x.A x.an x.ac,.slice x.B x.bn x.bc],Aa Ab fl] w (Y8 w (L0 (bits fl) (Bf t))):=by
 have hb:=(Below.refl w.heap.size w).alloc (Asp _) (.cells #[Aa Ab x.k,Aa Ab x.n,Aa Ac (x.u:Int),.string ⟨x.s.toArray⟩,.slice x.A x.an x.ac,.slice x.B x.bn x.bc] 26);have HB:=Hd hb;have HH:=Hd (Afk fl (h.pure hb) (fun k hk=>Asu (hp k hk) hb.size) hca hc he);clear h hp hca hc he hb;go_enter Tryz.func12,Tryz.ntmps12;go_wp2_with fail;go_at_call 42;refine HH.o.mono ?_;intro e w1 hD;obtain⟨A,m,c,rfl,hO,hb⟩:=hD;have HO:=Hd hO;have HB1:=Hd hb;clear hO hb;go_wp2_with fail;go_ret2;exact Aib HB.o ⟨A,m,c,rfl,HO.o,HB1.o⟩
theorem Ak6(fl:Int){x:Nv}{t:Tr}{p:Nat→Prop}{w:World}(h:Bm w p x t)(hp:∀k,p k→k<w.heap.size)(hN:F8 t)(hc:t.cost≤65000)(he:(Hk Ha 0 t 0).1=0):
  Calls Tryz.prog 12 #[.agg #[Aa Ab x.k,Aa Ab x.n,Aa Ac (x.u:Int),.string ⟨x.s.toArray⟩,.slice x.A x.an x.ac,.slice x.B x.bn x.bc],Aa Ab fl] w (Y8 w (L0 (bits fl) (Bf t))):=
 Ahu fl h hp (Ahv (Ap9 (Lo Qc t 0 0 he) hN)) hc he
theorem Ak5(fl:Int){x:Nv}{t:Tr}{p:Nat→Prop}{w:World}{er:Int}(h:Bm w p x t)(hp:∀k,p k→k<w.heap.size)(hc:V4 t)(he:(Hk Ha 0 t 0).1=er)(hne:er≠0):
  Calls Tryz.prog 12 #[.agg #[Aa Ab x.k,Aa Ab x.n,Aa Ac (x.u:Int),.string ⟨x.s.toArray⟩,.slice x.A x.an x.ac,.slice x.B x.bn x.bc],Aa Ab fl] w fun e w'=>e= .returned (.tuple #[.slice none 0 0,Aa Ab er])∧Below w.heap.size w w':=by
 have hb:=(Below.refl w.heap.size w).alloc (Asp _) (.cells #[Aa Ab x.k,Aa Ab x.n,Aa Ac (x.u:Int),.string ⟨x.s.toArray⟩,.slice x.A x.an x.ac,.slice x.B x.bn x.bc] 26);have HB:=Hd hb;have HH:=Hd (Ahw fl (h.pure hb) (fun k hk=>Asu (hp k hk) hb.size) hc he hne);clear h hp hc he hne hb;go_enter Tryz.func12,Tryz.ntmps12;go_wp2_with fail;go_at_call 42;refine HH.o.mono ?_;rintro e w1 ⟨rfl,hb⟩;have HB1:=Hd (Ad HB.o hb);clear hb;go_wp2_with fail;go_ret2;exact⟨rfl,HB1.o⟩
end Go.Proofs.YtgbjodnegkbfoaaGreat
