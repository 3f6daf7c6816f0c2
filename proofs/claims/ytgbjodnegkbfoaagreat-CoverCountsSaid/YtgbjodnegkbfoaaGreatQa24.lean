/- Parts of the proof. -/
import Derived.Test.YtgbjodnegkbfoaaGreatQa23
import Derived.Lib.BytesEntry
set_option maxHeartbeats 4000000
set_option maxRecDepth 100000
open Go.Value renaming int→Aa
open Go.IntKind renaming i64→Ab,u64→Ac
open List renaming getElem?_eq_getElem→Ati,length_append→Atj,length_map→Atq,take_of_length_le→Att,mem_of_getElem?→Atu,take_succ_eq_append_getElem→Atv
open Nat renaming lt_of_lt_of_le→Atr
namespace Go.Proofs.YtgbjodnegkbfoaaGreat
open Go.RowKit Go.Acc
def Y7(t:Tr):Prop:=(-9223372036854775808≤t.n∧t.n≤9223372036854775807)∧t.u<18446744073709551616
inductive Ge:Tr→Prop
 |leaf {k n:Int} {u:Nat} (s:List UInt8) (ks c) (h1:1≤k) (h2:k≤9) (hn:(-9223372036854775808≤n∧n≤9223372036854775807)∧u<18446744073709551616) (hz:k=5→Br s=false):Ge (.mk k n u s ks c)
 |flat {k:Int} {c:List Tr} (n u s ks) (h1:11≤k) (h2:k≤16) (hn:∀t∈c,Y7 t) (hz:k=13→∀t∈c,Br t.s=false) (hf:k=15∨k=16→c.length=2∨c.length=3∨c.length=4):Ge (.mk k n u s ks c)
 |vec {c:List Tr} (n u s ks) (h:∀t∈c,Ge t):Ge (.mk 10 n u s ks c)
 |map {c:List Tr} {ks:List (List UInt8)} (n u s) (hl:ks.length=c.length) (h0:∀x∈ks,Br x=false) (hu:ks.Pairwise (· < ·)) (h:∀t∈c,Ge t):Ge (.mk 17 n u s ks c)
theorem Td{α:Type}{w:World}{p:Nat→Prop}{vs:List Nv}{l:List Tr}(hl:vs.length=l.length)(hc:∀(i:Nat) v t,vs[i]?=some v→l[i]?=some t→Bk w p v t){f:Tr→α}{g:Nv→α}(hfg:∀v t,Bk w p v t→f t=g v):l.map f=vs.map g:=by
 apply List.ext_getElem (by simp [hl]);intro i h1 h2;rw [List.getElem_map,List.getElem_map];exact hfg _ _ (hc i _ _ (Ati (by simpa using h2)) (Ati (by simpa using h1)))
theorem Uj:∀(l:List Tr),Bb (l.map Tr.s)+40*l.length≤Tr.costL l
 | []=>by simp [Bb,Tr.costL]
 | .mk k n u s ks c::r=>by
  have h1:=Uj r;simp only [List.map_cons,Bb,Tr.costL,Tr.cost,List.length_cons,Tr.s];omega
theorem Ai9(M:Bp)(fl:Int)(b:Bd)(x:Nv)(k n:Int)(u:Nat)(s:List UInt8)(ks:List (List UInt8))(c:List Tr)(w:World)(o:Nat→Nat)(p:Nat→Prop)(h:BM M fl w o b)(hg:Cr b)(hR:Bk w p x (.mk k n u s ks c))(h1:11≤k)(h2:k≤16)
  (hn:∀t∈c,Y7 t) (hz:k=13→∀t∈c,Br t.s=false) (hf:k=15∨k=16→c.length=2∨c.length=3∨c.length=4) (hm:b.size+Tr.costL c≤65000):
  Calls Tryz.prog 83 #[.pointer (some ⟨M.β,0,none⟩),.agg #[Aa Ab x.k,Aa Ab x.n,Aa Ac (x.u:Int),.string ⟨x.s.toArray⟩,.slice x.A x.an x.ac,.slice x.B x.bn x.bc]] w (Cq M fl (b.flat (bits fl) k c) w o):=by
 obtain⟨hk,_,_,_,_,hbn⟩:=hR.fields;have hk:k=x.k:=hk;have hbn:c.length=x.bn:=hbn;cases hR with
 | @mk _ _ _ vs _ _ _ _ hI _ _ _ hl hc=>
  have en:=Td hl hc (f:=Tr.n) (g:=Nv.n) (fun v t r=>r.fields.2.1);have eu:=Td hl hc (f:=Tr.u) (g:=Nv.u) (fun v t r=>r.fields.2.2.1);have es:=Td hl hc (f:=Tr.s) (g:=Nv.s) (fun v t r=>r.fields.2.2.2.1);have hcl:=Ju c;have hsz:b.b.length+b.s.length+b.keys.length+b.names.length≤b.size:=by unfold Bd.size;omega
  have hbi:∀y∈vs.map Nv.n, -9223372036854775808≤y∧y≤9223372036854775807:=by
   rw [←en];intro y hy;obtain⟨t,ht,rfl⟩:=List.mem_map.1 hy;exact(hn t ht).1
  have hbu:∀y∈vs.map Nv.u,y<18446744073709551616:=by
   rw [←eu];intro y hy;obtain⟨t,ht,rfl⟩:=List.mem_map.1 hy;exact(hn t ht).2
  have hln:b.b.length+40+9*(vs.map Nv.n).length≤1048576:=by rw [Atq];omega
  have hlu:b.b.length+40+9*(vs.map Nv.u).length≤1048576:=by rw [Atq];omega
  have hbn2:x.bn≤1000000:=by omega
  have hst:b.s.length<65536:=by omega
  have m1:∀{β:Type} (g:Int→β),c.map (fun t=>g t.n)=(vs.map Nv.n).map g:=fun g=>by rw [←en,List.map_map];rfl
  have m2:∀{β:Type} (g:Nat→β),c.map (fun t=>g t.u)=(vs.map Nv.u).map g:=fun g=>by rw [←eu,List.map_map];rfl
  have hcases:x.k=11∨x.k=12∨x.k=13∨x.k=14∨x.k=15∨x.k=16:=by omega
  rcases hcases with hx|hx|hx|hx|hx|hx
  ·have e:b.flat (bits fl) x.k c=b.vec 11 true false ((vs.map Nv.n).map Cf):=by
    rw [hx,←m1];rfl
   rw [e];exact Al1 M fl b x vs w o h hI hx hbn2 hst hbi hln
  ·have e:b.flat (bits fl) x.k c=b.vec 12 true false ((vs.map Nv.u).map Ch):=by
    rw [hx,←m2];rfl
   rw [e];exact Al2 M fl b x vs w o h hI hx hbn2 hst hbu hlu
  ·have e:b.flat (bits fl) x.k c=(b.puts (bits fl) (vs.map Nv.s)).1.vec 14 true false (b.puts (bits fl) (vs.map Nv.s)).2:=by
    rw [hx,←es];rfl
   rw [e];have hck:=Uj c;rw [es] at hck;refine Al3 M fl b x vs w o h hI hx hbn2 ⟨hst,by omega,by rw [Atq];omega,by rw [Atq];omega⟩ ?_ ⟨hg,by rw [Atq];omega⟩;rw [←es];intro y hy;obtain⟨t,ht,rfl⟩:=List.mem_map.1 hy;exact hz hx t ht
  ·have e:b.flat (bits fl) x.k c=b.vec 36 true false ((vs.map (fun v:Nv=>decide (v.n=1))).map Gi):=by
    have m3:c.map (fun t=>Cz t.n)=(vs.map (fun v:Nv=>decide (v.n=1))).map Gi:=by
     rw [m1 Cz,List.map_map,List.map_map];apply List.map_congr_left;intro v _;simp [Cz,Gi]
    rw [hx,←m3];rfl
   rw [e];exact Al4 M fl b x vs w o h hI hx hbn2 hst (fun y _=>by cases y <;>simp) (by rw [Atq];omega)
  ·have e:b.flat (bits fl) x.k c=b.vec (10+3*x.bn) false false ((vs.map Nv.n).map Cf):=by
    rw [hx,←m1,←hbn];rfl
   rw [e];exact Al5 M fl b x vs w o h hI hx (by rw [←hbn];exact hf (.inl hx)) hst hbi hln
  ·have e:b.flat (bits fl) x.k c=b.vec (11+3*x.bn) false false ((vs.map Nv.u).map Ch):=by
    rw [hx,←m2,←hbn];rfl
   rw [e];exact Al6 M fl b x vs w o h hI hx (by rw [←hbn];exact hf (.inr hx)) hst hbu hlu
end Go.Proofs.YtgbjodnegkbfoaaGreat
namespace Go.Proofs.YtgbjodnegkbfoaaGreat
open Go.Acc
theorem Fb.ok{t:Tr}(h:Fb t):Y7 t:=by
 cases h with
 |mk h1 h2 _=>exact⟨h1,h2⟩
theorem Wi{s:List UInt8}(h:(0:UInt8)∉s):Br s=false:=by
 cases hz:Br s with
 |false=>rfl
 |true=>
  obtain⟨c,hc,e⟩:=List.any_eq_true.1 hz;exact absurd (by simpa using(beq_iff_eq.1 e)▸hc) h
theorem Ara{t:Tr}(h:Ff t):Fb t→Ge (Aq t):=by
 induction h with
 |mk h1 h2 h3 h4 hl ih=>
  rename_i k n u s ks l;intro hN;cases hN with
  |mk n1 n2 nl=>
   have hm:∀t∈Bz l,Ge t:=by
    intro t ht;rw [Ca] at ht;obtain⟨x,hx,rfl⟩:=List.mem_map.1 ht;exact ih x hx (nl x hx)
   have hfx:=Na (Ff.mk h1 h2 h3 h4 hl);simp only [Dv,Bool.and_eq_true,decide_eq_true_eq] at h1;obtain⟨⟨⟨⟨⟨⟨⟨⟨⟨g1,g2⟩,_⟩,_⟩,_⟩,_⟩,_⟩,glen⟩,_⟩,gp⟩:=h1;have g1:1≤k:=g1;have g2:k≤17:=g2;rw [Aq] at hfx⊢;by_cases hk:k=17
   ·rw [if_pos hk];subst hk;have hp:=D8 (ks.zip (Bz l));have glen:ks.length=l.length:=glen rfl;have hll:(Bz l).length=l.length:=by rw [Ca,Atq]
    refine .map n u s (by simp) (fun x hx=>?_) ?_ (fun t ht=>?_)
    ·obtain⟨y,hy,rfl⟩:=List.mem_map.1 hx;exact Wi (h3 _ (List.of_mem_zip (hp.mem_iff.1 hy)).1)
    ·rw [List.pairwise_map];exact Tu _ (by rw [List.map_fst_zip (by omega)];exact h4)
    ·obtain⟨y,hy,rfl⟩:=List.mem_map.1 ht;exact hm _ (List.of_mem_zip (hp.mem_iff.1 hy)).2
   ·rw [if_neg hk] at hfx⊢;by_cases h10:k=10
    ·subst h10;exact .vec n u s ks hm
    ·by_cases h9:k≤9
     ·exact .leaf s ks _ g1 h9 ⟨n1,n2⟩ (fun e=>Wi (h2 e))
     ·refine .flat n u s ks (by omega) (by omega) (fun t ht=>?_) (fun e t ht=>?_) (fun e=>hfx e)
      ·rw [Ca] at ht;obtain⟨x,hx,rfl⟩:=List.mem_map.1 ht;obtain⟨e1,e2,_⟩:=Acb x;unfold Y7;rw [e1,e2];exact(nl x hx).ok
      ·rw [Ca] at ht;obtain⟨x,hx,rfl⟩:=List.mem_map.1 ht;obtain⟨_,_,e3⟩:=Acb x;rw [e3];have hx5:x.k=5:=by
        have hg:=List.all_eq_true.1 gp x hx;have hg:=of_decide_eq_true hg;have e5:As k=5:=by subst e;rfl
        have hg:As k=0∨x.k=As k:=hg;rw [e5] at hg;omega
       cases hl x hx with
       |mk _ q2 _ _ _=>exact Wi (q2 hx5)
end Go.Proofs.YtgbjodnegkbfoaaGreat
namespace Go.Proofs.YtgbjodnegkbfoaaGreat
open Go.RowKit Go.Acc
theorem Abc(M:Bp)(fl:Int)(b:Bd)(x:Nv)(k n:Int)(u:Nat)(s:List UInt8)(ks:List (List UInt8))(c:List Tr)(w:World)(o:Nat→Nat)(p:Nat→Prop)(h:BM M fl w o b)(hR:Bk w p x (.mk k n u s ks c))(h1:1≤k)(h2:k≤9)
  (hn:(-9223372036854775808≤n∧n≤9223372036854775807)∧u<18446744073709551616) (hz:k=5→Br s=false) (hm:b.size+64+s.length≤65000):
  Calls Tryz.prog 83 #[.pointer (some ⟨M.β,0,none⟩),.agg #[Aa Ab x.k,Aa Ab x.n,Aa Ac (x.u:Int),.string ⟨x.s.toArray⟩,.slice x.A x.an x.ac,.slice x.B x.bn x.bc]] w (Cq M fl (b.leaf (bits fl) k n u s) w o):=by
 obtain⟨hk,hxn,hxu,hxs,_,_⟩:=hR.fields;have hk:k=x.k:=hk;have hxn:n=x.n:=hxn;have hxu:u=x.u:=hxu;have hxs:s=x.s:=hxs;subst hk hxn hxu hxs;have hsz:b.b.length+b.s.length+b.keys.length+b.texts.length+b.names.length≤b.size:=by unfold Bd.size;omega
 refine V0 M fl _ x.k x.n x.u x.s x.A x.an x.ac x.B x.bn x.bc w o ⟨h1,h2⟩ (fun W hB=>?_);have hcases:(x.k=1∨x.k=2∨x.k=3∨x.k=4∨x.k=8∨x.k=9)∨(x.k=5∨x.k=6∨x.k=7):=by omega
 rcases hcases with hx|hx
 ·exact Agt M fl _ b x.k x.n x.u x.s x.A x.an x.ac x.B x.bn x.bc W o (h.pure hB) (by omega) (by omega) hn.1 hn.2 hx
 ·exact Agu M fl b x.k x.n x.u x.s x.A x.an x.ac x.B x.bn x.bc W o (h.pure hB) ⟨by omega,by omega,by omega⟩ ⟨by omega,by omega,by omega,by omega⟩ hx hz
end Go.Proofs.YtgbjodnegkbfoaaGreat
namespace Go.Proofs.YtgbjodnegkbfoaaGreat
open Go.Acc
theorem Ge.ok{t:Tr}(h:Ge t):Ok t:=by
 induction h with
 |leaf s ks c h1 h2 hn hz=>exact .leaf _ _ _ _ _ h1 h2
 |flat n u s ks h1 h2 hn hz hf=>exact .flat _ _ _ _ _ h1 h2
 |vec n u s ks h ih=>exact .vec _ _ _ _ ih
 |map n u s hl h0 hu h ih=>exact .map _ _ _ hl (fun x hx=>L9 (h0 x hx)) ih
theorem Ge.fix{t:Tr}(h:Ge t):Rx t:=by
 cases h with
 |leaf s ks c h1 h2 hn hz=>
  rename_i k n u;intro hk;have hk:k=15∨k=16:=hk;omega
 |flat n u s ks h1 h2 hn hz hf=>exact fun hk=>hf hk
 |vec n u s ks h=>
  intro hk;have hk:(10:Int)=15∨(10:Int)=16:=hk;omega
 |map n u s hl h0 hu h=>
  intro hk;have hk:(17:Int)=15∨(17:Int)=16:=hk;omega
theorem Sh(f:Nat):∀(l:List Tr) (t:Tr) (b:Bd),Bd.callsL f (l++ [t]) b=Bd.calls f t (Bd.callsL f l b)
 | [],t,b=>by simp [Bd.callsL]
 |x::r,t,b=>by rw [List.cons_append,Bd.callsL,Sh f r t,Bd.callsL]
theorem Qp:∀(l m:List Tr),Tr.costL (l++m)=Tr.costL l+Tr.costL m
 | [],m=>by simp [Tr.costL]
 |x::r,m=>by rw [List.cons_append,Tr.costL,Tr.costL,Qp r m];omega
theorem Aew{l:List UInt8}{c:List Tr}{vs:List Bv}(hl:vs.length=c.length)(h:∀(i:Nat) x t,vs[i]?=some x→c[i]?=some t→Ee l x t)(hf:∀t∈c,Rx t)(hm:l.length+40+9*vs.length≤1048576):D1 vs l:=by
 have hv:∀v∈vs,∃t∈c,Ee l v t:=by
  intro v hv;obtain⟨i,hi,e⟩:=List.getElem_of_mem hv;exact⟨c[i]'(by omega),List.getElem_mem _,h i v _ (by rw [Ati hi,e]) (Ati (by omega))⟩
 refine⟨fun v hm=>?_,fun v hm=>?_,M7 hl h,hm⟩
 ·obtain⟨t,ht,r⟩:=hv v hm;exact(r.legal (hf t ht)).1
 ·obtain⟨t,ht,r⟩:=hv v hm;exact(r.legal (hf t ht)).2.1
end Go.Proofs.YtgbjodnegkbfoaaGreat
namespace Go.Proofs.YtgbjodnegkbfoaaGreat
open Go.RowKit Go.Acc
def Li(t:Tr):Prop:=∀(M:Bp) (fl:Int) (b:Bd) (x:Nv) (w:World) (o:Nat→Nat) (p:Nat→Prop),BM M fl w o b→Cr b→Hw b→Bk w p x t→(∀k,p k→k<w.heap.size∧o k=0)→b.size+t.cost≤65000→
 Calls Tryz.prog 83 #[.pointer (some ⟨M.β,0,none⟩),.agg #[Aa Ab x.k,Aa Ab x.n,Aa Ac (x.u:Int),.string ⟨x.s.toArray⟩,.slice x.A x.an x.ac,.slice x.B x.bn x.bc]] w (Cq M fl (Bd.calls (bits fl) t b) w o)
theorem Ajr(f:Nat){c:List Tr}(hO:∀t∈c,Ge t){b:Bd}(hg:Cr b)(hn:Hw b)(hm:b.size+Tr.costL c≤65000)(j:Nat):
  Cr (Bd.callsL f (c.take j) b)∧Hw (Bd.callsL f (c.take j) b)∧(∀t,c[j]?=some t→(Bd.callsL f (c.take j) b).size+t.cost≤65000):=by
 have hD:∀t∈c.take j,Nu f t:=fun t ht=>E5 f t (hO t (List.mem_of_mem_take ht)).ok
 obtain⟨vs,_,_,s1,_⟩:=Ka f (c.take j) hD b hg;refine⟨s1.2,(Mn f (c.take j) hD (fun t ht=>Nz f t (hO t (List.mem_of_mem_take ht)).ok) b hg hn).ok,fun t ht=>?_⟩;have h1:=Le f (c.take j) hD (fun t ht=>I0 f t (hO t (List.mem_of_mem_take ht)).ok) b hg;obtain⟨hj',e⟩:=List.getElem?_eq_some_iff.1 ht;have h2:Tr.costL c=Tr.costL (c.take j)+(40+t.cost+Tr.costL (c.drop (j+1))):=by
  conv=>lhs;rw [←List.take_append_drop j c,List.drop_eq_getElem_cons hj',e]
  rw [Qp,Tr.costL]
 omega
theorem Yu(n:Int)(u:Nat)(s:List UInt8)(ks:List (List UInt8))(c:List Tr)(hO:∀t∈c,Ge t)(hD:∀t∈c,Li t):Li (.mk 10 n u s ks c):=by
 intro M fl b x w o p h hg hn hR hp hm;obtain⟨f,hf⟩:∃f,bits fl=f:=⟨_,rfl⟩;rw [hf];obtain⟨hk,_,_,_,_,hbn⟩:=hR.fields;have hk:10=x.k:=hk;have hbn:c.length=x.bn:=hbn;have hmc:b.size+Tr.costL c≤65000:=by unfold Tr.cost at hm;omega
 have ecl:=Ju c;generalize ht:Tr.mk 10 n u s ks c=t0 at hR;cases hR with
 | @mk _ ks' l' vs _ _ _ _ hI hpb _ _ hl hc=>
  injection ht with e1 e2 e3 e4 e5 e6
  subst e6;obtain⟨k,xn,xu,xs,XA,xan,xac,XB,xbn,xbc⟩:=x;obtain rfl:10=k:=hk;clear e1 e2 e3 e4 e5;have hbn:c.length=xbn:=hbn;have hI:Fh w XB xbn vs:=hI;have hpb:∀ad,XB=some ad→p ad.block:=hpb;have HI:=Hd hI;have HKR:=Hd (show ∀(i:Nat) v t,vs[i]?=some v→c[i]?=some t→Bk w p v t from hc);have HD:=Hd hD;have HP:=Hd hp;have HPB:=Hd hpb;have HF:=Hd hf;have HBN:=Hd hbn;have HVL:=Hd hl;have HST:=Hd (fun j=>Ajr f hO hg hn hmc j);have HBL:=Hd (show b.s.length≤65000 by unfold Bd.size at hmc;omega);have hB:=Ba w (.cells #[.pointer (some ⟨M.β,0,none⟩)] 120) (.cells #[Aa Ab (⟨10,xn,xu,xs,XA,xan,xac,XB,xbn,xbc⟩:Nv).k,Aa Ab (⟨10,xn,xu,xs,XA,xan,xac,XB,xbn,xbc⟩:Nv).n,Aa Ac ((⟨10,xn,xu,xs,XA,xan,xac,XB,xbn,xbc⟩:Nv).u:Int),.string ⟨(⟨10,xn,xu,xs,XA,xan,xac,XB,xbn,xbc⟩:Nv).s.toArray⟩,.slice (⟨10,xn,xu,xs,XA,xan,xac,XB,xbn,xbc⟩:Nv).A (⟨10,xn,xu,xs,XA,xan,xac,XB,xbn,xbc⟩:Nv).an (⟨10,xn,xu,xs,XA,xan,xac,XB,xbn,xbc⟩:Nv).ac,.slice (⟨10,xn,xu,xs,XA,xan,xac,XB,xbn,xbc⟩:Nv).B (⟨10,xn,xu,xs,XA,xan,xac,XB,xbn,xbc⟩:Nv).bn (⟨10,xn,xu,xs,XA,xan,xac,XB,xbn,xbc⟩:Nv).bc] 26);have HT0:=Hd (To.fresh B7 hB o 0);have HM0:=Hd (h.fresh hB 0);have HC0:=Hd (Jt M ⟨10,xn,xu,xs,XA,xan,xac,XB,xbn,xbc⟩ w o);obtain⟨m,hmm⟩:∃m,b.s.length=m:=⟨_,rfl⟩;have HMM:=Hd hmm;have hxl:xbn≤65000:=by omega
  obtain⟨vs',es,ls,ss,rs⟩:=Ka f c (fun t ht=>E5 f t (hO t ht).ok) b hg;have hsz:=Le f c (fun t ht=>E5 f t (hO t ht).ok) (fun t ht=>I0 f t (hO t ht).ok) b hg;have HEV:=Hd (show m≤(Bd.callsL f c b).s.length∧(Bd.callsL f c b).s.length≤65536∧m<65536∧D1 ((Bd.callsL f c b).s.drop m) (Bd.callsL f c b).b by
   have e1:(Bd.callsL f c b).s.drop m=vs':=by rw [es,←hmm];simp
   have e2:(Bd.callsL f c b).s.length=m+vs'.length:=by rw [es,Atj,hmm]
   have e3:(Bd.callsL f c b).b.length≤(Bd.callsL f c b).size:=by unfold Bd.size;omega
   have e4:m≤b.size:=by unfold Bd.size;omega
   rw [e1];exact⟨by omega,by omega,by omega,Aew ls rs (fun t ht=>(hO t ht).fix) (by omega)⟩)
  have HEQ:=Hd (show Bd.calls f (.mk 10 xn xu xs ks' c) b=(Bd.callsL f c b).endVec m by rw [Bd.calls,if_pos rfl,hmm]);clear h hg hn hp hm hI hpb hl hc hD hO hf hB hmm es ls ss rs hsz hmc ecl;go_enter Tryz.func83,Tryz.ntmps83;go_upto_region 1 with fail
  generalize (w.alloc (.cells #[.pointer (some ⟨M.β,0,none⟩)] 120)).alloc (.cells #[Aa Ab (⟨10,xn,xu,xs,XA,xan,xac,XB,xbn,xbc⟩:Nv).k,Aa Ab (⟨10,xn,xu,xs,XA,xan,xac,XB,xbn,xbc⟩:Nv).n,Aa Ac ((⟨10,xn,xu,xs,XA,xan,xac,XB,xbn,xbc⟩:Nv).u:Int),.string ⟨(⟨10,xn,xu,xs,XA,xan,xac,XB,xbn,xbc⟩:Nv).s.toArray⟩,.slice (⟨10,xn,xu,xs,XA,xan,xac,XB,xbn,xbc⟩:Nv).A (⟨10,xn,xu,xs,XA,xan,xac,XB,xbn,xbc⟩:Nv).an (⟨10,xn,xu,xs,XA,xan,xac,XB,xbn,xbc⟩:Nv).ac,.slice (⟨10,xn,xu,xs,XA,xan,xac,XB,xbn,xbc⟩:Nv).B (⟨10,xn,xu,xs,XA,xan,xac,XB,xbn,xbc⟩:Nv).bn (⟨10,xn,xu,xs,XA,xan,xac,XB,xbn,xbc⟩:Nv).bc] 26)=w1 at HT0 HM0 HC0⊢;generalize Ak o w.heap.size 0=o1 at HT0 HM0 HC0;generalize w.heap.size+1=bn at HC0⊢;generalize w.heap.size=bx at HC0⊢;obtain⟨x0,x1,x2,x3,x4,x5,x6⟩:=HC0.o.cells;go_wp2_with fail;go_at_call 148;refine(Aiv M fl b m _ o1 HM0.o HMM.o).mono ?_;rintro e w' ⟨rfl,rfl⟩;go_wp2_with fail;go_loopw [58] (fun uu wr=>∃j:Nat,j≤xbn∧uu= Aa Ab (j:Int)∧∃o',BM M fl wr o' (Bd.callsL f (c.take j) b)∧To B7 w o wr o'∧T1 M ⟨10,xn,xu,xs,XA,xan,xac,XB,xbn,xbc⟩ bx bn wr o') (fun uu _=>xbn-(intOf uu).toNat)
  case atStart=>exact⟨0,Nat.zero_le _,rfl,o1,by rw [List.take_zero];exact HM0.o,HT0.o,HC0.o⟩
  case round=>
   obtain⟨j,hj,rfl,o',hMr,hTr,hCr⟩:=hrel;have HMR:=Hd hMr;have HTR:=Hd hTr;have HCR:=Hd hCr;clear hMr hTr hCr x0 x1 x2 x3 x4 x5 x6;obtain⟨x0,x1,x2,x3,x4,x5,x6⟩:=HCR.o.cells;by_cases hlt:j<xbn
   ·obtain⟨v,hv⟩:∃v,vs[j]?=some v:=⟨_,Ati (by have h1:=HVL.o;have h2:=HBN.o;omega)⟩;obtain⟨t,ht⟩:∃t,c[j]?=some t:=⟨_,Ati (by have h2:=HBN.o;omega)⟩;have hp':∀q,p q→q<w.heap.size∧o q=0:=HP.o;have hIr:Fh wr XB xbn vs:=HI.o.fr HTR.o.fr (fun ad e=>by rw [(hp' _ (HPB.o ad e)).2];exact Bi);obtain⟨g,off,e,v0,v1,v2,v3,v4,v5⟩:=Gc hIr hv;have hal:=(Below.refl wr.heap.size wr).alloc (Nat.le_refl _) (.cells #[Aa Ab v.k,Aa Ab v.n,Aa Ac (v.u:Int),.string ⟨v.s.toArray⟩,.slice v.A v.an v.ac,.slice v.B v.bn v.bc] 26);have HMA:=Hd (HMR.o.fresh hal 0);have HTA:=Hd (HTR.o.trans (To.fresh B7 hal o' 0));have HCA:=Hd (HCR.o.to_ (To.fresh B7 hal o' 0) Bi);have hNR:Bk (wr.alloc (.cells #[Aa Ab v.k,Aa Ab v.n,Aa Ac (v.u:Int),.string ⟨v.s.toArray⟩,.slice v.A v.an v.ac,.slice v.B v.bn v.bc] 26)) p v t:=(HKR.o j v t hv ht).to_ HTA.o (fun q hq=>by rw [(hp' q hq).2];exact Bi);have hcd:=HD.o t (Atu ht) M fl _ v _ _ p HMA.o (HST.o j).1 (HST.o j).2.1 hNR (fun q hq=>⟨Atr (hp' q hq).1 HTA.o.size,(HTA.o.ow _ (hp' q hq).1).trans (hp' q hq).2⟩) ((HST.o j).2.2 t ht);rw [HF.o] at hcd;have HCD:=Hd hcd;have HSN:=Hd (show Bd.callsL f (c.take (j+1)) b=Bd.calls f t (Bd.callsL f (c.take j) b) by
     obtain⟨q1,q2⟩:=List.getElem?_eq_some_iff.1 ht;rw [Atv q1,q2,Sh])
    have hj0:(0:Int)≤(j:Int):=by omega
    have hjn:(j:Int)<(xbn:Int):=by omega
    rw [e] at x6⊢;have HEE:=Hd e;have a0:(wr.alloc (.cells #[Aa Ab v.k,Aa Ab v.n,Aa Ac (v.u:Int),.string ⟨v.s.toArray⟩,.slice v.A v.an v.ac,.slice v.B v.bn v.bc] 26)).cell? ⟨bx,0,none⟩=some (.pointer (some ⟨M.β,0,none⟩)):=HCA.o.cells.1;clear hv ht hp' hIr hal hNR hcd e;go_wp2_with fail;go_at_call 83;refine HCD.o.mono ?_;rintro e w2 ⟨rfl,o2,hM2,hT2⟩;have HM2:=Hd hM2;have HT2:=Hd (HTA.o.trans hT2);have HC2:=Hd (HCA.o.to_ hT2 Bi);clear hM2 hT2 x0 x1 x2 x3 x4 x5 x6;go_wp2_with fail;go_roundw
    case rel=>exact⟨j+1,by omega,by go_num,o2,by rw [HSN.o];exact HM2.o,HT2.o,by rw [←HEE.o];exact HC2.o⟩
    case measure=>simp [intOf];omega
   ·obtain rfl:j=xbn:=by omega
    have hct:c.take j=c:=Att (by have h2:=HBN.o;omega);rw [hct] at HMR;clear hct;go_wp2_with fail;go_at_call 149;refine(Adi M fl (Bd.callsL f c b) m _ o' HMR.o HEV.o.1 HEV.o.2.1 HEV.o.2.2.1 HEV.o.2.2.2).mono ?_;rintro e w2 ⟨rfl,o2,hM2,hT2⟩;have HM2:=Hd hM2;have HT2:=Hd (HTR.o.trans hT2);clear hM2 hT2;go_wp2_with fail;go_end0;exact⟨rfl,o2,by rw [HEQ.o];exact HM2.o,HT2.o⟩
theorem Agi(M:Bp)(fl:Int)(b:Bd)(x v:Nv)(t:Tr)(s:List UInt8)(j g1 o1 g2 o2 bx bn:Nat)(w:World)(o:Nat→Nat)(p:Nat→Prop)(h:BM M fl w o b)(hg:Cr b)(hn:Hw b)(hC:T1 M x bx bn w o)(hp:∀k,p k→k<w.heap.size∧o k=0)
  (eA:x.A=some ⟨g1,o1,none⟩) (eB:x.B=some ⟨g2,o2,none⟩) (pA:p g1) (pB:p g2) (hja:j<x.an) (hjb:j<x.bn) (hs:w.cell? ⟨g1,o1+j,none⟩=some (.string ⟨s.toArray⟩))
  (hv:∀i u,#[Aa Ab v.k,Aa Ab v.n,Aa Ac (v.u:Int),.string ⟨v.s.toArray⟩,.slice v.A v.an v.ac,.slice v.B v.bn v.bc][i]?=some u→w.cell? ⟨g2,o2+j*6+i,none⟩=some u) (hR:Bk w p v t) (hD:Li t) (hz:Br s=false) (hk:Ow b s) (hm:(b.key (bits fl) s).size+t.cost≤65000):
  Calls Tryz.prog 151 #[Aa Ab (j:Int),.pointer (some ⟨bx,0,none⟩),.pointer (some ⟨bn,0,none⟩)] w (Cq M fl (Bd.calls (bits fl) t (b.key (bits fl) s)) w o):=by
 obtain⟨f,hf⟩:∃f,bits fl=f:=⟨_,rfl⟩;have hck:=Xg M fl b s w.drew o h.drew hk hz;rw [hf] at hck hm⊢;have gk:Cr (b.key f s):=(Od f s b hg).elim fun _ h=>h.2.1.2
 have nk:Hw (b.key f s):=⟨(J2 f s b hn).1.ok.1,(J2 f s b hn).1.ok.2⟩;have HCK:=Hd hck;have HG:=Hd gk;have HN:=Hd nk;have HM:=Hd hm;have HD:=Hd hD;have HR:=Hd hR;have HP:=Hd hp;have HPP:=Hd (And.intro pA pB);have HC:=Hd hC;have HF:=Hd hf;have HV:=Hd hv;obtain⟨x0,_,_,_,_,x5,_⟩:=hC.cells;rw [eA] at x5;have hj0:(0:Int)≤(j:Int):=by omega
 have hja':(j:Int)<(x.an:Int):=by omega
 have hjb':(j:Int)<(x.bn:Int):=by omega
 have HEB:=Hd eB;clear h hg hn hC hp pA pB hv hR hD hz hk hm hck gk nk hf eA eB;go_enter Tryz.func151,Tryz.ntmps151;go_wp2_with fail;go_region_held3 (fun w'=>w'.cell? ⟨bx,0,none⟩=some (.pointer (some ⟨M.β,0,none⟩))∧w'.cell? ⟨bn,4,none⟩=some (.slice (some ⟨g1,o1,none⟩) x.an x.ac)∧w'.cell? ⟨g1,o1+j,none⟩=some (.string ⟨s.toArray⟩)) (first|with_reducible exact⟨x0,x5,hs⟩|with_reducible exact⟨Ae x0,Ae x5,Ae hs⟩|with_reducible exact⟨y0,y5,ys⟩) (first
  |(go_at_call 152;(with_reducible refine HCK.o.mono ?_);rintro e w2 ⟨rfl,oo,hM2,hT2⟩;have hT2':=hT2.from_drew;have hC2:=HC.o.to_ hT2' Bi;have y0:=hC2.cells.1;have y5:w2.cell? ⟨bn,4,none⟩=some (.slice (some ⟨g1,o1,none⟩) x.an x.ac):=Cx hT2' x5 (by rw [HC.o.on];exact Bi);have ys:w2.cell? ⟨g1,o1+j,none⟩=some (.string ⟨s.toArray⟩):=Cx hT2' hs (by rw [(HP.o _ HPP.o.1).2];exact Bi);have HC2:=Hd hC2;have HM2:=Hd hM2;have HT2:=Hd hT2';clear hM2 hT2 hT2' hC2))
 clear x0 x5 y0 y5 ys;obtain⟨x0,_,_,_,_,_,x6⟩:=HC2.o.cells;rw [HEB.o] at x6;have hc:∀i u,#[Aa Ab v.k,Aa Ab v.n,Aa Ac (v.u:Int),.string ⟨v.s.toArray⟩,.slice v.A v.an v.ac,.slice v.B v.bn v.bc][i]?=some u→w2.cell? ⟨g2,o2+j*6+i,none⟩=some u:=fun i u e=>Cx HT2.o (HV.o i u e) (by rw [(HP.o _ HPP.o.2).2];exact Bi)
 have c0:w2.cell? ⟨g2,o2+j*6,none⟩=some (Aa Ab v.k):=hc 0 _ rfl;have c1:w2.cell? ⟨g2,o2+j*6+1,none⟩=some (Aa Ab v.n):=hc 1 _ rfl;have c2:w2.cell? ⟨g2,o2+j*6+2,none⟩=some (Aa Ac (v.u:Int)):=hc 2 _ rfl;have c3:w2.cell? ⟨g2,o2+j*6+3,none⟩=some (.string ⟨v.s.toArray⟩):=hc 3 _ rfl;have c4:w2.cell? ⟨g2,o2+j*6+4,none⟩=some (.slice v.A v.an v.ac):=hc 4 _ rfl;have c5:w2.cell? ⟨g2,o2+j*6+5,none⟩=some (.slice v.B v.bn v.bc):=hc 5 _ rfl;have hcd:=HD.o M fl (b.key f s) v w2.drew oo p HM2.o.drew HG.o HN.o ((HR.o.to_ HT2.o (fun q hq=>by rw [(HP.o q hq).2];exact Bi)).pure (Below.refl _ _).drew) (fun q hq=>⟨Atr (HP.o q hq).1 HT2.o.size,(HT2.o.ow _ (HP.o q hq).1).trans (HP.o q hq).2⟩) HM.o;rw [HF.o] at hcd;have HCD:=Hd hcd;clear hc hcd;go_wp2_with fail;go_region_held3 (fun w'=>w'.cell? ⟨bx,0,none⟩=some (.pointer (some ⟨M.β,0,none⟩))∧w'.cell? ⟨bn,5,none⟩=some (.slice (some ⟨g2,o2,none⟩) x.bn x.bc)∧w'.cell? ⟨g2,o2+j*6,none⟩=some (Aa Ab v.k)∧w'.cell? ⟨g2,o2+j*6+1,none⟩=some (Aa Ab v.n)∧w'.cell? ⟨g2,o2+j*6+2,none⟩=some (Aa Ac (v.u:Int))∧w'.cell? ⟨g2,o2+j*6+3,none⟩=some (.string ⟨v.s.toArray⟩)∧w'.cell? ⟨g2,o2+j*6+4,none⟩=some (.slice v.A v.an v.ac)∧w'.cell? ⟨g2,o2+j*6+5,none⟩=some (.slice v.B v.bn v.bc)) (first|with_reducible exact⟨x0,x6,c0,c1,c2,c3,c4,c5⟩|with_reducible exact⟨Ae x0,Ae x6,Ae c0,Ae c1,Ae c2,Ae c3,Ae c4,Ae c5⟩|with_reducible exact⟨z0,z6,d0,d1,d2,d3,d4,d5⟩) (first
  |(go_at_call 83;(with_reducible refine HCD.o.mono ?_);rintro e w3 ⟨rfl,o3,hM3,hT3⟩;have hT3':=hT3.from_drew;have hog:¬B7 (oo g2):=by { rw [(HT2.o.ow _ (HP.o _ HPP.o.2).1),(HP.o _ HPP.o.2).2];exact Bi};have z0:=(HC2.o.to_ hT3' Bi).cells.1;have z6:=Cx hT3' x6 (by rw [HC2.o.on];exact Bi);have d0:=Cx hT3' c0 hog;have d1:=Cx hT3' c1 hog;have d2:=Cx hT3' c2 hog;have d3:=Cx hT3' c3 hog;have d4:=Cx hT3' c4 hog;have d5:=Cx hT3' c5 hog;have HM3:=Hd hM3;have HT3:=Hd (HT2.o.trans hT3');clear hM3 hT3 hT3'))
 go_wp2_with fail;go_end0;exact⟨rfl,o3,HM3.o,HT3.o⟩
end Go.Proofs.YtgbjodnegkbfoaaGreat
namespace Go.Proofs.YtgbjodnegkbfoaaGreat
open Go.Acc
theorem Si(f:Nat):∀(l:List Tr) (ks:List (List UInt8)) (t:Tr) (s:List UInt8) (b:Bd),ks.length=l.length→Bd.callsM f (ks++ [s]) (l++ [t]) b=Bd.calls f t ((Bd.callsM f ks l b).key f s)
 | [],ks,t,s,b,h=>by
  obtain rfl:ks=[]:=List.eq_nil_of_length_eq_zero h;simp [Bd.callsM]
 |x::r,[],t,s,b,h=>by simp at h
 |x::r,k::ks,t,s,b,h=>by
  rw [List.cons_append,List.cons_append,Bd.callsM,Bd.callsM];exact Si f r ks t s _ (by simpa using h)
theorem Ar5{ks:List (List UInt8)}{kvs vs st:List Bv}{b:Bd}(hg:Cr b)(hk:De b.b ks kvs)(h0:∀x∈ks,Br x=false)(hv:D1 vs b.b)(hl:vs.length=kvs.length)(hm:b.size+100+18*kvs.length≤1000000)(hs:st.length<65536):Afo (Cl ks) kvs vs { b with s:=st}:=by
 have hsz:b.b.length+b.lists.length+b.vals.length≤b.size:=by unfold Bd.size;omega
 have hkl:kvs.length=ks.length:=hk.1;obtain⟨hok,hel⟩:=Xy hk (by omega);have hlen:=Oy 14 true false kvs b.b;obtain⟨m,hmm⟩:=Lb 14 true false kvs b.b;have hge:b.b.length≤(Bc 14 true false kvs b.b).1.length:=by rw [hmm,Atj];omega
 refine⟨hok,hel,hv,⟨hv.legal,hv.own,fun v h=>(hv.fit v h).mono hge,?_⟩,Jv (fun x e=>by cases e) hok.fit,?_,fun i e=>?_,?_,?_,hs⟩
 ·show(Bc 14 true false kvs b.b).1.length+40+9*vs.length≤1048576;omega
 ·have h:=P2 14 true false kvs b.b [];rw [List.append_nil] at h;exact h
 ·obtain⟨kv,kvs',h1,_,h3⟩:=hg.lists ks (fun s hs=>L9 (h0 s hs)) i e;have hf:=h3.fit;obtain⟨b0,m0,_,e2,h4⟩:=h3;exact⟨kv,h1,by rw [e2];rfl,by rw [e2];exact Jv (fun x e=>by cases e) h4,hf⟩
 ·show b.lists.length≤1048575;omega
 ·show b.vals.length≤1048576;omega
theorem Adm{ks:List (List UInt8)}{j:Nat}{s:List UInt8}(hs:ks[j]?=some s):Bb (ks.take j)+(s.length+20)≤Bb ks:=by
 obtain⟨hj,e⟩:=List.getElem?_eq_some_iff.1 hs;have h:Bb ks=Bb (ks.take j)+(s.length+20+Bb (ks.drop (j+1))):=by
  conv=>lhs;rw [←List.take_append_drop j ks,List.drop_eq_getElem_cons hj,e]
  rw [Q8];rfl
 omega
theorem Ama{c:List Tr}{j:Nat}{t:Tr}(ht:c[j]?=some t):Tr.costL (c.take j)+(40+t.cost)≤Tr.costL c:=by
 obtain⟨hj,e⟩:=List.getElem?_eq_some_iff.1 ht;have h:Tr.costL c=Tr.costL (c.take j)+(40+t.cost+Tr.costL (c.drop (j+1))):=by
  conv=>lhs;rw [←List.take_append_drop j c,List.drop_eq_getElem_cons hj,e]
  rw [Qp,Tr.costL]
 omega
theorem Aan(f:Nat){ks:List (List UInt8)}{c:List Tr}(hl:ks.length=c.length)(hO:∀t∈c,Ge t){b:Bd}(hg:Cr b)(hn:Hw b)(hm:b.size+Bb ks+Tr.costL c≤65000)(j:Nat):
  Cr (Bd.callsM f (ks.take j) (c.take j) b)∧Hw (Bd.callsM f (ks.take j) (c.take j) b)∧(∀t s,c[j]?=some t→ks[j]?=some s→Ow (Bd.callsM f (ks.take j) (c.take j) b) s∧((Bd.callsM f (ks.take j) (c.take j) b).key f s).size+t.cost≤65000):=by
 have hD:∀t∈c.take j,Nu f t:=fun t ht=>E5 f t (hO t (List.mem_of_mem_take ht)).ok
 have hl':(ks.take j).length=(c.take j).length:=by rw [List.length_take,List.length_take,hl]
 obtain⟨kvs,vs,_,_,s1,_,_⟩:=Iz f (c.take j) (ks.take j) hl' hD b hg;refine⟨s1.2,(Kb f (c.take j) (ks.take j) hl' hD (fun t ht=>Nz f t (hO t (List.mem_of_mem_take ht)).ok) b hg hn).1.ok,fun t s ht hs=>?_⟩;have h1:=Lf f (c.take j) (ks.take j) hl' hD (fun t ht=>I0 f t (hO t (List.mem_of_mem_take ht)).ok) b hg;have h2:=Adm hs;have h3:=Ama ht;have h4:=Tc f s (Bd.callsM f (ks.take j) (c.take j) b);have h5:(Bd.callsM f (ks.take j) (c.take j) b).b.length+(Bd.callsM f (ks.take j) (c.take j) b).s.length+(Bd.callsM f (ks.take j) (c.take j) b).keys.length+(Bd.callsM f (ks.take j) (c.take j) b).names.length≤(Bd.callsM f (ks.take j) (c.take j) b).size:=by unfold Bd.size;omega
 exact⟨⟨by omega,by omega,by omega,by omega⟩,by omega⟩
theorem Asj(f:Nat){ks:List (List UInt8)}{c:List Tr}(hl:ks.length=c.length)(h0:∀x∈ks,Br x=false)(hu:ks.Pairwise (· < ·))(hO:∀t∈c,Ge t){b:Bd}(hg:Cr b)(hn:Hw b)(hm:b.size+Bb ks+Tr.costL c≤65000):
  ∃kvs vs,Zi ks kvs vs b.s.length (Bd.callsM f ks c b):=by
 have hD:∀t∈c,Nu f t:=fun t ht=>E5 f t (hO t ht).ok
 obtain⟨kvs,vs,e1,l1,s1,k1,r1⟩:=Iz f c ks hl hD b hg;obtain⟨n1,kvs',vs',e2,l2,l3,nm⟩:=Kb f c ks hl hD (fun t ht=>Nz f t (hO t ht).ok) b hg hn;have hsz:=Lf f c ks hl hD (fun t ht=>I0 f t (hO t ht).ok) b hg;have hkl:kvs.length=ks.length:=k1.1;have hvl:vs.length=kvs.length:=by omega
 have e3:D2 kvs vs=D2 kvs' vs':=List.append_cancel_left (e1.symm.trans e2);obtain⟨a1,a2⟩:=Hq kvs vs hvl.symm;obtain⟨a3,a4⟩:=Hq kvs' vs' (by omega);obtain rfl:kvs=kvs':=by rw [←a1,e3,a3]
 have hd:(Bd.callsM f ks c b).s.drop b.s.length=D2 kvs vs:=by rw [e1];simp
 have hb:=O2 kvs vs hvl.symm;have hs:(Bd.callsM f ks c b).s.length=b.s.length+2*kvs.length:=by rw [e1,Atj,hb]
 have hbs:b.s.length≤b.size:=by unfold Bd.size;omega
 have hss:(Bd.callsM f ks c b).s.length+(Bd.callsM f ks c b).b.length≤(Bd.callsM f ks c b).size:=by unfold Bd.size;omega
 have hcl:=Ju c;have hll:=U4 ks;have hok:D1 vs (Bd.callsM f ks c b).b:=Aew l1 r1 (fun t ht=>(hO t ht).fix) (by omega);refine⟨kvs,vs,hd,hkl,by omega,nm,fun x hx=>?_,hu,by omega,by omega,by omega,by omega,?_⟩
 ·have:=n1.ok.lt x hx;omega
 ·exact Ar5 s1.2 k1 h0 hok hvl (by omega) (by rw [List.length_take];omega)
end Go.Proofs.YtgbjodnegkbfoaaGreat
namespace Go.Proofs.YtgbjodnegkbfoaaGreat
open Go.RowKit Go.Acc
theorem Yt(n:Int)(u:Nat)(s:List UInt8)(ks:List (List UInt8))(c:List Tr)(hkc:ks.length=c.length)(h0:∀x∈ks,Br x=false)(hu:ks.Pairwise (· < ·))(hO:∀t∈c,Ge t)(hD:∀t∈c,Li t):Li (.mk 17 n u s ks c):=by
 intro M fl b x w o p h hg hn hR hp hm;obtain⟨f,hf⟩:∃f,bits fl=f:=⟨_,rfl⟩;rw [hf];obtain⟨hk,_,_,_,_,hbn⟩:=hR.fields;have hk:17=x.k:=hk;have hbn:c.length=x.bn:=hbn;have hmc:b.size+Bb ks+Tr.costL c≤65000:=by unfold Tr.cost at hm;omega
 have ecl:=Ju c;generalize ht:Tr.mk 17 n u s ks c=t0 at hR;cases hR with
 | @mk _ ks' l' vs hKs hka _ _ hI hpb _ _ hl hc=>
  injection ht with e1 e2 e3 e4 e5 e6
  subst e5 e6;obtain⟨k,xn,xu,xs,XA,xan,xac,XB,xbn,xbc⟩:=x;obtain rfl:17=k:=hk;clear e1 e2 e3 e4;have hbn:c.length=xbn:=hbn;have hI:Fh w XB xbn vs:=hI;have hpb:∀ad,XB=some ad→p ad.block:=hpb;have HI:=Hd hI;have hKs:Ey w XA xan ks:=hKs;have hka:∀ad,XA=some ad→p ad.block:=hka;have HKS:=Hd hKs;have HKA:=Hd hka;have HKC:=Hd (show ks.length=c.length from hkc);have HXA:=Hd (show ks.length=xan by have:=hKs.1;simpa using this);have HZ:=Hd h0;have HKR:=Hd (show ∀(i:Nat) v t,vs[i]?=some v→c[i]?=some t→Bk w p v t from hc);have HD:=Hd hD;have HP:=Hd hp;have HPB:=Hd hpb;have HF:=Hd hf;have HBN:=Hd hbn;have HVL:=Hd hl;have HST:=Hd (fun j=>Aan f hkc hO hg hn hmc j);have HBL:=Hd (show b.s.length≤65000 by unfold Bd.size at hmc;omega);have hB:=Ba w (.cells #[.pointer (some ⟨M.β,0,none⟩)] 120) (.cells #[Aa Ab (⟨17,xn,xu,xs,XA,xan,xac,XB,xbn,xbc⟩:Nv).k,Aa Ab (⟨17,xn,xu,xs,XA,xan,xac,XB,xbn,xbc⟩:Nv).n,Aa Ac ((⟨17,xn,xu,xs,XA,xan,xac,XB,xbn,xbc⟩:Nv).u:Int),.string ⟨(⟨17,xn,xu,xs,XA,xan,xac,XB,xbn,xbc⟩:Nv).s.toArray⟩,.slice (⟨17,xn,xu,xs,XA,xan,xac,XB,xbn,xbc⟩:Nv).A (⟨17,xn,xu,xs,XA,xan,xac,XB,xbn,xbc⟩:Nv).an (⟨17,xn,xu,xs,XA,xan,xac,XB,xbn,xbc⟩:Nv).ac,.slice (⟨17,xn,xu,xs,XA,xan,xac,XB,xbn,xbc⟩:Nv).B (⟨17,xn,xu,xs,XA,xan,xac,XB,xbn,xbc⟩:Nv).bn (⟨17,xn,xu,xs,XA,xan,xac,XB,xbn,xbc⟩:Nv).bc] 26);have HT0:=Hd (To.fresh B7 hB o 0);have HM0:=Hd (h.fresh hB 0);have HC0:=Hd (Jt M ⟨17,xn,xu,xs,XA,xan,xac,XB,xbn,xbc⟩ w o);obtain⟨m,hmm⟩:∃m,b.s.length=m:=⟨_,rfl⟩;have HMM:=Hd hmm;have hxl:xbn≤65000:=by omega
  obtain⟨kvs,vs',hem⟩:=Asj f hkc h0 hu hO hg hn hmc;rw [hmm] at hem;have HEM:=Hd hem;have HEQ:=Hd (show Bd.calls f (.mk 17 xn xu xs ks c) b=(Bd.callsM f ks c b).endMap f ks m by rw [Bd.calls,if_neg (by omega),if_pos rfl,hmm]);clear h hg hn hp hm hI hpb hl hc hD hO hf hB hmm hem hmc ecl hKs hka h0 hu hkc;go_enter Tryz.func83,Tryz.ntmps83;go_upto_region 1 with fail
  generalize (w.alloc (.cells #[.pointer (some ⟨M.β,0,none⟩)] 120)).alloc (.cells #[Aa Ab (⟨17,xn,xu,xs,XA,xan,xac,XB,xbn,xbc⟩:Nv).k,Aa Ab (⟨17,xn,xu,xs,XA,xan,xac,XB,xbn,xbc⟩:Nv).n,Aa Ac ((⟨17,xn,xu,xs,XA,xan,xac,XB,xbn,xbc⟩:Nv).u:Int),.string ⟨(⟨17,xn,xu,xs,XA,xan,xac,XB,xbn,xbc⟩:Nv).s.toArray⟩,.slice (⟨17,xn,xu,xs,XA,xan,xac,XB,xbn,xbc⟩:Nv).A (⟨17,xn,xu,xs,XA,xan,xac,XB,xbn,xbc⟩:Nv).an (⟨17,xn,xu,xs,XA,xan,xac,XB,xbn,xbc⟩:Nv).ac,.slice (⟨17,xn,xu,xs,XA,xan,xac,XB,xbn,xbc⟩:Nv).B (⟨17,xn,xu,xs,XA,xan,xac,XB,xbn,xbc⟩:Nv).bn (⟨17,xn,xu,xs,XA,xan,xac,XB,xbn,xbc⟩:Nv).bc] 26)=w1 at HT0 HM0 HC0⊢;generalize Ak o w.heap.size 0=o1 at HT0 HM0 HC0;generalize w.heap.size+1=bn at HC0⊢;generalize w.heap.size=bx at HC0⊢;obtain⟨x0,x1,x2,x3,x4,x5,x6⟩:=HC0.o.cells;go_wp2_with fail;go_at_call 150;refine(Ail M fl b m _ o1 HM0.o HMM.o).mono ?_;rintro e w' ⟨rfl,rfl⟩;go_wp2_with fail;go_loopw [77] (fun uu wr=>∃j:Nat,j≤xbn∧uu= Aa Ab (j:Int)∧∃o',BM M fl wr o' (Bd.callsM f (ks.take j) (c.take j) b)∧To B7 w o wr o'∧T1 M ⟨17,xn,xu,xs,XA,xan,xac,XB,xbn,xbc⟩ bx bn wr o') (fun uu _=>xbn-(intOf uu).toNat)
  case atStart=>exact⟨0,Nat.zero_le _,rfl,o1,by rw [List.take_zero,List.take_zero];exact HM0.o,HT0.o,HC0.o⟩
  case round=>
   obtain⟨j,hj,rfl,o',hMr,hTr,hCr⟩:=hrel;have HMR:=Hd hMr;have HTR:=Hd hTr;have HCR:=Hd hCr;clear hMr hTr hCr x0 x1 x2 x3 x4 x5 x6;obtain⟨x0,x1,x2,x3,x4,x5,x6⟩:=HCR.o.cells;by_cases hlt:j<xbn
   ·obtain⟨v,hv⟩:∃v,vs[j]?=some v:=⟨_,Ati (by have h1:=HVL.o;have h2:=HBN.o;omega)⟩;obtain⟨t,ht⟩:∃t,c[j]?=some t:=⟨_,Ati (by have h2:=HBN.o;omega)⟩;have hp':∀q,p q→q<w.heap.size∧o q=0:=HP.o;have hIr:Fh wr XB xbn vs:=HI.o.fr HTR.o.fr (fun ad e=>by rw [(hp' _ (HPB.o ad e)).2];exact Bi);have hKr:Ey wr XA xan ks:=HKS.o.fr HTR.o.fr (fun ad e=>by rw [(hp' _ (HKA.o ad e)).2];exact Bi);have hja:j<xan:=by have h1:=HXA.o;have h2:=HKC.o;have h3:=HBN.o;omega
    obtain⟨g2,o2,e,v0,v1,v2,v3,v4,v5⟩:=Gc hIr hv;obtain⟨g1,o1',eA,hk',hs⟩:=Gd hKr hja;have hks:ks[j]?=some ks[j]:=Ati hk';have hes:=HST.o j;have hE:=Agi M fl (Bd.callsM f (ks.take j) (c.take j) b) ⟨17,xn,xu,xs,XA,xan,xac,XB,xbn,xbc⟩ v t ks[j] j g1 o1' g2 o2 bx bn wr o' p HMR.o hes.1 hes.2.1 HCR.o (fun q hq=>⟨Atr (hp' q hq).1 HTR.o.size,(HTR.o.ow _ (hp' q hq).1).trans (hp' q hq).2⟩) eA e (HKA.o _ eA) (HPB.o _ e) hja hlt hs
     (fun i u hu=>by match i,hu with
      |0,hu=>simp at hu;rw [←hu];exact v0
      |1,hu=>simp at hu;rw [←hu];exact v1
      |2,hu=>simp at hu;rw [←hu];exact v2
      |3,hu=>simp at hu;rw [←hu];exact v3
      |4,hu=>simp at hu;rw [←hu];exact v4
      |5,hu=>simp at hu;rw [←hu];exact v5
      |i+6,hu=>simp at hu)
     ((HKR.o j v t hv ht).to_ HTR.o (fun q hq=>by rw [(hp' q hq).2];exact Bi)) (HD.o t (Atu ht)) (HZ.o _ (List.getElem_mem _)) (hes.2.2 t _ ht hks).1 (by rw [HF.o];exact(hes.2.2 t _ ht hks).2)
    rw [HF.o] at hE;have HCD:=Hd hE;have HSN:=Hd (show Bd.callsM f (ks.take (j+1)) (c.take (j+1)) b=Bd.calls f t ((Bd.callsM f (ks.take j) (c.take j) b).key f ks[j]) by
     obtain⟨q1,q2⟩:=List.getElem?_eq_some_iff.1 ht;rw [Atv q1,q2,Atv hk',Si f _ _ _ _ _ (by rw [List.length_take,List.length_take,HKC.o])])
    have hj0:(0:Int)≤(j:Int):=by omega
    have hjn:(j:Int)<(xbn:Int):=by omega
    clear hv ht hp' hIr hKr hE hes hks hs v0 v1 v2 v3 v4 v5 e eA;go_wp2_with fail;go_at_call 151;refine HCD.o.mono ?_;rintro e w2 ⟨rfl,o2,hM2,hT2⟩;have HM2:=Hd hM2;have HT2:=Hd (HTR.o.trans hT2);have HC2:=Hd (HCR.o.to_ hT2 Bi);clear hM2 hT2 x0 x1 x2 x3 x4 x5 x6;go_wp2_with fail;go_roundw
    case rel=>exact⟨j+1,by omega,by go_num,o2,by rw [HSN.o];exact HM2.o,HT2.o,HC2.o⟩
    case measure=>simp [intOf];omega
   ·obtain rfl:j=xbn:=by omega
    have hct:c.take j=c:=Att (by have h2:=HBN.o;omega);have hkt:ks.take j=ks:=Att (by have h2:=HBN.o;have h3:=HKC.o;omega);rw [hct,hkt] at HMR;clear hct hkt;have hee:=Adh M fl (Bd.callsM f ks c b) ks kvs vs' m wr o' HMR.o HEM.o;rw [HF.o] at hee;have HEE:=Hd hee;clear hee;go_wp2_with fail;go_at_call 153;refine HEE.o.mono ?_;rintro e w2 ⟨rfl,o2,hM2,hT2⟩;have HM2:=Hd hM2;have HT2:=Hd (HTR.o.trans hT2);clear hM2 hT2;go_wp2_with fail;go_end0;exact⟨rfl,o2,by rw [HEQ.o];exact HM2.o,HT2.o⟩
theorem Aid{t:Tr}(h:Ge t):Li t:=by
 induction h with
 | @leaf k n u s ks c h1 h2 hn hz=>
  intro M fl b x w o p hM hg hN hR hp hm;have e:Bd.calls (bits fl) (.mk k n u s ks c) b=b.leaf (bits fl) k n u s:=by rw [Bd.calls,if_neg (by omega),if_neg (by omega),if_pos h2]
  rw [e];exact Abc M fl b x k n u s ks c w o p hM hR h1 h2 hn hz (by unfold Tr.cost at hm;omega)
 | @flat k c n u s ks h1 h2 hn hz hf=>
  intro M fl b x w o p hM hg hN hR hp hm;have e:Bd.calls (bits fl) (.mk k n u s ks c) b=b.flat (bits fl) k c:=by rw [Bd.calls,if_neg (by omega),if_neg (by omega),if_neg (by omega)]
  rw [e];exact Ai9 M fl b x k n u s ks c w o p hM hg hR h1 h2 hn hz hf (by unfold Tr.cost at hm;omega)
 | @vec c n u s ks h ih=>exact Yu n u s ks c h ih
 | @map c ks n u s hl h0 hu h ih=>exact Yt n u s ks c hl h0 hu h ih
def zeroAt(l:List UInt8)(a:Nat):Nat:=a+(l.drop a).findIdx (· ==0)
theorem Ahu{l:List UInt8}{k:Nat}(hk:k<l.length)(h:l[k]=0):zeroAt l k=k:=by
 unfold zeroAt;rw [List.drop_eq_getElem_cons hk,List.findIdx_cons,h];rfl
theorem Ady{l:List UInt8}{k:Nat}(hk:k<l.length)(h:l[k]≠0):zeroAt l (k+1)=zeroAt l k:=by
 unfold zeroAt;rw [List.drop_eq_getElem_cons hk,List.findIdx_cons];have:(l[k]==0)=false:=by simpa using h
 rw [this];simp only [cond_false];omega
theorem Aht(l:List UInt8):zeroAt l l.length=l.length:=by
 unfold zeroAt;simp
theorem Ys{l:List UInt8}{k:Nat}(hk:k≤l.length):k≤zeroAt l k∧zeroAt l k≤l.length:=by
 unfold zeroAt;have:=List.findIdx_le_length (xs:=l.drop k) (p:=(· ==0));rw [List.length_drop] at this;omega
theorem S6(A:Option Addr)(n c a:Nat)(l:List UInt8)(w:World)(h:Cw w A n l)(ha:a≤n)(hn:n≤9223372036854775807):
  Calls Tryz.prog 393 #[.slice A n c,Aa Ab a] w fun e w'=>e= .returned (.tuple #[Aa Ab (zeroAt l a:Nat),.bool (decide (zeroAt l a<n))])∧w=w':=by
 have hlen:=h.1;subst hlen;have HI:=Hd h;clear h;go_enter Tryz.func393,Tryz.ntmps393;go_wp2;go_step3;go_wp2;go_step3;go_wp2;go_loop [6] (fun i=>∃k:Nat,k≤l.length∧i= Aa Ab k∧zeroAt l k=zeroAt l a) (fun i=>l.length-(intOf i).toNat)
 case atStart=>exact⟨a,ha,rfl,rfl⟩
 case round=>
  obtain⟨k,hk,rfl,hz⟩:=hrel;have HZ:=Hd hz;clear hz;by_cases hlt:k<l.length
  ·obtain⟨b,off,rfl,hkl,hc⟩:=Kk HI.o hlt;by_cases h0:l[k]=0
   ·have HE:=Hd (show zeroAt l a=k by rw [←HZ.o,Ahu hlt h0]);rw [h0] at hc;clear h0;go_wp2
    try rw [Exit.noGoto_ret]
    go_ret2;rw [HE.o];exact⟨by simp [hlt],rfl⟩
   ·have HE:=Hd ((Ady hlt h0).trans HZ.o);have hb:(l[k].toNat==0)=false:=by
     rw [beq_eq_false_iff_ne];intro e;exact h0 (UInt8.toNat_inj.1 e)
    clear h0;go_wp2;go_round
    case rel=>exact⟨k+1,by omega,by go_num,HE.o⟩
    case measure=>simp [intOf];omega
  ·obtain rfl:l.length=k:=by omega
   have HE:=Hd (show zeroAt l a=l.length by rw [←HZ.o,Aht]);go_wp2
   try rw [Exit.noGoto_ret]
   go_ret2;rw [HE.o];exact⟨by simp,rfl⟩
theorem Sg(A B:Option Addr)(n n' c d:Nat)(l m:List UInt8)(w:World)(ha:Cw w A n l)(hb:Cw w B n' m):
  Calls Tryz.prog 394 #[.slice A n c,.slice B n' d] w fun e w'=>e= .returned (.bool (eqB l m))∧w=w':=by
 have h1:=J3 (c:=c) ha;have h2:=J3 (c:=d) hb;have H:=Hd (show(l==m)=eqB l m by unfold eqB;rw [Bool.eq_iff_iff];simp);clear ha hb;go_enter Tryz.func394,Tryz.ntmps394;go_wp2;go_ret;exact⟨C0 H.o,rfl⟩
theorem Arf(l:List UInt8)(c:UInt8): -1≤Lib.indexByte l c:=by
 induction l with
 |nil=>simp [Lib.indexByte]
 |cons b l ih=>
  unfold Lib.indexByte;split
  ·omega
  ·split <;>omega
theorem Apg(l:List UInt8)(c:UInt8):decide (Lib.indexByte l c<0)=!(l.contains c):=by
 induction l with
 |nil=>simp [Lib.indexByte]
 |cons b l ih=>
  have hg:=Arf l c;unfold Lib.indexByte;by_cases hb:b=c
  ·subst hb;simp
  ·have e1:(b==c)=false:=by simpa using hb
   have e2:(c==b)=false:=by simpa using fun e:c=b=>hb e.symm
   rw [e1,List.contains_cons,e2,Bool.false_or,←ih,if_neg (by simp)];split
   ·rename_i h;simp only [beq_iff_eq] at h;rw [h]
   ·rename_i h;simp only [beq_iff_eq] at h;rw [Bool.eq_iff_iff];simp only [decide_eq_true_eq];omega
theorem Ah4(A:Option Addr)(n c:Nat)(l:List UInt8)(x:UInt8)(v:Int)(w:World)(h:Cw w A n l)(hn:0<n)(hv:v=(x.toNat:Int)):
  Calls Tryz.prog 344 #[.slice A n c,.int .u8 v] w fun e w'=>e= .returned (Aa Ab (Lib.indexByte l x))∧w=w':=by
 subst hv;have hlen:=h.1;subst hlen;obtain⟨b,off,rfl,_⟩:=Kk h hn;have hc:∀i,i<l.length→w.cell? ⟨b,off+i,none⟩=some (.int .u8 ((l.map fun x:UInt8=>(x.toNat:Int)).getD i 0)):=by
  intro i hi;obtain⟨b',off',e,hk,hc⟩:=Kk h hi;injection e with e
  injection e with e1 e2
  subst e1 e2;rw [hc];simp [List.getD_eq_getElem?_getD,hk]
 have hr:=Lib.run_indexByteSlice (P:=Tryz.prog) w b off l.length c (l.map fun x:UInt8=>(x.toNat:Int)) (by simp) hc (x.toNat:Int);have e1:Lib.bytesOf (l.map fun x:UInt8=>(x.toNat:Int))=l:=by
  unfold Lib.bytesOf;rw [List.map_map]
  conv=>rhs;rw [←List.map_id l]
  exact List.map_congr_left (fun x _=>by simp)
 have e2:((x.toNat:Int)).toNat.toUInt8=x:=by simp
 rw [e1,e2] at hr;clear hc e1 e2 h;go_enter Tryz.func344,Tryz.ntmps344;go_wp2;rw [run_callFunc_extern Tryz.func392 (by kernel_rfl) (by kernel_rfl) (by kernel_rfl) (e:=Extern.BytealgIndexByte.indexByte) (by kernel_rfl),hr];simp only [Result.andThen];rw [Oper.upon_value];go_wp2;go_ret;exact⟨rfl,rfl⟩
def tc(x:Nat):List Value:=[Aa Ab (x:Int)]
theorem Ast{w:World}{A:Option Addr}{n k:Nat}{l:List Nat}(h:Is tc w A n l)(hk:k<n):∃b off,A=some ⟨b,off,none⟩∧∃hk:k<l.length,w.cell? ⟨b,off+k,none⟩=some (Aa Ab (l[k]:Nat)):=by
 obtain⟨b,off,e,hk',hc⟩:=h.at_ (fun _=>rfl) (sz:=1) (by omega) hk;have:=hc 0 (by omega);rw [Nat.mul_one,Nat.add_zero] at this;exact⟨b,off,e,hk',this⟩
theorem Alw(A:Option Addr)(n c:Nat)(ts:List Nat)(w:World)(h:Is tc w A n ts)(hn:n≤100)(ht:∀t∈ts,t<256):
  Calls Tryz.prog 345 #[.slice A n c] w (Vx w (ts.map UInt8.ofNat)):=by
 have hlen:=h.1;subst hlen;have HI:=Hd h;have HT:=Hd ht;clear h ht;go_enter Tryz.func345,Tryz.ntmps345;go_wp2;go_loopw [2,4,7] (fun o _ i wr=>∃(k:Nat) (A0:Option Addr) (c0:Nat),k≤ts.length∧i= Aa Ab k∧o= .slice A0 k c0∧J8 wr w.heap.size A0 k c0 ((ts.take k).map UInt8.ofNat)∧Below w.heap.size w wr) (fun _ _ i _=>ts.length-(intOf i).toNat)
 case atStart=>exact⟨0,none,0,by omega,rfl,rfl,Own.nil _ _,Below.refl _ _⟩
 case round=>
  obtain⟨k,A0,c0,hk,rfl,rfl,hO,hB⟩:=hrel;have HO:=Hd hO;have HBr:=Hd hB;clear hO hB;by_cases hlt:k<ts.length
  ·obtain⟨b,off,rfl,hkl,hc⟩:=Ast (HI.o.pure HBr.o) hlt;have hx:=HT.o ts[k] (List.getElem_mem hkl);have htk:(ts.take (k+1)).map UInt8.ofNat=(ts.take k).map UInt8.ofNat++ [UInt8.ofNat ts[k]]:=by
    rw [Atv hkl,List.map_append];rfl
   have HTK:=Hd htk;clear htk;generalize ts[k]=t at hc hx HTK;have hw:IntKind.u8.wrap (t:Int)=((UInt8.ofNat t).toNat:Int):=by
    rw [IntKind.wrap_u8,UInt8.toNat_ofNat'];omega
   go_wp2_with (at_builtin;refine Dt _ rfl (.tmp 11) (.tmp 14) _ rfl 5 _ 1 1 Tryz.underlying28 Q3 rfl (by omega) Dk Uc _ _ _ _ _ rfl (HO.o.pure ((Below.refl _ _).alloc (Nat.le_refl _) _)) _ _ _ _ rfl (Apj _ _ (UInt8.ofNat t) hw) (by omega) (by have:=HBr.o.size;simp;omega) ?_;intro A1 c1 w4 hown hfr hat;have HO1:=Hd hown;have HF1:=Hd hfr;clear hown hfr hat);exact⟨⟨k+1,A1,c1,by omega,by go_num,rfl,by rw [HTK.o];exact HO1.o,Bs (HBr.o.alloc HBr.o.size _) HF1.o (by rintro j ⟨ad,h,rfl⟩;exact(HO.o.addr ad h).2.1)⟩,by simp [intOf];omega⟩
  ·obtain rfl:k=ts.length:=by omega
   go_wp2;go_ret;rw [List.take_length] at HO;exact⟨A0,_,c0,rfl,HO.o,HBr.o⟩
def Kl(l:List UInt8)(a:Nat):Int:=if zeroAt l a<l.length then 0 else 213
def Fv(l:List UInt8)(a v k:Nat):Int:=
 if a % v≠0 then 212 else if a<v then 211 else if l.length<a+loadU l ((a:Int)-v) v+k then 211
 else if((l.drop (a+loadU l ((a:Int)-v) v)).take k)=List.replicate k 0 then 0 else 213
def cntL(l:List UInt8)(a v:Nat):List UInt8:=(l.drop a).take (loadU l ((a:Int)-v) v)
def My(l:List UInt8)(a:Nat):List UInt8:=(l.drop a).take (zeroAt l a-a)
def Qe(w:World)(A0:Option Addr)(n0:Nat)(l:List UInt8)(a:Int)(m:List UInt8)(er:Int)(e:Ending)(w':World):Prop:=
 ∃A n c,e= .returned (.tuple #[.agg #[Aa Ab a,.slice A n c],Aa Ab er])∧(∀w0,Cw w0 A0 n0 l→Cw w0 A n m)∧n≤c∧Below w.heap.size w w'
end Go.Proofs.YtgbjodnegkbfoaaGreat
