/- Parts of the proof. -/
import Derived.Test.YtgbjodnegkbfoaaGreatQm03
import Derived.Laws.EntriesVeiled
set_option maxHeartbeats 1000000
set_option maxRecDepth 100000
open Go.Value renaming int→Aa
open Go.IntKind renaming i64→Ab,u64→Ac
open Nat renaming le_refl→Asp
open List renaming getElem?_eq_getElem→Asq,getD_eq_getElem?_getD→As0
namespace Go.Proofs.YtgbjodnegkbfoaaGreat
open Go.Acc
inductive Gw:Tr→Prop
 |mk {k n:Int} {u:Nat} {s:List UInt8} {ks:List (List UInt8)} {l:List Tr} (h1:Fi (.mk k n u s ks l)=true) (h2:k=5→(0:UInt8)∉s) (h3:∀x∈ks,(0:UInt8)∉x) (h4:ks.Nodup) (h:∀t∈l,Gw t):Gw (.mk k n u s ks l)
structure Zb.Ok(e:Zb):Prop where
 limit:e.limit≠0
 deep:e.deep≠0
 kind:e.kind≠0
 key:e.key≠0
 twice:e.twice≠0
mutual
theorem Lo{e:Zb}(he:e.Ok):∀(t:Tr) (d c:Nat),(Hk e d t c).1=0→Gw t
 | .mk k n u s ks l,d,c,h=>by
  rw [Hk] at h;by_cases h1:c+1>4096
  ·rw [if_pos h1] at h;exact absurd h he.limit
  rw [if_neg h1] at h;by_cases h2:d≥64
  ·rw [if_pos h2] at h;exact absurd h he.deep
  rw [if_neg h2] at h;by_cases h3:Fi (.mk k n u s ks l)=false
  ·rw [if_pos h3] at h;exact absurd h he.kind
  rw [if_neg h3] at h;by_cases h4:Hx e.key e.twice (.mk k n u s ks l)≠0
  ·rw [if_pos h4] at h;exact absurd h h4
  rw [if_neg h4] at h;have h4:Hx e.key e.twice (.mk k n u s ks l)=0:=Decidable.not_not.1 h4;have h4:(if k=5∧Br s=true then e.key else Jz e.key e.twice [] ks)=0:=h4;by_cases h5:k=5∧Br s=true
  ·rw [if_pos h5] at h4;exact absurd h4 he.key
  rw [if_neg h5] at h4;obtain⟨a,b,_⟩:=Aao he.key he.twice ks [] h4;exact .mk (by simpa using h3) (fun hk=>Lk (by cases hz:Br s with|false=>rfl|true=>exact absurd ⟨hk,hz⟩ h5)) a b (Zk he l (d+1) (c+1) h)
theorem Zk{e:Zb}(he:e.Ok):∀(l:List Tr) (d c:Nat),(Oi e d l c).1=0→∀t∈l,Gw t
 | [],_,_,_,t,ht=>by simp at ht
 |x::r,d,c,h,t,ht=>by
  rw [Oi] at h;by_cases h1:(Hk e d x c).1≠0
  ·rw [if_pos h1] at h;exact absurd h h1
  rw [if_neg h1] at h;have h1:(Hk e d x c).1=0:=Decidable.not_not.1 h1;rcases List.mem_cons.1 ht with e1|hr
  ·rw [e1];exact Lo he x d c h1
  ·exact Zk he r d _ h t hr
end
def S3(x:List UInt8×Tr):List (List UInt8×Tr)→List (List UInt8×Tr)
 | []=>[x]
 |y::r=>if x.1<y.1 then x::y::r else y::S3 x r
def Ry(l:List (List UInt8×Tr)):List (List UInt8×Tr):=l.foldr S3 []
mutual
def Bf:Tr→Tr
 | .mk k n u s ks l=>if k=17 then .mk k n u s ((Ry (ks.zip (C3 l))).map (·.1)) ((Ry (ks.zip (C3 l))).map (·.2)) else .mk k n u s ks (C3 l)
def C3:List Tr→List Tr
 | []=>[]
 |t::r=>Bf t::C3 r
end
theorem Cx:∀(l:List Tr),C3 l=l.map Bf
 | []=>rfl
 |t::r=>by rw [C3,Cx r];rfl
theorem Qk(x:List UInt8×Tr):∀(l:List (List UInt8×Tr)),(S3 x l).Perm (x::l)
 | []=>List.Perm.refl _
 |y::r=>by
  rw [S3];split
  ·exact List.Perm.refl _
  ·exact((Qk x r).cons y).trans (List.Perm.swap x y r)
theorem Fl:∀(l:List (List UInt8×Tr)),(Ry l).Perm l
 | []=>List.Perm.refl _
 |x::r=>(Qk x _).trans ((Fl r).cons x)
theorem Vx{t:Tr}(h:Gw t):Ok (Bf t):=by
 induction h with
 |mk h1 h2 h3 h4 hl ih=>
  rename_i k n u s ks l;have hm:∀t∈C3 l,Ok t:=by
   intro t ht;rw [Cx] at ht;obtain⟨x,hx,rfl⟩:=List.mem_map.1 ht;exact ih x hx
  simp only [Fi,Bool.and_eq_true,decide_eq_true_eq] at h1;obtain⟨⟨⟨⟨⟨⟨⟨⟨⟨g1,g2⟩,_⟩,_⟩,_⟩,_⟩,_⟩,glen⟩,_⟩,_⟩:=h1;have g1:1≤k:=g1;have g2:k≤17:=g2;rw [Bf];by_cases hk:k=17
  ·rw [if_pos hk];subst hk;have hp:=Fl (ks.zip (C3 l));refine .map n u s (by simp) (fun x hx=>?_) (fun t ht=>?_)
   ·obtain⟨y,hy,rfl⟩:=List.mem_map.1 hx;exact h3 _ (List.of_mem_zip (hp.mem_iff.1 hy)).1
   ·obtain⟨y,hy,rfl⟩:=List.mem_map.1 ht;exact hm _ (List.of_mem_zip (hp.mem_iff.1 hy)).2
  ·rw [if_neg hk];by_cases h10:k=10
   ·subst h10;exact .vec n u s ks hm
   ·by_cases h9:k≤9
    ·exact .leaf n u s ks _ g1 h9
    ·exact .flat n u s ks _ (by omega) (by omega)
theorem Aqj{a b:List UInt8}(h:¬a<b)(hne:a≠b):b<a:=by
 rcases List.le_total a b with h1|h1
 ·exact absurd (List.le_antisymm h1 (List.not_lt.1 h)) hne
 ·exact Decidable.byContradiction fun h2=>hne (List.le_antisymm (List.not_lt.1 h2) h1)
theorem Adw(x:List UInt8×Tr):∀(l:List (List UInt8×Tr)),l.Pairwise (fun a b=>a.1<b.1)→(∀y∈l,x.1≠y.1)→(S3 x l).Pairwise (fun a b=>a.1<b.1)
 | [],_,_=>by simp [S3]
 |y::r,h,hne=>by
  obtain⟨h1,h2⟩:=List.pairwise_cons.1 h;rw [S3];by_cases hlt:x.1<y.1
  ·rw [if_pos hlt];refine List.pairwise_cons.2 ⟨fun z hz=>?_,h⟩;rcases List.mem_cons.1 hz with rfl|hz
   ·exact hlt
   ·exact List.lt_trans hlt (h1 z hz)
  ·rw [if_neg hlt];refine List.pairwise_cons.2 ⟨fun z hz=>?_,Adw x r h2 (fun z hz=>hne z (by simp [hz]))⟩;rcases List.mem_cons.1 ((Qk x r).mem_iff.1 hz) with rfl|hz
   ·exact Aqj hlt (hne y (by simp))
   ·exact h1 z hz
theorem Tp:∀(l:List (List UInt8×Tr)),(l.map (·.1)).Nodup→(Ry l).Pairwise (fun a b=>a.1<b.1)
 | [],_=>List.Pairwise.nil
 |x::r,h=>by
  rw [List.map_cons,List.nodup_cons] at h;refine Adw x _ (Tp r h.2) (fun y hy e=>h.1 ?_);exact List.mem_map.2 ⟨y,(Fl r).mem_iff.1 hy,e.symm⟩
theorem Abx(t:Tr):(Bf t).k=t.k:=by
 obtain⟨k,n,u,s,ks,l⟩:=t;rw [Bf];split <;>rfl
theorem Kp{t:Tr}(h:Gw t):Rf (Bf t):=by
 cases h with
 |mk h1 h2 h3 h4 h=>
  rename_i k n u s ks l;intro hk;rw [Abx] at hk;have hk:k=15∨k=16:=hk;simp only [Fi,Bool.and_eq_true,decide_eq_true_eq] at h1;have hl:k=15∨k=16→2≤l.length∧l.length≤4:=h1.1.2;have hl:=hl hk;rw [Bf,if_neg (by omega)];show(C3 l).length=2∨(C3 l).length=3∨(C3 l).length=4;rw [Cx,List.length_map];omega
end Go.Proofs.YtgbjodnegkbfoaaGreat
namespace Go.Proofs.YtgbjodnegkbfoaaGreat
open Go.RowKit Go.Acc
def Jr(x:Int):Int:=if Av x=true then 0 else 2
def Afu(x:Int):Int:=if x=2 then 1 else if x=4 then 2 else if x=8 then 3 else 0
theorem Hq(x:Int)(w:World):Calls Tryz.prog 53 #[Aa Ab x] w fun e w'=>e= .returned (.tuple #[Aa Ab (Afu x),Aa Ab (Jr x)])∧w=w':=by
 cases hw:Av x with
 |true=>
  have hx:=By.1 hw;clear hw;rcases hx with rfl|rfl|rfl|rfl
  all_goals
   go_enter Tryz.func53,Tryz.ntmps53;go_wp2;refine wp_loop_rounds 5 ?_
   repeat (rw [rounds_succ];go_wp2)
   go_ret2;exact⟨rfl,rfl⟩
 |false=>
  have hx:=Aiw.1 hw;have H1:=Hd (show Afu x=0 by unfold Afu;rw [if_neg hx.2.1,if_neg hx.2.2.1,if_neg hx.2.2.2]);have H2:=Hd (show Jr x=2 by unfold Jr;rw [hw];rfl);rw [H1.o,H2.o];have e1:(x==1)=false:=beq_eq_false_iff_ne.mpr hx.1;have e2:(x==2)=false:=beq_eq_false_iff_ne.mpr hx.2.1;have e4:(x==4)=false:=beq_eq_false_iff_ne.mpr hx.2.2.1;have e8:(x==8)=false:=beq_eq_false_iff_ne.mpr hx.2.2.2;clear hx hw;go_enter Tryz.func53,Tryz.ntmps53;go_wp2;refine wp_loop_rounds 5 ?_
  repeat (rw [rounds_succ];go_wp2)
  go_ret2;exact⟨rfl,rfl⟩
theorem Zn{x:Int}(h:Av x=false):Jr x=2:=by unfold Jr;rw [h];rfl
theorem Xo{x:Int}(h:Av x=true):Jr x=0:=by unfold Jr;rw [h];rfl
theorem Mg(x:Int)(w:World):Calls Tryz.prog 87 #[Aa Ab x] w fun e w'=>e= .returned (.bool (Av x))∧w=w':=by
 cases hw:Av x with
 |true=>
  have H:=Hd (Xo hw);clear hw;go_enter Tryz.func87,Tryz.ntmps87;go_wp2_with fail;go_at_call 53;refine(Hq _ _).mono ?_;rw [H.o];rintro e w1 ⟨rfl,rfl⟩;go_wp2;go_ret;exact⟨rfl,rfl⟩
 |false=>
  have H:=Hd (Zn hw);clear hw;go_enter Tryz.func87,Tryz.ntmps87;go_wp2_with fail;go_at_call 53;refine(Hq _ _).mono ?_;rw [H.o];rintro e w1 ⟨rfl,rfl⟩;go_wp2;go_ret;exact⟨rfl,rfl⟩
theorem C2(A:Option Addr)(n c:Nat)(a m:Int)(w:World)(hn:n≤9223372036854775807):Calls Tryz.prog 206 #[.slice A n c,Aa Ab a,Aa Ab m] w fun e w'=>e= .returned (.bool (Gf n a m))∧w=w':=by
 by_cases h1:0≤a
 ·by_cases h2:0≤m
  ·by_cases h3:a≤n
   ·have ha:(0:Int)≤(n:Int)-a:=by omega
    by_cases h4:m≤(n:Int)-a
    ·have H:=Hd (show Gf n a m=true from De.2 ⟨h1,h2,by omega⟩);go_enter Tryz.func206,Tryz.ntmps206;go_wp2;go_ret;exact⟨Ct H.o.symm,rfl⟩
    ·have H:=Hd (show Gf n a m=false from decide_eq_false (fun h=>h4 (by omega)));have hd:decide (m≤(n:Int)-a)=false:=decide_eq_false h4;go_enter Tryz.func206,Tryz.ntmps206;go_wp2;go_ret;exact⟨Ct H.o.symm,rfl⟩
   ·have H:=Hd (show Gf n a m=false from decide_eq_false (fun h=>h3 (by omega)));have hd:decide (a≤(n:Int))=false:=decide_eq_false h3;go_enter Tryz.func206,Tryz.ntmps206;go_wp2;go_ret;exact⟨Ct H.o.symm,rfl⟩
  ·have H:=Hd (show Gf n a m=false from decide_eq_false (fun h=>h2 (by omega)));have hd:decide (0≤m)=false:=decide_eq_false h2;go_enter Tryz.func206,Tryz.ntmps206;go_wp2;go_ret;exact⟨Ct H.o.symm,rfl⟩
 ·have H:=Hd (show Gf n a m=false from decide_eq_false (fun h=>h1 (by omega)));have hd:decide (0≤a)=false:=decide_eq_false h1;go_enter Tryz.func206,Tryz.ntmps206;go_wp2;go_ret;exact⟨Ct H.o.symm,rfl⟩
theorem Al{w:World}{g:Nat}{t:TypeId}{p q t' v:Value}(h:Ag w g t #[p,q,t',v]):w.cell? ⟨g,0,none⟩=some p:=h.cell 0
theorem Ak{w:World}{g:Nat}{t:TypeId}{p q t' v:Value}(h:Ag w g t #[p,q,t',v]):w.cell? ⟨g,1,none⟩=some q:=h.cell 1
theorem Aj{w:World}{g:Nat}{t:TypeId}{p q t' v:Value}(h:Ag w g t #[p,q,t',v]):w.cell? ⟨g,2,none⟩=some t':=h.cell 2
theorem Am{w:World}{g:Nat}{t:TypeId}{p q t' v:Value}(h:Ag w g t #[p,q,t',v]):w.cell? ⟨g,3,none⟩=some v:=h.cell 3
theorem Ajg(b:Nat)(p q t v:Int)(w:World)(hK:Ag w b 75 #[Aa Ab p,Aa Ab q,Aa Ab t,Aa Ab v]):Calls Tryz.prog 204 #[.pointer (some ⟨b,0,none⟩)] w fun e w'=>e= .returned (.bool (Hv q t v))∧Below w.heap.size w w':=by
 have c2:=Aj hK;have HK:=Hd hK;clear hK;cases hl:Bc t with
 |false=>
  have HL:=Hd hl;have HF:=Hd (show Hv q t v=false by unfold Hv;rw [hl];rfl);rw [HF.o];clear hl;go_enter Tryz.func204,Tryz.ntmps204;go_wp2_with fail;go_at_call 111;refine(Gi t _).mono ?_;rw [HL.o];rintro e w1 ⟨rfl,hb⟩;have HB:=Hd hb;clear hb;go_wp2;go_ret;exact⟨rfl,HB.o⟩
 |true=>
  have HL:=Hd hl;have HF:=Hd (show Hv q t v=(Av q&&Av v) by unfold Hv;rw [hl];rfl);rw [HF.o];clear hl;go_enter Tryz.func204,Tryz.ntmps204;go_wp2_with fail;go_at_call 111;refine(Gi t _).mono ?_;rw [HL.o];rintro e w1 ⟨rfl,hb⟩;have HB:=Hd hb;have c1:=Ak (HK.o.pure hb);have c3:=Am (HK.o.pure hb);clear hb;go_wp2_with fail;go_at_call 87;refine(Mg q _).mono ?_;rintro e w1 ⟨rfl,rfl⟩;cases hq:Av q with
  |false=>
   have HQ:=Hd hq;clear hq;go_wp2;go_ret;exact⟨Ct (by rw [HQ.o];rfl),HB.o⟩
  |true=>
   have HQ:=Hd hq;clear hq;go_wp2_with fail;go_at_call 87;refine(Mg v _).mono ?_;rintro e w1 ⟨rfl,rfl⟩;go_wp2;go_ret;exact⟨Ct (by rw [HQ.o];rfl),HB.o⟩
theorem Ajh(a b:Nat)(A:Option Addr)(n c:Nat)(p q t v:Int)(w:World)(hn:n≤9223372036854775807)(hA:Ag w a 28 #[.slice A n c])(hK:Ag w b 75 #[Aa Ab p,Aa Ab q,Aa Ab t,Aa Ab v]):
  Calls Tryz.prog 205 #[.pointer (some ⟨a,0,none⟩),.pointer (some ⟨b,0,none⟩)] w fun e w'=>e= .returned (.bool (Gf n p q))∧w=w':=by
 have c0:=Al hK;have c1:=Ak hK;have a0:w.cell? ⟨a,0,none⟩=some (.slice A n c):=hA.cell 0;clear hK hA;go_enter Tryz.func205,Tryz.ntmps205;go_wp2_with fail;go_at_call 206;refine(C2 A n c p q _ hn).mono ?_;rintro e w1 ⟨rfl,rfl⟩;go_wp2;go_ret;exact⟨rfl,rfl⟩
theorem Mk(A:Option Addr)(n c:Nat)(p q t v:Int)(w:World)(hn:n≤9223372036854775807):Calls Tryz.prog 123 #[.slice A n c,.agg #[Aa Ab p,Aa Ab q,Aa Ab t,Aa Ab v]] w fun e w'=>e= .returned (Aa Ab (Bj n p q t v))∧Below w.heap.size w w':=by
 have HA:=Hd ((Ag.new w 28 #[.slice A n c]).alloc (.cells #[Aa Ab p,Aa Ab q,Aa Ab t,Aa Ab v] 75));have HK:=Hd (Ag.new_ (w:=w.alloc (.cells #[.slice A n c] 28)) (g:=w.heap.size+1) (by simp) 75 #[Aa Ab p,Aa Ab q,Aa Ab t,Aa Ab v]);have HF1:=Tryz.call204;have HF2:=Tryz.call205;go_enter Tryz.func123,Tryz.ntmps123;go_wp2;refine wp_loop_rounds 3 ?_;rw [rounds_succ];go_wp2_with fail;refine(Ajg (w.heap.size+1) p q t v _ ((HK.o.alloc _).alloc _)).mono ?_;rintro e w1 ⟨rfl,hb⟩;have HL:=Hd ((Ag.new_ (w:=((w.alloc (.cells #[.slice A n c] 28)).alloc (.cells #[Aa Ab p,Aa Ab q,Aa Ab t,Aa Ab v] 75))) (g:=w.heap.size+1+1) (by simp) _ _).alloc _ |>.pure hb);have HX:=Hd ((Ag.new_ (g:=w.heap.size+1+1+1) (by simp) _ _).pure hb);have HA:=Hd (((HA.o.alloc _).alloc _).pure hb);have HK:=Hd (((HK.o.alloc _).alloc _).pure hb);have HB:=Hd (((((Below.refl w.heap.size w).alloc (Asp _) _).alloc (by simp) _).alloc (by simp;omega) _).alloc (by simp;omega) _ |>.trans (hb.mono (by simp;omega)));have hs:w.heap.size+1+1+1<w1.heap.size:=by have:=HX.o.lt;omega
 clear hb;cases hf:Hv q t v with
 |false=>
  have HE:=Hd (show Bj n p q t v=2 by unfold Bj;rw [hf];rfl);have x1:=(HX.o.cell 1).trans (show _=some (Aa Ab 2) from rfl);clear hf HF1 HF2;go_wp2;go_ret;exact⟨Gv HE.o.symm,HB.o⟩
 |true=>
  have HE:=Hd (show Bj n p q t v=if Gf n p q=true then 0 else 6 by unfold Bj;rw [hf];rfl);have l2:=HL.o.cell 2;have l3:=HL.o.cell 3;simp only [List.getElem?_toArray,List.getElem?_cons_succ,List.getElem?_cons_zero] at l2 l3;clear hf;go_wp2;rw [rounds_succ];go_wp2_with fail;refine(Ajh w.heap.size (w.heap.size+1) A n c p q t v _ hn (HA.o.alloc _) (HK.o.alloc _)).mono ?_;rintro e w2 ⟨rfl,rfl⟩;clear l2 l3;cases hi:Gf n p q with
  |true=>
   have HI:=Hd hi;clear hi;go_wp2;rw [rounds_succ];go_wp2;go_ret;exact⟨Gv (by rw [HE.o,HI.o];rfl),HB.o.alloc (by omega) _⟩
  |false=>
   have HI:=Hd hi;clear hi;go_wp2;go_ret;exact⟨Gv (by rw [HE.o,HI.o];rfl),HB.o.alloc (by omega) _⟩
theorem Vp{k k':IntKind}{a b c d:Int}(h:a=b)(h':c=d):Ending.returned (.tuple #[.int k a,.int k' c])= .returned (.tuple #[.int k b,.int k' d]):=by rw [h,h']
theorem Ys{w w':World}(h:Below w.heap.size w w'):Below w.heap.size w w':=h
theorem Fp(A:Option Addr)(n c:Nat)(p q t v:Int)(l:List UInt8)(w:World)(hl:Cd w A n l)(hc:n≤c)(hn:n≤9223372036854775807):
  Calls Tryz.prog 91 #[.slice A n c,.agg #[Aa Ab p,Aa Ab q,Aa Ab t,Aa Ab v]] w fun e w'=>e= .returned (.tuple #[Aa Ab (Bb l p q t v),Aa Ab (Bh l p q t v)])∧Below w.heap.size w w':=by
 have hlen:=hl.1;subst hlen;have HL:=Hd (hl.alloc (.cells #[Aa Ab p,Aa Ab q,Aa Ab t,Aa Ab v] 75));have HK:=Hd (Ag.new w 75 #[Aa Ab p,Aa Ab q,Aa Ab t,Aa Ab v]);have HB:=Hd ((Below.refl w.heap.size w).alloc (Asp _) (.cells #[Aa Ab p,Aa Ab q,Aa Ab t,Aa Ab v] 75));clear hl;go_enter Tryz.func91,Tryz.ntmps91;go_wp2_with fail;go_at_call 123;refine(Mk A l.length c p q t v _ hn).mono ?_;rintro e w1 ⟨rfl,hb⟩;by_cases hm:Bj l.length p q t v=0
 ·rw [hm];have HB:=Hd (Ad HB.o hb);have HK:=Hd (HK.o.pure hb);have HL:=Hd (HL.o.pure hb);have c0:=Al HK.o;have c1:=Ak HK.o;have c2:=Aj HK.o;have c3:=Am HK.o;clear hb;go_wp2_with fail;go_at_call 90;refine(B8 t _).mono ?_;rintro e w2 ⟨rfl,hb⟩;have hb:=Ys hb;clear c0 c1 c2 c3;cases hi:Aw t with
  |true=>
   have HE:=Hd (Ab3 hm hi);have HT:=Hd (Apr hm hi);have HB:=Hd (Ad HB.o hb);clear hm hi hb;go_wp2;go_ret2;exact⟨Vp HT.o.symm HE.o.symm,HB.o⟩
  |false=>
   obtain⟨h1,h2⟩:=Df.1 hm;have h2:=De.1 h2;have h1:=Cc.1 h1;have hp0:=h2.1;have hpn:=h2.2.2;have hq1:1≤q:=by have:=By.1 h1.2.1;omega
   have HLE:=Hd (Al7 hm);have HB:=Hd (Ad HB.o hb);have HK:=Hd (HK.o.pure hb);have HL:=Hd (HL.o.pure hb);have c0:=Al HK.o;have c1:=Ak HK.o;have c2:=Aj HK.o;have c3:=Am HK.o;clear hb;go_wp2_with fail;go_at_call 167;refine(Hy A l.length c p q _ _ HL.o hc hn).mono ?_;rw [HLE.o];rintro e w3 ⟨rfl,hb⟩;clear c0 c1 c2 c3;have HB:=Hd (Ad HB.o hb);have HK:=Hd (HK.o.pure hb);have HL:=Hd (HL.o.pure hb);have c0:=Al HK.o;have c1:=Ak HK.o;have c2:=Aj HK.o;have c3:=Am HK.o;clear hb;by_cases hu:p<(loadU l p q:Int)
   ·have HE:=Hd (Ab4 hm hi hu);have HT:=Hd (Apt hm hi hu);generalize loadU l p q=u at hu;clear hm hi h1 h2;have hw:IntKind.u64.wrap p=p:=B7 p (by omega);go_wp2;go_ret2;exact⟨Vp HT.o.symm HE.o.symm,HB.o⟩
   ·have HE:=Hd (R0 hm hi hu);have HT:=Hd (Ab5 hm hi hu);have HU:=Hd (show loadU l p q=loadU l p q from rfl);obtain⟨u,hue⟩:∃u,loadU l p q=u:=⟨_,rfl⟩;rw [hue] at hu HT⊢;clear hm hi h1 h2 hue HU;have hw:IntKind.u64.wrap p=p:=B7 p (by omega);have hw2:wrap64 (u:Int)=u:=Cj _ (by omega);have hw3:wrap64 (p-(u:Int))=p-u:=Cj _ (by omega);go_wp2;go_ret2;exact⟨Vp HT.o.symm HE.o.symm,HB.o⟩
 ·have HE:=Hd (Ms hm);have HT:=Hd (Aps hm);have hne:(Bj l.length p q t v != 0)=true:=by simpa using hm
  have HB:=Hd (Ad HB.o hb);have HK:=Hd (HK.o.pure hb);have HL:=Hd (HL.o.pure hb);have c0:=Al HK.o;have c1:=Ak HK.o;have c2:=Aj HK.o;have c3:=Am HK.o;clear hb;clear hm;go_wp2;go_ret2;exact⟨Vp HT.o.symm HE.o.symm,HB.o⟩
theorem Ko{a b c d e:Int}{r:(Int×Int×Int×Int)}{f:Int}(h:r=(a,b,c,d))(h':f=e):
  Ending.returned (.tuple #[.agg #[Aa Ab a,Aa Ab b,Aa Ab c,Aa Ab d],Aa Ab e])= .returned (.tuple #[.agg #[Aa Ab r.1,Aa Ab r.2.1,Aa Ab r.2.2.1,Aa Ab r.2.2.2],Aa Ab f]):=by
 subst h h';rfl
theorem Mp{l:List UInt8}(h:Ec l≠0):Dl l=(0,0,0,0):=if_neg h
theorem Rv{l:List UInt8}(h:l.length<3):Ec l=210:=if_pos (.inl h)
theorem Rw{l:List UInt8}{x:UInt8}(hx:l.getD (l.length-1) 0=x)(hw:Av (x.toNat:Int)=false):Ec l=210:=by
 unfold Ec;rw [hx,if_pos (.inr hw)]
theorem Wm{l:List UInt8}{x y:UInt8}(h3:¬l.length<3)(hx:l.getD (l.length-1) 0=x)(hy:l.getD (l.length-2) 0=y)(hw:Av (x.toNat:Int)=true)(hu:Gk y≠0):Ec l=Gk y:=by
 unfold Ec;rw [hx,hy,if_neg (by rw [hw];simp;omega),if_pos hu]
theorem Aei{l:List UInt8}{x y:UInt8}(h3:¬l.length<3)(hx:l.getD (l.length-1) 0=x)(hy:l.getD (l.length-2) 0=y)(hw:Av (x.toNat:Int)=true)(hu:Gk y=0):
  Ec l=if(l.length:Int)-2-x.toNat<0∨((l.length:Int)-2-x.toNat) % x.toNat≠0 then 210 else 0:=by
 unfold Ec;rw [hx,hy,if_neg (by rw [hw];simp;omega),if_neg (by simpa using hu)]
theorem Tm{l:List UInt8}{x y:UInt8}(hx:l.getD (l.length-1) 0=x)(hy:l.getD (l.length-2) 0=y)(he:Ec l=0):Dl l=((l.length:Int)-2-x.toNat,((x.toNat:Nat):Int),Jl y,Kb y):=by
 unfold Dl;rw [if_pos he,hx,hy]
theorem Q1(A:Option Addr)(n c:Nat)(l:List UInt8)(w:World)(hl:Cd w A n l)(hn:n≤9223372036854775807):
  Calls Tryz.prog 44 #[.slice A n c] w fun e w'=>e= .returned (.tuple #[.agg #[Aa Ab (Dl l).1,Aa Ab (Dl l).2.1,Aa Ab (Dl l).2.2.1,Aa Ab (Dl l).2.2.2],Aa Ab (Ec l)])∧Below w.heap.size w w':=by
 have hlen:=hl.1;subst hlen;by_cases h3:l.length<3
 ·have HE:=Hd (Rv h3);have HR:=Hd (Mp (by rw [Rv h3];decide));go_enter Tryz.func44,Tryz.ntmps44;go_wp2;refine bodyPost_ret (v:= .tuple #[.agg #[Aa Ab 0,Aa Ab 0,Aa Ab 0,Aa Ab 0],Aa Ab 210]) (by simp [results,Tryz.results44,go_sem]) rfl ⟨Ko HR.o HE.o,?_⟩;exact(Below.refl _ _).alloc (Asp _) _
 ·obtain⟨b,off,rfl,hk1,v1⟩:=K5 hl (k:=l.length-1) (by omega);obtain⟨b',off',e',hk2,v2⟩:=K5 hl (k:=l.length-2) (by omega);injection e' with e'
  injection e' with e1 e2
  subst e1 e2;have hx:l.getD (l.length-1) 0=l[l.length-1]:=by rw [As0,Asq hk1];rfl
  have hy:l.getD (l.length-2) 0=l[l.length-2]:=by rw [As0,Asq hk2];rfl
  generalize l[l.length-1]=x at hx v1;generalize l[l.length-2]=y at hy v2;have hxb:=x.toNat_lt;have HX:=Hd hx;have HY:=Hd hy;have HV1:=Hd v1;have HV2:=Hd v2;have v1:(w.alloc (.cells #[Aa Ab 0,Aa Ab 0,Aa Ab 0,Aa Ab 0] 75)).cell? ⟨b,off+(l.length-1),none⟩=some (.int .u8 (x.toNat:Int)):=Ae ((Below.refl _ _).alloc (Asp _) _) HV1.o;clear hl hx hy hk1 hk2 v2;go_enter Tryz.func44,Tryz.ntmps44;go_wp2_with fail;go_at_call 87;refine(Mg _ _).mono ?_;rintro e w1 ⟨rfl,rfl⟩;cases hw:Av (x.toNat:Int) with
  |false=>
   have HE:=Hd (Rw HX.o hw);have HR:=Hd (Mp (by rw [Rw HX.o hw];decide));clear hw;go_wp2;refine bodyPost_ret (v:= .tuple #[.agg #[Aa Ab 0,Aa Ab 0,Aa Ab 0,Aa Ab 0],Aa Ab 210]) (by simp [results,Tryz.results44,go_sem]) rfl ⟨Ko HR.o HE.o,?_⟩;exact(Below.refl _ _).alloc (Asp _) _
  |true=>
   have HW:=Hd hw;have hx1:1≤x.toNat∧x.toNat≤8:=by have:=By.1 hw;omega
   have hx2:=hx1.1;have hx3:=hx1.2;have v2:(w.alloc (.cells #[Aa Ab 0,Aa Ab 0,Aa Ab 0,Aa Ab 0] 75)).cell? ⟨b,off+(l.length-2),none⟩=some (.int .u8 (y.toNat:Int)):=Ae ((Below.refl _ _).alloc (Asp _) _) HV2.o;clear hw hx1;go_wp2_with fail;go_at_call 66;refine(Sm y _).mono ?_;rintro e w1 ⟨rfl,hb⟩;have HB:=Hd (Be ((Below.refl w.heap.size w).alloc (Asp _) _) hb);have HK:=Hd ((Ag.new w 75 #[Aa Ab 0,Aa Ab 0,Aa Ab 0,Aa Ab 0]).pure hb);have c0:=Al HK.o;have c1:=Ak HK.o;have c2:=Aj HK.o;have c3:=Am HK.o;have f0:=HK.o.frozen 0;have f1:=HK.o.frozen 1;have f2:=HK.o.frozen 2;have f3:=HK.o.frozen 3;have v1:=Ae HB.o HV1.o;clear v2 hb;by_cases hu:Gk y=0
   ·have HE4:=Hd (Aei h3 HX.o HY.o HW.o hu);rw [hu];clear hu;by_cases hp:(l.length:Int)-2-x.toNat<0
    ·have HE:=Hd (show Ec l=210 by rw [HE4.o,if_pos (.inl hp)]);have HR:=Hd (Mp (by rw [HE.o];decide));go_wp2;refine bodyPost_ret (v:= .tuple #[.agg #[Aa Ab 0,Aa Ab 0,Aa Ab 0,Aa Ab 0],Aa Ab 210]) (by simp [results,Tryz.results44,go_sem,c0,c1,c2,c3]) rfl ⟨Ko HR.o HE.o,?_⟩;exact(((HB.o.setCell (Asp _) _).setCell (Asp _) _).setCell (Asp _) _).setCell (Asp _) _
    ·have hp0:0≤(l.length:Int)-2-x.toNat:=by omega
     have hxn:(x.toNat==0)=false:=by simp;omega
     by_cases hm:((l.length:Int)-2-x.toNat) % x.toNat=0
     ·have HE:=Hd (show Ec l=0 by rw [HE4.o,if_neg (by omega)]);have HR:=Hd (Tm HX.o HY.o HE.o);have hm2:(((l.length:Int)-2) % (x.toNat:Int) != 0)=false:=by simpa using hm
      clear hm;go_wp2;refine bodyPost_ret (v:= .tuple #[.agg #[Aa Ab ((l.length:Int)-2-x.toNat),Aa Ab ((x.toNat:Nat):Int),Aa Ab (Jl y),Aa Ab (Kb y)],Aa Ab 0]) (by simp [results,Tryz.results44,go_sem,c0,c1,c2,c3]) rfl ⟨Ko HR.o HE.o,?_⟩;exact(((HB.o.setCell (Asp _) _).setCell (Asp _) _).setCell (Asp _) _).setCell (Asp _) _
     ·have HE:=Hd (show Ec l=210 by rw [HE4.o,if_pos (.inr hm)]);have HR:=Hd (Mp (by rw [HE.o];decide));have hm2:(((l.length:Int)-2) % (x.toNat:Int) != 0)=true:=by simpa using hm
      clear hm;go_wp2;refine bodyPost_ret (v:= .tuple #[.agg #[Aa Ab 0,Aa Ab 0,Aa Ab 0,Aa Ab 0],Aa Ab 210]) (by simp [results,Tryz.results44,go_sem,c0,c1,c2,c3]) rfl ⟨Ko HR.o HE.o,?_⟩;exact(((HB.o.setCell (Asp _) _).setCell (Asp _) _).setCell (Asp _) _).setCell (Asp _) _
   ·have HE:=Hd (Wm h3 HX.o HY.o HW.o hu);have HR:=Hd (Mp (by rw [HE.o];exact hu));have hne:(Gk y != 0)=true:=by simpa using hu
    clear hu;go_wp2;refine bodyPost_ret (v:= .tuple #[.agg #[Aa Ab 0,Aa Ab 0,Aa Ab 0,Aa Ab 0],Aa Ab (Gk y)]) (by simp [results,Tryz.results44,go_sem,c0,c1,c2,c3]) rfl ⟨Ko HR.o HE.o,?_⟩;exact(((HB.o.setCell (Asp _) _).setCell (Asp _) _).setCell (Asp _) _).setCell (Asp _) _
theorem Aeo{t:Int}(ht:Jw t=true):∀w,(Instr.index 313 (.agg Ka) (Aa Ab t)).run Tryz.prog w= .ok (.agg (Vq t.toNat).toArray) w:=by
 have h:∀n:Fin 37,∀w,(Instr.index 313 (.agg Ka) (Aa Ab ((n.val:Nat):Int))).run Tryz.prog w= .ok (.agg (Vq ((n.val:Nat):Int).toNat).toArray) w:=by
  intro n;rcases n with⟨n,hn⟩
  have:n=0∨n=1∨n=2∨n=3∨n=4∨n=5∨n=6∨n=7∨n=8∨n=9∨n=10∨n=11∨n=12∨n=13∨n=14∨n=15∨n=16∨n=17∨n=18∨n=19∨n=20∨n=21∨n=22∨n=23∨n=24∨n=25∨n=26∨n=27∨n=28∨n=29∨n=30∨n=31∨n=32∨n=33∨n=34∨n=35∨n=36:=by omega
  rcases this with rfl|rfl|rfl|rfl|rfl|rfl|rfl|rfl|rfl|rfl|rfl|rfl|rfl|rfl|rfl|rfl|rfl|rfl|rfl|rfl|rfl|rfl|rfl|rfl|rfl|rfl|rfl|rfl|rfl|rfl|rfl|rfl|rfl|rfl|rfl|rfl|rfl
  all_goals
   intro w
   kernel_rfl
 exact Kq (p:=fun t=>∀w,(Instr.index 313 (.agg Ka) (Aa Ab t)).run Tryz.prog w= .ok (.agg (Vq t.toNat).toArray) w) h ht
def K4(t:Int):Bool:=decide (t=9∨t=10)||Xa t
def Ce(t:Int):Bool:=decide (t=9∨t=10)
def aheadT(t:Int):Nat:=if t=9 then 3 else if 0<D7 t then 0 else 1
def tgs(t:Int):Nat:=if Ce t=true then 1 else 0
theorem Aen{t:Int}(ht:Jw t=true):
  (K4 t=false∧Vq t.toNat=[Aa Ab 0,.nilFunc,.nilFunc,Aa Ab 0])∨
  (K4 t=true∧0<D7 t∧D7 t≤4∧Ce t=false∧aheadT t=0∧Vq t.toNat=[Aa Ab 0,Ju 339,Ju 340,Aa Ab 0])∨
  (K4 t=true∧D7 t=0∧(aheadT t=1∨aheadT t=3)∧Vq t.toNat=[Aa Ab (aheadT t:Int),Ju 341,(if Ce t=true then Ju 342 else Ju 340),Aa Ab (tgs t:Int)]):=by
 have hb:=Fs.1 ht;have:t=0∨t=1∨t=2∨t=3∨t=4∨t=5∨t=6∨t=7∨t=8∨t=9∨t=10∨t=11∨t=12∨t=13∨t=14∨t=15∨t=16∨t=17∨t=18∨t=19∨t=20∨t=21∨t=22∨t=23∨t=24∨t=25∨t=26∨t=27∨t=28∨t=29∨t=30∨t=31∨t=32∨t=33∨t=34∨t=35∨t=36:=by omega
 clear hb ht;rcases this with rfl|rfl|rfl|rfl|rfl|rfl|rfl|rfl|rfl|rfl|rfl|rfl|rfl|rfl|rfl|rfl|rfl|rfl|rfl|rfl|rfl|rfl|rfl|rfl|rfl|rfl|rfl|rfl|rfl|rfl|rfl|rfl|rfl|rfl|rfl|rfl|rfl
 all_goals first
  |exact .inl ⟨by decide,rfl⟩
  |exact .inr (.inl ⟨by decide,by decide,by decide,by decide,by decide,rfl⟩)
  |exact .inr (.inr ⟨by decide,by decide,by decide,rfl⟩)
theorem R9(A:Option Addr)(n c:Nat)(p q t v a:Int)(M:Nat)(w:World)(hm:D7 t=M)(hM:M≤4):
  Calls Tryz.prog 339 #[.slice A n c,.agg #[Aa Ab p,Aa Ab q,Aa Ab t,Aa Ab v],Aa Ab a] w fun e w'=>e= .returned (Aa Ac (M:Int))∧Below w.heap.size w w':=by
 have HB:=Hd ((Below.refl w.heap.size w).alloc (Asp _) (.cells #[Aa Ab p,Aa Ab q,Aa Ab t,Aa Ab v] 75));have HM:=Hd hm;clear hm;go_enter Tryz.func339,Tryz.ntmps339;go_wp2_with fail;go_at_call 302;refine(P7 t _).mono ?_;rw [HM.o];rintro e w1 ⟨rfl,hb⟩;replace HB:=Hd (Ad HB.o hb);clear hb;have hw:IntKind.u64.wrap (M:Int)=M:=B7 _ (by omega);go_wp2;go_ret;exact⟨rfl,HB.o⟩
theorem Ac5(A:Option Addr)(n c:Nat)(p q t:Int)(v a:Nat)(l:List UInt8)(w:World)(h:Cd w A n l)(hc:n≤c)(hn:n≤1099511627776)(ha:a≤1099511627776)(hv:v≤8):
  Calls Tryz.prog 341 #[.slice A n c,.agg #[Aa Ab p,Aa Ab q,Aa Ab t,Aa Ab v],Aa Ab a] w fun e w'=>e= .returned (Aa Ac (loadU l ((a:Int)-v) v:Nat))∧Below w.heap.size w w':=by
 have HL:=Hd (h.alloc (.cells #[Aa Ab p,Aa Ab q,Aa Ab t,Aa Ab v] 75));have HB:=Hd ((Below.refl w.heap.size w).alloc (Asp _) (.cells #[Aa Ab p,Aa Ab q,Aa Ab t,Aa Ab v] 75));clear h;go_enter Tryz.func341,Tryz.ntmps341;go_wp2_with fail;go_at_call 167;refine(Hy A n c ((a:Int)-v) v l _ HL.o hc (by omega)).mono ?_;rintro e w1 ⟨rfl,hb⟩;replace HB:=Hd (Ad HB.o hb);clear hb;go_wp2;go_ret;exact⟨rfl,HB.o⟩
theorem Jd(A:Option Addr)(n c:Nat)(p q t:Int)(v a U:Nat)(l:List UInt8)(w:World)(h:Cd w A n l)(hc:n≤c)(hn:n≤1099511627776)(ha:a≤1099511627776)(hv:v≤8)(hU:loadU l ((a:Int)-v) v=U):
  Calls Tryz.prog 341 #[.slice A n c,.agg #[Aa Ab p,Aa Ab q,Aa Ab t,Aa Ab v],Aa Ab a] w fun e w'=>e= .returned (Aa Ac (U:Int))∧Below w.heap.size w w':=by
 subst hU;exact Ac5 A n c p q t v a l w h hc hn ha hv
end Go.Proofs.YtgbjodnegkbfoaaGreat
