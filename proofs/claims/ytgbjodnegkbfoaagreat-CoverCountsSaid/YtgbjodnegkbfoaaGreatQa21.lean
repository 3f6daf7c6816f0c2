/- Parts of the proof. -/
import Derived.Test.YtgbjodnegkbfoaaGreatQa20
set_option maxHeartbeats 4000000
set_option maxRecDepth 100000
open Go.Value renaming int→Aa
open Go.IntKind renaming i64→Ab,u64→Ac
open Nat renaming le_refl→Ath,lt_of_lt_of_le→Atr
open List renaming getElem?_eq_getElem→Ati,mem_of_getElem?→Atu
namespace Go.Proofs.YtgbjodnegkbfoaaGreat
open Go.RowKit Go.Acc
theorem Ah1{w:World}{p:Nat→Prop}{vs:List Nv}{l:List Tr}{q:Int}(hl:vs.length=l.length)(hc:∀(i:Nat) v t,vs[i]?=some v→l[i]?=some t→Bk w p v t):
  (!(vs.any fun v=>Fe q v.k))=l.all fun x=>decide (q=0∨x.k=q):=by
 have hk:∀i (h1:i<vs.length) (h2:i<l.length),vs[i].k=l[i].k:=by
  intro i h1 h2;exact(hc i _ _ (Ati h1) (Ati h2)).fields.1.symm
 have he:vs.map (·.k)=l.map Tr.k:=by
  apply List.ext_getElem (by simpa using hl);intro i h1 h2;rw [List.getElem_map,List.getElem_map];exact hk i _ _
 have e1:(vs.any fun v=>Fe q v.k)=(vs.map (·.k)).any (Fe q):=by rw [List.any_map];rfl
 have e2:(l.all fun x=>decide (q=0∨x.k=q))=(l.map Tr.k).all fun y=>decide (q=0∨y=q):=by rw [List.all_map];rfl
 rw [e1,e2,he];clear e1 e2 he hk hl hc
 induction l.map Tr.k with
 |nil=>rfl
 |cons y r ih=>
  rw [List.any_cons,List.all_cons,Bool.not_or,ih]
  congr 1
  unfold Fe;by_cases h1:q=0 <;>by_cases h2:y=q <;>simp [h1,h2]
theorem Aqw{k:Int}(h1:1≤k)(h17:k≤17):k=2∨(Kt k=1∧(k=3∨k=8))∨(k=4∨k=9)∨(k=5∨k=6∨k=7)∨k=17∨k=15∨k=16∨(k=1∨k=10∨k=11∨k=12∨k=13∨k=14):=by
 by_cases h:k=3∨k=8
 ·exact .inr (.inl ⟨by rcases h with rfl|rfl <;>rfl,h⟩)
 ·omega
theorem Fk{α:World→World→Prop}{P:Program}{f:Nat}{args:Array Value}{w:World}{a b:Bool}(h:Calls P f args w fun e w'=>e= .returned (.bool a)∧α w w')(hab:a=b):Calls P f args w fun e w'=>e= .returned (.bool b)∧α w w':=by
 subst hab;exact h
theorem D0(k n:Int)(u:Nat)(s:List UInt8)(ks:List (List UInt8))(l:List Tr):Dv (.mk k n u s ks l)=
  (decide (1≤k∧k≤17)&&decide (k=2∨k=3∨k=8∨n=0)&&decide (k=4∨k=9∨u=0)&&decide (k=5∨k=6∨k=7∨s=[])&&decide (k=17∨ks=[])&&decide (k=2→n=0∨n=1)&&decide (k=17→ks.length=l.length)&&decide (k=15∨k=16→2≤l.length∧l.length≤4)&&l.all fun x=>decide (As k=0∨x.k=As k)):=rfl
theorem Ak5{x:Nv}{t:Tr}{p:Nat→Prop}{w:World}(h:Bk w p x t):Calls Tryz.prog 74 #[.agg #[Aa Ab x.k,Aa Ab x.n,Aa Ac (x.u:Int),.string ⟨x.s.toArray⟩,.slice x.A x.an x.ac,.slice x.B x.bn x.bc]] w fun e w'=>e= .returned (.bool (Dv t))∧Below w.heap.size w w':=by
 cases h with
 | @mk _ ks l vs h1 ha hac hx h2 hb hbc hy hl hc=>
  obtain⟨k,n,u,s,A,an,ac,B,bn,bc⟩:=x;simp only at h1 ha hac hx h2 hb hbc hy;have hka:ks.length=an:=h1.1;have hlb:l.length=bn:=by rw [←hl];exact h2.1
  have hk0:(ks=[])↔an=0:=by rw [←hka];exact List.length_eq_zero_iff.symm
  have hsd:(s== [])=decide (s=[]):=by cases s <;>rfl
  have hk1:(ks=[])=(an=0):=propext hk0;by_cases hr:1≤k∧k≤17
  ·obtain⟨r1,r17⟩:=hr;have hO:=fun q=>Ah1 (q:=q) hl hc
   have hbn:bn≤1099511627776:=by omega
   rcases Aqw r1 r17 with rfl|⟨hu,rfl|rfl⟩|(rfl|rfl)|(rfl|rfl|rfl)|rfl|rfl|rfl|(rfl|rfl|rfl|rfl|rfl|rfl)
   ·refine Fk (An1 2 n u s A an ac B bn bc vs (As 2) w h2 hbn r1 r17 rfl rfl rfl rfl rfl rfl) ?_;rw [hO,D0];generalize (l.all fun x=>decide (As 2=0∨x.k=As 2))=al;rw [hka,hlb];simp only [hk1];by_cases hn:n=0 <;>by_cases hu:u=0 <;>by_cases hs:s=[] <;>by_cases ha0:an=0 <;>simp [hn,hu,hs,ha0,hsd]
   ·refine Fk (Ae9 3 n u s A an ac B bn bc vs (As 3) w h2 hbn r1 r17 rfl rfl rfl rfl rfl rfl) ?_;rw [hO,D0];generalize (l.all fun x=>decide (As 3=0∨x.k=As 3))=al;rw [hka,hlb];simp only [hk1];by_cases hn:n=0 <;>by_cases hu:u=0 <;>by_cases hs:s=[] <;>by_cases ha0:an=0 <;>simp [hn,hu,hs,ha0,hsd]
   ·refine Fk (Ae9 8 n u s A an ac B bn bc vs (As 8) w h2 hbn r1 r17 rfl rfl rfl rfl rfl rfl) ?_;rw [hO,D0];generalize (l.all fun x=>decide (As 8=0∨x.k=As 8))=al;rw [hka,hlb];simp only [hk1];by_cases hn:n=0 <;>by_cases hu:u=0 <;>by_cases hs:s=[] <;>by_cases ha0:an=0 <;>simp [hn,hu,hs,ha0,hsd]
   ·refine Fk (Afa 4 n u s A an ac B bn bc vs (As 4) w h2 hbn r1 r17 rfl rfl rfl rfl rfl rfl) ?_;rw [hO,D0];generalize (l.all fun x=>decide (As 4=0∨x.k=As 4))=al;rw [hka,hlb];simp only [hk1];by_cases hn:n=0 <;>by_cases hu:u=0 <;>by_cases hs:s=[] <;>by_cases ha0:an=0 <;>simp [hn,hu,hs,ha0,hsd]
   ·refine Fk (Afa 9 n u s A an ac B bn bc vs (As 9) w h2 hbn r1 r17 rfl rfl rfl rfl rfl rfl) ?_;rw [hO,D0];generalize (l.all fun x=>decide (As 9=0∨x.k=As 9))=al;rw [hka,hlb];simp only [hk1];by_cases hn:n=0 <;>by_cases hu:u=0 <;>by_cases hs:s=[] <;>by_cases ha0:an=0 <;>simp [hn,hu,hs,ha0,hsd]
   ·refine Fk (Ws 5 n u s A an ac B bn bc vs (As 5) w h2 hbn r1 r17 rfl rfl rfl rfl rfl rfl) ?_;rw [hO,D0];generalize (l.all fun x=>decide (As 5=0∨x.k=As 5))=al;rw [hka,hlb];simp only [hk1];by_cases hn:n=0 <;>by_cases hu:u=0 <;>by_cases hs:s=[] <;>by_cases ha0:an=0 <;>simp [hn,hu,hs,ha0]
   ·refine Fk (Ws 6 n u s A an ac B bn bc vs (As 6) w h2 hbn r1 r17 rfl rfl rfl rfl rfl rfl) ?_;rw [hO,D0];generalize (l.all fun x=>decide (As 6=0∨x.k=As 6))=al;rw [hka,hlb];simp only [hk1];by_cases hn:n=0 <;>by_cases hu:u=0 <;>by_cases hs:s=[] <;>by_cases ha0:an=0 <;>simp [hn,hu,hs,ha0]
   ·refine Fk (Ws 7 n u s A an ac B bn bc vs (As 7) w h2 hbn r1 r17 rfl rfl rfl rfl rfl rfl) ?_;rw [hO,D0];generalize (l.all fun x=>decide (As 7=0∨x.k=As 7))=al;rw [hka,hlb];simp only [hk1];by_cases hn:n=0 <;>by_cases hu:u=0 <;>by_cases hs:s=[] <;>by_cases ha0:an=0 <;>simp [hn,hu,hs,ha0]
   ·refine Fk (Aqm 17 n u s A an ac B bn bc vs (As 17) w h2 hbn r1 r17 rfl rfl rfl rfl rfl rfl) ?_;rw [hO,D0];generalize (l.all fun x=>decide (As 17=0∨x.k=As 17))=al;rw [hka,hlb];simp only [hk1];by_cases hn:n=0 <;>by_cases hu:u=0 <;>by_cases hs:s=[] <;>by_cases ha0:an=0 <;>simp [hn,hu,hs,ha0,hsd]
   ·refine Fk (Anx 15 n u s A an ac B bn bc vs (As 15) w h2 hbn r1 r17 rfl rfl rfl rfl rfl rfl) ?_;rw [hO,D0];generalize (l.all fun x=>decide (As 15=0∨x.k=As 15))=al;rw [hka,hlb];simp only [hk1];by_cases hn:n=0 <;>by_cases hu:u=0 <;>by_cases hs:s=[] <;>by_cases ha0:an=0 <;>by_cases hb2:bn<2 <;>by_cases hb4:4<bn <;>simp [hn,hu,hs,ha0,hsd,hb2,hb4] <;>omega
   ·refine Fk (Anz 16 n u s A an ac B bn bc vs (As 16) w h2 hbn r1 r17 rfl rfl rfl rfl rfl rfl) ?_;rw [hO,D0];generalize (l.all fun x=>decide (As 16=0∨x.k=As 16))=al;rw [hka,hlb];simp only [hk1];by_cases hn:n=0 <;>by_cases hu:u=0 <;>by_cases hs:s=[] <;>by_cases ha0:an=0 <;>by_cases hb2:bn<2 <;>by_cases hb4:4<bn <;>simp [hn,hu,hs,ha0,hsd,hb2,hb4] <;>omega
   ·refine Fk (Mj 1 n u s A an ac B bn bc vs (As 1) w h2 hbn r1 r17 rfl rfl rfl rfl rfl rfl) ?_;rw [hO,D0];generalize (l.all fun x=>decide (As 1=0∨x.k=As 1))=al;rw [hka,hlb];simp only [hk1];by_cases hn:n=0 <;>by_cases hu:u=0 <;>by_cases hs:s=[] <;>by_cases ha0:an=0 <;>simp [hn,hu,hs,ha0,hsd]
   ·refine Fk (Mj 10 n u s A an ac B bn bc vs (As 10) w h2 hbn r1 r17 rfl rfl rfl rfl rfl rfl) ?_;rw [hO,D0];generalize (l.all fun x=>decide (As 10=0∨x.k=As 10))=al;rw [hka,hlb];simp only [hk1];by_cases hn:n=0 <;>by_cases hu:u=0 <;>by_cases hs:s=[] <;>by_cases ha0:an=0 <;>simp [hn,hu,hs,ha0,hsd]
   ·refine Fk (Mj 11 n u s A an ac B bn bc vs (As 11) w h2 hbn r1 r17 rfl rfl rfl rfl rfl rfl) ?_;rw [hO,D0];generalize (l.all fun x=>decide (As 11=0∨x.k=As 11))=al;rw [hka,hlb];simp only [hk1];by_cases hn:n=0 <;>by_cases hu:u=0 <;>by_cases hs:s=[] <;>by_cases ha0:an=0 <;>simp [hn,hu,hs,ha0,hsd]
   ·refine Fk (Mj 12 n u s A an ac B bn bc vs (As 12) w h2 hbn r1 r17 rfl rfl rfl rfl rfl rfl) ?_;rw [hO,D0];generalize (l.all fun x=>decide (As 12=0∨x.k=As 12))=al;rw [hka,hlb];simp only [hk1];by_cases hn:n=0 <;>by_cases hu:u=0 <;>by_cases hs:s=[] <;>by_cases ha0:an=0 <;>simp [hn,hu,hs,ha0,hsd]
   ·refine Fk (Mj 13 n u s A an ac B bn bc vs (As 13) w h2 hbn r1 r17 rfl rfl rfl rfl rfl rfl) ?_;rw [hO,D0];generalize (l.all fun x=>decide (As 13=0∨x.k=As 13))=al;rw [hka,hlb];simp only [hk1];by_cases hn:n=0 <;>by_cases hu:u=0 <;>by_cases hs:s=[] <;>by_cases ha0:an=0 <;>simp [hn,hu,hs,ha0,hsd]
   ·refine Fk (Mj 14 n u s A an ac B bn bc vs (As 14) w h2 hbn r1 r17 rfl rfl rfl rfl rfl rfl) ?_;rw [hO,D0];generalize (l.all fun x=>decide (As 14=0∨x.k=As 14))=al;rw [hka,hlb];simp only [hk1];by_cases hn:n=0 <;>by_cases hu:u=0 <;>by_cases hs:s=[] <;>by_cases ha0:an=0 <;>simp [hn,hu,hs,ha0,hsd]
  ·refine Fk (An0 k n u s A an ac B bn bc w hr) ?_;unfold Dv;simp [Tr.k,hr]
mutual
theorem Aer:∀(t:Tr) (d:Nat) (x:Nat×Tr),x∈Tr.pre d t→x.1+1≤d+(Tr.pre d t).length
 | .mk k n u s ks l,d,x,h=>by
  rw [Tr.pre] at h⊢;rw [List.length_cons];rcases List.mem_cons.1 h with rfl|h
  ·simp only;omega
  ·have:=Abw l (d+1) x h;omega
theorem Abw:∀(l:List Tr) (d:Nat) (x:Nat×Tr),x∈Tr.pre.Tr.preL d l→x.1+1≤d+(Tr.pre.Tr.preL d l).length
 | [],d,x,h=>by rw [Tr.pre.Tr.preL] at h;simp at h
 |t::r,d,x,h=>by
  rw [Tr.pre.Tr.preL] at h⊢;rw [List.length_append];rcases List.mem_append.1 h with h|h
  ·have:=Aer t d x h;omega
  ·have:=Abw r d x h;omega
end
theorem Ug{x:Nv}{t:Tr}{p:Nat→Prop}{w:World}(h:Bk w p x t)(hp:∀k,p k→k<w.heap.size)(hks:∀y∈Tr.pre 0 t,∀s∈y.2.ks,s.length≤1048576)(hm:(Tr.pre 0 t).length≤1048576):
  Calls Tryz.prog 32 #[.agg #[Aa Ab x.k,Aa Ab x.n,Aa Ac (x.u:Int),.string ⟨x.s.toArray⟩,.slice x.A x.an x.ac,.slice x.B x.bn x.bc]] w fun e w'=>e= .returned (Aa Ab (Fa F6 0 t 0).1)∧Below w.heap.size w w':=by
 obtain⟨Y,hO⟩:=h.ord 0;have hN:=hO.nodes;have hkp:∀W,Ga (fun k=>w.heap.size≤k) w W→∀k,p k→¬(w.heap.size≤k):=fun W _ k hk=>by have:=hp k hk;omega
 refine Aii x t Y p w (fun i=>match(Tr.pre 0 t)[i]? with|some y=>Dv y.2|none=>false) (fun i=>match(Tr.pre 0 t)[i]? with|some y=>Hc 70 71 y.2|none=>0) (Fa F6 0 t 0).1 hO hp (by rw [hN.1];omega) ?_ ?_ ?_ ?_
 ·intro y hy;obtain⟨i,hi,rfl⟩:=List.getElem_of_mem hy;obtain⟨t',ht',_⟩:=hN.2 i _ (Ati hi);have:=Aer t 0 _ (Atu ht');omega
 ·intro i y W hy hW;obtain⟨t',ht',hr⟩:=hN.2 i y hy;rw [ht'];exact Ak5 (Ve hr hW (hkp W hW))
 ·intro i y W hy hW;obtain⟨t',ht',hr⟩:=hN.2 i y hy;rw [ht'];have hr2:=Ve hr hW (hkp W hW);have hsm:=hks _ (Atu ht');obtain⟨q1,q2,q3,q4,_⟩:=hr2.fields;cases hr2 with
  | @mk _ ks l vs h1 ha hac hx h2 hb hbc hy' hl hc=>
   exact Agq y.2 ks _ W h1 (by omega) hsm rfl
 ·rw [Amg hN.1 ?_,(Ad9 t 0 0).1];intro i y z hy hz;obtain⟨t',ht',hr⟩:=hN.2 i y hy;rw [hz] at ht';injection ht' with ht'
  subst ht';simp [hz]
theorem Kg:F6.Ok:=⟨by decide,by decide,by decide,by decide,by decide⟩
def Ou(t:Tr):Prop:=(∀y∈Tr.pre 0 t,∀s∈y.2.ks,s.length≤1048576)∧(Tr.pre 0 t).length≤1048576
theorem Aao{t:Tr}(h:t.cost≤1000000):Ou t:=⟨fun y hy s hs=>by have:=Abz t 0 y hy s hs;omega,by have:=Aby t 0;omega⟩
def SdW(w:World)(t:Tr)(e:Ending)(w':World):Prop:=
 ∃y:Nv,e= .returned (.tuple #[.agg #[Aa Ab y.k,Aa Ab y.n,Aa Ac (y.u:Int),.string ⟨y.s.toArray⟩,.slice y.A y.an y.ac,.slice y.B y.bn y.bc],Aa Ab 0])∧Bk w' (fun b=>w.heap.size≤b∧b<w'.heap.size) y (Aq t)∧Below w.heap.size w w'
theorem Oo{x:Nv}{t:Tr}{p:Nat→Prop}{w:World}{er:Int}(h:Bk w p x t)(hp:∀k,p k→k<w.heap.size)(hfk:Ou t)(he:(Fa F6 0 t 0).1=er)(hne:er≠0):
  Calls Tryz.prog 37 #[.agg #[Aa Ab x.k,Aa Ab x.n,Aa Ac (x.u:Int),.string ⟨x.s.toArray⟩,.slice x.A x.an x.ac,.slice x.B x.bn x.bc]] w fun e w'=>e= .returned (.tuple #[.agg #[Aa Ab 0,Aa Ab 0,Aa Ac 0,.string ⟨#[]⟩,.slice none 0 0,.slice none 0 0],Aa Ab er])∧Below w.heap.size w w':=by
 obtain⟨xk,xn,xu,xs,XA,xan,xac,XB,xbn,xbc⟩:=x;have hba:=Ba w (.cells #[Aa Ab xk,Aa Ab xn,Aa Ac (xu:Int),.string ⟨xs.toArray⟩,.slice XA xan xac,.slice XB xbn xbc] 26) (.cells #[Aa Ab 0,Aa Ab 0,Aa Ac 0,.string ⟨#[]⟩,.slice none 0 0,.slice none 0 0] 26);have HX:=Hd ((Af.new w 26 #[Aa Ab xk,Aa Ab xn,Aa Ac (xu:Int),.string ⟨xs.toArray⟩,.slice XA xan xac,.slice XB xbn xbc]).alloc (.cells #[Aa Ab 0,Aa Ab 0,Aa Ac 0,.string ⟨#[]⟩,.slice none 0 0,.slice none 0 0] 26));have HR:=Hd (Af.new_ (w:=w.alloc (.cells #[Aa Ab xk,Aa Ab xn,Aa Ac (xu:Int),.string ⟨xs.toArray⟩,.slice XA xan xac,.slice XB xbn xbc] 26)) (g:=w.heap.size+1) (by simp) 26 #[Aa Ab 0,Aa Ab 0,Aa Ac 0,.string ⟨#[]⟩,.slice none 0 0,.slice none 0 0]);have HB:=Hd hba;have HCH:=Hd (Ug (h.pure hba) (fun k hk=>Atr (hp k hk) hba.size) hfk.1 hfk.2);rw [he] at HCH;have hb:(er != 0)=true:=by simpa using hne
 clear h hp hfk he hne hba;go_enter Tryz.func37,Tryz.ntmps37;go_upto_region 1 with fail
 generalize (w.alloc (.cells #[Aa Ab xk,Aa Ab xn,Aa Ac (xu:Int),.string ⟨xs.toArray⟩,.slice XA xan xac,.slice XB xbn xbc] 26)).alloc (.cells #[Aa Ab 0,Aa Ab 0,Aa Ac 0,.string ⟨#[]⟩,.slice none 0 0,.slice none 0 0] 26)=w1 at HX HR HB HCH⊢;generalize hbt:w.heap.size=bt at HX HR⊢;generalize hbr:bt+1=br at HR⊢;have HT:=Hd (And.intro hbt hbr);clear hbt hbr;obtain ⟨c0,c1,c2,c3,c4,c5⟩:=HX.o.c6;go_wp2_with fail;go_at_call 32;refine HCH.o.mono ?_;rintro e w2 ⟨rfl,hb2⟩;have HB2:=Hd (Ad HB.o hb2);have HR2:=Hd (HR.o.pure hb2);clear hb2 c0 c1 c2 c3 c4 c5;obtain ⟨r0,r1,r2,r3,r4,r5⟩:=HR2.o.c6;have hfz:∀j,w2.frozen? ⟨br,j,none⟩=false:=fun j=>HR2.o.frozen j
 have f0:=hfz 0;have f1:=hfz 1;have f2:=hfz 2;have f3:=hfz 3;have f4:=hfz 4;have f5:=hfz 5;clear hfz;go_wp2_with fail;refine bodyPost_ret (v:= .tuple #[.agg #[Aa Ab 0,Aa Ab 0,Aa Ac 0,.string ⟨#[]⟩,.slice none 0 0,.slice none 0 0],Aa Ab er]) (by simp [results,Tryz.results37,go_sem,r0,r1,r2,r3,r4,r5]) rfl ?_;have hf:=Fx w2 br (Aa Ab 0) (Aa Ab 0) (Aa Ac 0) (.string ⟨#[]⟩) (.slice none 0 0) (.slice none 0 0);exact⟨rfl,Bs HB2.o hf (by rintro j rfl;have:=HT.o;omega)⟩
theorem Qb{x:Nv}{t:Tr}{p:Nat→Prop}{w:World}(h:Bk w p x t)(hp:∀k,p k→k<w.heap.size)(hc:t.cost≤1000000)(he:(Fa F6 0 t 0).1=0):
  Calls Tryz.prog 37 #[.agg #[Aa Ab x.k,Aa Ab x.n,Aa Ac (x.u:Int),.string ⟨x.s.toArray⟩,.slice x.A x.an x.ac,.slice x.B x.bn x.bc]] w (SdW w t):=by
 have HV:=Hd (H0 Kg t 0 0 he);have hfk:=Aao hc;have HCO:=Hd hc;obtain⟨xk,xn,xu,xs,XA,xan,xac,XB,xbn,xbc⟩:=x;have hba:=Ba w (.cells #[Aa Ab xk,Aa Ab xn,Aa Ac (xu:Int),.string ⟨xs.toArray⟩,.slice XA xan xac,.slice XB xbn xbc] 26) (.cells #[Aa Ab 0,Aa Ab 0,Aa Ac 0,.string ⟨#[]⟩,.slice none 0 0,.slice none 0 0] 26);have HX:=Hd ((Af.new w 26 #[Aa Ab xk,Aa Ab xn,Aa Ac (xu:Int),.string ⟨xs.toArray⟩,.slice XA xan xac,.slice XB xbn xbc]).alloc (.cells #[Aa Ab 0,Aa Ab 0,Aa Ac 0,.string ⟨#[]⟩,.slice none 0 0,.slice none 0 0] 26));have HR:=Hd (Af.new_ (w:=w.alloc (.cells #[Aa Ab xk,Aa Ab xn,Aa Ac (xu:Int),.string ⟨xs.toArray⟩,.slice XA xan xac,.slice XB xbn xbc] 26)) (g:=w.heap.size+1) (by simp) 26 #[Aa Ab 0,Aa Ab 0,Aa Ac 0,.string ⟨#[]⟩,.slice none 0 0,.slice none 0 0]);have HB:=Hd hba;have HCH:=Hd (Ug (h.pure hba) (fun k hk=>Atr (hp k hk) hba.size) hfk.1 hfk.2);rw [he] at HCH;have HN:=Hd h;clear h hp hc hfk he hba;go_enter Tryz.func37,Tryz.ntmps37;go_upto_region 1 with fail
 generalize (w.alloc (.cells #[Aa Ab xk,Aa Ab xn,Aa Ac (xu:Int),.string ⟨xs.toArray⟩,.slice XA xan xac,.slice XB xbn xbc] 26)).alloc (.cells #[Aa Ab 0,Aa Ab 0,Aa Ac 0,.string ⟨#[]⟩,.slice none 0 0,.slice none 0 0] 26)=w1 at HX HR HB HCH⊢;generalize hbt:w.heap.size=bt at HX HR⊢;generalize hbr:bt+1=br at HR⊢;have HT:=Hd (And.intro hbt hbr);clear hbt hbr;obtain ⟨c0,c1,c2,c3,c4,c5⟩:=HX.o.c6;go_wp2_with fail;go_at_call 32;refine HCH.o.mono ?_;rintro e w2 ⟨rfl,hb2⟩;have HB2:=Hd (Ad HB.o hb2);have HR2:=Hd (HR.o.pure hb2);have hX2:=HX.o.pure hb2;clear hb2 c0 c1 c2 c3 c4 c5;obtain ⟨c0,c1,c2,c3,c4,c5⟩:=hX2.c6;have HCP:=Hd (Aiq HN.o w2 HB2.o);clear hX2;go_wp2_with fail;go_at_call 80;refine HCP.o.mono ?_;rintro e w3 ⟨y,rfl,hX3,hB3⟩;have HX3:=Hd hX3;have HB3:=Hd (Ad HB2.o hB3);have HR3:=Hd (HR2.o.pure hB3);have HSZ:=Hd (show br<w2.heap.size∧w2.heap.size≤w3.heap.size from⟨HR2.o.lt,hB3.size⟩);have HSO:=Hd (Ads hX3 (fun k hk=>hk.2) HV.o (Nat.le_trans HCO.o (by decide)) w3 (fun _ _=>rfl) (Ath _));clear hX3 hB3 c0 c1 c2 c3 c4 c5;go_wp2_with fail;go_at_call 79;refine HSO.o.mono ?_;rintro e w4 ⟨z,rfl,hN4,hF4⟩;have HN4:=Hd hN4;have HF4:=Hd hF4;have hs:=HSZ.o;have HB4:=Hd (Bs HB3.o hF4 (fun k hk=>by have h1:=HB2.o.size;omega));have HR4:=Hd (HR3.o.fr hF4 (fun hk=>by omega));clear hN4 hF4 hs;obtain ⟨r0,r1,r2,r3,r4,r5⟩:=HR4.o.c6;have hfz:∀j,w4.frozen? ⟨br,j,none⟩=false:=fun j=>HR4.o.frozen j
 have f0:=hfz 0;have f1:=hfz 1;have f2:=hfz 2;have f3:=hfz 3;have f4:=hfz 4;have f5:=hfz 5;clear hfz;go_wp2_with fail;refine bodyPost_ret (v:= .tuple #[.agg #[Aa Ab z.k,Aa Ab z.n,Aa Ac (z.u:Int),.string ⟨z.s.toArray⟩,.slice z.A z.an z.ac,.slice z.B z.bn z.bc],Aa Ab 0]) (by simp [results,Tryz.results37,go_sem,r0,r1,r2,r3,r4,r5]) rfl ?_;have hf:=Fx w4 br (Aa Ab z.k) (Aa Ab z.n) (Aa Ac (z.u:Int)) (.string ⟨z.s.toArray⟩) (.slice z.A z.an z.ac) (.slice z.B z.bn z.bc);have hs:=HSZ.o;have ht:=HT.o;have h4:=HF4.o.size;have h5:=hf.size;exact⟨z,rfl,(HN4.o.keep fun a u hc hp=>By hf hc (by rcases hp with hp|hp <;>omega)).mono fun b hb=>by rcases hb with hb|hb <;>exact⟨by omega,by omega⟩,Bs HB4.o hf (by rintro j rfl;omega)⟩
theorem Cx{I:Nat→Prop}{w w':World}{o o':Nat→Nat}(h:To I w o w' o'){p:Addr}{v:Value}(hc:w.cell? p=some v)(hI:¬I (o p.block)):w'.cell? p=some v:=
 (h.fr.cell (Ar hc) hI).trans hc
theorem N7(M:Bp)(fl:Int)(b:Bd)(kv:Bv)(i bx bi bv:Nat)(A:Option Addr)(n c:Nat)(vs:List Bv)(w:World)(o:Nat→Nat)(h:BM M fl w o b)(hx:Af w bx 120 #[.pointer (some ⟨M.β,0,none⟩)])(hi:Af w bi 3 #[Aa Ab (i:Int)])(hv':Af w bv 185 #[.slice A n c])(hox:o bx=0)(hoi:o bi≠1)(hov:o bv=0)
  (hv:D9 w A n (vs.map vv)) (ho:∀ad,A=some ad→ad.block<w.heap.size∧o ad.block=0) (hki:b.vals[i]?=some kv) (hs:b.s.length<65536) (hok:D1 vs b.b) (hkt:kv.t=14) (hkw:Av (kv.w:Int)=true) (hkf:Dx b.b.length kv):
  Calls Tryz.prog 330 #[.pointer (some ⟨bx,0,none⟩),.pointer (some ⟨bi,0,none⟩),.pointer (some ⟨bv,0,none⟩)] w (Cq M fl { b with b:=(Ds kv vs b.b).1,s:=b.s++ [(Ds kv vs b.b).2]} w o):=by
 obtain⟨A8,m8,c8,hb8,ho8,hof8,hoβ⟩:=h.head;have hn8:b.vals.length=m8:=by have:=ho8.is.1;simpa using this
 have hin:i<m8:=by have:=(List.getElem?_eq_some_iff.1 hki).1;omega
 obtain⟨g,off,kv',e8,hkv',xa,xb,xc⟩:=Gt ho8.is hin;obtain rfl:kv=kv':=by rw [hki] at hkv';injection hkv'
 subst e8;have hog:o g=8:=hof8 _ rfl;have hA:=(Below.refl w.heap.size w).alloc (Ath _) (.cells #[Aa Ab 0,Aa Ab 0,Aa Ac 0] 210);have hAD:=hA.drew;have hM0:=h.fresh hAD 9;have HX0:=Hd (show Af (w.alloc (.cells #[Aa Ab 0,Aa Ab 0,Aa Ac 0] 210)).drew w.heap.size 210 #[Aa Ab 0,Aa Ab 0,Aa Ac 0] from Af.new _ _ _);have HO0:=Hd (show Ak o w.heap.size 9 w.heap.size=9 from Am (Ath _));have HT0:=Hd (To.fresh B7 hAD o 9);have HM:=Hd hM0;have HS:=Hd hs;have HBX:=Hd (hx.pure hAD);have HBB:=Hd (hx.pure ((Below.refl w.heap.size w).drew));have HOW:=Hd (And.intro hox (And.intro hoi (And.intro hov (And.intro hoβ hog))));have HMB:=Hd h.drew;have HPB:=Hd (X5 M.bb n c A vs kv b.b w.drew o h.drew.buf (hv.pure (Below.refl w.heap.size w).drew) (fun ad e=>⟨(ho ad e).1,by rw [(ho ad e).2];omega⟩) hok hkt hkw hkf);have HP:=Hd (X5 M.bb n c A vs kv b.b (w.alloc (.cells #[Aa Ab 0,Aa Ab 0,Aa Ac 0] 210)).drew (Ak o w.heap.size 9) hM0.buf (hv.pure hAD) (fun ad e=>⟨Atr (ho ad e).1 hAD.size,by rw [Au (ho ad e).1,(ho ad e).2];omega⟩) hok hkt hkw hkf);have x0:w.cell? ⟨bx,0,none⟩=some (.pointer (some ⟨M.β,0,none⟩)):=hx.cell 0;have x1:w.cell? ⟨bi,0,none⟩=some (Aa Ab (i:Int)):=hi.cell 0;have x3:w.cell? ⟨bv,0,none⟩=some (.slice A n c):=hv'.cell 0;have x4:w.cell? ⟨M.β,0,none⟩=some (.pointer (some ⟨M.bb,0,none⟩)):=hb8.cell 0;have x8:w.cell? ⟨M.β,8,none⟩=some (.slice (some ⟨g,off,none⟩) m8 c8):=hb8.cell 8;have n0:bx≠w.heap.size:=Nat.ne_of_lt (Ar x0);have n0_:bx<w.heap.size:=Ar x0;have n1:bi≠w.heap.size:=Nat.ne_of_lt (Ar x1);have n1_:bi<w.heap.size:=Ar x1;have n3:bv≠w.heap.size:=Nat.ne_of_lt (Ar x3);have n3_:bv<w.heap.size:=Ar x3;have n4:M.β≠w.heap.size:=Nat.ne_of_lt (Ar x4);have n4_:M.β<w.heap.size:=Ar x4;have n8:M.β≠w.heap.size:=Nat.ne_of_lt (Ar x8);have n8_:M.β<w.heap.size:=Ar x8;have na:g≠w.heap.size:=Nat.ne_of_lt (Ar xa);have na_:g<w.heap.size:=Ar xa;have nb:g≠w.heap.size:=Nat.ne_of_lt (Ar xb);have nb_:g<w.heap.size:=Ar xb;have nc:g≠w.heap.size:=Nat.ne_of_lt (Ar xc);have nc_:g<w.heap.size:=Ar xc;have hi0:(0:Int)≤(i:Int):=by omega
 have hin':(i:Int)<(m8:Int):=by omega
 obtain⟨r,hr⟩:∃r,Ds kv vs b.b=r:=⟨_,rfl⟩;rw [hr] at HP HPB⊢;obtain⟨l',v'⟩:=r;clear h hx hi hv' hox hoi hov hv ho hki hs hok hkt hkw hkf hb8 ho8 hof8 hoβ hog hkv' hA hAD hM0 hr hn8;go_enter Tryz.func330,Tryz.ntmps330;go_wp2_with fail;go_cut [3,4] (fun u4 u5 wx=>∃wy,wy=wx∧u5= Aa Ab 0∧∃b4 o4,u4= .pointer (some ⟨b4,0,none⟩)∧BM M fl wx o4 { b with b:=l'}∧Af wx bx 120 #[.pointer (some ⟨M.β,0,none⟩)]∧o4 bx=0∧Af wx b4 210 #[Aa Ab (v'.t:Int),Aa Ab (v'.w:Int),Aa Ac (v'.n:Int)]∧o4 b4=9∧To B7 w o wx o4)
 case first=>
  go_region_held3 (fun w'=>w'.cell? ⟨bx,0,none⟩=some (.pointer (some ⟨M.β,0,none⟩))∧w'.cell? ⟨bi,0,none⟩=some (Aa Ab (i:Int))∧w'.cell? ⟨bv,0,none⟩=some (.slice A n c)∧w'.cell? ⟨M.β,0,none⟩=some (.pointer (some ⟨M.bb,0,none⟩))∧w'.cell? ⟨M.β,8,none⟩=some (.slice (some ⟨g,off,none⟩) m8 c8)∧w'.cell? ⟨g,off+i*3,none⟩=some (Aa Ab (kv.t:Int))∧w'.cell? ⟨g,off+i*3+1,none⟩=some (Aa Ab (kv.w:Int))∧w'.cell? ⟨g,off+i*3+2,none⟩=some (Aa Ac (kv.n:Int))) (first|with_reducible exact⟨x0,x1,x3,x4,x8,xa,xb,xc⟩|with_reducible exact⟨Ae x0,Ae x1,Ae x3,Ae x4,Ae x8,Ae xa,Ae xb,Ae xc⟩|with_reducible exact⟨Al _ x0,Al _ x1,Al _ x3,Al _ x4,Al _ x8,Al _ xa,Al _ xb,Al _ xc⟩|with_reducible exact⟨Ae (Al _ x0),Ae (Al _ x1),Ae (Al _ x3),Ae (Al _ x4),Ae (Al _ x8),Ae (Al _ xa),Ae (Al _ xb),Ae (Al _ xc)⟩|with_reducible exact⟨y0,y1,y3,y4,y8,ya,yb,yc⟩|with_reducible exact⟨Al _ y0,Al _ y1,Al _ y3,Al _ y4,Al _ y8,Al _ ya,Al _ yb,Al _ yc⟩|with_reducible exact⟨Eh (Al _ y0) p0,Eh (Al _ y1) p1,Eh (Al _ y3) p3,Eh (Al _ y4) p4,Eh (Al _ y8) p8,Eh (Al _ ya) pa,Eh (Al _ yb) pb,Eh (Al _ yc) pc⟩|with_reducible exact⟨Eh y0 n0,Eh y1 n1,Eh y3 n3,Eh y4 n4,Eh y8 n8,Eh ya na,Eh yb nb,Eh yc nc⟩) (first|(go_at_call 331;(with_reducible refine HP.o.mono ?_);rintro e W1 ⟨rfl,o1,hB1,hT1⟩;have hM1:=HM.o.buf_ hT1 hB1;have y0:W1.cell? ⟨bx,0,none⟩=some (.pointer (some ⟨M.β,0,none⟩)):=Cx hT1 (Al _ x0) (by rw [Au n0_,HOW.o.1];omega);have y1:W1.cell? ⟨bi,0,none⟩=some (Aa Ab (i:Int)):=Cx hT1 (Al _ x1) (by rw [Au n1_];exact HOW.o.2.1);have y3:W1.cell? ⟨bv,0,none⟩=some (.slice A n c):=Cx hT1 (Al _ x3) (by rw [Au n3_,HOW.o.2.2.1];omega);have y4:W1.cell? ⟨M.β,0,none⟩=some (.pointer (some ⟨M.bb,0,none⟩)):=Cx hT1 (Al _ x4) (by rw [Au n4_,HOW.o.2.2.2.1];omega);have y8:W1.cell? ⟨M.β,8,none⟩=some (.slice (some ⟨g,off,none⟩) m8 c8):=Cx hT1 (Al _ x8) (by rw [Au n8_,HOW.o.2.2.2.1];omega);have ya:W1.cell? ⟨g,off+i*3,none⟩=some (Aa Ab (kv.t:Int)):=Cx hT1 (Al _ xa) (by rw [Au na_,HOW.o.2.2.2.2];omega);have yb:W1.cell? ⟨g,off+i*3+1,none⟩=some (Aa Ab (kv.w:Int)):=Cx hT1 (Al _ xb) (by rw [Au nb_,HOW.o.2.2.2.2];omega);have yc:W1.cell? ⟨g,off+i*3+2,none⟩=some (Aa Ac (kv.n:Int)):=Cx hT1 (Al _ xc) (by rw [Au nc_,HOW.o.2.2.2.2];omega);have hX1:=HX0.o.to_ hT1 (by rw [HO0.o];omega);have f0:=hX1.frozen 0;have f1:=hX1.frozen 1;have f2:=hX1.frozen 2;obtain ⟨z0,z1,z2⟩:=hX1.c3;have HO1:=Hd (show o1 w.heap.size=9 from(hT1.ow _ HX0.o.lt).trans HO0.o);have HX1:=Hd hX1;have HM1:=Hd hM1;have HB1:=Hd (HBX.o.to_ hT1 (by rw [Au n0_,HOW.o.1];omega));have HOB:=Hd (show o1 bx=0 from(hT1.ow _ HBX.o.lt).trans ((Au n0_).trans HOW.o.1));have HT1:=Hd (HT0.o.trans (hT1.mono fun _ h=>Ia h));clear hB1 hT1 hM1 hX1)|(go_at_call 331;(with_reducible refine HPB.o.mono ?_);rintro e W1 ⟨rfl,o1,hB1,hT1⟩;have hM1:=HMB.o.buf_ hT1 hB1;have y0:W1.cell? ⟨bx,0,none⟩=some (.pointer (some ⟨M.β,0,none⟩)):=Cx hT1 x0 (by rw [HOW.o.1];omega);have y1:W1.cell? ⟨bi,0,none⟩=some (Aa Ab (i:Int)):=Cx hT1 x1 (by exact HOW.o.2.1);have y3:W1.cell? ⟨bv,0,none⟩=some (.slice A n c):=Cx hT1 x3 (by rw [HOW.o.2.2.1];omega);have y4:W1.cell? ⟨M.β,0,none⟩=some (.pointer (some ⟨M.bb,0,none⟩)):=Cx hT1 x4 (by rw [HOW.o.2.2.2.1];omega);have y8:W1.cell? ⟨M.β,8,none⟩=some (.slice (some ⟨g,off,none⟩) m8 c8):=Cx hT1 x8 (by rw [HOW.o.2.2.2.1];omega);have ya:W1.cell? ⟨g,off+i*3,none⟩=some (Aa Ab (kv.t:Int)):=Cx hT1 xa (by rw [HOW.o.2.2.2.2];omega);have yb:W1.cell? ⟨g,off+i*3+1,none⟩=some (Aa Ab (kv.w:Int)):=Cx hT1 xb (by rw [HOW.o.2.2.2.2];omega);have yc:W1.cell? ⟨g,off+i*3+2,none⟩=some (Aa Ac (kv.n:Int)):=Cx hT1 xc (by rw [HOW.o.2.2.2.2];omega);have p0:bx≠W1.heap.size:=Nat.ne_of_lt (Ar y0);have p1:bi≠W1.heap.size:=Nat.ne_of_lt (Ar y1);have p3:bv≠W1.heap.size:=Nat.ne_of_lt (Ar y3);have p4:M.β≠W1.heap.size:=Nat.ne_of_lt (Ar y4);have p8:M.β≠W1.heap.size:=Nat.ne_of_lt (Ar y8);have pa:g≠W1.heap.size:=Nat.ne_of_lt (Ar ya);have pb:g≠W1.heap.size:=Nat.ne_of_lt (Ar yb);have pc:g≠W1.heap.size:=Nat.ne_of_lt (Ar yc);have HM1:=Hd hM1;have HB1:=Hd (HBB.o.to_ hT1 (by rw [HOW.o.1];omega));have HOB:=Hd (show o1 bx=0 from(hT1.ow _ HBB.o.lt).trans HOW.o.1);have HT1:=Hd (hT1.from_drew.mono fun _ h=>Ia h);clear hB1 hT1 hM1))
  all_goals
   go_wp2_with fail;go_meet
  all_goals
   first
   |exact⟨_,rfl,rfl,w.heap.size,o1,rfl,HM1.o.to_ (to9 HO1.o _ _ _) Nh,HB1.o.to_ (to9 HO1.o _ _ _) (by rw [HOB.o];decide),HOB.o,((HX1.o.set_ 0 (Aa Ab (v'.t:Int))).set_ 1 (Aa Ab (v'.w:Int))).set_ 2 (Aa Ac (v'.n:Int)),HO1.o,((HT1.o.set_new (p:=⟨w.heap.size,0,none⟩) (Ath _) _).set_new (p:=⟨w.heap.size,1,none⟩) (Ath _) _).set_new (p:=⟨w.heap.size,2,none⟩) (Ath _) _⟩
   |exact⟨_,rfl,rfl,W1.heap.size,Ak o1 W1.heap.size 9,rfl,HM1.o.fresh ((Below.refl W1.heap.size W1).alloc (Ath _) _) 9,HB1.o.pure ((Below.refl W1.heap.size W1).alloc (Ath _) _),(Au HB1.o.lt).trans HOB.o,Af.new _ _ _,Am (Ath _),HT1.o.trans (To.fresh B7 ((Below.refl W1.heap.size W1).alloc (Ath _) _) o1 9)⟩
 case rest=>
  obtain⟨w4,rfl,rfl,b4,o4,rfl,hM4,hC4,hC4o,hX4,hO4,hT4⟩:=hcut;have HM4:=Hd hM4;have HC4:=Hd hC4;have HC4O:=Hd hC4o;have HX4:=Hd hX4;have HO4:=Hd hO4;have HT4:=Hd hT4;clear hM4 hC4 hC4o hX4 hO4 hT4 x0 n0 n0_ x1 n1 n1_ x3 n3 n3_ x4 n4 n4_ x8 n8 n8_ xa na na_ xb nb nb_ xc nc nc_ HM HP HPB HMB HX0 HO0 HT0 HBX HBB HOW;have x0:w4.cell? ⟨bx,0,none⟩=some (.pointer (some ⟨M.β,0,none⟩)):=HC4.o.cell 0;go_wp2_with fail;go_at_call 157;refine(Ha HM4.o).mono ?_;rintro e w5 ⟨rfl,o5,hM5,hT5⟩;have HM5:=Hd hM5;have HC5:=Hd (HC4.o.to_ hT5 (by rw [HC4O.o];exact Bi));have HC5O:=Hd (show o5 bx=0 from(hT5.ow _ HC4.o.lt).trans HC4O.o);have HX5:=Hd (HX4.o.to_ hT5 (by rw [HO4.o];exact fun h=>Nh 9 h rfl));have HO5:=Hd (show o5 b4=9 from(hT5.ow _ HX4.o.lt).trans HO4.o);have HT5:=Hd (HT4.o.trans hT5);clear hM5 hT5 x0;have x0:w5.cell? ⟨bx,0,none⟩=some (.pointer (some ⟨M.β,0,none⟩)):=HC5.o.cell 0;obtain ⟨v0,v1,v2⟩:=HX5.o.c3;go_wp2_with fail;go_region_held3 (fun w'=>w'.cell? ⟨bx,0,none⟩=some (.pointer (some ⟨M.β,0,none⟩))∧w'.cell? ⟨b4,0,none⟩=some (Aa Ab (v'.t:Int))∧w'.cell? ⟨b4,1,none⟩=some (Aa Ab (v'.w:Int))∧w'.cell? ⟨b4,2,none⟩=some (Aa Ac (v'.n:Int))) (first|with_reducible exact⟨x0,v0,v1,v2⟩|with_reducible exact⟨Ae x0,Ae v0,Ae v1,Ae v2⟩|with_reducible exact⟨y0,y1,y2,y3⟩) (first|(go_at_call 235;(with_reducible refine(Mb M fl { b with b:=l'} v' _ o5 HM5.o.drew HS.o).mono ?_);rintro e w6 ⟨rfl,o6,hM6,hT6⟩;have y0:w6.cell? ⟨bx,0,none⟩=some (.pointer (some ⟨M.β,0,none⟩)):=(HC5.o.to_ hT6.from_drew (by rw [HC5O.o];exact Bi)).cell 0;have hX6:=HX5.o.to_ hT6.from_drew (by rw [HO5.o];exact fun h=>Nh 9 h rfl);obtain ⟨y1,y2,y3⟩:=hX6.c3;have HM6:=Hd hM6;have HT6:=Hd (HT5.o.trans hT6.from_drew);clear hM6 hT6 hX6));go_wp2_with fail;go_end0;exact⟨rfl,o6,HM6.o,HT6.o⟩
theorem Yo{ops:Array Oper}{o:Oper}{a:Act}{w:World}{K:Act→World→Prop}{Q:Exit→Act→World→Prop}{E:Prop}(hgd:o.guard=none)(s x:Operand)
  (ho:o.op= .call { callee:= .builtin .append,args:=#[s,x],argTypes:=#[185,185]})
  (B:Nat) (A:Option Addr) (n c:Nat) (l:List V3) (hs:a.eval s= .slice A n c) (hown:Fg w B A n c l)
  (A2:Option Addr) (m d:Nat) (l2:List V3) (hx:a.eval x= .slice A2 m d) (hr:D9 w A2 m l2)
  (hbytes:n+m≤1099511627776) (hbase:B≤w.heap.size)
  (h:∀A' c' w',Fg w' B A' (n+m) c' (l++l2)→Fr (fun k=>∃ad,A=some ad∧k=ad.block) w w'→(A'.map (·.block)=A.map (·.block)∨A'.map (·.block)=some w.heap.size)→K (a.put o.dst (.slice A' (n+m) c')) w'):
  if Region.wanted o (yielded ops a.tmps)=true then Oper.wp Tryz.prog o a w K Q else E:=by
 have hw:Region.wanted o (yielded ops a.tmps)=true:=by simp [Region.wanted,hgd]
 rw [if_pos hw];obtain⟨i,hi',hz,hsize,hby⟩:=info_parts Kj;have e2:n+m≤maxLen:=by simp only [maxLen];omega
 obtain⟨v',w',hrun,h2,h3,h4⟩:=Lu (P:=Tryz.prog) w B 185 o.type 210 i _ 3 24 Tryz.underlying185 hi' hz hsize hby rfl (by omega) (.slice A n c) n (l.flatMap vc) hown.2 A2 m d (l2.flatMap vc) (by rw [Bj Gz,hr.1]) hr.2 (Q0 Ku l2) e2 (by omega) hbase;obtain⟨A',c',rfl,ho'⟩:=Own.mk Gz (by omega) (l:=l++l2) h2 List.flatMap_append.symm;have hk:=h A' c' w' ho' ((Fr.of_grown h3).mono fun i _ hi=>by
  cases A with
  |none=>simp [Value.ownBlock] at hi
  |some ad=>simp [Value.ownBlock] at hi;exact⟨ad,rfl,hi⟩) (by
  rcases h4 with h4|h4
  ·left;revert h4;cases A' <;>cases A <;>simp [Value.ownBlock]
  ·right;revert h4;cases A' <;>simp [Value.ownBlock])
 clear h ho' h2 h3 h4;unfold Oper.wp;simp only [execOp,ho,resolve,invoke,builtin,Sem.run_bind,Sem.run_pure,Result.andThen_ok,List.map_toArray,List.map_cons,List.map_nil,hs,hx,hrun];exact hk
theorem Aav{M:Bp}{fl:Int}{w W0 W1:World}{o:Nat→Nat}{vals:List Bv}{A A':Option Addr}{n c c':Nat}{v:Bv}(hb:Af w M.β 189 #[.pointer (some ⟨M.bb,0,none⟩),.pointer (some ⟨M.sb,0,none⟩),Aa Ab 0,Aa Ab fl,.pointer (some ⟨M.kb,0,none⟩),.pointer (some ⟨M.tb,0,none⟩),.pointer (some ⟨M.lb,0,none⟩),.map (some M.mb),.slice A n c,.bool true])(h0:Fg w 0 A n c (vals.map vv))(hof:Of o A 8)(hβ:o M.β=2)(hW:Below w.heap.size w W0)
  (hown:Fg W1 0 A' (n+1) c' (vals.map vv++ [vv v])) (hfr:Fr (fun k=>∃ad,A=some ad∧k=ad.block) W0 W1) (hat:A'.map (·.block)=A.map (·.block)∨A'.map (·.block)=some W0.heap.size):
  Gf M fl (W1.setCell ⟨M.β,8,none⟩ (.slice A' (n+1) c')) (Ak o w.heap.size 8) (vals++ [v])∧To (fun i=>i=2∨i=8) w o (W1.setCell ⟨M.β,8,none⟩ (.slice A' (n+1) c')) (Ak o w.heap.size 8):=by
 have hne:∀ad,A=some ad→M.β≠ad.block:=fun ad e h=>by
  have h1:=hof ad e;rw [←h,hβ] at h1;omega
 have hb1:Af W1 M.β 189 #[.pointer (some ⟨M.bb,0,none⟩),.pointer (some ⟨M.sb,0,none⟩),Aa Ab 0,Aa Ab fl,.pointer (some ⟨M.kb,0,none⟩),.pointer (some ⟨M.tb,0,none⟩),.pointer (some ⟨M.lb,0,none⟩),.map (some M.mb),.slice A n c,.bool true]:=(hb.pure hW).fr hfr (by rintro⟨ad,e,h⟩;exact hne ad e h);have hof':Of (Ak o w.heap.size 8) A' 8:=by
  intro ad e;subst e;rcases hat with e|e
  ·cases A with
   |none=>cases e
   |some a0=>
    injection e with e
    have e:ad.block=a0.block:=e;rw [e,Au (h0.addr a0 rfl).2.2];exact hof a0 rfl
  ·injection e with e
   have e:ad.block=W0.heap.size:=e;rw [e,Am hW.size]
 have hβ':Ak o w.heap.size 8 M.β=2:=by rw [Au hb.lt];exact hβ
 refine⟨⟨A',n+1,c',hb1.set_ 8 (.slice A' (n+1) c'),?_,hof',hβ'⟩,?_⟩
 ·rw [List.map_append];refine hown.fr (Fr.setCell (S:=fun k=>k=M.β) (Fr.refl _ W1) (fun _=>rfl) _) ?_;intro ad e h;have h1:=hof' ad e;have h2:ad.block=M.β:=h;rw [h2,hβ'] at h1;omega
 ·have t1:To (fun i=>i=2∨i=8) w o W1 (Ak o w.heap.size 8):=by
   refine⟨(Fr.of_below hW _).trans hfr ?_,fun k hk=>Au hk⟩;rintro k _ ⟨ad,e,rfl⟩;exact .inr (hof ad e)
  exact t1.trans (To.of_fr0 (Fr.setCell (S:=fun k=>k=M.β) (Fr.refl _ W1) (p:=⟨M.β,8,none⟩) (fun _=>rfl) _) (by rintro k _ rfl;exact .inl hβ'))
def Bd.table(f:Nat)(list:List UInt8)(ks vs:List Bv)(b:Bd):Bd:=
 match(if Ek f 4=true then Bf b.lists list else none) with
 |some i=>let x:=Ds (b.vals.getD i ⟨0,0,0⟩) vs b.b;{ b with b:=x.1,s:=b.s++ [x.2]}
 |none=>
  let y:=Bc 14 true false ks b.b
  let x:=Ds y.2 vs y.1
  { b with b:=x.1,s:=b.s++ [x.2],vals:=b.vals++ [y.2],lists:=En b.lists list b.vals.length}
theorem Aak(f:Nat)(keys:List (List UInt8))(start:Nat)(b:Bd):b.endMap f keys start=Bd.table f (Cl keys) (Kh (b.s.drop start)) (Po (b.s.drop start)) { b with s:=b.s.take start}:=rfl
theorem An3(f:Nat)(list:List UInt8)(ks vs:List Bv)(b:Bd)(g:Option Nat)(q:Bool)(hg:Bf b.lists list=g)(hq:Ek f 4=q):Bd.table f list ks vs b=match(if q=true then g else none) with
 |some i=>let x:=Ds (b.vals.getD i ⟨0,0,0⟩) vs b.b;{ b with b:=x.1,s:=b.s++ [x.2]}
 |none=>
  let y:=Bc 14 true false ks b.b
  let x:=Ds y.2 vs y.1
  { b with b:=x.1,s:=b.s++ [x.2],vals:=b.vals++ [y.2],lists:=En b.lists list b.vals.length}:=by
 unfold Bd.table;rw [hg,hq]
structure Afo(list:List UInt8)(ks vs:List Bv)(b:Bd):Prop where
 kok:D1 ks b.b
 kel:∀v∈ks,v.t=4
 vok:D1 vs b.b
 vok2:D1 vs (Bc 14 true false ks b.b).1
 kw:Av ((Bc 14 true false ks b.b).2.w:Int)=true
 kfit:Dx (Bc 14 true false ks b.b).1.length (Bc 14 true false ks b.b).2
 had:∀i,Bf b.lists list=some i→∃kv,b.vals[i]?=some kv∧kv.t=14∧Av (kv.w:Int)=true∧Dx b.b.length kv
 ll:b.lists.length≤1048575
 vl:b.vals.length≤1048576
 st:b.s.length<65536
end Go.Proofs.YtgbjodnegkbfoaaGreat
