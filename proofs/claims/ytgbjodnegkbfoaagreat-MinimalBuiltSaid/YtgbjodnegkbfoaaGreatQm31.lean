/- Parts of the proof. -/
import Derived.Test.YtgbjodnegkbfoaaGreatQm29
import Derived.Test.YtgbjodnegkbfoaaGreatQm30
set_option maxHeartbeats 4000000
set_option maxRecDepth 100000
open Go.Value renaming int→Aa
open Go.IntKind renaming i64→Ab,u64→Ac
open Nat renaming le_refl→Asp,lt_of_lt_of_le→Asu
open List renaming getElem?_eq_getElem→Asq
namespace Go.Proofs.YtgbjodnegkbfoaaGreat
open Go.RowKit Go.Acc
theorem Ahj{w:World}{p:Nat→Prop}{vs:List Nv}{l:List Tr}{q:Int}(hl:vs.length=l.length)(hc:∀(i:Nat) v t,vs[i]?=some v→l[i]?=some t→Bm w p v t):
  (!(vs.any fun v=>Ey q v.k))=l.all fun x=>decide (q=0∨x.k=q):=by
 have hk:∀i (h1:i<vs.length) (h2:i<l.length),vs[i].k=l[i].k:=by
  intro i h1 h2;exact(hc i _ _ (Asq h1) (Asq h2)).fields.1.symm
 have he:vs.map (·.k)=l.map Tr.k:=by
  apply List.ext_getElem (by simpa using hl);intro i h1 h2;rw [List.getElem_map,List.getElem_map];exact hk i _ _
 have e1:(vs.any fun v=>Ey q v.k)=(vs.map (·.k)).any (Ey q):=by rw [List.any_map];rfl
 have e2:(l.all fun x=>decide (q=0∨x.k=q))=(l.map Tr.k).all fun y=>decide (q=0∨y=q):=by rw [List.all_map];rfl
 rw [e1,e2,he];clear e1 e2 he hk hl hc
 induction l.map Tr.k with
 |nil=>rfl
 |cons y r ih=>
  rw [List.any_cons,List.all_cons,Bool.not_or,ih]
  congr 1
  unfold Ey;by_cases h1:q=0 <;>by_cases h2:y=q <;>simp [h1,h2]
theorem Apx{k:Int}(h1:1≤k)(h17:k≤17):k=2∨(J8 k=1∧(k=3∨k=8))∨(k=4∨k=9)∨(k=5∨k=6∨k=7)∨k=17∨k=15∨k=16∨(k=1∨k=10∨k=11∨k=12∨k=13∨k=14):=by
 by_cases h:k=3∨k=8
 ·exact .inr (.inl ⟨by rcases h with rfl|rfl <;>rfl,h⟩)
 ·omega
theorem E5{α:World→World→Prop}{P:Program}{f:Nat}{args:Array Value}{w:World}{a b:Bool}(h:Calls P f args w fun e w'=>e= .returned (.bool a)∧α w w')(hab:a=b):Calls P f args w fun e w'=>e= .returned (.bool b)∧α w w':=by
 subst hab;exact h
theorem Dt(k n:Int)(u:Nat)(s:List UInt8)(ks:List (List UInt8))(l:List Tr):Fi (.mk k n u s ks l)=
  (decide (1≤k∧k≤17)&&decide (k=2∨k=3∨k=8∨n=0)&&decide (k=4∨k=9∨u=0)&&decide (k=5∨k=6∨k=7∨s=[])&&decide (k=17∨ks=[])&&decide (k=2→n=0∨n=1)&&decide (k=17→ks.length=l.length)&&decide (k=15∨k=16→2≤l.length∧l.length≤4)&&l.all fun x=>decide (Az k=0∨x.k=Az k)):=rfl
theorem Ake{x:Nv}{t:Tr}{p:Nat→Prop}{w:World}(h:Bm w p x t):Calls Tryz.prog 74 #[.agg #[Aa Ab x.k,Aa Ab x.n,Aa Ac (x.u:Int),.string ⟨x.s.toArray⟩,.slice x.A x.an x.ac,.slice x.B x.bn x.bc]] w fun e w'=>e= .returned (.bool (Fi t))∧Below w.heap.size w w':=by
 cases h with
 | @mk _ ks l vs h1 ha hac hx h2 hb hbc hy hl hc=>
  obtain⟨k,n,u,s,A,an,ac,B,bn,bc⟩:=x;simp only at h1 ha hac hx h2 hb hbc hy;have hka:ks.length=an:=h1.1;have hlb:l.length=bn:=by rw [←hl];exact h2.1
  have hk0:(ks=[])↔an=0:=by rw [←hka];exact List.length_eq_zero_iff.symm
  have hsd:(s== [])=decide (s=[]):=by cases s <;>rfl
  have hk1:(ks=[])=(an=0):=propext hk0;by_cases hr:1≤k∧k≤17
  ·obtain⟨r1,r17⟩:=hr;have hO:=fun q=>Ahj (q:=q) hl hc
   have hbn:bn≤1099511627776:=by omega
   rcases Apx r1 r17 with rfl|⟨hu,rfl|rfl⟩|(rfl|rfl)|(rfl|rfl|rfl)|rfl|rfl|rfl|(rfl|rfl|rfl|rfl|rfl|rfl)
   ·refine E5 (Am6 2 n u s A an ac B bn bc vs (Az 2) w h2 hbn r1 r17 rfl rfl rfl rfl rfl rfl) ?_;rw [hO,Dt];generalize (l.all fun x=>decide (Az 2=0∨x.k=Az 2))=al;rw [hka,hlb];simp only [hk1];by_cases hn:n=0 <;>by_cases hu:u=0 <;>by_cases hs:s=[] <;>by_cases ha0:an=0 <;>simp [hn,hu,hs,ha0,hsd]
   ·refine E5 (Aer 3 n u s A an ac B bn bc vs (Az 3) w h2 hbn r1 r17 rfl rfl rfl rfl rfl rfl) ?_;rw [hO,Dt];generalize (l.all fun x=>decide (Az 3=0∨x.k=Az 3))=al;rw [hka,hlb];simp only [hk1];by_cases hn:n=0 <;>by_cases hu:u=0 <;>by_cases hs:s=[] <;>by_cases ha0:an=0 <;>simp [hn,hu,hs,ha0,hsd]
   ·refine E5 (Aer 8 n u s A an ac B bn bc vs (Az 8) w h2 hbn r1 r17 rfl rfl rfl rfl rfl rfl) ?_;rw [hO,Dt];generalize (l.all fun x=>decide (Az 8=0∨x.k=Az 8))=al;rw [hka,hlb];simp only [hk1];by_cases hn:n=0 <;>by_cases hu:u=0 <;>by_cases hs:s=[] <;>by_cases ha0:an=0 <;>simp [hn,hu,hs,ha0,hsd]
   ·refine E5 (Aes 4 n u s A an ac B bn bc vs (Az 4) w h2 hbn r1 r17 rfl rfl rfl rfl rfl rfl) ?_;rw [hO,Dt];generalize (l.all fun x=>decide (Az 4=0∨x.k=Az 4))=al;rw [hka,hlb];simp only [hk1];by_cases hn:n=0 <;>by_cases hu:u=0 <;>by_cases hs:s=[] <;>by_cases ha0:an=0 <;>simp [hn,hu,hs,ha0,hsd]
   ·refine E5 (Aes 9 n u s A an ac B bn bc vs (Az 9) w h2 hbn r1 r17 rfl rfl rfl rfl rfl rfl) ?_;rw [hO,Dt];generalize (l.all fun x=>decide (Az 9=0∨x.k=Az 9))=al;rw [hka,hlb];simp only [hk1];by_cases hn:n=0 <;>by_cases hu:u=0 <;>by_cases hs:s=[] <;>by_cases ha0:an=0 <;>simp [hn,hu,hs,ha0,hsd]
   ·refine E5 (Ws 5 n u s A an ac B bn bc vs (Az 5) w h2 hbn r1 r17 rfl rfl rfl rfl rfl rfl) ?_;rw [hO,Dt];generalize (l.all fun x=>decide (Az 5=0∨x.k=Az 5))=al;rw [hka,hlb];simp only [hk1];by_cases hn:n=0 <;>by_cases hu:u=0 <;>by_cases hs:s=[] <;>by_cases ha0:an=0 <;>simp [hn,hu,hs,ha0]
   ·refine E5 (Ws 6 n u s A an ac B bn bc vs (Az 6) w h2 hbn r1 r17 rfl rfl rfl rfl rfl rfl) ?_;rw [hO,Dt];generalize (l.all fun x=>decide (Az 6=0∨x.k=Az 6))=al;rw [hka,hlb];simp only [hk1];by_cases hn:n=0 <;>by_cases hu:u=0 <;>by_cases hs:s=[] <;>by_cases ha0:an=0 <;>simp [hn,hu,hs,ha0]
   ·refine E5 (Ws 7 n u s A an ac B bn bc vs (Az 7) w h2 hbn r1 r17 rfl rfl rfl rfl rfl rfl) ?_;rw [hO,Dt];generalize (l.all fun x=>decide (Az 7=0∨x.k=Az 7))=al;rw [hka,hlb];simp only [hk1];by_cases hn:n=0 <;>by_cases hu:u=0 <;>by_cases hs:s=[] <;>by_cases ha0:an=0 <;>simp [hn,hu,hs,ha0]
   ·refine E5 (Apn 17 n u s A an ac B bn bc vs (Az 17) w h2 hbn r1 r17 rfl rfl rfl rfl rfl rfl) ?_;rw [hO,Dt];generalize (l.all fun x=>decide (Az 17=0∨x.k=Az 17))=al;rw [hka,hlb];simp only [hk1];by_cases hn:n=0 <;>by_cases hu:u=0 <;>by_cases hs:s=[] <;>by_cases ha0:an=0 <;>simp [hn,hu,hs,ha0,hsd]
   ·refine E5 (Am3 15 n u s A an ac B bn bc vs (Az 15) w h2 hbn r1 r17 rfl rfl rfl rfl rfl rfl) ?_;rw [hO,Dt];generalize (l.all fun x=>decide (Az 15=0∨x.k=Az 15))=al;rw [hka,hlb];simp only [hk1];by_cases hn:n=0 <;>by_cases hu:u=0 <;>by_cases hs:s=[] <;>by_cases ha0:an=0 <;>by_cases hb2:bn<2 <;>by_cases hb4:4<bn <;>simp [hn,hu,hs,ha0,hsd,hb2,hb4] <;>omega
   ·refine E5 (Am4 16 n u s A an ac B bn bc vs (Az 16) w h2 hbn r1 r17 rfl rfl rfl rfl rfl rfl) ?_;rw [hO,Dt];generalize (l.all fun x=>decide (Az 16=0∨x.k=Az 16))=al;rw [hka,hlb];simp only [hk1];by_cases hn:n=0 <;>by_cases hu:u=0 <;>by_cases hs:s=[] <;>by_cases ha0:an=0 <;>by_cases hb2:bn<2 <;>by_cases hb4:4<bn <;>simp [hn,hu,hs,ha0,hsd,hb2,hb4] <;>omega
   ·refine E5 (Lv 1 n u s A an ac B bn bc vs (Az 1) w h2 hbn r1 r17 rfl rfl rfl rfl rfl rfl) ?_;rw [hO,Dt];generalize (l.all fun x=>decide (Az 1=0∨x.k=Az 1))=al;rw [hka,hlb];simp only [hk1];by_cases hn:n=0 <;>by_cases hu:u=0 <;>by_cases hs:s=[] <;>by_cases ha0:an=0 <;>simp [hn,hu,hs,ha0,hsd]
   ·refine E5 (Lv 10 n u s A an ac B bn bc vs (Az 10) w h2 hbn r1 r17 rfl rfl rfl rfl rfl rfl) ?_;rw [hO,Dt];generalize (l.all fun x=>decide (Az 10=0∨x.k=Az 10))=al;rw [hka,hlb];simp only [hk1];by_cases hn:n=0 <;>by_cases hu:u=0 <;>by_cases hs:s=[] <;>by_cases ha0:an=0 <;>simp [hn,hu,hs,ha0,hsd]
   ·refine E5 (Lv 11 n u s A an ac B bn bc vs (Az 11) w h2 hbn r1 r17 rfl rfl rfl rfl rfl rfl) ?_;rw [hO,Dt];generalize (l.all fun x=>decide (Az 11=0∨x.k=Az 11))=al;rw [hka,hlb];simp only [hk1];by_cases hn:n=0 <;>by_cases hu:u=0 <;>by_cases hs:s=[] <;>by_cases ha0:an=0 <;>simp [hn,hu,hs,ha0,hsd]
   ·refine E5 (Lv 12 n u s A an ac B bn bc vs (Az 12) w h2 hbn r1 r17 rfl rfl rfl rfl rfl rfl) ?_;rw [hO,Dt];generalize (l.all fun x=>decide (Az 12=0∨x.k=Az 12))=al;rw [hka,hlb];simp only [hk1];by_cases hn:n=0 <;>by_cases hu:u=0 <;>by_cases hs:s=[] <;>by_cases ha0:an=0 <;>simp [hn,hu,hs,ha0,hsd]
   ·refine E5 (Lv 13 n u s A an ac B bn bc vs (Az 13) w h2 hbn r1 r17 rfl rfl rfl rfl rfl rfl) ?_;rw [hO,Dt];generalize (l.all fun x=>decide (Az 13=0∨x.k=Az 13))=al;rw [hka,hlb];simp only [hk1];by_cases hn:n=0 <;>by_cases hu:u=0 <;>by_cases hs:s=[] <;>by_cases ha0:an=0 <;>simp [hn,hu,hs,ha0,hsd]
   ·refine E5 (Lv 14 n u s A an ac B bn bc vs (Az 14) w h2 hbn r1 r17 rfl rfl rfl rfl rfl rfl) ?_;rw [hO,Dt];generalize (l.all fun x=>decide (Az 14=0∨x.k=Az 14))=al;rw [hka,hlb];simp only [hk1];by_cases hn:n=0 <;>by_cases hu:u=0 <;>by_cases hs:s=[] <;>by_cases ha0:an=0 <;>simp [hn,hu,hs,ha0,hsd]
  ·refine E5 (Am5 k n u s A an ac B bn bc w hr) ?_;unfold Fi;simp [Tr.k,hr]
mutual
theorem Aeb:∀(t:Tr) (d:Nat) (x:Nat×Tr),x∈Tr.pre d t→x.1+1≤d+(Tr.pre d t).length
 | .mk k n u s ks l,d,x,h=>by
  rw [Tr.pre] at h⊢;rw [List.length_cons];rcases List.mem_cons.1 h with rfl|h
  ·simp only;omega
  ·have:=Abj l (d+1) x h;omega
theorem Abj:∀(l:List Tr) (d:Nat) (x:Nat×Tr),x∈Tr.pre.Tr.preL d l→x.1+1≤d+(Tr.pre.Tr.preL d l).length
 | [],d,x,h=>by rw [Tr.pre.Tr.preL] at h;simp at h
 |t::r,d,x,h=>by
  rw [Tr.pre.Tr.preL] at h⊢;rw [List.length_append];rcases List.mem_append.1 h with h|h
  ·have:=Aeb t d x h;omega
  ·have:=Abj r d x h;omega
end
theorem Ub{x:Nv}{t:Tr}{p:Nat→Prop}{w:World}(h:Bm w p x t)(hp:∀k,p k→k<w.heap.size)(hks:∀y∈Tr.pre 0 t,∀s∈y.2.ks,s.length≤1048576)(hm:(Tr.pre 0 t).length≤1048576):
  Calls Tryz.prog 32 #[.agg #[Aa Ab x.k,Aa Ab x.n,Aa Ac (x.u:Int),.string ⟨x.s.toArray⟩,.slice x.A x.an x.ac,.slice x.B x.bn x.bc]] w fun e w'=>e= .returned (Aa Ab (Hk Ha 0 t 0).1)∧Below w.heap.size w w':=by
 obtain⟨Y,hO⟩:=h.ord 0;have hN:=hO.nodes;have hkp:∀W,Fu (fun k=>w.heap.size≤k) w W→∀k,p k→¬(w.heap.size≤k):=fun W _ k hk=>by have:=hp k hk;omega
 refine Ahy x t Y p w (fun i=>match(Tr.pre 0 t)[i]? with|some y=>Fi y.2|none=>false) (fun i=>match(Tr.pre 0 t)[i]? with|some y=>Hx 70 71 y.2|none=>0) (Hk Ha 0 t 0).1 hO hp (by rw [hN.1];omega) ?_ ?_ ?_ ?_
 ·intro y hy;obtain⟨i,hi,rfl⟩:=List.getElem_of_mem hy;obtain⟨t',ht',_⟩:=hN.2 i _ (Asq hi);have:=Aeb t 0 _ (List.mem_of_getElem? ht');omega
 ·intro i y W hy hW;obtain⟨t',ht',hr⟩:=hN.2 i y hy;rw [ht'];exact Ake (Vn hr hW (hkp W hW))
 ·intro i y W hy hW;obtain⟨t',ht',hr⟩:=hN.2 i y hy;rw [ht'];have hr2:=Vn hr hW (hkp W hW);have hsm:=hks _ (List.mem_of_getElem? ht');obtain⟨q1,q2,q3,q4,_⟩:=hr2.fields;cases hr2 with
  | @mk _ ks l vs h1 ha hac hx h2 hb hbc hy' hl hc=>
   exact Af8 y.2 ks _ W h1 (by omega) hsm rfl
 ·rw [Alk hN.1 ?_,(Adn t 0 0).1];intro i y z hy hz;obtain⟨t',ht',hr⟩:=hN.2 i y hy;rw [hz] at ht';injection ht' with ht'
  subst ht';simp [hz]
theorem Qc:Ha.Ok:=⟨by decide,by decide,by decide,by decide,by decide⟩
def V4(t:Tr):Prop:=(∀y∈Tr.pre 0 t,∀s∈y.2.ks,s.length≤1048576)∧(Tr.pre 0 t).length≤1048576
theorem Aln{t:Tr}(h:t.cost≤1000000):V4 t:=⟨fun y hy s hs=>by have:=Abm t 0 y hy s hs;omega,by have:=Abl t 0;omega⟩
def SdW(w:World)(t:Tr)(e:Ending)(w':World):Prop:=
 ∃y:Nv,e= .returned (.tuple #[.agg #[Aa Ab y.k,Aa Ab y.n,Aa Ac (y.u:Int),.string ⟨y.s.toArray⟩,.slice y.A y.an y.ac,.slice y.B y.bn y.bc],Aa Ab 0])∧Bm w' (fun b=>w.heap.size≤b∧b<w'.heap.size) y (Bf t)∧Below w.heap.size w w'
theorem Wo{x:Nv}{t:Tr}{p:Nat→Prop}{w:World}{er:Int}(h:Bm w p x t)(hp:∀k,p k→k<w.heap.size)(hfk:V4 t)(he:(Hk Ha 0 t 0).1=er)(hne:er≠0):
  Calls Tryz.prog 37 #[.agg #[Aa Ab x.k,Aa Ab x.n,Aa Ac (x.u:Int),.string ⟨x.s.toArray⟩,.slice x.A x.an x.ac,.slice x.B x.bn x.bc]] w fun e w'=>e= .returned (.tuple #[.agg #[Aa Ab 0,Aa Ab 0,Aa Ac 0,.string ⟨#[]⟩,.slice none 0 0,.slice none 0 0],Aa Ab er])∧Below w.heap.size w w':=by
 obtain⟨xk,xn,xu,xs,XA,xan,xac,XB,xbn,xbc⟩:=x;have hba:=Ba w (.cells #[Aa Ab xk,Aa Ab xn,Aa Ac (xu:Int),.string ⟨xs.toArray⟩,.slice XA xan xac,.slice XB xbn xbc] 26) (.cells #[Aa Ab 0,Aa Ab 0,Aa Ac 0,.string ⟨#[]⟩,.slice none 0 0,.slice none 0 0] 26);have HX:=Hd ((Ag.new w 26 #[Aa Ab xk,Aa Ab xn,Aa Ac (xu:Int),.string ⟨xs.toArray⟩,.slice XA xan xac,.slice XB xbn xbc]).alloc (.cells #[Aa Ab 0,Aa Ab 0,Aa Ac 0,.string ⟨#[]⟩,.slice none 0 0,.slice none 0 0] 26));have HR:=Hd (Ag.new_ (w:=w.alloc (.cells #[Aa Ab xk,Aa Ab xn,Aa Ac (xu:Int),.string ⟨xs.toArray⟩,.slice XA xan xac,.slice XB xbn xbc] 26)) (g:=w.heap.size+1) (by simp) 26 #[Aa Ab 0,Aa Ab 0,Aa Ac 0,.string ⟨#[]⟩,.slice none 0 0,.slice none 0 0]);have HB:=Hd hba;have HCH:=Hd (Ub (h.pure hba) (fun k hk=>Asu (hp k hk) hba.size) hfk.1 hfk.2);rw [he] at HCH;have hb:(er != 0)=true:=by simpa using hne
 clear h hp hfk he hne hba;go_enter Tryz.func37,Tryz.ntmps37;go_upto_region 1 with fail
 generalize (w.alloc (.cells #[Aa Ab xk,Aa Ab xn,Aa Ac (xu:Int),.string ⟨xs.toArray⟩,.slice XA xan xac,.slice XB xbn xbc] 26)).alloc (.cells #[Aa Ab 0,Aa Ab 0,Aa Ac 0,.string ⟨#[]⟩,.slice none 0 0,.slice none 0 0] 26)=w1 at HX HR HB HCH⊢;generalize hbt:w.heap.size=bt at HX HR⊢;generalize hbr:bt+1=br at HR⊢;have HT:=Hd (And.intro hbt hbr);clear hbt hbr;obtain ⟨c0,c1,c2,c3,c4,c5⟩:=HX.o.c6;go_wp2_with fail;go_at_call 32;refine HCH.o.mono ?_;rintro e w2 ⟨rfl,hb2⟩;have HB2:=Hd (Ad HB.o hb2);have HR2:=Hd (HR.o.pure hb2);clear hb2 c0 c1 c2 c3 c4 c5;obtain ⟨r0,r1,r2,r3,r4,r5⟩:=HR2.o.c6;have hfz:∀j,w2.frozen? ⟨br,j,none⟩=false:=fun j=>HR2.o.frozen j
 have f0:=hfz 0;have f1:=hfz 1;have f2:=hfz 2;have f3:=hfz 3;have f4:=hfz 4;have f5:=hfz 5;clear hfz;go_wp2_with fail;refine bodyPost_ret (v:= .tuple #[.agg #[Aa Ab 0,Aa Ab 0,Aa Ac 0,.string ⟨#[]⟩,.slice none 0 0,.slice none 0 0],Aa Ab er]) (by simp [results,Tryz.results37,go_sem,r0,r1,r2,r3,r4,r5]) rfl ?_;have hf:=He w2 br (Aa Ab 0) (Aa Ab 0) (Aa Ac 0) (.string ⟨#[]⟩) (.slice none 0 0) (.slice none 0 0);exact⟨rfl,Bu HB2.o hf (by rintro j rfl;have:=HT.o;omega)⟩
theorem Yx{x:Nv}{t:Tr}{p:Nat→Prop}{w:World}(h:Bm w p x t)(hp:∀k,p k→k<w.heap.size)(hc:t.cost≤1000000)(he:(Hk Ha 0 t 0).1=0):
  Calls Tryz.prog 37 #[.agg #[Aa Ab x.k,Aa Ab x.n,Aa Ac (x.u:Int),.string ⟨x.s.toArray⟩,.slice x.A x.an x.ac,.slice x.B x.bn x.bc]] w (SdW w t):=by
 have HV:=Hd (Lo Qc t 0 0 he);have hfk:=Aln hc;have HCO:=Hd hc;obtain⟨xk,xn,xu,xs,XA,xan,xac,XB,xbn,xbc⟩:=x;have hba:=Ba w (.cells #[Aa Ab xk,Aa Ab xn,Aa Ac (xu:Int),.string ⟨xs.toArray⟩,.slice XA xan xac,.slice XB xbn xbc] 26) (.cells #[Aa Ab 0,Aa Ab 0,Aa Ac 0,.string ⟨#[]⟩,.slice none 0 0,.slice none 0 0] 26);have HX:=Hd ((Ag.new w 26 #[Aa Ab xk,Aa Ab xn,Aa Ac (xu:Int),.string ⟨xs.toArray⟩,.slice XA xan xac,.slice XB xbn xbc]).alloc (.cells #[Aa Ab 0,Aa Ab 0,Aa Ac 0,.string ⟨#[]⟩,.slice none 0 0,.slice none 0 0] 26));have HR:=Hd (Ag.new_ (w:=w.alloc (.cells #[Aa Ab xk,Aa Ab xn,Aa Ac (xu:Int),.string ⟨xs.toArray⟩,.slice XA xan xac,.slice XB xbn xbc] 26)) (g:=w.heap.size+1) (by simp) 26 #[Aa Ab 0,Aa Ab 0,Aa Ac 0,.string ⟨#[]⟩,.slice none 0 0,.slice none 0 0]);have HB:=Hd hba;have HCH:=Hd (Ub (h.pure hba) (fun k hk=>Asu (hp k hk) hba.size) hfk.1 hfk.2);rw [he] at HCH;have HN:=Hd h;clear h hp hc hfk he hba;go_enter Tryz.func37,Tryz.ntmps37;go_upto_region 1 with fail
 generalize (w.alloc (.cells #[Aa Ab xk,Aa Ab xn,Aa Ac (xu:Int),.string ⟨xs.toArray⟩,.slice XA xan xac,.slice XB xbn xbc] 26)).alloc (.cells #[Aa Ab 0,Aa Ab 0,Aa Ac 0,.string ⟨#[]⟩,.slice none 0 0,.slice none 0 0] 26)=w1 at HX HR HB HCH⊢;generalize hbt:w.heap.size=bt at HX HR⊢;generalize hbr:bt+1=br at HR⊢;have HT:=Hd (And.intro hbt hbr);clear hbt hbr;obtain ⟨c0,c1,c2,c3,c4,c5⟩:=HX.o.c6;go_wp2_with fail;go_at_call 32;refine HCH.o.mono ?_;rintro e w2 ⟨rfl,hb2⟩;have HB2:=Hd (Ad HB.o hb2);have HR2:=Hd (HR.o.pure hb2);have hX2:=HX.o.pure hb2;clear hb2 c0 c1 c2 c3 c4 c5;obtain ⟨c0,c1,c2,c3,c4,c5⟩:=hX2.c6;have HCP:=Hd (Ah5 HN.o w2 HB2.o);clear hX2;go_wp2_with fail;go_at_call 80;refine HCP.o.mono ?_;rintro e w3 ⟨y,rfl,hX3,hB3⟩;have HX3:=Hd hX3;have HB3:=Hd (Ad HB2.o hB3);have HR3:=Hd (HR2.o.pure hB3);have HSZ:=Hd (show br<w2.heap.size∧w2.heap.size≤w3.heap.size from⟨HR2.o.lt,hB3.size⟩);have HSO:=Hd (Ada hX3 (fun k hk=>hk.2) HV.o (Nat.le_trans HCO.o (by decide)) w3 (fun _ _=>rfl) (Asp _));clear hX3 hB3 c0 c1 c2 c3 c4 c5;go_wp2_with fail;go_at_call 79;refine HSO.o.mono ?_;rintro e w4 ⟨z,rfl,hN4,hF4⟩;have HN4:=Hd hN4;have HF4:=Hd hF4;have hs:=HSZ.o;have HB4:=Hd (Bu HB3.o hF4 (fun k hk=>by have h1:=HB2.o.size;omega));have HR4:=Hd (HR3.o.fr hF4 (fun hk=>by omega));clear hN4 hF4 hs;obtain ⟨r0,r1,r2,r3,r4,r5⟩:=HR4.o.c6;have hfz:∀j,w4.frozen? ⟨br,j,none⟩=false:=fun j=>HR4.o.frozen j
 have f0:=hfz 0;have f1:=hfz 1;have f2:=hfz 2;have f3:=hfz 3;have f4:=hfz 4;have f5:=hfz 5;clear hfz;go_wp2_with fail;refine bodyPost_ret (v:= .tuple #[.agg #[Aa Ab z.k,Aa Ab z.n,Aa Ac (z.u:Int),.string ⟨z.s.toArray⟩,.slice z.A z.an z.ac,.slice z.B z.bn z.bc],Aa Ab 0]) (by simp [results,Tryz.results37,go_sem,r0,r1,r2,r3,r4,r5]) rfl ?_;have hf:=He w4 br (Aa Ab z.k) (Aa Ab z.n) (Aa Ac (z.u:Int)) (.string ⟨z.s.toArray⟩) (.slice z.A z.an z.ac) (.slice z.B z.bn z.bc);have hs:=HSZ.o;have ht:=HT.o;have h4:=HF4.o.size;have h5:=hf.size;exact⟨z,rfl,(HN4.o.keep fun a u hc hp=>B4 hf hc (by rcases hp with hp|hp <;>omega)).mono fun b hb=>by rcases hb with hb|hb <;>exact⟨by omega,by omega⟩,Bu HB4.o hf (by rintro j rfl;omega)⟩
theorem Co{I:Nat→Prop}{w w':World}{o o':Nat→Nat}(h:To I w o w' o'){p:Addr}{v:Value}(hc:w.cell? p=some v)(hI:¬I (o p.block)):w'.cell? p=some v:=
 (h.fr.cell (Ao hc) hI).trans hc
theorem No(M:Bp)(fl:Int)(b:Bd)(kv:Bv)(i bx bi bv:Nat)(A:Option Addr)(n c:Nat)(vs:List Bv)(w:World)(o:Nat→Nat)(h:BM M fl w o b)(hx:Ag w bx 120 #[.pointer (some ⟨M.β,0,none⟩)])(hi:Ag w bi 3 #[Aa Ab (i:Int)])(hv':Ag w bv 185 #[.slice A n c])(hox:o bx=0)(hoi:o bi≠1)(hov:o bv=0)
  (hv:Dx w A n (vs.map vv)) (ho:∀ad,A=some ad→ad.block<w.heap.size∧o ad.block=0) (hki:b.vals[i]?=some kv) (hs:b.s.length<65536) (hok:Du vs b.b) (hkt:kv.t=14) (hkw:Av (kv.w:Int)=true) (hkf:Ej b.b.length kv):
  Calls Tryz.prog 330 #[.pointer (some ⟨bx,0,none⟩),.pointer (some ⟨bi,0,none⟩),.pointer (some ⟨bv,0,none⟩)] w (Ck M fl { b with b:=(E7 kv vs b.b).1,s:=b.s++ [(E7 kv vs b.b).2]} w o):=by
 obtain⟨A8,m8,c8,hb8,ho8,hof8,hoβ⟩:=h.head;have hn8:b.vals.length=m8:=by have:=ho8.is.1;simpa using this
 have hin:i<m8:=by have:=(List.getElem?_eq_some_iff.1 hki).1;omega
 obtain⟨g,off,kv',e8,hkv',xa,xb,xc⟩:=Gg ho8.is hin;obtain rfl:kv=kv':=by rw [hki] at hkv';injection hkv'
 subst e8;have hog:o g=8:=hof8 _ rfl;have hA:=(Below.refl w.heap.size w).alloc (Asp _) (.cells #[Aa Ab 0,Aa Ab 0,Aa Ac 0] 210);have hAD:=hA.drew;have hM0:=h.fresh hAD 9;have HX0:=Hd (show Ag (w.alloc (.cells #[Aa Ab 0,Aa Ab 0,Aa Ac 0] 210)).drew w.heap.size 210 #[Aa Ab 0,Aa Ab 0,Aa Ac 0] from Ag.new _ _ _);have HO0:=Hd (show Aq o w.heap.size 9 w.heap.size=9 from As (Asp _));have HT0:=Hd (To.fresh B6 hAD o 9);have HM:=Hd hM0;have HS:=Hd hs;have HBX:=Hd (hx.pure hAD);have HBB:=Hd (hx.pure ((Below.refl w.heap.size w).drew));have HOW:=Hd (And.intro hox (And.intro hoi (And.intro hov (And.intro hoβ hog))));have HMB:=Hd h.drew;have HPB:=Hd (X6 M.bb n c A vs kv b.b w.drew o h.drew.buf (hv.pure (Below.refl w.heap.size w).drew) (fun ad e=>⟨(ho ad e).1,by rw [(ho ad e).2];omega⟩) hok hkt hkw hkf);have HP:=Hd (X6 M.bb n c A vs kv b.b (w.alloc (.cells #[Aa Ab 0,Aa Ab 0,Aa Ac 0] 210)).drew (Aq o w.heap.size 9) hM0.buf (hv.pure hAD) (fun ad e=>⟨Asu (ho ad e).1 hAD.size,by rw [Ax (ho ad e).1,(ho ad e).2];omega⟩) hok hkt hkw hkf);have x0:w.cell? ⟨bx,0,none⟩=some (.pointer (some ⟨M.β,0,none⟩)):=hx.cell 0;have x1:w.cell? ⟨bi,0,none⟩=some (Aa Ab (i:Int)):=hi.cell 0;have x3:w.cell? ⟨bv,0,none⟩=some (.slice A n c):=hv'.cell 0;have x4:w.cell? ⟨M.β,0,none⟩=some (.pointer (some ⟨M.bb,0,none⟩)):=hb8.cell 0;have x8:w.cell? ⟨M.β,8,none⟩=some (.slice (some ⟨g,off,none⟩) m8 c8):=hb8.cell 8;have n0:bx≠w.heap.size:=Nat.ne_of_lt (Ao x0);have n0_:bx<w.heap.size:=Ao x0;have n1:bi≠w.heap.size:=Nat.ne_of_lt (Ao x1);have n1_:bi<w.heap.size:=Ao x1;have n3:bv≠w.heap.size:=Nat.ne_of_lt (Ao x3);have n3_:bv<w.heap.size:=Ao x3;have n4:M.β≠w.heap.size:=Nat.ne_of_lt (Ao x4);have n4_:M.β<w.heap.size:=Ao x4;have n8:M.β≠w.heap.size:=Nat.ne_of_lt (Ao x8);have n8_:M.β<w.heap.size:=Ao x8;have na:g≠w.heap.size:=Nat.ne_of_lt (Ao xa);have na_:g<w.heap.size:=Ao xa;have nb:g≠w.heap.size:=Nat.ne_of_lt (Ao xb);have nb_:g<w.heap.size:=Ao xb;have nc:g≠w.heap.size:=Nat.ne_of_lt (Ao xc);have nc_:g<w.heap.size:=Ao xc;have hi0:(0:Int)≤(i:Int):=by omega
 have hin':(i:Int)<(m8:Int):=by omega
 obtain⟨r,hr⟩:∃r,E7 kv vs b.b=r:=⟨_,rfl⟩;rw [hr] at HP HPB⊢;obtain⟨l',v'⟩:=r;clear h hx hi hv' hox hoi hov hv ho hki hs hok hkt hkw hkf hb8 ho8 hof8 hoβ hog hkv' hA hAD hM0 hr hn8;go_enter Tryz.func330,Tryz.ntmps330;go_wp2_with fail;go_cut [3,4] (fun u4 u5 wx=>∃wy,wy=wx∧u5= Aa Ab 0∧∃b4 o4,u4= .pointer (some ⟨b4,0,none⟩)∧BM M fl wx o4 { b with b:=l'}∧Ag wx bx 120 #[.pointer (some ⟨M.β,0,none⟩)]∧o4 bx=0∧Ag wx b4 210 #[Aa Ab (v'.t:Int),Aa Ab (v'.w:Int),Aa Ac (v'.n:Int)]∧o4 b4=9∧To B6 w o wx o4)
 case first=>
  go_region_held3 (fun w'=>w'.cell? ⟨bx,0,none⟩=some (.pointer (some ⟨M.β,0,none⟩))∧w'.cell? ⟨bi,0,none⟩=some (Aa Ab (i:Int))∧w'.cell? ⟨bv,0,none⟩=some (.slice A n c)∧w'.cell? ⟨M.β,0,none⟩=some (.pointer (some ⟨M.bb,0,none⟩))∧w'.cell? ⟨M.β,8,none⟩=some (.slice (some ⟨g,off,none⟩) m8 c8)∧w'.cell? ⟨g,off+i*3,none⟩=some (Aa Ab (kv.t:Int))∧w'.cell? ⟨g,off+i*3+1,none⟩=some (Aa Ab (kv.w:Int))∧w'.cell? ⟨g,off+i*3+2,none⟩=some (Aa Ac (kv.n:Int))) (first|with_reducible exact⟨x0,x1,x3,x4,x8,xa,xb,xc⟩|with_reducible exact⟨Af x0,Af x1,Af x3,Af x4,Af x8,Af xa,Af xb,Af xc⟩|with_reducible exact⟨Ar _ x0,Ar _ x1,Ar _ x3,Ar _ x4,Ar _ x8,Ar _ xa,Ar _ xb,Ar _ xc⟩|with_reducible exact⟨Af (Ar _ x0),Af (Ar _ x1),Af (Ar _ x3),Af (Ar _ x4),Af (Ar _ x8),Af (Ar _ xa),Af (Ar _ xb),Af (Ar _ xc)⟩|with_reducible exact⟨y0,y1,y3,y4,y8,ya,yb,yc⟩|with_reducible exact⟨Ar _ y0,Ar _ y1,Ar _ y3,Ar _ y4,Ar _ y8,Ar _ ya,Ar _ yb,Ar _ yc⟩|with_reducible exact⟨D5 (Ar _ y0) p0,D5 (Ar _ y1) p1,D5 (Ar _ y3) p3,D5 (Ar _ y4) p4,D5 (Ar _ y8) p8,D5 (Ar _ ya) pa,D5 (Ar _ yb) pb,D5 (Ar _ yc) pc⟩|with_reducible exact⟨D5 y0 n0,D5 y1 n1,D5 y3 n3,D5 y4 n4,D5 y8 n8,D5 ya na,D5 yb nb,D5 yc nc⟩) (first|(go_at_call 331;(with_reducible refine HP.o.mono ?_);rintro e W1 ⟨rfl,o1,hB1,hT1⟩;have hM1:=HM.o.buf_ hT1 hB1;have y0:W1.cell? ⟨bx,0,none⟩=some (.pointer (some ⟨M.β,0,none⟩)):=Co hT1 (Ar _ x0) (by rw [Ax n0_,HOW.o.1];omega);have y1:W1.cell? ⟨bi,0,none⟩=some (Aa Ab (i:Int)):=Co hT1 (Ar _ x1) (by rw [Ax n1_];exact HOW.o.2.1);have y3:W1.cell? ⟨bv,0,none⟩=some (.slice A n c):=Co hT1 (Ar _ x3) (by rw [Ax n3_,HOW.o.2.2.1];omega);have y4:W1.cell? ⟨M.β,0,none⟩=some (.pointer (some ⟨M.bb,0,none⟩)):=Co hT1 (Ar _ x4) (by rw [Ax n4_,HOW.o.2.2.2.1];omega);have y8:W1.cell? ⟨M.β,8,none⟩=some (.slice (some ⟨g,off,none⟩) m8 c8):=Co hT1 (Ar _ x8) (by rw [Ax n8_,HOW.o.2.2.2.1];omega);have ya:W1.cell? ⟨g,off+i*3,none⟩=some (Aa Ab (kv.t:Int)):=Co hT1 (Ar _ xa) (by rw [Ax na_,HOW.o.2.2.2.2];omega);have yb:W1.cell? ⟨g,off+i*3+1,none⟩=some (Aa Ab (kv.w:Int)):=Co hT1 (Ar _ xb) (by rw [Ax nb_,HOW.o.2.2.2.2];omega);have yc:W1.cell? ⟨g,off+i*3+2,none⟩=some (Aa Ac (kv.n:Int)):=Co hT1 (Ar _ xc) (by rw [Ax nc_,HOW.o.2.2.2.2];omega);have hX1:=HX0.o.to_ hT1 (by rw [HO0.o];omega);have f0:=hX1.frozen 0;have f1:=hX1.frozen 1;have f2:=hX1.frozen 2;obtain ⟨z0,z1,z2⟩:=hX1.c3;have HO1:=Hd (show o1 w.heap.size=9 from(hT1.ow _ HX0.o.lt).trans HO0.o);have HX1:=Hd hX1;have HM1:=Hd hM1;have HB1:=Hd (HBX.o.to_ hT1 (by rw [Ax n0_,HOW.o.1];omega));have HOB:=Hd (show o1 bx=0 from(hT1.ow _ HBX.o.lt).trans ((Ax n0_).trans HOW.o.1));have HT1:=Hd (HT0.o.trans (hT1.mono fun _ h=>Hj h));clear hB1 hT1 hM1 hX1)|(go_at_call 331;(with_reducible refine HPB.o.mono ?_);rintro e W1 ⟨rfl,o1,hB1,hT1⟩;have hM1:=HMB.o.buf_ hT1 hB1;have y0:W1.cell? ⟨bx,0,none⟩=some (.pointer (some ⟨M.β,0,none⟩)):=Co hT1 x0 (by rw [HOW.o.1];omega);have y1:W1.cell? ⟨bi,0,none⟩=some (Aa Ab (i:Int)):=Co hT1 x1 (by exact HOW.o.2.1);have y3:W1.cell? ⟨bv,0,none⟩=some (.slice A n c):=Co hT1 x3 (by rw [HOW.o.2.2.1];omega);have y4:W1.cell? ⟨M.β,0,none⟩=some (.pointer (some ⟨M.bb,0,none⟩)):=Co hT1 x4 (by rw [HOW.o.2.2.2.1];omega);have y8:W1.cell? ⟨M.β,8,none⟩=some (.slice (some ⟨g,off,none⟩) m8 c8):=Co hT1 x8 (by rw [HOW.o.2.2.2.1];omega);have ya:W1.cell? ⟨g,off+i*3,none⟩=some (Aa Ab (kv.t:Int)):=Co hT1 xa (by rw [HOW.o.2.2.2.2];omega);have yb:W1.cell? ⟨g,off+i*3+1,none⟩=some (Aa Ab (kv.w:Int)):=Co hT1 xb (by rw [HOW.o.2.2.2.2];omega);have yc:W1.cell? ⟨g,off+i*3+2,none⟩=some (Aa Ac (kv.n:Int)):=Co hT1 xc (by rw [HOW.o.2.2.2.2];omega);have p0:bx≠W1.heap.size:=Nat.ne_of_lt (Ao y0);have p1:bi≠W1.heap.size:=Nat.ne_of_lt (Ao y1);have p3:bv≠W1.heap.size:=Nat.ne_of_lt (Ao y3);have p4:M.β≠W1.heap.size:=Nat.ne_of_lt (Ao y4);have p8:M.β≠W1.heap.size:=Nat.ne_of_lt (Ao y8);have pa:g≠W1.heap.size:=Nat.ne_of_lt (Ao ya);have pb:g≠W1.heap.size:=Nat.ne_of_lt (Ao yb);have pc:g≠W1.heap.size:=Nat.ne_of_lt (Ao yc);have HM1:=Hd hM1;have HB1:=Hd (HBB.o.to_ hT1 (by rw [HOW.o.1];omega));have HOB:=Hd (show o1 bx=0 from(hT1.ow _ HBB.o.lt).trans HOW.o.1);have HT1:=Hd (hT1.from_drew.mono fun _ h=>Hj h);clear hB1 hT1 hM1))
  all_goals
   go_wp2_with fail;go_meet
  all_goals
   first
   |exact⟨_,rfl,rfl,w.heap.size,o1,rfl,HM1.o.to_ (to9 HO1.o _ _ _) Mu,HB1.o.to_ (to9 HO1.o _ _ _) (by rw [HOB.o];decide),HOB.o,((HX1.o.set_ 0 (Aa Ab (v'.t:Int))).set_ 1 (Aa Ab (v'.w:Int))).set_ 2 (Aa Ac (v'.n:Int)),HO1.o,((HT1.o.set_new (p:=⟨w.heap.size,0,none⟩) (Asp _) _).set_new (p:=⟨w.heap.size,1,none⟩) (Asp _) _).set_new (p:=⟨w.heap.size,2,none⟩) (Asp _) _⟩
   |exact⟨_,rfl,rfl,W1.heap.size,Aq o1 W1.heap.size 9,rfl,HM1.o.fresh ((Below.refl W1.heap.size W1).alloc (Asp _) _) 9,HB1.o.pure ((Below.refl W1.heap.size W1).alloc (Asp _) _),(Ax HB1.o.lt).trans HOB.o,Ag.new _ _ _,As (Asp _),HT1.o.trans (To.fresh B6 ((Below.refl W1.heap.size W1).alloc (Asp _) _) o1 9)⟩
 case rest=>
  obtain⟨w4,rfl,rfl,b4,o4,rfl,hM4,hC4,hC4o,hX4,hO4,hT4⟩:=hcut;have HM4:=Hd hM4;have HC4:=Hd hC4;have HC4O:=Hd hC4o;have HX4:=Hd hX4;have HO4:=Hd hO4;have HT4:=Hd hT4;clear hM4 hC4 hC4o hX4 hO4 hT4 x0 n0 n0_ x1 n1 n1_ x3 n3 n3_ x4 n4 n4_ x8 n8 n8_ xa na na_ xb nb nb_ xc nc nc_ HM HP HPB HMB HX0 HO0 HT0 HBX HBB HOW;have x0:w4.cell? ⟨bx,0,none⟩=some (.pointer (some ⟨M.β,0,none⟩)):=HC4.o.cell 0;go_wp2_with fail;go_at_call 157;refine(Gs HM4.o).mono ?_;rintro e w5 ⟨rfl,o5,hM5,hT5⟩;have HM5:=Hd hM5;have HC5:=Hd (HC4.o.to_ hT5 (by rw [HC4O.o];exact Bg));have HC5O:=Hd (show o5 bx=0 from(hT5.ow _ HC4.o.lt).trans HC4O.o);have HX5:=Hd (HX4.o.to_ hT5 (by rw [HO4.o];exact fun h=>Mu 9 h rfl));have HO5:=Hd (show o5 b4=9 from(hT5.ow _ HX4.o.lt).trans HO4.o);have HT5:=Hd (HT4.o.trans hT5);clear hM5 hT5 x0;have x0:w5.cell? ⟨bx,0,none⟩=some (.pointer (some ⟨M.β,0,none⟩)):=HC5.o.cell 0;obtain ⟨v0,v1,v2⟩:=HX5.o.c3;go_wp2_with fail;go_region_held3 (fun w'=>w'.cell? ⟨bx,0,none⟩=some (.pointer (some ⟨M.β,0,none⟩))∧w'.cell? ⟨b4,0,none⟩=some (Aa Ab (v'.t:Int))∧w'.cell? ⟨b4,1,none⟩=some (Aa Ab (v'.w:Int))∧w'.cell? ⟨b4,2,none⟩=some (Aa Ac (v'.n:Int))) (first|with_reducible exact⟨x0,v0,v1,v2⟩|with_reducible exact⟨Af x0,Af v0,Af v1,Af v2⟩|with_reducible exact⟨y0,y1,y2,y3⟩) (first|(go_at_call 235;(with_reducible refine(Ll M fl { b with b:=l'} v' _ o5 HM5.o.drew HS.o).mono ?_);rintro e w6 ⟨rfl,o6,hM6,hT6⟩;have y0:w6.cell? ⟨bx,0,none⟩=some (.pointer (some ⟨M.β,0,none⟩)):=(HC5.o.to_ hT6.from_drew (by rw [HC5O.o];exact Bg)).cell 0;have hX6:=HX5.o.to_ hT6.from_drew (by rw [HO5.o];exact fun h=>Mu 9 h rfl);obtain ⟨y1,y2,y3⟩:=hX6.c3;have HM6:=Hd hM6;have HT6:=Hd (HT5.o.trans hT6.from_drew);clear hM6 hT6 hX6));go_wp2_with fail;go_end0;exact⟨rfl,o6,HM6.o,HT6.o⟩
theorem Yk{ops:Array Oper}{o:Oper}{a:Act}{w:World}{K:Act→World→Prop}{Q:Exit→Act→World→Prop}{E:Prop}(hgd:o.guard=none)(s x:Operand)
  (ho:o.op= .call { callee:= .builtin .append,args:=#[s,x],argTypes:=#[185,185]})
  (B:Nat) (A:Option Addr) (n c:Nat) (l:List V3) (hs:a.eval s= .slice A n c) (hown:E3 w B A n c l)
  (A2:Option Addr) (m d:Nat) (l2:List V3) (hx:a.eval x= .slice A2 m d) (hr:Dx w A2 m l2)
  (hbytes:n+m≤1099511627776) (hbase:B≤w.heap.size)
  (h:∀A' c' w',E3 w' B A' (n+m) c' (l++l2)→Fr (fun k=>∃ad,A=some ad∧k=ad.block) w w'→(A'.map (·.block)=A.map (·.block)∨A'.map (·.block)=some w.heap.size)→K (a.put o.dst (.slice A' (n+m) c')) w'):
  if Region.wanted o (yielded ops a.tmps)=true then Oper.wp Tryz.prog o a w K Q else E:=by
 have hw:Region.wanted o (yielded ops a.tmps)=true:=by simp [Region.wanted,hgd]
 rw [if_pos hw];obtain⟨i,hi',hz,hsize,hby⟩:=info_parts Jv;have e2:n+m≤maxLen:=by simp only [maxLen];omega
 obtain⟨v',w',hrun,h2,h3,h4⟩:=Ld (P:=Tryz.prog) w B 185 o.type 210 i _ 3 24 Tryz.underlying185 hi' hz hsize hby rfl (by omega) (.slice A n c) n (l.flatMap vc) hown.2 A2 m d (l2.flatMap vc) (by rw [Bi Gl,hr.1]) hr.2 (Qf J9 l2) e2 (by omega) hbase;obtain⟨A',c',rfl,ho'⟩:=Own.mk Gl (by omega) (l:=l++l2) h2 List.flatMap_append.symm;have hk:=h A' c' w' ho' ((Fr.of_grown h3).mono fun i _ hi=>by
  cases A with
  |none=>simp [Value.ownBlock] at hi
  |some ad=>simp [Value.ownBlock] at hi;exact⟨ad,rfl,hi⟩) (by
  rcases h4 with h4|h4
  ·left;revert h4;cases A' <;>cases A <;>simp [Value.ownBlock]
  ·right;revert h4;cases A' <;>simp [Value.ownBlock])
 clear h ho' h2 h3 h4;unfold Oper.wp;simp only [execOp,ho,resolve,invoke,builtin,Sem.run_bind,Sem.run_pure,Result.andThen_ok,List.map_toArray,List.map_cons,List.map_nil,hs,hx,hrun];exact hk
theorem Aaj{M:Bp}{fl:Int}{w W0 W1:World}{o:Nat→Nat}{vals:List Bv}{A A':Option Addr}{n c c':Nat}{v:Bv}(hb:Ag w M.β 189 #[.pointer (some ⟨M.bb,0,none⟩),.pointer (some ⟨M.sb,0,none⟩),Aa Ab 0,Aa Ab fl,.pointer (some ⟨M.kb,0,none⟩),.pointer (some ⟨M.tb,0,none⟩),.pointer (some ⟨M.lb,0,none⟩),.map (some M.mb),.slice A n c,.bool true])(h0:E3 w 0 A n c (vals.map vv))(hof:Of o A 8)(hβ:o M.β=2)(hW:Below w.heap.size w W0)
  (hown:E3 W1 0 A' (n+1) c' (vals.map vv++ [vv v])) (hfr:Fr (fun k=>∃ad,A=some ad∧k=ad.block) W0 W1) (hat:A'.map (·.block)=A.map (·.block)∨A'.map (·.block)=some W0.heap.size):
  F2 M fl (W1.setCell ⟨M.β,8,none⟩ (.slice A' (n+1) c')) (Aq o w.heap.size 8) (vals++ [v])∧To (fun i=>i=2∨i=8) w o (W1.setCell ⟨M.β,8,none⟩ (.slice A' (n+1) c')) (Aq o w.heap.size 8):=by
 have hne:∀ad,A=some ad→M.β≠ad.block:=fun ad e h=>by
  have h1:=hof ad e;rw [←h,hβ] at h1;omega
 have hb1:Ag W1 M.β 189 #[.pointer (some ⟨M.bb,0,none⟩),.pointer (some ⟨M.sb,0,none⟩),Aa Ab 0,Aa Ab fl,.pointer (some ⟨M.kb,0,none⟩),.pointer (some ⟨M.tb,0,none⟩),.pointer (some ⟨M.lb,0,none⟩),.map (some M.mb),.slice A n c,.bool true]:=(hb.pure hW).fr hfr (by rintro⟨ad,e,h⟩;exact hne ad e h);have hof':Of (Aq o w.heap.size 8) A' 8:=by
  intro ad e;subst e;rcases hat with e|e
  ·cases A with
   |none=>cases e
   |some a0=>
    injection e with e
    have e:ad.block=a0.block:=e;rw [e,Ax (h0.addr a0 rfl).2.2];exact hof a0 rfl
  ·injection e with e
   have e:ad.block=W0.heap.size:=e;rw [e,As hW.size]
 have hβ':Aq o w.heap.size 8 M.β=2:=by rw [Ax hb.lt];exact hβ
 refine⟨⟨A',n+1,c',hb1.set_ 8 (.slice A' (n+1) c'),?_,hof',hβ'⟩,?_⟩
 ·rw [List.map_append];refine hown.fr (Fr.setCell (S:=fun k=>k=M.β) (Fr.refl _ W1) (fun _=>rfl) _) ?_;intro ad e h;have h1:=hof' ad e;have h2:ad.block=M.β:=h;rw [h2,hβ'] at h1;omega
 ·have t1:To (fun i=>i=2∨i=8) w o W1 (Aq o w.heap.size 8):=by
   refine⟨(Fr.of_below hW _).trans hfr ?_,fun k hk=>Ax hk⟩;rintro k _ ⟨ad,e,rfl⟩;exact .inr (hof ad e)
  exact t1.trans (To.of_fr0 (Fr.setCell (S:=fun k=>k=M.β) (Fr.refl _ W1) (p:=⟨M.β,8,none⟩) (fun _=>rfl) _) (by rintro k _ rfl;exact .inl hβ'))
def Bd.table(f:Nat)(list:List UInt8)(ks vs:List Bv)(b:Bd):Bd:=
 match(if Ir f 4=true then Bn b.lists list else none) with
 |some i=>let x:=E7 (b.vals.getD i ⟨0,0,0⟩) vs b.b;{ b with b:=x.1,s:=b.s++ [x.2]}
 |none=>
  let y:=Bk 14 true false ks b.b
  let x:=E7 y.2 vs y.1
  { b with b:=x.1,s:=b.s++ [x.2],vals:=b.vals++ [y.2],lists:=E4 b.lists list b.vals.length}
theorem Z8(f:Nat)(keys:List (List UInt8))(start:Nat)(b:Bd):b.endMap f keys start=Bd.table f (Ci keys) (Jt (b.s.drop start)) (O7 (b.s.drop start)) { b with s:=b.s.take start}:=rfl
theorem Am7(f:Nat)(list:List UInt8)(ks vs:List Bv)(b:Bd)(g:Option Nat)(q:Bool)(hg:Bn b.lists list=g)(hq:Ir f 4=q):Bd.table f list ks vs b=match(if q=true then g else none) with
 |some i=>let x:=E7 (b.vals.getD i ⟨0,0,0⟩) vs b.b;{ b with b:=x.1,s:=b.s++ [x.2]}
 |none=>
  let y:=Bk 14 true false ks b.b
  let x:=E7 y.2 vs y.1
  { b with b:=x.1,s:=b.s++ [x.2],vals:=b.vals++ [y.2],lists:=E4 b.lists list b.vals.length}:=by
 unfold Bd.table;rw [hg,hq]
structure Ae8(list:List UInt8)(ks vs:List Bv)(b:Bd):Prop where
 kok:Du ks b.b
 kel:∀v∈ks,v.t=4
 vok:Du vs b.b
 vok2:Du vs (Bk 14 true false ks b.b).1
 kw:Av ((Bk 14 true false ks b.b).2.w:Int)=true
 kfit:Ej (Bk 14 true false ks b.b).1.length (Bk 14 true false ks b.b).2
 had:∀i,Bn b.lists list=some i→∃kv,b.vals[i]?=some kv∧kv.t=14∧Av (kv.w:Int)=true∧Ej b.b.length kv
 ll:b.lists.length≤1048575
 vl:b.vals.length≤1048576
 st:b.s.length<65536
end Go.Proofs.YtgbjodnegkbfoaaGreat
