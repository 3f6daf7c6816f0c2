/- Parts of the proof. -/
import Derived.Test.YtgbjodnegkbfoaaGreatQa04
import Derived.Maps.Own
set_option maxHeartbeats 1500000
set_option maxRecDepth 100000
open Go.Value renaming int→Aa
open Go.IntKind renaming i64→Ab,u64→Ac
open Nat renaming le_refl→Ath,zero_le→Atl
open List renaming getElem?_eq_getElem→Ati,length_append→Atj,length_map→Atq,getD_eq_getElem?_getD→Atw
namespace Go.Proofs.YtgbjodnegkbfoaaGreat
open Go.RowKit Go.Acc
structure Nv where
 k:Int
 n:Int
 u:Nat
 s:List UInt8
 A:Option Addr
 an:Nat
 ac:Nat
 B:Option Addr
 bn:Nat
 bc:Nat
def Ic(x:Nv):List Value:=[Aa Ab x.k,Aa Ab x.n,Aa Ac (x.u:Int),.string ⟨x.s.toArray⟩,.slice x.A x.an x.ac,.slice x.B x.bn x.bc]
theorem I3(x:Nv):(Ic x).length=6:=rfl
theorem Ael(x:Nv):∀u∈Ic x,u.oneCell'=true:=by
 intro u hu;simp [Ic] at hu;rcases hu with rfl|rfl|rfl|rfl|rfl|rfl <;>rfl
abbrev Fh:=Is Ic
abbrev Jg:=Go.Acc.Own Ic 6 26
theorem Gc{w:World}{A:Option Addr}{n:Nat}{l:List Nv}(h:Fh w A n l){k:Nat}{x:Nv}(hx:l[k]?=some x):
  ∃b off,A=some ⟨b,off,none⟩∧w.cell? ⟨b,off+k*6,none⟩=some (Aa Ab x.k)∧w.cell? ⟨b,off+k*6+1,none⟩=some (Aa Ab x.n)∧w.cell? ⟨b,off+k*6+2,none⟩=some (Aa Ac (x.u:Int))∧
   w.cell? ⟨b,off+k*6+3,none⟩=some (.string ⟨x.s.toArray⟩)∧w.cell? ⟨b,off+k*6+4,none⟩=some (.slice x.A x.an x.ac)∧w.cell? ⟨b,off+k*6+5,none⟩=some (.slice x.B x.bn x.bc):=by
 have hk:k<n:=by rw [←h.1];exact(List.getElem?_eq_some_iff.1 hx).1
 obtain⟨b,off,e,hk',hc⟩:=h.at_ I3 (by omega) hk;have ex:l[k]=x:=(List.getElem?_eq_some_iff.1 hx).2;rw [ex] at hc;exact⟨b,off,e,hc 0 (by omega),hc 1 (by omega),hc 2 (by omega),hc 3 (by omega),hc 4 (by omega),hc 5 (by omega)⟩
inductive Bk(w:World)(p:Nat→Prop):Nv→Tr→Prop
 |mk {x:Nv} {ks:List (List UInt8)} {l:List Tr} {vs:List Nv} (h1:Ey w x.A x.an ks) (ha:∀ad,x.A=some ad→p ad.block) (hac:x.an≤x.ac) (hx:x.an≤1099511627776)
   (h2:Fh w x.B x.bn vs) (hb:∀ad,x.B=some ad→p ad.block) (hbc:x.bn≤x.bc) (hy:x.bn≤1099511627776) (hl:vs.length=l.length)
   (hc:∀(i:Nat) v t,vs[i]?=some v→l[i]?=some t→Bk w p v t):Bk w p x (.mk x.k x.n x.u x.s ks l)
inductive Gg(w:World)(p:Nat→Prop):Nat→Nv→Tr→List (Nat×Nv)→Prop
 |mk {d:Nat} {x:Nv} {ks:List (List UInt8)} {l:List Tr} {vs:List Nv} {yss:List (List (Nat×Nv))} (h1:Ey w x.A x.an ks) (ha:∀ad,x.A=some ad→p ad.block) (hac:x.an≤x.ac) (hx:x.an≤1099511627776)
   (h2:Fh w x.B x.bn vs) (hb:∀ad,x.B=some ad→p ad.block) (hbc:x.bn≤x.bc) (hy:x.bn≤1099511627776) (hl:vs.length=l.length) (hyl:yss.length=l.length)
   (hc:∀(i:Nat) v t ys,vs[i]?=some v→l[i]?=some t→yss[i]?=some ys→Gg w p (d+1) v t ys):Gg w p d x (.mk x.k x.n x.u x.s ks l) ((d,x)::yss.flatten)
theorem Bk.ord{w:World}{p:Nat→Prop}{x:Nv}{t:Tr}(h:Bk w p x t):∀d,∃ys,Gg w p d x t ys:=by
 induction h with
 | @mk x ks l vs h1 ha hac hx h2 hb hbc hy hl hc ih=>
  intro d;have hex:∀i,i<l.length→∃ys,∀v t,vs[i]?=some v→l[i]?=some t→Gg w p (d+1) v t ys:=by
   intro i hi;obtain⟨ys,hys⟩:=ih i (vs[i]'(by omega)) l[i] (Ati _) (Ati _) (d+1);refine⟨ys,fun v t hv ht=>?_⟩;rw [Ati (by omega)] at hv ht;injection hv with hv
   injection ht with ht
   rw [←hv,←ht];exact hys
  obtain⟨yss,hyl,hp⟩:=Wh _ l.length hex;exact⟨_,.mk h1 ha hac hx h2 hb hbc hy hl hyl (fun i v t ys hv ht hys=>by
   obtain⟨hi,e⟩:=List.getElem?_eq_some_iff.1 hys;rw [←e];exact hp i hi v t hv ht)⟩
theorem Ns{w w':World}{p:Nat→Prop}{A:Option Addr}{xs:List Value}(h:Rd w A xs)(ha:∀ad,A=some ad→p ad.block)(hk:∀a u,w.cell? a=some u→p a.block→w'.cell? a=some u):Rd w' A xs:=by
 intro j u hu;obtain⟨b,off,rfl,hc⟩:=h j u hu;exact⟨b,off,rfl,hk _ _ hc (ha ⟨b,off,none⟩ rfl)⟩
theorem Bk.keep{w w':World}{p:Nat→Prop}{x:Nv}{t:Tr}(h:Bk w p x t)(hk:∀a u,w.cell? a=some u→p a.block→w'.cell? a=some u):Bk w' p x t:=by
 induction h with
 |mk h1 ha hac hx h2 hb hbc hy hl hc ih=>exact .mk ⟨h1.1,Ns h1.2 ha hk⟩ ha hac hx ⟨h2.1,Ns h2.2 hb hk⟩ hb hbc hy hl ih
theorem Bk.pure{w w':World}{p:Nat→Prop}{x:Nv}{t:Tr}(h:Bk w p x t)(hb:Below w.heap.size w w'):Bk w' p x t:=h.keep fun _ _ hc _=>Ag hb hc
theorem Bk.mono{w:World}{p q:Nat→Prop}{x:Nv}{t:Tr}(h:Bk w p x t)(hq:∀k,p k→q k):Bk w q x t:=by
 induction h with
 |mk h1 ha hac hx h2 hb hbc hy hl hc ih=>exact .mk h1 (fun ad h=>hq _ (ha ad h)) hac hx h2 (fun ad h=>hq _ (hb ad h)) hbc hy hl ih
theorem Bk.to_{I:Nat→Prop}{w w':World}{o o':Nat→Nat}{p:Nat→Prop}{x:Nv}{t:Tr}(h:Bk w p x t)(ht:To I w o w' o')(hp:∀k,p k→¬I (o k)):Bk w' p x t:=
 h.keep fun _ _ hc hpa=>ht.cell hc (hp _ hpa)
theorem Bk.fields{w:World}{p:Nat→Prop}{x:Nv}{t:Tr}(h:Bk w p x t):t.k=x.k∧t.n=x.n∧t.u=x.u∧t.s=x.s∧t.ks.length=x.an∧t.l.length=x.bn:=by
 cases h with
 |mk h1 ha hac hx h2 hb hbc hy hl hc=>exact⟨rfl,rfl,rfl,rfl,h1.1,by rw [←h2.1,hl];rfl⟩
theorem Gg.keep{w w':World}{p:Nat→Prop}{d:Nat}{x:Nv}{t:Tr}{ys:List (Nat×Nv)}(h:Gg w p d x t ys)(hk:∀a u,w.cell? a=some u→p a.block→w'.cell? a=some u):Gg w' p d x t ys:=by
 induction h with
 |mk h1 ha hac hx h2 hb hbc hy hl hyl hc ih=>exact .mk ⟨h1.1,Ns h1.2 ha hk⟩ ha hac hx ⟨h2.1,Ns h2.2 hb hk⟩ hb hbc hy hl hyl ih
theorem Gg.pure{w w':World}{p:Nat→Prop}{d:Nat}{x:Nv}{t:Tr}{ys:List (Nat×Nv)}(h:Gg w p d x t ys)(hb:Below w.heap.size w w'):Gg w' p d x t ys:=h.keep fun _ _ hc _=>Ag hb hc
def Tr.pre(d:Nat):Tr→List (Nat×Tr)
 | .mk k n u s ks l=>(d,.mk k n u s ks l)::Tr.preL (d+1) l
where Tr.preL (d:Nat):List Tr→List (Nat×Tr)
 | []=>[]
 |t::r=>Tr.pre d t++Tr.preL d r
end Go.Proofs.YtgbjodnegkbfoaaGreat
namespace Go.Proofs.YtgbjodnegkbfoaaGreat
open Go.Acc
theorem Ak3{a b:List (List UInt8×Tr)}(hp:a.Perm b)(ha:a.Pairwise (fun x y=>x.1<y.1))(hb:b.Pairwise (fun x y=>x.1<y.1)):a=b:=
 hp.eq_of_pairwise (fun _ _ _ _ h h'=>absurd h' (List.lt_asymm h)) ha hb
theorem Aql{n:Nat}{ps:List Nat}(ks:List (List UInt8))(c:List Tr)(d:Tr)(hk:ks.length=n)(hc:c.length=n)(hd:ks.Nodup)(hp:ps.Perm (List.range n))(ha:∀(i j:Nat) (hi:i<ps.length) (hj:j<ps.length),i<j→ks.getD ps[i] []<ks.getD ps[j] []):
  ps.map (fun p=>(ks.getD p [],c.getD p d))=Sb (ks.zip c):=by
 have hz:(List.range n).map (fun p=>(ks.getD p [],c.getD p d))=ks.zip c:=by
  apply List.ext_getElem
  ·simp [hk,hc]
  ·intro i h1 h2;have hi:i<n:=by simpa using h1
   simp only [List.getElem_map,List.getElem_range,List.getElem_zip];rw [Atw,Ati (by omega),Atw,Ati (by omega)];rfl
 refine Ak3 ?_ ?_ (Tu _ ?_)
 ·have h1:=hp.map (fun p=>(ks.getD p [],c.getD p d));rw [hz] at h1;exact h1.trans (D8 _).symm
 ·rw [List.pairwise_iff_getElem];intro i j hi hj hij;rw [List.getElem_map,List.getElem_map];exact ha i j (by simpa using hi) (by simpa using hj) hij
 ·rw [List.map_fst_zip (by omega)];exact hd
inductive Fb:Tr→Prop
 |mk {k n:Int} {u:Nat} {s:List UInt8} {ks:List (List UInt8)} {l:List Tr} (h1: -9223372036854775808≤n∧n≤9223372036854775807) (h2:u<18446744073709551616) (h:∀t∈l,Fb t):Fb (.mk k n u s ks l)
theorem Acb(t:Tr):(Aq t).n=t.n∧(Aq t).u=t.u∧(Aq t).s=t.s:=by
 obtain⟨k,n,u,s,ks,l⟩:=t;rw [Aq];split <;>exact⟨rfl,rfl,rfl⟩
theorem Agb{a b:List Tr}(h:a.Perm b):Tr.costL a=Tr.costL b:=by
 induction h with
 |nil=>rfl
 |cons x _ ih=>rw [Tr.costL,Tr.costL,ih]
 |swap x y l=>rw [Tr.costL,Tr.costL,Tr.costL,Tr.costL];omega
 |trans _ _ h1 h2=>exact h1.trans h2
theorem Y3{a b:List (List UInt8)}(h:a.Perm b):Bb a=Bb b:=by
 induction h with
 |nil=>rfl
 |cons x _ ih=>rw [Bb,Bb,ih]
 |swap x y l=>rw [Bb,Bb,Bb,Bb];omega
 |trans _ _ h1 h2=>exact h1.trans h2
mutual
theorem Ij:∀(t:Tr),Ff t→(Aq t).cost=t.cost
 | .mk k n u s ks l,h=>by
  cases h with
  |mk h1 h2 h3 h4 hl=>
   have ih:=Uk l hl;simp only [Dv,Bool.and_eq_true,decide_eq_true_eq] at h1;obtain⟨⟨⟨_,glen⟩,_⟩,_⟩:=h1;rw [Aq];by_cases hk:k=17
   ·rw [if_pos hk];have glen:ks.length=l.length:=glen hk;have hll:(Bz l).length=l.length:=by rw [Ca,Atq]
    have hp:=D8 (ks.zip (Bz l));have e1:=Y3 (hp.map (·.1));have e2:=Agb (hp.map (·.2));rw [List.map_fst_zip (by omega)] at e1;rw [List.map_snd_zip (by omega)] at e2;rw [Tr.cost,Tr.cost,e1,e2,ih]
   ·rw [if_neg hk,Tr.cost,Tr.cost,ih]
theorem Uk:∀(l:List Tr),(∀t∈l,Ff t)→Tr.costL (Bz l)=Tr.costL l
 | [],_=>rfl
 |t::r,h=>by
  rw [Bz,Tr.costL,Tr.costL,Ij t (h t (by simp)),Uk r (fun x hx=>h x (by simp [hx]))]
end
mutual
theorem Aby:∀(t:Tr) (d:Nat),(Tr.pre d t).length≤t.cost
 | .mk k n u s ks l,d=>by
  have:=Yb l (d+1);rw [Tr.pre,Tr.cost,List.length_cons];omega
theorem Yb:∀(l:List Tr) (d:Nat),(Tr.pre.Tr.preL d l).length≤Tr.costL l
 | [],_=>by simp [Tr.pre.Tr.preL]
 |t::r,d=>by
  have h1:=Aby t d;have h2:=Yb r d;rw [Tr.pre.Tr.preL,Tr.costL,Atj];omega
end
theorem Xm:∀{l:List Tr} {t:Tr},t∈l→t.cost+40≤Tr.costL l
 | [],_,h=>by simp at h
 |x::r,t,h=>by
  rw [Tr.costL];rcases List.mem_cons.1 h with rfl|h
  ·omega
  ·have:=Xm h;omega
theorem Q9:∀(l:List (List UInt8)) (s:List UInt8),s∈l→s.length≤Bb l
 | [],_,h=>by simp at h
 |x::r,s,h=>by
  rw [Bb];rcases List.mem_cons.1 h with rfl|h
  ·omega
  ·have:=Q9 r s h;omega
mutual
theorem Abz:∀(t:Tr) (d:Nat) (y:Nat×Tr),y∈Tr.pre d t→∀s∈y.2.ks,s.length≤t.cost
 | .mk k n u s ks l,d,y,hy,z,hz=>by
  rw [Tr.pre] at hy;rw [Tr.cost];rcases List.mem_cons.1 hy with rfl|hy
  ·have:=Q9 ks z hz;omega
  ·have:=Yc l (d+1) y hy z hz;omega
theorem Yc:∀(l:List Tr) (d:Nat) (y:Nat×Tr),y∈Tr.pre.Tr.preL d l→∀s∈y.2.ks,s.length≤Tr.costL l
 | [],_,y,hy,_,_=>by simp [Tr.pre.Tr.preL] at hy
 |t::r,d,y,hy,z,hz=>by
  rw [Tr.pre.Tr.preL] at hy;rw [Tr.costL];rcases List.mem_append.1 hy with h|h
  ·have:=Abz t d y h z hz;omega
  ·have:=Yc r d y h z hz;omega
end
end Go.Proofs.YtgbjodnegkbfoaaGreat
namespace Go.Proofs.YtgbjodnegkbfoaaGreat
open Go.RowKit Go.Acc
theorem Asq(s:List UInt8)(w:World):∃c w',(convert 9 28 (.string ⟨s.toArray⟩)).run Tryz.prog w= .ok (.slice (some ⟨w.heap.size,0,none⟩) s.length c) w'∧Cw w' (some ⟨w.heap.size,0,none⟩) s.length s∧Below w.heap.size w w':=by
 refine⟨_,_,run_bytes_of_string w 9 28 5 ⟨s.toArray⟩ Tryz.underlying9 Tryz.underlying28 Tryz.underlying5,?_,(Below.refl _ _).drew.alloc (Ath _) _⟩;refine⟨rfl,fun j u hu=>⟨_,_,rfl,?_⟩⟩;have hj:j<s.length:=by
  have:=(List.getElem?_eq_some_iff.1 hu).1;rw [Bj Dk] at this;simpa using this
 have hg:=heap_alloc_new w.drew (.cells (bytesRow ⟨s.toArray⟩ (grownCap w s.length 0 5)) 5 ((bytesRow ⟨s.toArray⟩ (grownCap w s.length 0 5)).size,(bytesRow ⟨s.toArray⟩ (grownCap w s.length 0 5)).size+1));change _[w.heap.size]?=_ at hg;rw [show(⟨s.toArray⟩:ByteArray).size=s.length from rfl,cell_of_row _ _ _ _ _ _ hg,Nat.zero_add,bytesRow_at ⟨s.toArray⟩ _ j (by simpa using hj),←hu];have h1:=G7 Dk s j 0 hj (by omega);rw [Nat.mul_one,Nat.add_zero] at h1;rw [h1];rfl
theorem Gm(b n c:Nat)(A:Option Addr)(L:List (List UInt8))(l:List UInt8)(w:World)(o:Nat→Nat)(h:Co w o b l)(hA:Ey w A n L)(ho:∀ad,A=some ad→o ad.block≠1)(hm:l.length+L.flatten.length≤1048576)(hn:n≤1000):
  Calls Tryz.prog 164 #[.pointer (some ⟨b,0,none⟩),.slice A n c] w (Di w o b (l++L.flatten)):=by
 have H:=Hd h;have HA:=Hd hA;have HOO:=Hd ho;have HM:=Hd hm;obtain⟨m,hlm⟩:∃m,l.length=m:=⟨_,rfl⟩;obtain⟨k,hk⟩:∃k,L.flatten.length=k:=⟨_,rfl⟩;have hmk:m+k≤1048576:=by omega
 obtain⟨A',n',c',hb,_⟩:=h;have c2:w.cell? ⟨b,2,none⟩=some (Aa Ab 1048576):=hb.cell 2;have HLM:=Hd hlm;have HK:=Hd hk;have hsum:=Aia A n c L w.drew hA (by omega) (by omega);rw [hk] at hsum;have HS:=Hd hsum;clear hb hA ho hm hlm hk hsum;have hwr:IntKind.i64.wrap (1048576-(m:Int))=1048576-(m:Int):=Afk _ (by omega);have hlt:decide ((1048576:Int)-(m:Int)<(k:Int))=false:=decide_eq_false (by omega);go_enter Tryz.func164,Tryz.ntmps164;go_wp2_with (go_at_call 262;refine(F8 H.o).mono ?_;rintro e w' ⟨rfl,rfl⟩);go_region_held3 (fun w'=>w'.cell? ⟨b,2,none⟩=some (Aa Ab 1048576)) (first|with_reducible exact c2|with_reducible exact Ae c2|with_reducible exact Df _ c2) (first|(go_at_call 263;(with_reducible refine HS.o.mono ?_);rintro e w' ⟨rfl,nd,rfl⟩)|(go_at_call 159;(with_reducible refine(Dg m (H.o.drewN _) HLM.o).mono ?_);rintro e w' ⟨rfl,rfl⟩));have HB:=Hd (show Below w.heap.size w (w.drewN (1+nd)) from below_drewN (Below.refl _ _) _);generalize w.drewN (1+nd)=W at*;clear c2 hwr hlt;go_wp2_with fail;go_loopw [26] (fun i wr=>∃j:Nat,j≤n∧i= Aa Ab j∧∃o',Co wr o' b (l++(L.take j).flatten)∧To (fun i=>i=1) w o wr o'∧Ey wr A n L∧∀ad,A=some ad→o' ad.block≠1) (fun i _=>n-(intOf i).toNat)
 case atStart=>exact⟨0,Atl _,rfl,o,by rw [List.take_zero,List.flatten_nil,List.append_nil];exact H.o.pure HB.o,To.pure _ HB.o o,HA.o.pure HB.o,HOO.o⟩
 case round=>
  clear H HA HB HOO;obtain⟨j,hj,rfl,o',hb,ht,ha,ho⟩:=hrel;have HB:=Hd hb;have HT:=Hd ht;have HA:=Hd ha;have HOO:=Hd ho;have hL:=ha.1;clear hb ht ha ho;by_cases hjn:j<n
  ·obtain⟨b1,o1,rfl,hj1,a0⟩:=Gd HA.o hjn;have hs:=Xv L hj1;have h1:=Aed L (j+1);rw [hs,Atj] at h1;have HL1:=Hd (show(l++(L.take j).flatten).length+L[j].length≤1048576 by have:=HM.o;rw [Atj];omega);have HS:=Hd hs;have hc0:(0:Int)≤(j:Int):=by omega
   obtain⟨sj,hsj⟩:∃x,L[j]=x:=⟨_,rfl⟩;rw [hsj] at a0;obtain⟨cj,wj,hcv,hI,hB2⟩:=Asq sj wr;have HI:=Hd hI;have HB2:=Hd hB2;have HSJ:=Hd hsj;clear hs h1 hI hB2 hsj hL HM;go_wp2_with fail;go_at_call 259;refine(Qm b sj.length _ _ (l++(L.take j).flatten) sj _ o' (HB.o.pure HB2.o) HI.o (by rw [←HSJ.o];exact HL1.o)).mono ?_;rintro e w2 ⟨rfl,o2,hb2,ht2⟩;have HR:=Hd (show Co w2 o2 b (l++(L.take (j+1)).flatten) from by rw [HS.o,HSJ.o,←List.append_assoc];exact hb2);have ht3:=To.from_pure HB2.o ht2;have HT2:=Hd ht3;clear hb2 ht2 ht3;go_wp2;go_roundw
   case rel=>
    refine⟨j+1,by omega,by go_num,o2,HR.o,HT.o.trans HT2.o,HA.o.fr HT2.o.fr (fun ad h=>HOO.o ad h),fun ad h=>?_⟩;injection h with h
    subst h;have hlt1:=Ar a0;rw [HT2.o.ow _ hlt1];exact HOO.o ⟨b1,o1,none⟩ rfl
   case measure=>simp [intOf];omega
  ·have HE:=Hd (show(L.take j).flatten=L.flatten by rw [List.take_of_length_le (by omega)]);clear hL;go_wp2;go_end0;exact⟨rfl,o',by rw [←HE.o];exact HB.o,HT.o⟩
theorem Acz(b:Nat)(l:List UInt8)(w:World)(o:Nat→Nat)(h:Co w o b l)(hm:l.length≤1048576):
  Calls Tryz.prog 165 #[.pointer (some ⟨b,0,none⟩)] w (Zk w l 0):=by
 have H:=Hd h;obtain⟨A,n,c,hb,ho,_⟩:=h;have c1:w.cell? ⟨b,1,none⟩=some (.slice A n c):=hb.cell 1;have HO:=Hd ho;have HN:=Hd (show n≤1099511627776 by have:=ho.1;omega);clear hb ho;go_enter Tryz.func165,Tryz.ntmps165;go_wp2_with (go_at_call 262;refine(F8 H.o).mono ?_;rintro e w' ⟨rfl,rfl⟩);refine(Sj A n c l _ HO.o.is HN.o).mono ?_;rintro e w' ⟨A1,n1,c1',rfl,hO,hB⟩;have HO1:=Hd hO;have HB1:=Hd hB;clear hO hB;go_wp2;go_ret2;exact⟨A1,n1,c1',rfl,HO1.o,HB1.o⟩
theorem Ah9(w:World):
  Calls Tryz.prog 131 #[Aa Ab 1048576] w fun e w'=>∃b,e= .returned (.pointer (some ⟨b,0,none⟩))∧Af w' b 257 #[.bool true,.slice none 0 0,Aa Ab 1048576,Aa Ab 0]∧w.heap.size≤b∧Below w.heap.size w w':=by
 go_enter Tryz.func131,Tryz.ntmps131;go_wp2;go_ret;exact⟨_,rfl,Af.new w _ _,Ath _,(Below.refl _ _).alloc (Ath _) _⟩
abbrev V3:=Int×Int×Int
def vc(x:V3):List Value:=[Aa Ab x.1,Aa Ab x.2.1,Aa Ac x.2.2]
theorem Gz(x:V3):(vc x).length=3:=rfl
theorem Ku(x:V3):∀u∈vc x,u.oneCell'=true:=by
 intro u hu;simp [vc] at hu;rcases hu with rfl|rfl|rfl <;>rfl
abbrev D9:=Is vc
abbrev Fg:=Go.Acc.Own vc 3 210
theorem Ajn{w:World}{A:Option Addr}{n:Nat}{l:List V3}(h:D9 w A n l){k:Nat}(hk:k<n):
  ∃b off,A=some ⟨b,off,none⟩∧∃hk:k<l.length,w.cell? ⟨b,off+k*3,none⟩=some (Aa Ab l[k].1)∧w.cell? ⟨b,off+k*3+1,none⟩=some (Aa Ab l[k].2.1)∧w.cell? ⟨b,off+k*3+2,none⟩=some (Aa Ac l[k].2.2):=by
 obtain⟨b,off,e,hk',hc⟩:=h.at_ Gz (by omega) hk;exact⟨b,off,e,hk',hc 0 (by omega),hc 1 (by omega),hc 2 (by omega)⟩
theorem Kj:(Tryz.prog.info? 210).map (fun i=>(i.zero,i.size,i.bytes))=some (some (.agg #[Aa Ab 0,Aa Ab 0,Aa Ac 0]),3,24):=by kernel_rfl
def Ahw(w:World)(m:List V3)(e:Ending)(w':World):Prop:=
 ∃A n c,e= .returned (.slice A n c)∧Fg w' w.heap.size A n c m∧Below w.heap.size w w'
theorem Ac7{w w1 w':World}{A:Option Addr}{n c:Nat}{l m:List V3}(h:Fg w' w.heap.size A n c l)(hl:l=m)(h1:Below w.heap.size w w1){S:Nat→Prop}(hg:Fr S w1 w')(hS:∀k,k<w.heap.size→¬S k):Ahw w m (.returned (.slice A n c)) w':=by
 subst hl;exact⟨A,n,c,rfl,h,h1.trans (hg.belowB hS h1.size)⟩
theorem Uh(A:Option Addr)(n c:Nat)(l:List V3)(w:World)(h:D9 w A n l)(hl:n≤65536):
  Calls Tryz.prog 337 #[.slice A n c] w (Ahw w l):=by
 have hnil:=fun(w:World) (A:Option Addr) (n c:Nat)=>Lib.run_eql_slice_nil (P:=Tryz.prog) w 185 210 A n c 0 0 Tryz.underlying185
 rcases A with _|a
 ·obtain⟨rfl,rfl⟩:=h.none_ Gz (by omega);clear h hl;go_enter Tryz.func337,Tryz.ntmps337;go_wp2_with fail;go_ret;exact⟨none,0,0,rfl,Own.nil _ _,Below.refl _ _⟩
 ·have hr:D9 (w.alloc (.cells #[] 210)) (some a) n l:=h.alloc _;have ho:Fg (w.alloc (.cells #[] 210)) w.heap.size (some ⟨w.heap.size,0,none⟩) 0 0 []:=⟨rfl,World.ownsRow_lit w #[] 0 (Ath _) (Atl _) rfl⟩;have HR:=Hd hr;clear h hr;go_enter Tryz.func337,Tryz.ntmps337;go_wp2_with (at_builtin;refine Dt _ rfl (.tmp 5) (.tmp 6) _ rfl 210 _ 3 24 Tryz.underlying185 Kj rfl (by omega) Gz Ku _ _ _ _ _ rfl ho _ _ _ _ rfl HR.o (by omega) (by simp) ?_;intro A1 c1 w1 hown1 hfr1 hat1);go_ret;exact Ac7 (by simpa using hown1) rfl ((Below.refl _ _).alloc (Ath _) _) hfr1 (by rintro k hk ⟨ad,h,h'⟩;injection h with h;subst h;simp at h';omega)
def Aq4(w:World)(m:List V3)(x:Value)(e:Ending)(w':World):Prop:=
 ∃A n c,e= .returned (.tuple #[.slice A n c,x])∧Fg w' w.heap.size A n c m∧Below w.heap.size w w'
def Jp(w:World)(B b:Nat)(g:Option Nat)(l:List V3):Prop:=
 ∃A n c,Af w b 261 #[.slice A n c,.bool true]∧Fg w B A n c l∧A.map (·.block)=g∧n≤65536∧B≤b
def Uv(l:List V3)(s:Int):List V3:=if 0≤s∧s≤l.length then l.drop s.toNat else []
def Agn(l:List V3)(s:Int):Bool:=decide (0≤s∧s≤l.length)
def Ago(l:List V3)(s:Int):Int:=if 0≤s∧s≤l.length then 0 else 140
theorem O8(l:List V3)(k:Nat)(h:k≤l.length):Uv l k=l.drop k∧Agn l k=true∧Ago l k=0:=
 ⟨by unfold Uv;rw [if_pos (by omega)];simp,decide_eq_true (by omega),if_pos (by omega)⟩
theorem R2(l:List V3)(s:Int)(h:s<0∨(l.length:Int)<s):Uv l s=[]∧Agn l s=false∧Ago l s=140:=
 ⟨if_neg (by omega),decide_eq_false (by omega),if_neg (by omega)⟩
theorem Nq(b:Nat)(w:World)(h:w.cell? ⟨b,1,none⟩=some (.bool true)):
  Calls Tryz.prog 250 #[.pointer (some ⟨b,0,none⟩)] w fun e w'=>e= .returned (.bool false)∧w=w':=by
 go_enter Tryz.func250,Tryz.ntmps250;go_wp2;go_ret;exact⟨rfl,rfl⟩
theorem Uu(B b:Nat)(g:Option Nat)(l:List V3)(s:Int)(w:World)(h:Jp w B b g l):
  Calls Tryz.prog 251 #[.pointer (some ⟨b,0,none⟩),Aa Ab s] w (Aq4 w (Uv l s) (.bool (Agn l s))):=by
 obtain⟨A,n,c,hb,hown,_,hl,_⟩:=h;have c0:w.cell? ⟨b,0,none⟩=some (.slice A n c):=hb.cell 0;have hr:=hown.is;have hc:=hown.cap.1;have hlen:=hown.1;clear hb hown;by_cases h1:s<0∨(n:Int)<s
 ·obtain⟨e1,e2,_⟩:=R2 l s (by rw [hlen];exact h1);rw [e1,e2];clear hr hlen e1 e2;rcases h1 with h1|h1
  ·go_enter Tryz.func251,Tryz.ntmps251;go_wp2;go_ret2;exact⟨none,0,0,rfl,Own.nil _ _,Below.refl _ _⟩
  ·have h0:¬s<0:=by omega
   go_enter Tryz.func251,Tryz.ntmps251;go_wp2;go_ret2;exact⟨none,0,0,rfl,Own.nil _ _,Below.refl _ _⟩
 ·obtain⟨k,rfl⟩:=Int.eq_ofNat_of_zero_le (a:=s) (by omega);have hk:k≤n:=by omega
  obtain⟨e1,e2,_⟩:=O8 l k (by rw [hlen];exact hk);rw [e1,e2];have HR:=Hd hr;clear hr h1 e1 e2 hlen;go_enter Tryz.func251,Tryz.ntmps251;go_wp2_with fail
  ·refine(Uh A _ _ (l.drop k) w (HR.o.cut0 (by assumption) hc) (by omega)).mono ?_;rintro e w' ⟨A',n',c',rfl,ho,hbw⟩;go_wp2;go_ret2;exact⟨A',n',c',rfl,ho,hbw⟩
  ·refine(Uh _ _ _ (l.drop k) w (HR.o.cut1 Gz) (by omega)).mono ?_;rintro e w' ⟨A',n',c',rfl,ho,hbw⟩;go_wp2;go_ret2;exact⟨A',n',c',rfl,ho,hbw⟩
theorem Nk(B b:Nat)(g:Option Nat)(l:List V3)(s:Int)(w:World)(h:Jp w B b g l):
  Calls Tryz.prog 156 #[.pointer (some ⟨b,0,none⟩),Aa Ab s] w (Aq4 w (Uv l s) (Aa Ab (Ago l s))):=by
 have HS:=Hd h;obtain⟨A,n,c,hb,hown,_,hl,_⟩:=h;have c1:w.cell? ⟨b,1,none⟩=some (.bool true):=hb.cell 1;have hlen:=hown.1;clear hb hown;by_cases h1:s<0∨(n:Int)<s
 ·obtain⟨e1,e2,e3⟩:=R2 l s (by rw [hlen];exact h1);rw [e1,e3];have E1:=Hd e1;have E2:=Hd e2;clear hlen e1 e2 e3 h1;go_enter Tryz.func156,Tryz.ntmps156;go_wp2_with (go_at_call 250;refine(Nq b _ (by assumption)).mono ?_;rintro e w' ⟨rfl,rfl⟩);refine(Uu B b g l s w HS.o).mono ?_;rw [E1.o,E2.o];rintro e w' ⟨A',n',c',rfl,ho,hbw⟩;go_wp2;go_ret2;exact⟨none,0,0,rfl,Own.nil _ _,hbw⟩
 ·obtain⟨k,rfl⟩:=Int.eq_ofNat_of_zero_le (a:=s) (by omega);have hk:k≤n:=by omega
  obtain⟨e1,e2,e3⟩:=O8 l k (by rw [hlen];exact hk);rw [e3];have E2:=Hd e2;clear h1 e1 e2 e3 hlen;go_enter Tryz.func156,Tryz.ntmps156;go_wp2_with (go_at_call 250;refine(Nq b _ (by assumption)).mono ?_;rintro e w' ⟨rfl,rfl⟩);refine(Uu B b g l k w HS.o).mono ?_;rw [E2.o];rintro e w' ⟨A',n',c',rfl,ho,hbw⟩;go_wp2;go_ret2;exact⟨A',n',c',rfl,ho,hbw⟩
theorem Pb(B b:Nat)(g:Option Nat)(l:List V3)(w:World)(h:Jp w B b g l):
  Calls Tryz.prog 326 #[.pointer (some ⟨b,0,none⟩)] w fun e w'=>e= .returned (Aa Ab l.length)∧w=w':=by
 obtain⟨A,n,c,hb,hown,_,hl,_⟩:=h;obtain ⟨c0,c1⟩:=hb.c2;rw [hown.1];clear hb hown;go_enter Tryz.func326,Tryz.ntmps326;go_wp2_with (go_at_call 250;refine(Nq b _ (by assumption)).mono ?_;rintro e w' ⟨rfl,rfl⟩);go_ret;exact⟨rfl,rfl⟩
def Aq6(w:World)(b:Nat)(g:Option Nat)(T:World→Option Nat→Prop)(er:Int)(e:Ending)(w':World):Prop:=
 e= .returned (Aa Ab er)∧∃g',T w' g'∧(g'=g∨g'=some w.heap.size)∧Fr (fun k=>k=b∨some k=g) w w'
theorem Jp.pure{w w':World}{B b:Nat}{g:Option Nat}{l:List V3}(h:Jp w B b g l)(hb:Below w.heap.size w w'):Jp w' B b g l:=by
 obtain⟨A,n,c,h1,h2,h3⟩:=h;exact⟨A,n,c,h1.pure hb,h2.pure hb,h3⟩
theorem Jp.fr{w w':World}{B b:Nat}{g:Option Nat}{l:List V3}{S:Nat→Prop}(h:Jp w B b g l)(hb:Fr S w w')(h1:¬S b)(h2:∀k,g=some k→¬S k):Jp w' B b g l:=by
 obtain⟨A,n,c,b1,b2,b3,b4⟩:=h;exact⟨A,n,c,b1.fr hb h1,b2.fr hb (fun ad h=>h2 _ (by rw [←b3,h];rfl)),b3,b4⟩
theorem Ap8{w:World}{b:Nat}{T:TypeId}{u v:Value}{cs:List Value}(hb:Af w b T (u::cs).toArray):Af (w.setCell ⟨b,0,none⟩ v) b T (v::cs).toArray:=by
 have:=hb.set_ 0 v;simpa using this
theorem Ap9{w:World}{A:Option Addr}{B b n c k:Nat}{l:List V3}{T:TypeId}{u:Value}{cs:List Value}{v:Value}(hT:210≠T)(hb:Af w b T (u::cs).toArray)(ho:Fg w B A n c l):Fg (w.setCell ⟨b,0,none⟩ v) B A (n-k) c (l.take (n-k)):=by
 refine(ho.fr (Fr.setCell (S:=fun k=>k=b) (Fr.refl _ _) (fun _=>rfl) v) ?_).take Gz (by omega);rintro ad rfl rfl;exact Hu ho.2 hb hT (by simp [Value.ownBlock])
theorem Anh{w w':World}{A A':Option Addr}{B b n c n' c':Nat}{l m:List V3}{T:TypeId}{u:Value}{cs:List Value}{v:Value}(hT:210≠T)(hb:Af w' b T (u::cs).toArray)(_ho:Fg w' B A n c l)(ho:Fg w' w.heap.size A' n' c' m)(_hbw:Below w.heap.size w w')(hlt:b<w.heap.size):
  Fg (w'.setCell ⟨b,0,none⟩ v) w.heap.size A' n' c' m:=by
 have _:=hT;have _:=hb;refine ho.fr (Fr.setCell (S:=fun k=>k=b) (Fr.refl _ _) (fun _=>rfl) v) ?_;rintro ad rfl rfl;have:=(ho.addr ad rfl).2.1;omega
theorem Akn{w w1:World}{A A1:Option Addr}{B b n c n2 c1:Nat}{g:Option Nat}{l:List V3}(hg:A.map (·.block)=g)(hb:Af w1 b 261 #[.slice A n c,.bool true])(ho:Fg w1 B A1 (n+n2) c1 l)
  (hf:Fr (fun k=>∃ad,A=some ad∧k=ad.block) w w1) (hat:A1.map (·.block)=A.map (·.block)∨A1.map (·.block)=some w.heap.size) (hn:n+n2≤65536) (hB:B≤b) (hlt:b<w.heap.size):
  ∃g',Jp (w1.setCell ⟨b,0,none⟩ (.slice A1 (n+n2) c1)) B b g' l∧(g'=g∨g'=some w.heap.size)∧Fr (fun k=>k=b∨some k=g) w (w1.setCell ⟨b,0,none⟩ (.slice A1 (n+n2) c1)):=by
 have hset:Fr (fun k=>k=b) w1 (w1.setCell ⟨b,0,none⟩ (.slice A1 (n+n2) c1)):=Fr.setCell (S:=fun k=>k=b) (Fr.refl _ _) (fun _=>rfl) _;refine⟨A1.map (·.block),⟨A1,n+n2,c1,hb.set_ 0 _,ho.fr hset ?_,rfl,hn,hB⟩,?_,?_⟩
 ·rintro ad rfl rfl;exact Hu ho.2 hb (by decide) (by simp [Value.ownBlock])
 ·rw [←hg];exact hat
 ·refine(hf.mono ?_).setCell (fun _=> .inl rfl) _;rintro i _ ⟨ad,rfl,rfl⟩;exact .inr (by rw [←hg];rfl)
theorem Akp(B b:Nat)(g:Option Nat)(l m:List V3)(A2:Option Addr)(n2 c2:Nat)(w:World)(h:Jp w B b g l)(hm:D9 w A2 n2 m)(hlm:l.length+m.length≤65536)(hB:B≤w.heap.size):
  Calls Tryz.prog 327 #[.pointer (some ⟨b,0,none⟩),.slice A2 n2 c2] w (Aq6 w b g (fun w' g'=>Jp w' B b g' (l++m)) 0):=by
 obtain⟨A,n,c,hb,hown,hg,hl,hBb⟩:=h;obtain ⟨c0,c1⟩:=hb.c2;rw [hown.1,hm.1] at hlm;have hne:∀ad,A=some ad→ad.block≠b:=by
  rintro ad rfl e;exact Hu hown.2 hb (by decide) (by simp [Value.ownBlock,e])
 have HO:=Hd hown;have HM:=Hd hm;have HB:=Hd hb;have HN:=Hd hne;have hlt:=hb.lt;clear hb hown hm hne;go_enter Tryz.func327,Tryz.ntmps327;go_wp2_with (first|(go_at_call 250;refine(Nq b _ (by assumption)).mono ?_;rintro e w' ⟨rfl,rfl⟩)|((at_builtin;refine Dt _ rfl (.tmp 24) (.tmp 25) _ rfl 210 _ 3 24 Tryz.underlying185 Kj rfl (by omega) Gz Ku _ _ _ _ _ rfl HO.o _ _ _ _ rfl HM.o (by omega) hB ?_;intro A1 c1 w1 hown1 hfr1 hat1);have B1:=HB.o.fr hfr1 (by rintro⟨ad,h,h'⟩;exact HN.o ad h h'.symm);have d0:w1.cell? ⟨b,0,none⟩=some (.slice A n c):=B1.cell 0;have f0:=B1.frozen 0;have HB1:=Hd B1;clear B1));go_ret;exact⟨rfl,Akn hg HB1.o hown1 hfr1 hat1 hlm hBb hlt⟩
def Ang(l:List V3)(s:Int):Int:=if 0≤s∧s≤l.length then 0 else 140
def Ag9(l:List V3)(s:Int):List V3:=if 0≤s∧s≤l.length then l.drop (l.length-s.toNat) else []
def Aha(l:List V3)(s:Int):List V3:=if 0≤s∧s≤l.length then l.take (l.length-s.toNat) else l
theorem Aep(l:List V3)(k:Nat)(h:k≤l.length):Ag9 l k=l.drop (l.length-k)∧Aha l k=l.take (l.length-k)∧Ang l k=0:=
 ⟨by unfold Ag9;rw [if_pos (by omega)];simp,by unfold Aha;rw [if_pos (by omega)];simp,if_pos (by omega)⟩
theorem Arv(l:List V3)(s:Int)(h:s<0∨(l.length:Int)<s):Ag9 l s=[]∧Aha l s=l∧Ang l s=140:=
 ⟨if_neg (by omega),if_neg (by omega),if_neg (by omega)⟩
def Aq5(w:World)(b:Nat)(T:World→Prop)(m:List V3)(er:Int)(e:Ending)(w':World):Prop:=
 ∃A n c,e= .returned (.tuple #[.slice A n c,Aa Ab er])∧Fg w' w.heap.size A n c m∧T w'∧Fr (fun k=>k=b) w w'
theorem Ani(B b:Nat)(g:Option Nat)(l:List V3)(s:Int)(w:World)(h:Jp w B b g l)(hs: -9223372036854775808≤s)(hs2:s≤9223372036854775807):
  Calls Tryz.prog 233 #[.pointer (some ⟨b,0,none⟩),Aa Ab s] w (Aq5 w b (fun w'=>Jp w' B b g (Aha l s)) (Ag9 l s) (Ang l s)):=by
 have HS:=Hd h;obtain⟨n,hlen,hl⟩:∃n,l.length=n∧n≤65536:=by obtain⟨A,n,c,hb,hown,hg,hl,hBb⟩:=h;exact⟨n,hown.1,hl⟩
 clear h;by_cases h1:s<0∨(n:Int)<s
 ·obtain⟨e1,e2,e3⟩:=Arv l s (by rw [hlen];exact h1);rw [e1,e2,e3];clear e1 e2 e3;rcases h1 with h1|h1
  ·obtain⟨f1,f2,f3⟩:=R2 l (-1) (.inl (by omega));have F1:=Hd f1;have F3:=Hd f3;have HL:=Hd hlen;clear f1 f2 f3 hlen;go_enter Tryz.func233,Tryz.ntmps233;go_wp2_with (go_at_call 326;refine(Pb B b g l _ HS.o).mono ?_;rw [HL.o];rintro e w' ⟨rfl,rfl⟩);refine(Nk B b g l (-1) w HS.o).mono ?_;rw [F1.o,F3.o];rintro e w' ⟨A',n',c',rfl,ho,hbw⟩;go_wp2;go_ret2;exact⟨A',n',c',rfl,ho,HS.o.pure hbw,Fr.of_below hbw _⟩
  ·obtain⟨f1,f2,f3⟩:=R2 l ((n:Int)-s) (.inl (by omega));have F1:=Hd f1;have F3:=Hd f3;have HL:=Hd hlen;have h0:¬s<0:=by omega
   clear f1 f2 f3 hlen;go_enter Tryz.func233,Tryz.ntmps233;go_wp2_with (go_at_call 326;refine(Pb B b g l _ HS.o).mono ?_;rw [HL.o];rintro e w' ⟨rfl,rfl⟩);refine(Nk B b g l _ w HS.o).mono ?_;rw [F1.o,F3.o];rintro e w' ⟨A',n',c',rfl,ho,hbw⟩;go_wp2;go_ret2;exact⟨A',n',c',rfl,ho,HS.o.pure hbw,Fr.of_below hbw _⟩
 ·obtain⟨k,rfl⟩:=Int.eq_ofNat_of_zero_le (a:=s) (by omega);have hk:k≤n:=by omega
  obtain⟨e1,e2,e3⟩:=Aep l k (by rw [hlen];exact hk);rw [e1,e2,e3];obtain⟨f1,f2,f3⟩:=O8 l (n-k) (by omega);have ek:((n-k:Nat):Int)=(n:Int)-k:=by omega
  rw [ek] at f1 f3;have F1:=Hd f1;have F3:=Hd f3;have HL:=Hd hlen;clear e1 e2 e3 f1 f2 f3 ek h1 hlen;obtain⟨A,n0,c,hb,hown,hg,hl,hBb⟩:=HS.o;obtain rfl:n=n0:=HL.o.symm.trans hown.1;have HB:=Hd hb;have HO:=Hd hown;have hlt:=hb.lt;have hcap:=hown.cap.1;clear hb hown;go_enter Tryz.func233,Tryz.ntmps233;go_wp2_with (go_at_call 326;refine(Pb B b g l _ HS.o).mono ?_;rw [HL.o];rintro e w' ⟨rfl,rfl⟩);refine(Nk B b g l _ w HS.o).mono ?_;rw [F1.o,F3.o];rintro e w' ⟨A',n',c',rfl,ho,hbw⟩;have B1:=HB.o.pure hbw;have d0:w'.cell? ⟨b,0,none⟩=some (.slice A n c):=B1.cell 0;have f0:=B1.frozen 0;have HB1:=Hd B1;clear B1;go_wp2;go_ret2;rw [HL.o];exact⟨A',n',c',rfl,Anh (T:=261) (by decide) (cs:=[.bool true]) HB1.o (HO.o.pure hbw) ho hbw hlt,⟨A,n-k,c,Ap8 HB1.o,Ap9 (by decide) HB1.o (HO.o.pure hbw),hg,by omega,hBb⟩,Fr.setCell (S:=fun k=>k=b) (Fr.of_below hbw _) (fun _=>rfl) _⟩
theorem Jp.ge{w:World}{B b:Nat}{g:Option Nat}{l:List V3}(h:Jp w B b g l):B≤b∧b<w.heap.size∧∀k,g=some k→B≤k∧k<w.heap.size∧k≠b:=by
 obtain⟨A,n,c,h1,h2,rfl,_,h4⟩:=h;refine⟨h4,h1.lt,fun k hk=>?_⟩;cases A with
 |none=>cases hk
 |some ad=>
  injection hk with hk
  subst hk;exact⟨(h2.addr ad rfl).2.1,(h2.addr ad rfl).2.2,fun e=>Hu h2.2 h1 (by decide) (by simp [Value.ownBlock,e])⟩
theorem Jp.rebase{w:World}{B B' b:Nat}{g:Option Nat}{l:List V3}(h:Jp w B b g l)(hB:B'≤B):Jp w B' b g l:=by
 obtain⟨A,n,c,h1,h2,h3,h4,h5⟩:=h;exact⟨A,n,c,h1,h2.rebase hB,h3,h4,by omega⟩
def vv(v:Bv):V3:=(v.t,v.w,v.n)
def Ml(w:World)(o:Nat→Nat)(b:Nat)(s:List Bv):Prop:=∃g,Jp w 0 b g (s.map vv)∧o b=3∧∀k,g=some k→o k=3
def Jw(n:Nat):List Value:=[Aa Ab (n:Int)]
theorem Fl(x:Nat):(Jw x).length=1:=rfl
theorem Aef(x:Nat):∀u∈Jw x,u.oneCell'=true:=by
 intro u hu;simp [Jw] at hu;subst hu;rfl
abbrev Kz:=Go.Acc.Own Jc 1 9
abbrev Qh:=Go.Acc.Own Jw 1 3
def Gh(w:World)(o:Nat→Nat)(i p:Nat)(m:List (List UInt8×Nat)):Prop:=
 ∃A1 A2 n c1 c2 ks ns,Af w p 265 #[.slice A1 n c1,.slice A2 n c2,.bool true]∧Kz w 0 A1 n c1 ks∧Qh w 0 A2 n c2 ns∧Of o A1 i∧Of o A2 i∧o p=i∧
  ks.Pairwise (fun x y=>Op.bytesLess x y=true)∧(∀s,Bf m s=Bf (ks.zip ns) s)∧n≤m.length∧∀a∈ns,a≤1048576
def Lj(w:World)(o:Nat→Nat)(p:Nat)(m:List (Nat×List UInt8)):Prop:=
 o p=7∧∃n D,w.ownsMap (H:=Unit) Tryz.prog 22 (plainElem Tryz.prog 9) p n D∧n≤m.length∧∀a s,m.find? (fun x=>x.1==a)=some (a,s)→D.atKey (.int .u64 a) (.lit (.string []))= .lit (.string s)
structure Bp where
 β:Nat
 bb:Nat
 sb:Nat
 kb:Nat
 tb:Nat
 lb:Nat
 mb:Nat
def Gf(M:Bp)(fl:Int)(w:World)(o:Nat→Nat)(vals:List Bv):Prop:=
 ∃A n c,Af w M.β 189 #[.pointer (some ⟨M.bb,0,none⟩),.pointer (some ⟨M.sb,0,none⟩),Aa Ab 0,Aa Ab fl,.pointer (some ⟨M.kb,0,none⟩),.pointer (some ⟨M.tb,0,none⟩),.pointer (some ⟨M.lb,0,none⟩),.map (some M.mb),.slice A n c,.bool true]∧
  Fg w 0 A n c (vals.map vv)∧Of o A 8∧o M.β=2
structure BM(M:Bp)(fl:Int)(w:World)(o:Nat→Nat)(b:Bd):Prop where
 head:Gf M fl w o b.vals
 buf:Co w o M.bb b.b
 stk:Ml w o M.sb b.s
 keys:Gh w o 4 M.kb b.keys
 texts:Gh w o 5 M.tb b.texts
 lists:Gh w o 6 M.lb b.lists
 names:Lj w o M.mb b.names
def B7(i:Nat):Prop:=1≤i∧i≤8
def Cq(M:Bp)(fl:Int)(b:Bd)(w:World)(o:Nat→Nat)(e:Ending)(w':World):Prop:=
 e= .returned (.tuple #[])∧∃o',BM M fl w' o' b∧To B7 w o w' o'
section
variable {I:Nat→Prop} {w w':World} {o o':Nat→Nat} {M:Bp} {fl:Int} {b:Bd}
theorem Ml.to_{p:Nat}{s:List Bv}(h:Ml w o p s)(ht:To I w o w' o')(hI:¬I 3):Ml w' o' p s:=by
 obtain⟨g,hs,h1,h2⟩:=h;have hg:=hs.ge;refine⟨g,hs.fr ht.fr (by rw [h1];exact hI) (fun k hk=>by rw [h2 k hk];exact hI),by rw [ht.ow _ hg.2.1];exact h1,fun k hk=>by rw [ht.ow _ (hg.2.2 k hk).2.1];exact h2 k hk⟩
theorem Gh.to_{i p:Nat}{m:List (List UInt8×Nat)}(h:Gh w o i p m)(ht:To I w o w' o')(hI:¬I i):Gh w' o' i p m:=by
 obtain⟨A1,A2,n,c1,c2,ks,ns,hb,h1,h2,o1,o2,op,rest⟩:=h;exact⟨A1,A2,n,c1,c2,ks,ns,hb.to_ ht (by rw [op];exact hI),h1.to_ o1 ht hI,h2.to_ o2 ht hI,o1.to_ h1 ht,o2.to_ h2 ht,by rw [ht.ow _ hb.lt];exact op,rest⟩
theorem Lj.to_{p:Nat}{m:List (Nat×List UInt8)}(h:Lj w o p m)(ht:To I w o w' o')(hI:¬I 7):Lj w' o' p m:=by
 obtain⟨op,n,D,hm,rest⟩:=h;have hlt:=hm.lt;refine⟨by rw [ht.ow _ hlt];exact op,n,D,?_,rest⟩;obtain⟨es,clock,hb,F⟩:=hm;exact⟨es,clock,(ht.keep hlt (by rw [op];exact hI)).trans hb,F⟩
theorem Gf.to_{vals:List Bv}(h:Gf M fl w o vals)(ht:To I w o w' o')(h2:¬I 2)(h8:¬I 8):Gf M fl w' o' vals:=by
 obtain⟨A,n,c,hb,ho,h1,op⟩:=h;exact⟨A,n,c,hb.to_ ht (by rw [op];exact h2),ho.to_ h1 ht h8,h1.to_ ho ht,by rw [ht.ow _ hb.lt];exact op⟩
theorem BM.to_(h:BM M fl w o b)(ht:To I w o w' o')(hI:∀i,B7 i→¬I i):BM M fl w' o' b:=
 ⟨h.head.to_ ht (hI _ ⟨by omega,by omega⟩) (hI _ ⟨by omega,by omega⟩),h.buf.to_ ht (hI _ ⟨by omega,by omega⟩),h.stk.to_ ht (hI _ ⟨by omega,by omega⟩),h.keys.to_ ht (hI _ ⟨by omega,by omega⟩),
  h.texts.to_ ht (hI _ ⟨by omega,by omega⟩),h.lists.to_ ht (hI _ ⟨by omega,by omega⟩),h.names.to_ ht (hI _ ⟨by omega,by omega⟩)⟩
theorem BM.pure(h:BM M fl w o b)(hb:Below w.heap.size w w'):BM M fl w' o b:=h.to_ (To.pure (fun _=>False) hb o) (fun _ _ h=>h)
theorem BM.fresh(h:BM M fl w o b)(hb:Below w.heap.size w w')(i:Nat):BM M fl w' (Ak o w.heap.size i) b:=h.to_ (To.fresh (fun _=>False) hb o i) (fun _ _ h=>h)
theorem BM.buf_(h:BM M fl w o b){l:List UInt8}(ht:To (fun i=>i=1) w o w' o')(hb:Co w' o' M.bb l):BM M fl w' o' { b with b:=l}:=
 ⟨h.head.to_ ht (by omega) (by omega),hb,h.stk.to_ ht (by omega),h.keys.to_ ht (by omega),h.texts.to_ ht (by omega),h.lists.to_ ht (by omega),h.names.to_ ht (by omega)⟩
theorem BM.stk_(h:BM M fl w o b){s:List Bv}(ht:To (fun i=>i=3) w o w' o')(hb:Ml w' o' M.sb s):BM M fl w' o' { b with s:=s}:=
 ⟨h.head.to_ ht (by omega) (by omega),h.buf.to_ ht (by omega),hb,h.keys.to_ ht (by omega),h.texts.to_ ht (by omega),h.lists.to_ ht (by omega),h.names.to_ ht (by omega)⟩
theorem BM.keys_(h:BM M fl w o b){m:List (List UInt8×Nat)}(ht:To (fun i=>i=4) w o w' o')(hb:Gh w' o' 4 M.kb m):BM M fl w' o' { b with keys:=m}:=
 ⟨h.head.to_ ht (by omega) (by omega),h.buf.to_ ht (by omega),h.stk.to_ ht (by omega),hb,h.texts.to_ ht (by omega),h.lists.to_ ht (by omega),h.names.to_ ht (by omega)⟩
theorem BM.texts_(h:BM M fl w o b){m:List (List UInt8×Nat)}(ht:To (fun i=>i=5) w o w' o')(hb:Gh w' o' 5 M.tb m):BM M fl w' o' { b with texts:=m}:=
 ⟨h.head.to_ ht (by omega) (by omega),h.buf.to_ ht (by omega),h.stk.to_ ht (by omega),h.keys.to_ ht (by omega),hb,h.lists.to_ ht (by omega),h.names.to_ ht (by omega)⟩
theorem BM.lists_(h:BM M fl w o b){m:List (List UInt8×Nat)}(ht:To (fun i=>i=6) w o w' o')(hb:Gh w' o' 6 M.lb m):BM M fl w' o' { b with lists:=m}:=
 ⟨h.head.to_ ht (by omega) (by omega),h.buf.to_ ht (by omega),h.stk.to_ ht (by omega),h.keys.to_ ht (by omega),h.texts.to_ ht (by omega),hb,h.names.to_ ht (by omega)⟩
theorem BM.names_(h:BM M fl w o b){m:List (Nat×List UInt8)}(ht:To (fun i=>i=7) w o w' o')(hb:Lj w' o' M.mb m):BM M fl w' o' { b with names:=m}:=
 ⟨h.head.to_ ht (by omega) (by omega),h.buf.to_ ht (by omega),h.stk.to_ ht (by omega),h.keys.to_ ht (by omega),h.texts.to_ ht (by omega),h.lists.to_ ht (by omega),hb⟩
theorem BM.head_(h:BM M fl w o b){vals:List Bv}(ht:To (fun i=>i=2∨i=8) w o w' o')(hb:Gf M fl w' o' vals):BM M fl w' o' { b with vals:=vals}:=
 ⟨hb,h.buf.to_ ht (by omega),h.stk.to_ ht (by omega),h.keys.to_ ht (by omega),h.texts.to_ ht (by omega),h.lists.to_ ht (by omega),h.names.to_ ht (by omega)⟩
theorem Cq.from_pure{w0:World}{e:Ending}(hb:Below w0.heap.size w0 w)(h:Cq M fl b w o e w'):Cq M fl b w0 o e w':=by
 obtain⟨h1,o',h2,h3⟩:=h;exact⟨h1,o',h2,h3.from_pure hb⟩
theorem Cq.from_fresh{w0:World}{i:Nat}{e:Ending}(hb:Below w0.heap.size w0 w)(h:Cq M fl b w (Ak o w0.heap.size i) e w'):Cq M fl b w0 o e w':=by
 obtain⟨h1,o',h2,h3⟩:=h;exact⟨h1,o',h2,(To.fresh _ hb o i).trans h3⟩
theorem Ia{i:Nat}(h:i=1):B7 i:=by subst h;exact⟨by omega,by omega⟩
theorem Afx{i:Nat}(h:i=3):B7 i:=by subst h;exact⟨by omega,by omega⟩
theorem Gf.cells{vals:List Bv}(h:Gf M fl w o vals):w.cell? ⟨M.β,0,none⟩=some (.pointer (some ⟨M.bb,0,none⟩))∧w.cell? ⟨M.β,1,none⟩=some (.pointer (some ⟨M.sb,0,none⟩))∧w.cell? ⟨M.β,2,none⟩=some (Aa Ab 0)∧w.cell? ⟨M.β,9,none⟩=some (.bool true)∧
  w.frozen? ⟨M.β,2,none⟩=false:=by
 obtain⟨A,n,c,hb,_⟩:=h;exact⟨hb.cell 0,hb.cell 1,hb.cell 2,hb.cell 9,hb.frozen 2⟩
end
theorem Ant(b:Nat)(s l:List Bv)(A2:Option Addr)(n2 c2:Nat)(w:World)(o:Nat→Nat)(h:Ml w o b s)(hm:D9 w A2 n2 (l.map vv))(hl:s.length+l.length≤65536):
  Calls Tryz.prog 327 #[.pointer (some ⟨b,0,none⟩),.slice A2 n2 c2] w fun e w'=>e= .returned (Aa Ab 0)∧∃o',Ml w' o' b (s++l)∧To (fun i=>i=3) w o w' o':=by
 obtain⟨g,hs,h1,h2⟩:=h;have hge:=hs.ge;refine(Akp 0 b g (s.map vv) (l.map vv) A2 n2 c2 w hs hm (by simpa using hl) (Atl _)).mono ?_;rintro e w' ⟨rfl,g',hs',hg',hf⟩;refine⟨rfl,Ak o w.heap.size 3,⟨g',by rw [List.map_append];exact hs',by rw [Au hge.2.1];exact h1,?_⟩,To.of_fr hf ?_ 3⟩
 ·intro k hk;rcases hg' with e|e
  ·rw [e] at hk;rw [Au (hge.2.2 k hk).2.1];exact h2 k hk
  ·rw [e] at hk;injection hk with hk
   rw [←hk,Am (Ath _)]
 ·rintro k hk (rfl|e)
  ·exact h1
  ·exact h2 k e.symm
theorem Aqj(b n:Nat)(s:List Bv)(w:World)(o:Nat→Nat)(h:Ml w o b s)(hn:s.length=n):
  Calls Tryz.prog 326 #[.pointer (some ⟨b,0,none⟩)] w fun e w'=>e= .returned (Aa Ab n)∧w=w':=by
 obtain⟨g,hs,h1,h2⟩:=h;have:=Pb 0 b g (s.map vv) w hs;rw [Atq,hn] at this;exact this
theorem Ab5(b k:Nat)(s:List Bv)(w:World)(o:Nat→Nat)(h:Ml w o b s)(hk:k≤s.length):
  Calls Tryz.prog 156 #[.pointer (some ⟨b,0,none⟩),Aa Ab (k:Int)] w fun e w'=>∃A n c,e= .returned (.tuple #[.slice A n c,Aa Ab 0])∧Fg w' w.heap.size A n c ((s.drop k).map vv)∧Below w.heap.size w w':=by
 obtain⟨g,hs,h1,h2⟩:=h;obtain⟨e1,_,e3⟩:=O8 (s.map vv) k (by simpa using hk);have:=Nk 0 b g (s.map vv) k w hs;rw [e1,e3,←List.map_drop] at this;exact this
theorem Ae7(b k:Nat)(s:List Bv)(w:World)(o:Nat→Nat)(h:Ml w o b s)(hk:k≤s.length)(hk2:k≤65536):
  Calls Tryz.prog 233 #[.pointer (some ⟨b,0,none⟩),Aa Ab (k:Int)] w fun e w'=>(∃A n c,e= .returned (.tuple #[.slice A n c,Aa Ab 0]))∧∃o',Ml w' o' b (s.take (s.length-k))∧To (fun i=>i=3) w o w' o':=by
 obtain⟨g,hs,h1,h2⟩:=h;have hge:=hs.ge;obtain⟨e1,e2,e3⟩:=Aep (s.map vv) k (by simpa using hk);refine(Ani 0 b g (s.map vv) k w hs (by omega) (by omega)).mono ?_;rintro e w' ⟨A,n,c,rfl,_,hs',hf⟩;rw [e3];rw [e2,←List.map_take,Atq] at hs';refine⟨⟨A,n,c,rfl⟩,Ak o w.heap.size 3,⟨g,hs',by rw [Au hge.2.1];exact h1,fun k' hk'=>by rw [Au (hge.2.2 k' hk').2.1];exact h2 k' hk'⟩,To.of_fr hf ?_ 3⟩;rintro k' _ rfl;exact h1
theorem O3(b:Nat)(w:World)(h:w.cell? ⟨b,9,none⟩=some (.bool true)):
  Calls Tryz.prog 155 #[.pointer (some ⟨b,0,none⟩)] w fun e w'=>e= .returned (.bool false)∧w=w':=by
 go_enter Tryz.func155,Tryz.ntmps155;go_wp2;go_ret;exact⟨rfl,rfl⟩
theorem Apa{M:Bp}{fl:Int}{w:World}{o:Nat→Nat}{vals:List Bv}(h:Gf M fl w o vals):Calls Tryz.prog 320 #[.pointer (some ⟨M.β,0,none⟩)] w fun e w'=>e= .returned (Aa Ab 0)∧w=w':=by
 obtain⟨c0,c1,c2,c9,_⟩:=h.cells;clear h;go_enter Tryz.func320,Tryz.ntmps320;go_wp2_with (go_at_call 155;refine(O3 M.β _ (by assumption)).mono ?_;rintro e w' ⟨rfl,rfl⟩);go_ret;exact⟨rfl,rfl⟩
theorem Gf.same{M:Bp}{fl:Int}{w:World}{o:Nat→Nat}{vals:List Bv}(h:Gf M fl w o vals):Gf M fl (w.setCell ⟨M.β,2,none⟩ (Aa Ab 0)) o vals∧To (fun i=>i=2∨i=8) w o (w.setCell ⟨M.β,2,none⟩ (Aa Ab 0)) o:=by
 obtain⟨A,n,c,hb,ho,h1,op⟩:=h;have hT:To (fun i=>i=2∨i=8) w o (w.setCell ⟨M.β,2,none⟩ (Aa Ab 0)) o:=To.of_fr0 (Fr.setCell (S:=fun k=>k=M.β) (Fr.refl _ w) (fun _=>rfl) _) (by rintro k _ rfl;exact .inl op);refine⟨⟨A,n,c,by have:=hb.set_ 2 (Aa Ab 0);simpa using this,ho.fr (Fr.setCell (S:=fun k=>k=M.β) (Fr.refl _ w) (fun _=>rfl) _) ?_,h1,op⟩,hT⟩;rintro ad rfl hk;exact Hu ho.2 hb (by decide) (by simp [Value.ownBlock,hk])
theorem Ha{M:Bp}{fl:Int}{w:World}{o:Nat→Nat}{b:Bd}(h:BM M fl w o b):Calls Tryz.prog 157 #[.pointer (some ⟨M.β,0,none⟩),Aa Ab 0] w (Cq M fl b w o):=by
 have H:=Hd h;obtain⟨c0,c1,c2,c9,f2⟩:=h.head.cells;clear h;go_enter Tryz.func157,Tryz.ntmps157;go_wp2;go_end0;obtain⟨h1,h2⟩:=H.o.head.same;refine⟨rfl,o,H.o.head_ h2 h1,h2.mono ?_⟩;rintro i (rfl|rfl) <;>exact⟨by omega,by omega⟩
theorem Apl(W:World)(v:V3):D9 (W.alloc (.cells #[Aa Ab v.1,Aa Ab v.2.1,Aa Ac v.2.2] 210)) (some ⟨W.heap.size,0,none⟩) 1 [v]:=by
 refine⟨rfl,fun j u hu=>⟨_,_,rfl,?_⟩⟩;rw [Nat.zero_add,(Af.new W _ _).cell j];simpa [vc] using hu
theorem Gf.own{M:Bp}{fl:Int}{w:World}{o:Nat→Nat}{vals:List Bv}(h:Gf M fl w o vals):o M.β=2:=by obtain⟨A,n,c,_,_,_,h⟩:=h;exact h
theorem Bi:¬B7 0:=by rintro⟨h,_⟩;omega
theorem Mb(M:Bp)(fl:Int)(b:Bd)(v:Bv)(w:World)(o:Nat→Nat)(h:BM M fl w o b)(hs:b.s.length<65536):
  Calls Tryz.prog 235 #[.pointer (some ⟨M.β,0,none⟩),.agg #[Aa Ab (v.t:Int),Aa Ab (v.w:Int),Aa Ac (v.n:Int)]] w (Cq M fl (b.push v) w o):=by
 have HS:=Hd hs;have hB1:Below w.heap.size w (w.alloc (.cells #[Aa Ab (v.t:Int),Aa Ab (v.w:Int),Aa Ac (v.n:Int)] 210)):=(Below.refl _ _).alloc (Ath _) _;have HB1:=Hd hB1;have HM1:=Hd (h.fresh hB1 0);have HX1:=Hd (Af.new w 210 #[Aa Ab (v.t:Int),Aa Ab (v.w:Int),Aa Ac (v.n:Int)]);have HO1:=Hd (show Ak o w.heap.size 0 w.heap.size=0 from Am (Ath _));obtain⟨β,hβ⟩:∃x,M.β=x:=⟨_,rfl⟩;obtain⟨bb,hbb⟩:∃x,M.bb=x:=⟨_,rfl⟩;obtain⟨sb,hsb⟩:∃x,M.sb=x:=⟨_,rfl⟩;obtain⟨a0,a1,a2,a9,f2⟩:=HM1.o.head.cells;rw [hβ] at a0 a1 a2 f2;rw [hbb] at a0;rw [hβ];have Hβ:=Hd hβ;have Hbb:=Hd hbb;have Hsb:=Hd hsb;clear h hs a1 a2 a9 f2 hβ hbb hsb hB1;go_enter Tryz.func235,Tryz.ntmps235;go_wp2_with fail;go_at_call 262;rw [←Hbb.o];refine(F8 HM1.o.buf).mono ?_;rintro e w' ⟨rfl,rfl⟩;go_wp2_with fail;go_at_call 157;rw [←Hβ.o];refine(Ha HM1.o).mono ?_;rintro e W2 ⟨rfl,o2,hM2,hT2⟩;have hX2:=HX1.o.to_ hT2 (by rw [HO1.o];exact Bi);have HO2:=Hd (show o2 w.heap.size=0 by rw [hT2.ow _ HX1.o.lt];exact HO1.o);obtain⟨b0,b1,b2,b9,f2⟩:=hM2.head.cells;rw [Hβ.o] at b1 b2;rw [Hsb.o] at b1;rw [Hβ.o];obtain ⟨x0,x1,x2⟩:=hX2.c3;have HM2:=Hd hM2;have HT2:=Hd hT2;have HX2:=Hd hX2;clear hX2 b0 b9 f2 hM2 hT2 a0;go_wp2_with fail;have HL:=Hd (show b.s.length+ [v].length≤65536 from HS.o);have hB3:Below W2.heap.size W2 (W2.alloc (.cells #[Aa Ab (v.t:Int),Aa Ab (v.w:Int),Aa Ac (v.n:Int)] 210)).drew:=((Below.refl _ _).alloc (Ath _) _).drew;have HB3:=Hd hB3;have HM3:=Hd (HM2.o.pure hB3);have HI:=Hd (show D9 (W2.alloc (.cells #[Aa Ab (v.t:Int),Aa Ab (v.w:Int),Aa Ac (v.n:Int)] 210)).drew (some ⟨W2.heap.size,0,none⟩) 1 ([v].map vv) from Apl W2 (vv v));have hlt:=Nat.ne_of_lt (Ar b1);simp only at hlt;have hltx:=Nat.ne_of_lt (Ar x0);simp only at hltx;clear hB3;rw [←Hsb.o] at b1;go_region_held3 (fun w'=>w'.cell? ⟨β,1,none⟩=some (.pointer (some ⟨M.sb,0,none⟩))∧w'.cell? ⟨w.heap.size,0,none⟩=some (Aa Ab (v.t:Int))∧w'.cell? ⟨w.heap.size,1,none⟩=some (Aa Ab (v.w:Int))∧w'.cell? ⟨w.heap.size,2,none⟩=some (Aa Ac (v.n:Int))) (first|with_reducible exact⟨b1,x0,x1,x2⟩|with_reducible exact⟨Ae b1,Ae x0,Ae x1,Ae x2⟩|with_reducible exact⟨Ae (Al _ b1),Ae (Al _ x0),Ae (Al _ x1),Ae (Al _ x2)⟩|with_reducible exact⟨y1,y2,y3,y4⟩|with_reducible exact⟨z1,z2,z3,z4⟩) (first|(go_at_call 327;(with_reducible refine(Ant M.sb b.s [v] _ _ _ _ o2 HM3.o.stk HI.o HL.o).mono ?_);rintro e W4 ⟨rfl,o4,hS4,hT4⟩;have hM4:=HM3.o.stk_ hT4 hS4;have y1:=hT4.cell (Ae (Al _ b1)) (by rw [show o2 β=2 by rw [←Hβ.o];exact HM2.o.head.own];omega);have y2:=hT4.cell (Ae (Al _ x0)) (by rw [HO2.o];omega);have y3:=hT4.cell (Ae (Al _ x1)) (by rw [HO2.o];omega);have y4:=hT4.cell (Ae (Al _ x2)) (by rw [HO2.o];omega);have HM4:=Hd hM4;have HT4:=Hd hT4;have HO4:=Hd (show o4 w.heap.size=0 by rw [hT4.ow _ (Nat.lt_of_lt_of_le (Ar x0) HB3.o.size)];exact HO2.o);clear hS4 hT4 hM4)|(go_at_call 157;rw [←Hβ.o];(with_reducible refine(Ha HM4.o).mono ?_);rintro e W5 ⟨rfl,o5,hM5,hT5⟩;have z1:=hM5.head.cells.2.1;rw [Hβ.o] at z1;have z2:=hT5.cell y2 (by rw [HO4.o];exact Bi);have z3:=hT5.cell y3 (by rw [HO4.o];exact Bi);have z4:=hT5.cell y4 (by rw [HO4.o];exact Bi);have HM5:=Hd hM5;have HT5:=Hd hT5;clear hM5 hT5));go_end0;refine⟨rfl,o5,HM5.o,?_⟩;exact(To.fresh _ HB1.o o 0).trans (HT2.o.trans (To.from_pure HB3.o ((HT4.o.mono fun _ h=>Afx h).trans HT5.o)))
end Go.Proofs.YtgbjodnegkbfoaaGreat
