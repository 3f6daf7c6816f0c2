/- Parts of the proof. -/
import Derived.Test.YtgbjodnegkbfoaaGreatQm28
import Derived.Deep.RegionHeld3
set_option maxHeartbeats 4000000
set_option maxRecDepth 100000
open Go.Value renaming int→Aa
open Go.IntKind renaming i64→Ab,u64→Ac
open Nat renaming le_refl→Asp
open List renaming getElem?_eq_getElem→Asq,replicate→Ast,take_of_length_le→Asy,getD_eq_getElem?_getD→As0
namespace Go.Proofs.YtgbjodnegkbfoaaGreat
open Go.RowKit Go.Acc Go.Sort
theorem L6(w:World):∀q,Below w.heap.size w (w.drewN q)
 |0=>Below.refl _ _
 |q+1=>(L6 w q).drew
theorem Aqf:(Tryz.prog.info? 3).map (fun i=>(i.zero,i.size,i.bytes))=some (some (Aa Ab 0),1,8):=by kernel_rfl
theorem Al4(n:Nat):(madeCells #[Aa Ab 0] n).toList=(Ast n 0).flatMap Jc:=by
 apply List.ext_getElem?;intro j;by_cases hj:j<n
 ·have h1:=Gr E6 (Ast n 0) j 0 (by simpa using hj) (by omega);rw [Nat.mul_one,Nat.add_zero,List.getElem_replicate] at h1;rw [h1];simp [madeCells,hj,Jc,Nat.mod_one]
 ·rw [List.getElem?_eq_none (by simp [madeCells];omega),List.getElem?_eq_none (by rw [Bi E6];simp;omega)]
theorem Aql(n:Nat)(hn:n≤1099511627776):∃Z:Array Value,Z.toList=(Ast n 0).flatMap Jc∧∀W:World,(Instr.makeSlice 151 (Aa Ab (n:Int)) (Aa Ab (n:Int))).run Tryz.prog W= .ok (.slice (some ⟨W.heap.size,0,none⟩) n n) (W.alloc (.cells Z 3)):=by
 obtain⟨i,hi,hz,hs,hb⟩:=info_parts Aqf;refine⟨_,Al4 n,fun W=>?_⟩;have hr:=run_make (P:=Tryz.prog) W 151 3 i _ Tryz.underlying151 hi hz .i64 .i64 n n (by omega) (Int.le_refl _) (by rw [hb];omega) (by omega);simp only [Int.toNat_natCast,hs,Nat.mul_one] at hr;exact hr
theorem Ao6{α:Type}{f:α→List Value}{e:TypeId}(hf:∀x,(f x).length=1)(W:World)(Z:Array Value)(n B:Nat)(l:List α)(hB:B≤W.heap.size)(hn:l.length=n)(hm:n≤1099511627776)(hZ:Z.toList=l.flatMap f):Go.Acc.Own f 1 e (W.alloc (.cells Z e)) B (some ⟨W.heap.size,0,none⟩) n n l:=by
 refine⟨hn,?_⟩;have hs:Z.size=n*1:=by rw [←Array.length_toList,hZ,Bi hf,hn]
 have:=World.ownsRow_lit (base:=B) (e:=e) (size:=1) W Z n hB (by simp only [maxLen];omega) hs;rw [hZ] at this;exact this
theorem Aig(k n:Nat)(hk:k<n):(List.range k++Ast (n-k) 0).take k++ [k]++(List.range k++Ast (n-k) 0).drop (k+1)=List.range (k+1)++Ast (n-(k+1)) 0:=by
 have e1:(List.range k).length=k:=List.length_range;rw [List.take_append_of_le_length (by omega),Asy (by omega),List.drop_append,List.drop_of_length_le (by omega),e1,List.range_succ,List.drop_replicate,List.nil_append]
 congr 2
 omega
def Ar7(w:World)(l:List (List UInt8))(e:Ending)(w':World):Prop:=
 ∃A c ps,e= .returned (.tuple #[.slice A l.length c,Aa Ab 0])∧Px w' w.heap.size A l.length c ps∧ps.Perm (List.range l.length)∧(∀(i j:Nat) (hi:i<ps.length) (hj:j<ps.length),i<j→l.getD ps[i] []<l.getD ps[j] [])∧Below w.heap.size w w'
theorem Vm(A:Option Addr)(n c:Nat)(l:List (List UInt8))(w:World)(hI:Ek w A n l)(ho:∀ad,A=some ad→ad.block<w.heap.size)(hn:n≤1000000)(hd:l.Nodup):
  Calls Tryz.prog 125 #[.slice A n c] w (Ar7 w l):=by
 have hl:l.length=n:=by have:=hI.1;simpa using this
 obtain⟨Z,hZ,hmk⟩:=Aql n (by omega);have HI:=Hd hI;have HOA:=Hd ho;have HND:=Hd hd;have HLL:=Hd hl;have hB1:=(Below.refl w.heap.size w).alloc (Asp _) (.cells #[.slice A n c] 23);have hB2:=hB1.alloc hB1.size (.cells Z 3);have HX1:=Hd (Ag.new w 23 #[.slice A n c]);have HX2:=Hd ((Ag.new w 23 #[.slice A n c]).alloc (.cells Z 3));have HO2:=Hd (Ao6 (e:=3) E6 (w.alloc (.cells #[.slice A n c] 23)) Z n 0 (Ast n 0) (Nat.zero_le _) (by simp) (by omega) hZ);have HB2:=Hd hB2;have x0:(w.alloc (.cells #[.slice A n c] 23)).cell? ⟨w.heap.size,0,none⟩=some (.slice A n c):=(Ag.new w 23 #[.slice A n c]).cell 0;clear hI ho hd hB1 hB2 hZ;go_enter Tryz.func125,Tryz.ntmps125;go_upto_region 2 with fail
 rw [I9] at HO2;generalize (w.alloc (.cells #[.slice A n c] 23)).alloc (.cells Z 3)=w2 at HX2 HO2 HB2⊢;generalize hg:w.heap.size+1=g at HO2⊢;generalize hbl:w.heap.size=bl at HX2⊢;have HG:=Hd (show w.heap.size≤g∧w.heap.size=bl∧bl≠g by omega);clear hg hbl x0 hmk HX1;go_wp2_with fail;go_loopw [12] (fun u wr=>∃k:Nat,k≤n∧u= Aa Ab k∧Px wr 0 (some ⟨g,0,none⟩) n n (List.range k++Ast (n-k) 0)∧Below w.heap.size w wr∧Ag wr bl 23 #[.slice A n c]) (fun u _=>n-(intOf u).toNat)
 case atStart=>exact⟨0,Nat.zero_le _,rfl,HO2.o,HB2.o,HX2.o⟩
 case round=>
  obtain⟨k,hk,rfl,how,hbr,hxr⟩:=hrel;have HOW:=Hd how;have HBR:=Hd hbr;have HXR:=Hd hxr;clear how hbr hxr;by_cases hlt:k<n
  ·obtain⟨⟨u,hu⟩,hf,hnew⟩:=Gj E6 HOW.o hlt k (Aa Ab (k:Int)) rfl;rw [Aig k n hlt] at hnew;have HNEW:=Hd hnew;have HB3:=Hd (Bu HBR.o (Fr.setCell (S:=fun j=>j=g) (Fr.refl _ wr) (p:=⟨g,k,none⟩) (fun _=>rfl) (Aa Ab (k:Int))) (by rintro j rfl;exact HG.o.1));have HX3:=Hd (HXR.o.far (p:=⟨g,k,none⟩) HG.o.2.2 (Aa Ab (k:Int)));have hk0:(0:Int)≤(k:Int):=by omega
   have hkn:(k:Int)<(n:Int):=by omega
   clear hnew;go_wp2_with fail;go_roundw
   case rel=>exact⟨k+1,by omega,by go_num,HNEW.o,HB3.o,HX3.o⟩
   case measure=>simp [intOf];omega
  ·obtain rfl:k=n:=by omega
   have how:=HOW.o;rw [Nat.sub_self,List.replicate_zero,List.append_nil] at how;have HON:=Hd (Amf how HG.o.1);clear how HOW;go_wp2_with fail;go_at_call 212;refine(Aj9 w.heap.size g k k bl A c l _ (HXR.o.cell 0) (HI.o.pure HBR.o) (by omega) HON.o HG.o.2.2 (fun ad e=>by have h1:=HOA.o ad e;have h2:=HG.o.1;omega)).mono ?_;rintro e w3 ⟨rfl,ps,hp,hr,ho3,hf3⟩;have HP3:=Hd hp;have HR3:=Hd hr;have HO3:=Hd ho3;have HB3:=Hd (Bu HBR.o hf3 (by rintro j rfl;exact HG.o.1));have HX3:=Hd (HXR.o.fr hf3 HG.o.2.2);have HI3:=Hd (HI.o.pure HB3.o);have HPL:=Hd (show ps.length=k by have:=hp.length_eq;simpa using this);have HPM:=Hd (show ∀p∈ps,p<k from fun p h=>List.mem_range.1 (hp.mem_iff.1 h));have HPN:=Hd (show ps.Nodup from hp.nodup_iff.2 List.nodup_range);clear hp hr ho3 hf3 HBR HXR HON HI;have HAS:=Hd (show ∀(i j:Nat) (hi:i<ps.length) (hj:j<ps.length),i<j→l.getD ps[i] []<l.getD ps[j] [] by
    intro i j hi hj hij;have h1:=HR3.o i j hi hj hij;have hpi:=HPM.o ps[i] (List.getElem_mem _);have hpj:=HPM.o ps[j] (List.getElem_mem _);have hg:∀p (h:p<l.length),l.getD p []=l[p]:=fun p h=>by rw [As0,Asq];rfl
    rw [hg _ (by rw [hl];exact hpi),hg _ (by rw [hl];exact hpj)];rw [hg _ (by rw [hl];exact hpj),hg _ (by rw [hl];exact hpi)] at h1;rcases Afs (l[ps[i]]'(by rw [hl];exact hpi)) (l[ps[j]]'(by rw [hl];exact hpj)) with⟨h2,_⟩|⟨h2,_⟩|⟨h2,_⟩
    ·exact h2
    ·have h3:=(List.getElem_inj HND.o).1 h2;have h4:=(List.getElem_inj HPN.o).1 h3;omega
    ·exact absurd h2 h1)
   go_wp2_with fail;go_loopw [6] (fun u wr=>∃j:Nat,(j+1≤k∨j=0)∧u= Aa Ab ((j+1:Nat):Int)∧Px wr w.heap.size (some ⟨g,0,none⟩) k k ps∧Below w.heap.size w wr∧Ag wr bl 23 #[.slice A k c]∧Ek wr A k l) (fun u _=>k+1-(intOf u).toNat)
   case atStart=>exact⟨0,.inr rfl,rfl,HO3.o,HB3.o,HX3.o,HI3.o⟩
   case round=>
    obtain⟨j,hj,rfl,ho,hb,hx,hi⟩:=hrel;have HO:=Hd ho;have HB:=Hd hb;have HX:=Hd hx;have HII:=Hd hi;have x0:wr.cell? ⟨bl,0,none⟩=some (.slice A k c):=hx.cell 0;clear ho hb hx hi;by_cases hlt2:j+1<k
    ·obtain⟨b1,o1,e1,hk1,y0⟩:=Qm HO.o.is (show j<k by omega);obtain⟨b2,o2,e2,hk2,y1⟩:=Qm HO.o.is (show j+1<k by omega);injection e1 with e1
     injection e1 with e1 e3
     injection e2 with e2
     injection e2 with e2 e4
     subst e1 e3 e2 e4;have hst:=HAS.o j (j+1) hk1 hk2 (by omega);have hp:=HPM.o ps[j] (List.getElem_mem _);have hq:=HPM.o ps[j+1] (List.getElem_mem _);generalize ps[j]=p at y0 hst hp;generalize ps[j+1]=q at y1 hst hq;obtain⟨b3,o3,e5,hk3,z0⟩:=Fy HII.o hp;obtain⟨b4,o4,e6,hk4,z1⟩:=Fy HII.o hq;have hg:∀p (h:p<l.length),l.getD p []=l[p]:=fun p h=>by rw [As0,Asq];rfl
     rw [hg _ hk3,hg _ hk4] at hst;generalize l[p]=s at z0 hst;generalize l[q]=t at z1 hst;have HSA:=Hd e5;rw [e5] at e6 x0;injection e6 with e6
     injection e6 with e6 e7
     subst e6 e7;rw [Nat.zero_add] at y0 y1;have hne:(s==t)=false:=beq_eq_false_iff_ne.mpr (fun e=>by rw [e] at hst;exact List.lt_irrefl _ hst);have hj0:(0:Int)≤(j:Int):=by omega
     have hj1:(j:Int)+1<(k:Int):=by omega
     have hj2:(j:Int)<(k:Int):=by omega
     have hp0:(0:Int)≤(p:Int):=by omega
     have hp1:(p:Int)<(k:Int):=by omega
     have hq0:(0:Int)≤(q:Int):=by omega
     have hq1:(q:Int)<(k:Int):=by omega
     clear hg hst e5 hk1 hk2 hk3 hk4;go_wp2_with fail;go_quiet (fail);go_wp2_with fail;go_roundw
     case rel=>exact⟨j+1,.inl (by omega),by go_num,HO.o.pure (L6 _ _),Ad HB.o (L6 _ _),HX.o.pure (L6 _ _),HII.o.pure (L6 _ _)⟩
     case measure=>simp [intOf];omega
    ·have hj3:¬((j:Int)+1<(k:Int)):=by omega
     go_wp2_with fail;go_ret2;subst hl;exact⟨_,_,ps,rfl,HO.o,HP3.o,HAS.o,HB.o⟩
end Go.Proofs.YtgbjodnegkbfoaaGreat
namespace Go.Proofs.YtgbjodnegkbfoaaGreat
open Go.RowKit Go.Acc
theorem Arp{w:World}{p q:Addr}{u v:Value}(h:w.cell? q=some v)(hne:q.block≠p.block):(w.setCell p u).cell? q=some v:=
 (World.cell?_of_block (w:=w) (Below.heap_setCell w p u q.block hne)).trans h
theorem Anp{α:Type}(f:Nat→α)(z:α){ps:List Nat}{n k:Nat}(hl:ps.length=n)(hk:k<n):((ps.take k).map f++Ast (n-k) z).set k (f (ps[k]'(by omega)))=(ps.take (k+1)).map f++Ast (n-(k+1)) z:=by
 have e1:((ps.take k).map f).length=k:=by simp;omega
 have e2:n-k=(n-(k+1))+1:=by omega
 rw [List.set_append_right _ _ (by omega),e1,Nat.sub_self,e2,List.replicate_succ,List.set_cons_zero,List.take_succ_eq_append_getElem (by omega),List.map_append];simp
theorem Aoa{α:Type}{l:List α}{i:Nat}(x:α)(h:i<l.length):l.take i++ [x]++l.drop (i+1)=l.set i x:=by
 rw [List.set_eq_take_append_cons_drop,if_pos h];simp
theorem Wc{α:Type}{l:List α}{i:Nat}(d:α)(h:i<l.length):l.getD i d=l[i]:=by
 rw [As0,Asq h];rfl
theorem Aio{α β:Type}(f:α→β)(l:List α)(i:Nat)(d:α):(l.map f).getD i (f d)=f (l.getD i d):=by
 rw [As0,As0,List.getElem?_map];cases l[i]? <;>rfl
theorem Ant{w:World}{g i g' j:Nat}{u v:Value}(h:w.cell? ⟨g,i,none⟩=some v)(hne:g≠g'):(w.setCell ⟨g',j,none⟩ u).cell? ⟨g,i,none⟩=some v:=Arp h hne
structure SrF(W W0:World)(p:Nat→Prop)(q:Nat→Nat→Prop)(bt br:Nat)(A1 A:Option Addr):Prop where
 qs:∀i b,q i b→p b∧b<W.heap.size
 bts:W.heap.size=bt∧bt+1=br∧br<W0.heap.size
 off:∀ad,A=some ad→ad.block<W0.heap.size∧ad.block≠bt∧ad.block≠br∧(∀i,¬q i ad.block)∧(p ad.block∨W.heap.size≤ad.block)
 key:∀ad,A1=some ad→ad.block<W0.heap.size∧ad.block≠bt∧ad.block≠br∧(p ad.block∨W.heap.size≤ad.block)∧(∀i,¬q i ad.block)∧∀a,A=some a→ad.block≠a.block
 fr:Fr p W W0
 apart:∀i j b,i≠j→q i b→¬q j b
theorem SrF.no{W W0:World}{p:Nat→Prop}{q:Nat→Nat→Prop}{bt br:Nat}{A1 A:Option Addr}(h:SrF W W0 p q bt br A1 A){b:Nat}(hb:b=bt∨b=br):¬((∃i,q i b)∨∃ad,A=some ad∧b=ad.block):=by
 rintro(⟨i,hi⟩|⟨ad,e,rfl⟩)
 ·have h1:=(h.qs i b hi).2;have h2:=h.bts;omega
 ·have h1:=h.off ad e;omega
theorem SrF.done{W W0 w:World}{p:Nat→Prop}{q:Nat→Nat→Prop}{bt br:Nat}{A1 A:Option Addr}{n c n1 c1:Nat}{vs us:List Nv}{ts:List Tr}{ks:List (List UInt8)}(h:SrF W W0 p q bt br A1 A)(hs:SrR W0 w q A n c n vs ts us)(hk:Ek w A1 n1 ks)(hc:n1≤c1)(h1:n1≤1099511627776)(hn:n≤1099511627776)(hl:ts.length=n)
  (k m:Int) (u:Nat) (s:List UInt8) {w':World} (hF:Fr (fun j=>j=br) w w'):Bm w' (fun b=>p b∨(W.heap.size≤b∧b<w'.heap.size)) ⟨k,m,u,s,A1,n1,c1,A,n,c⟩ (.mk k m u s ks (ts.map Bf))∧Fr p W w':=by
 have e1:=h.bts;have e2:=hs.fr.size;have e3:=hF.size;refine⟨Bm.mk (x:=⟨k,m,u,s,A1,n1,c1,A,n,c⟩) (hk.fr hF fun ad e=>?_) (fun ad e=>?_) hc h1 (hs.own.is.fr hF fun ad e=>?_) (fun ad e=>?_) hs.own.cap.1 hn (by rw [List.length_map,hl];exact hs.own.1) (fun i v t hv ht=>?_),?_⟩
 ·have:=h.key ad e;omega
 ·have:=h.key ad e;rcases this.2.2.2.1 with hh|hh
  ·exact .inl hh
  ·exact .inr ⟨hh,by omega⟩
 ·have:=h.off ad e;omega
 ·have:=h.off ad e;rcases this.2.2.2.2 with hh|hh
  ·exact .inl hh
  ·exact .inr ⟨hh,by omega⟩
 ·have hi:i<n:=by
   have:=(List.getElem?_eq_some_iff.1 hv).1;rw [hs.own.1] at this;exact this
  rw [List.getElem?_map] at ht;cases hti:ts[i]? with
  |none=>rw [hti] at ht;simp at ht
  |some t'=>
   rw [hti] at ht;simp at ht;subst ht;refine((hs.done i v t' hi hv hti).keep fun a u hc hp=>B4 hF hc ?_).mono fun b hb=>?_
   ·rcases hp with hp|hp
    ·have:=(h.qs _ _ hp).2;omega
    ·omega
   ·rcases hb with hb|hb
    ·exact .inl (h.qs _ _ hb).1
    ·exact .inr ⟨by have:=h.fr.size;omega,by omega⟩
 ·refine(h.fr.trans hs.fr (fun i hi hh=>?_)).trans hF (fun i hi hh=>by omega);rcases hh with⟨j,hj⟩|⟨ad,e,rfl⟩
  ·exact(h.qs _ _ hj).1
  ·rcases(h.off ad e).2.2.2.2 with hh|hh
   ·exact hh
   ·omega
theorem Ada{w0:World}{p:Nat→Prop}{x:Nv}{t:Tr}(h:H6 w0 p x t):(∀k,p k→k<w0.heap.size)→Gw t→t.cost≤4000000→∀W,(∀b,p b→W.heap[b]?=w0.heap[b]?)→w0.heap.size≤W.heap.size→Calls Tryz.prog 79 #[.agg #[Aa Ab x.k,Aa Ab x.n,Aa Ac (x.u:Int),.string ⟨x.s.toArray⟩,.slice x.A x.an x.ac,.slice x.B x.bn x.bc]] W (Akw W p t):=by
 induction h with
 | @mk p x ks l vs q h1 ha hac hx h2 hb hy hab hq hd hl hc ih=>
  intro hp hv hcost W hW hsz;obtain⟨xk,xn,xu,xs,XA,xan,xac,XB,xbn,xbc⟩:=x;have HIH:=Hd (show ∀i v t',vs[i]?=some v→l[i]?=some t'→∀W',(∀b,q i b→W'.heap[b]?=w0.heap[b]?)→w0.heap.size≤W'.heap.size→Calls Tryz.prog 79 #[.agg #[Aa Ab v.k,Aa Ab v.n,Aa Ac (v.u:Int),.string ⟨v.s.toArray⟩,.slice v.A v.an v.ac,.slice v.B v.bn v.bc]] W' (Akw W' (q i) t') from fun i v t' hv' ht'=>ih i v t' hv' ht' (fun k hk=>hp k (hq i k hk)) (by
   cases hv with
   |mk _ _ _ _ hvl=>exact hvl t' (List.mem_of_getElem? ht')) (by
   have:=Xq (List.mem_of_getElem? ht');unfold Tr.cost at hcost;omega))
  replace h1:Ek w0 XA xan ks:=h1;replace h2:I1 w0 0 XB xbn xbc vs:=h2;replace ha:∀ad,XA=some ad→p ad.block∧∀i,¬q i ad.block:=ha;replace hb:∀ad,XB=some ad→p ad.block∧∀i,¬q i ad.block:=hb;replace hac:xan≤xac:=hac;replace hx:xan≤1099511627776:=hx;replace hy:xbn≤1099511627776:=hy;replace hab:∀a b,XA=some a→XB=some b→a.block≠b.block:=hab;have hK:Ek W XA xan ks:=⟨h1.1,M7 h1.2 (fun ad e=>(ha ad e).1) fun a u hc hpa=>by rw [World.cell?_of_block (hW _ hpa)];exact hc⟩;have hO:I1 W 0 XB xbn xbc vs:=Wj h2 fun ad e=>hW _ (hb ad e).1
  have hBl:=Ba W (.cells #[Aa Ab xk,Aa Ab xn,Aa Ac (xu:Int),.string ⟨xs.toArray⟩,.slice XA xan xac,.slice XB xbn xbc] 26) (.cells #[Aa Ab 0,Aa Ab 0,Aa Ac 0,.string ⟨#[]⟩,.slice none 0 0,.slice none 0 0] 26);have HX0:=Hd ((Ag.new W 26 #[Aa Ab xk,Aa Ab xn,Aa Ac (xu:Int),.string ⟨xs.toArray⟩,.slice XA xan xac,.slice XB xbn xbc]).alloc (.cells #[Aa Ab 0,Aa Ab 0,Aa Ac 0,.string ⟨#[]⟩,.slice none 0 0,.slice none 0 0] 26));have HR0:=Hd (Ag.new_ (w:=W.alloc (.cells #[Aa Ab xk,Aa Ab xn,Aa Ac (xu:Int),.string ⟨xs.toArray⟩,.slice XA xan xac,.slice XB xbn xbc] 26)) (g:=W.heap.size+1) (by simp) 26 #[Aa Ab 0,Aa Ab 0,Aa Ac 0,.string ⟨#[]⟩,.slice none 0 0,.slice none 0 0]);have HB0:=Hd hBl;have HK0:=Hd (hK.pure hBl);have HO0:=Hd (hO.pure hBl);have HVL:=Hd hl;have HOL:=Hd (show vs.length=xbn from h2.1);have HKL:=Hd (show ks.length=xan from by have:=h1.1;simpa using this);have HPW:=Hd (show(∀k,p k→k<W.heap.size)∧(∀i k,q i k→p k)∧(∀i j k,i≠j→q i k→¬q j k) from⟨fun k hk=>Nat.lt_of_lt_of_le (hp k hk) hsz,hq,hd⟩);have HA:=Hd ha;have HBB:=Hd hb;have HAB:=Hd hab;have HWW:=Hd (And.intro hW hsz);have HVT:=Hd hv;have HCO:=Hd hcost;by_cases h17:xk=17
  ·obtain rfl:=h17;have hv17:=hv;cases hv with
   |mk g1 _ _ hnd _=>
   have glen:ks.length=l.length:=by
    simp only [Fi,Bool.and_eq_true,decide_eq_true_eq] at g1;obtain⟨⟨⟨_,glen⟩,_⟩,_⟩:=g1;exact glen rfl
   have hnn:xan=xbn:=by
    have a1:=HKL.o;have a2:=HOL.o;omega
   subst hnn;have hsm:xan≤1000000:=by
    have h1:=Jb l;have h2:Tr.cost (.mk 17 xn xu xs ks l)=64+xs.length+A6 ks+Tr.costL l:=by rw [Tr.cost]
    have h3:l.length=xan:=by rw [←hl];exact HOL.o
    have hcost:Tr.cost (.mk 17 xn xu xs ks l)≤4000000:=hcost;omega
   have HND:=Hd hnd;have HVL2:=Hd (show l.length=xan by rw [←hl];exact HOL.o);obtain⟨Z,hZ,hmk1⟩:=Aqm xan (by omega);obtain⟨Y,hY,hmk2⟩:=Aox xan (by omega);have HZ:=Hd hZ;have HY:=Hd hY;clear ih h1 ha h2 hb hy hab hq hd hl hc hp hv17 hcost hW hsz hK hO hBl hac hx g1 hnd glen hZ hY;go_enter Tryz.func79,Tryz.ntmps79;go_upto_region 1 with fail
   generalize (W.alloc (.cells #[Aa Ab 17,Aa Ab xn,Aa Ac (xu:Int),.string ⟨xs.toArray⟩,.slice XA xan xac,.slice XB xan xbc] 26)).alloc (.cells #[Aa Ab 0,Aa Ab 0,Aa Ac 0,.string ⟨#[]⟩,.slice none 0 0,.slice none 0 0] 26)=Wa at HB0 HX0 HR0 HK0 HO0⊢;generalize hbt:W.heap.size=bt at HX0 HR0⊢;generalize hbr:bt+1=br at HR0⊢;have HBT:=Hd (show W.heap.size=bt∧bt+1=br∧br<Wa.heap.size from⟨hbt,hbr,HR0.o.lt⟩);have HLT:=Hd (show(∀ad,XA=some ad→ad.block<W.heap.size)∧∀ad,XB=some ad→ad.block<W.heap.size from⟨fun ad e=>HPW.o.1 _ (HA.o ad e).1,fun ad e=>HPW.o.1 _ (HBB.o ad e).1⟩);clear hbt hbr;have c0:Wa.cell? ⟨bt,0,none⟩=some (Aa Ab 17):=HX0.o.cell 0;have c4:Wa.cell? ⟨bt,4,none⟩=some (.slice XA xan xac):=HX0.o.cell 4;go_wp2_with fail;go_at_call 125;have hks:ks.length=xan:=HKL.o;refine(Vm XA xan xac ks _ HK0.o (fun ad e=>by have:=HLT.o.1 ad e;have:=HB0.o.size;omega) hsm HND.o).mono ?_;rintro e W1 ⟨Ap,cp,ps,rfl,hO1,hperm,hasc,hB1⟩;rw [hks] at hO1 hperm⊢;have HO1:=Hd hO1;have HPERM:=Hd hperm;have HASC:=Hd hasc;have HPL:=Hd (show ps.length=xan by have:=hperm.length_eq;simpa using this);have HPM:=Hd (show ∀p∈ps,p<xan from fun p h=>List.mem_range.1 (hperm.mem_iff.1 h));have HPN:=Hd (show ps.Nodup from hperm.nodup_iff.2 List.nodup_range);have HB1:=Hd (Ad HB0.o hB1);have HX1:=Hd (HX0.o.pure hB1);have HR1:=Hd (HR0.o.pure hB1);have HK1:=Hd (HK0.o.pure hB1);have HOW1:=Hd (HO0.o.pure hB1);have HSZ1:=Hd (show Wa.heap.size≤W1.heap.size from hB1.size);clear hO1 hperm hasc hB1 c0 c4 hks HX0 HR0 HK0 HO0;go_upto_region 3 with fail
   go_cut [5,6] (fun u5 u6 wx=>∃wy,wy=wx∧Aky W1.heap.size xan (Ast xan []) (Ast xan Iq) u5 u6 wx∧Below W1.heap.size W1 wx)
   case first=>
    go_region_held3 (fun _=>True) (trivial) (fail)
    all_goals
     go_wp2_with fail;go_meet
     first
      |exact⟨_,rfl,Aq5 (by omega) HZ.o HY.o,(Ba _ _ _).drew⟩
      |exact⟨_,rfl,Aq6 (by omega) HZ.o HY.o,(Ba _ _ _).drew⟩
   case rest=>
   obtain⟨W2,rfl,⟨gk,gl,rfl,rfl,hK2,hL2,hne⟩,hB2⟩:=hcut;have HK2:=Hd hK2;have HL2:=Hd hL2;have HGN:=Hd (show gk≠gl∧W1.heap.size≤gk∧W1.heap.size≤gl∧gk<W2.heap.size∧gl<W2.heap.size from⟨hne,(hK2.addr _ rfl).2.1,(hL2.addr _ rfl).2.1,(hK2.addr _ rfl).2.2,(hL2.addr _ rfl).2.2⟩);have HB2:=Hd (Ad HB1.o hB2);have HX2:=Hd (HX1.o.pure hB2);have HR2:=Hd (HR1.o.pure hB2);have HKS2:=Hd (HK1.o.pure hB2);have HOW2:=Hd (HOW1.o.pure hB2);have HPS2:=Hd (HO1.o.pure hB2);have HSZ2:=Hd (show W1.heap.size≤W2.heap.size from hB2.size);have HAP:=Hd (show ∀ad,Ap=some ad→ad.block<W1.heap.size∧Wa.heap.size≤ad.block from fun ad e=>⟨(HO1.o.addr ad e).2.2,(HO1.o.addr ad e).2.1⟩);clear hK2 hL2 hne hB2 HX1 HR1 HK1 HOW1 HO1 hmk1 hmk2;go_upto_region 4 with fail
   go_wp2_with fail;go_loopw [28] (fun uu wr=>∃k:Nat,k≤xan∧uu= Aa Ab (k:Int)∧Kg wr 0 (some ⟨gk,0,none⟩) xan xan ((ps.take k).map (fun p=>ks.getD p [])++Ast (xan-k) [])∧I1 wr 0 (some ⟨gl,0,none⟩) xan xan ((ps.take k).map (fun p=>vs.getD p Iq)++Ast (xan-k) Iq)∧Fr (fun j=>j=gk∨j=gl) W2 wr) (fun uu _=>xan-(intOf uu).toNat)
   case atStart=>exact⟨0,Nat.zero_le _,rfl,by simpa using HK2.o.rebase (Nat.zero_le _),by simpa using HL2.o.rebase (Nat.zero_le _),Fr.refl _ _⟩
   case round=>
    obtain⟨k,hk,rfl,hok,hol,hfr⟩:=hrel;have HOK:=Hd hok;have HOL2:=Hd hol;have HFR:=Hd hfr;have hng:∀b,b<W1.heap.size→¬(b=gk∨b=gl):=fun b hb h=>by have h1:=HGN.o;omega
    have HXR:=Hd (HX2.o.fr hfr (hng _ (by have h1:=HBT.o;have h2:=HSZ1.o;omega)));have HRR:=Hd (HR2.o.fr hfr (hng _ (by have h1:=HBT.o;have h2:=HSZ1.o;omega)));have HKSR:=Hd (HKS2.o.fr hfr (fun ad e=>hng _ (by have h1:=HLT.o.1 ad e;have h2:=HSZ1.o;have h3:=HBT.o;omega)));have HOWR:=Hd (HOW2.o.fr hfr (fun ad e=>hng _ (by have h1:=HLT.o.2 ad e;have h2:=HSZ1.o;have h3:=HBT.o;omega)));have HPSR:=Hd (HPS2.o.fr hfr (fun ad e=>hng _ (HAP.o ad e).1));clear hok hol hfr hng;by_cases hlt:k<xan
    ·obtain⟨bp,op,ep,hkp,y0⟩:=Qm HPSR.o.is hlt;have hp:=HPM.o ps[k] (List.getElem_mem _);have hfk:=Anp (fun p=>ks.getD p []) [] HPL.o hlt;have hfl:=Anp (fun p=>vs.getD p Iq) Iq HPL.o hlt;generalize ps[k]=p' at y0 hp hfk hfl;obtain⟨b1,o1,e1,hk1,z⟩:=Fy HKSR.o hp;obtain⟨v,hv⟩:∃v,vs[p']?=some v:=⟨_,Asq (by have:=HOL.o;omega)⟩;obtain⟨b2,o2,e2,v0,v1,v2,v3,v4,v5⟩:=Gt HOWR.o.is hv;have ek:ks.getD p' []=ks[p']:=Wc _ hk1;have ev:vs.getD p' Iq=v:=by rw [As0,hv];rfl
     rw [ek] at hfk;rw [ev] at hfl;generalize ks[p']=s at z hfk;have HFK:=Hd hfk;have HFL:=Hd hfl;obtain⟨⟨a,ha⟩,fs,hnk⟩:=Gj Dg HOK.o hlt s (.string ⟨s.toArray⟩) rfl;obtain⟨hex,hfz,hnl⟩:=J2 HOL2.o hlt v;obtain⟨a0,ha0⟩:=hex 0 (by omega);obtain⟨a1,ha1⟩:=hex 1 (by omega);obtain⟨a2,ha2⟩:=hex 2 (by omega);obtain⟨a3,ha3⟩:=hex 3 (by omega);obtain⟨a4,ha4⟩:=hex 4 (by omega);obtain⟨a5,ha5⟩:=hex 5 (by omega);rw [Nat.add_zero] at ha0;have f0:=hfz (k*6);have f1:=hfz (k*6+1);have f2:=hfz (k*6+2);have f3:=hfz (k*6+3);have f4:=hfz (k*6+4);have f5:=hfz (k*6+5);have n1:b1≠gk∧b1≠gl:=by have h1:=HLT.o.1 _ e1;have h2:=HSZ1.o;have h3:=HBT.o;have h4:=HGN.o;have h1:b1<W.heap.size:=h1;omega
     have n2:b2≠gk∧b2≠gl:=by have h1:=HLT.o.2 _ e2;have h2:=HSZ1.o;have h3:=HBT.o;have h4:=HGN.o;have h1:b2<W.heap.size:=h1;omega
     have n3:bt≠gk∧bt≠gl:=by have h2:=HSZ1.o;have h3:=HBT.o;have h4:=HGN.o;omega
     obtain⟨n1,n1'⟩:=n1;obtain⟨n2,n2'⟩:=n2;obtain⟨n3,n3'⟩:=n3;have n4:gk≠gl:=HGN.o.1;have n4':gl≠gk:=fun h=>n4 h.symm
     have c4:wr.cell? ⟨bt,4,none⟩=some (.slice (some ⟨b1,o1,none⟩) xan xac):=by rw [←e1];exact HXR.o.cell 4
     have c5:wr.cell? ⟨bt,5,none⟩=some (.slice (some ⟨b2,o2,none⟩) xan xbc):=by rw [←e2];exact HXR.o.cell 5
     have hp0:(0:Int)≤(p':Int):=by omega
     have hpn:(p':Int)<(xan:Int):=by omega
     have hk0:(0:Int)≤(k:Int):=by omega
     have hkn:(k:Int)<(xan:Int):=by omega
     rw [ep];clear hex hfz hnk hnl ek ev hfk hfl hv ep e1 e2 hkp hk1 hp;go_upto_region 7 with fail
     clear y0;go_region_held3 (fun w'=>w'.cell? ⟨bt,4,none⟩=some (.slice (some ⟨b1,o1,none⟩) xan xac)∧w'.cell? ⟨bt,5,none⟩=some (.slice (some ⟨b2,o2,none⟩) xan xbc)∧w'.cell? ⟨b1,o1+p',none⟩=some (.string ⟨s.toArray⟩)∧w'.cell? ⟨b2,o2+p'*6,none⟩=some (Aa Ab v.k)∧w'.cell? ⟨b2,o2+p'*6+1,none⟩=some (Aa Ab v.n)∧w'.cell? ⟨b2,o2+p'*6+2,none⟩=some (Aa Ac (v.u:Int))∧w'.cell? ⟨b2,o2+p'*6+3,none⟩=some (.string ⟨v.s.toArray⟩)∧w'.cell? ⟨b2,o2+p'*6+4,none⟩=some (.slice v.A v.an v.ac)∧w'.cell? ⟨b2,o2+p'*6+5,none⟩=some (.slice v.B v.bn v.bc)) ((with_reducible refine⟨?_,?_,?_,?_,?_,?_,?_,?_,?_⟩) <;>(repeat (first|with_reducible assumption|with_reducible refine Af ?_|with_reducible refine Ant ?_ ?_))) (fail);have hF1:=Fr.setCell (S:=fun j=>j=gk) (Fr.refl _ wr) (p:=⟨gk,k,none⟩) (fun _=>rfl) (.string ⟨s.toArray⟩);have hO1:=(Gj Dg HOK.o hlt s (.string ⟨s.toArray⟩) rfl).2.2;rw [Aoa _ (by rw [HOK.o.1];exact hlt),HFK.o] at hO1;have hO2:=HOL2.o.fr hF1 (fun ad e=>by injection e with e;subst e;exact n4');have hO3:=(J2 hO2 hlt v).2.2;rw [HFL.o] at hO3;have hF2:=Aai (wr.setCell ⟨gk,k,none⟩ (.string ⟨s.toArray⟩)) gl (k*6) v;have hF3:=(HFR.o.trans hF1 (fun i _ e=> .inl e)).trans hF2 (fun i _ e=> .inr e);have hO4:=hO1.fr hF2 (fun ad e=>by injection e with e;subst e;exact n4);clear hF1 hO1 hO2 hF2 fs f0 f1 f2 f3 f4 f5 ha ha0 ha1 ha2 ha3 ha4 ha5 c4 c5 z v0 v1 v2 v3 v4 v5;generalize ((((((((wr.setCell ⟨gk,k,none⟩ (.string ⟨s.toArray⟩))).setCell ⟨gl,k*6,none⟩ (Aa Ab (v).k)).setCell ⟨gl,k*6+1,none⟩ (Aa Ab (v).n)).setCell ⟨gl,k*6+2,none⟩ (Aa Ac ((v).u:Int))).setCell ⟨gl,k*6+3,none⟩ (.string ⟨(v).s.toArray⟩)).setCell ⟨gl,k*6+4,none⟩ (.slice (v).A (v).an (v).ac)).setCell ⟨gl,k*6+5,none⟩ (.slice (v).B (v).bn (v).bc))=wB at hO3 hF3 hO4⊢;have HO3:=Hd hO3;have HO4:=Hd hO4;have HF3:=Hd hF3;clear hO3 hO4 hF3;have hn40:xan≤1099511627776:=by omega
     go_wp2_with fail;go_roundw
     case rel=>exact⟨k+1,by omega,by go_num,HO4.o.pure (Below.refl _ _).drew,HO3.o.pure (Below.refl _ _).drew,HF3.o.drew⟩
     case measure=>simp [intOf];omega
    ·obtain rfl:xan=k:=by omega
     have hrep:(xan-xan)=0:=Nat.sub_self xan;have htk:ps.take xan=ps:=Asy (by have:=HPL.o;omega);rw [hrep,htk,List.replicate_zero,List.append_nil] at HOK HOL2;have c4:wr.cell? ⟨bt,4,none⟩=some (.slice XA xan xac):=HXR.o.cell 4;have c5:wr.cell? ⟨bt,5,none⟩=some (.slice XB xan xbc):=HXR.o.cell 5;have f4:wr.frozen? ⟨bt,4,none⟩=false:=HXR.o.frozen 4;have f5:wr.frozen? ⟨bt,5,none⟩=false:=HXR.o.frozen 5;clear hrep htk;go_upto_region 10 with fail
     have hF1:=Fr.setCell (S:=fun j=>j=bt) (Fr.refl _ wr) (p:=⟨bt,4,none⟩) (fun _=>rfl) (.slice (some ⟨gk,0,none⟩) xan xan);have hF2:=Fr.setCell (S:=fun j=>j=bt) hF1 (p:=⟨bt,5,none⟩) (fun _=>rfl) (.slice (some ⟨gl,0,none⟩) xan xan);have HX:=Hd (show Ag ((wr.setCell ⟨bt,4,none⟩ (.slice (some ⟨gk,0,none⟩) xan xan)).setCell ⟨bt,5,none⟩ (.slice (some ⟨gl,0,none⟩) xan xan)) bt 26 #[Aa Ab 17,Aa Ab xn,Aa Ac (xu:Int),.string ⟨xs.toArray⟩,.slice (some ⟨gk,0,none⟩) xan xan,.slice (some ⟨gl,0,none⟩) xan xan] from(HXR.o.set_ 4 _).set_ 5 _);generalize (wr.setCell ⟨bt,4,none⟩ (.slice (some ⟨gk,0,none⟩) xan xan)).setCell ⟨bt,5,none⟩ (.slice (some ⟨gl,0,none⟩) xan xan)=W0 at HX hF2⊢;have hbt:=HBT.o;have hgn:=HGN.o;have hs1:=HSZ1.o;have hb1:=HB2.o.size;have HR:=Hd (HRR.o.fr hF2 (by omega));have HK:=Hd ((HOK.o.is).fr hF2 (fun ad e=>by injection e with e;subst e;show gk≠bt;omega));have HO:=Hd (HOL2.o.fr hF2 (fun ad e=>by injection e with e;subst e;show gl≠bt;omega));have hwr:=HFR.o.size;have hw0:=hF2.size;have hfrW:Below W.heap.size W W0:=(HB2.o.trans (HFR.o.belowB (fun i hi hh=>by omega) (by omega))).trans (hF2.belowB (fun i hi hh=>by omega) (by omega));obtain⟨q9,hq9,hq8⟩:∃q9:Nat→Nat→Prop,(∀i j,ps[i]?=some j→q9 i=q j)∧∀i b,q9 i b→∃j,ps[i]?=some j∧q j b:=⟨fun i b=>∃j,ps[i]?=some j∧q j b,fun i j e=>by
      funext b
      exact propext ⟨fun⟨j',e',h⟩=>by rw [e] at e';injection e' with e';rw [e'];exact h,fun h=>⟨j,e,h⟩⟩,fun i b h=>h⟩
     have hqp:∀i b,q9 i b→p b∧b<W.heap.size:=fun i b h=>by
      obtain⟨j,_,hj⟩:=hq8 i b h;exact⟨HPW.o.2.1 j b hj,HPW.o.1 b (HPW.o.2.1 j b hj)⟩
     have HF:=Hd (show SrF W W0 p q9 bt br (some ⟨gk,0,none⟩) (some ⟨gl,0,none⟩) by
      refine⟨hqp,⟨hbt.1,hbt.2.1,by omega⟩,fun ad e=>?_,fun ad e=>?_,Fr.of_below hfrW _,fun i i' b hii h h'=>?_⟩
      ·injection e with e
       subst e;refine⟨by show gl<_;omega,by show gl≠_;omega,by show gl≠_;omega,fun i h=>?_,.inr (by show _≤gl;omega)⟩;have:=(hqp i gl h).2;omega
      ·injection e with e
       subst e;refine⟨by show gk<_;omega,by show gk≠_;omega,by show gk≠_;omega,.inr (by show _≤gk;omega),fun i h=>?_,fun a ea=>?_⟩
       ·have:=(hqp i gk h).2;omega
       ·injection ea with ea
        subst ea;exact hgn.1
      ·obtain⟨j,e1,h1⟩:=hq8 i b h;obtain⟨j',e2,h2⟩:=hq8 i' b h';refine HPW.o.2.2 j j' b (fun e=>hii ?_) h1 h2;subst e;obtain⟨l1,e1⟩:=List.getElem?_eq_some_iff.1 e1;obtain⟨l2,e2⟩:=List.getElem?_eq_some_iff.1 e2;exact(List.getElem_inj HPN.o).1 (e1.trans e2.symm))
     have HQ0:=Hd (show(∀i b,q9 i b→W0.heap[b]?=w0.heap[b]?)∧w0.heap.size≤W0.heap.size from⟨fun i b hb=>(hfrW.block b (hqp i b hb).2).trans (HWW.o.1 b (hqp i b hb).1),Nat.le_trans HWW.o.2 hfrW.size⟩);obtain⟨t0,_⟩:∃t0:Tr,True:=⟨.mk 0 0 0 [] [] [],trivial⟩;have HIH9:=Hd (show ∀i v t',(ps.map fun p=>vs.getD p Iq)[i]?=some v→(ps.map fun p=>l.getD p t0)[i]?=some t'→∀W',(∀b,q9 i b→W'.heap[b]?=w0.heap[b]?)→w0.heap.size≤W'.heap.size→Calls Tryz.prog 79 #[.agg #[Aa Ab v.k,Aa Ab v.n,Aa Ac (v.u:Int),.string ⟨v.s.toArray⟩,.slice v.A v.an v.ac,.slice v.B v.bn v.bc]] W' (Akw W' (q9 i) t') from fun i v t' hv' ht'=>by
      rw [List.getElem?_map] at hv' ht';cases hj:ps[i]? with
      |none=>rw [hj] at hv';simp at hv'
      |some j=>
       rw [hj] at hv' ht';simp only [Option.map_some,Option.some.injEq] at hv' ht';have hjl:j<xan:=HPM.o j (List.mem_of_getElem? hj);rw [hq9 i j hj];refine HIH.o j v t' ?_ ?_
       ·rw [←hv',Wc Iq (by rw [HOL.o];exact hjl),Asq]
       ·rw [←ht',Wc t0 (by rw [HVL2.o];exact hjl),Asq])
     have HEQ:=Hd (show Bf (.mk 17 xn xu xs ks l)= .mk 17 xn xu xs (ps.map fun p=>ks.getD p []) ((ps.map fun p=>l.getD p t0).map Bf) by
      have hs:=Apl ks (C3 l) (Bf t0) HKL.o (by rw [Cx,List.length_map];exact HVL2.o) HND.o HPERM.o HASC.o;rw [Bf,if_pos rfl,←hs,List.map_map,List.map_map,List.map_map]
      congr 1
      apply List.map_congr_left;intro p _;show(C3 l).getD p (Bf t0)=Bf (l.getD p t0);rw [Cx,Aio])
     have HCC:=Hd (show xan≤xan∧xan≤1099511627776∧xan≤1099511627776 by omega);have HVN:=Hd (show(ps.map fun p=>vs.getD p Iq).length=xan by rw [List.length_map];exact HPL.o);have HVL:=Hd (show(ps.map fun p=>vs.getD p Iq).length=(ps.map fun p=>l.getD p t0).length by rw [List.length_map,List.length_map]);have HIH:=HIH9;clear c4 c5 f4 f5 hF1 hF2 hbt hgn hs1 hb1 hwr hw0 hfrW hq9 hq8 hqp HIH9;generalize (ps.map fun p=>vs.getD p Iq)=vs9 at HIH HVN HVL HO;generalize (ps.map fun p=>l.getD p t0)=ts9 at HIH HVL HEQ;generalize (ps.map fun p=>ks.getD p [])=ks9 at HK HEQ;generalize (some ⟨gl,0,none⟩:Option Addr)=A9 at HX HO HF⊢;generalize (some ⟨gk,0,none⟩:Option Addr)=A8 at HX HK HF⊢;have HC:=Hd (HX.o.cell 0);have c5:W0.cell? ⟨bt,5,none⟩=some (.slice A9 xan xan):=HX.o.cell 5;go_wp2_with fail;go_loopw [57] (fun uu wr=>∃k:Nat,k≤xan∧uu= Aa Ab (k:Int)∧∃us,SrR W0 wr q9 A9 xan xan k vs9 ts9 us) (fun uu _=>xan-(intOf uu).toNat)
     case atStart=>exact⟨0,Nat.zero_le _,rfl,vs9,HO.o,fun _ _=>rfl,fun i _ _ hi=>by omega,Fr.refl _ _,fun _ _ _ _=>rfl⟩
     case round=>
      obtain⟨k,hk,rfl,us,hS⟩:=hrel;have HS:=Hd hS;have HXR:=Hd (HX.o.fr hS.fr (HF.o.no (.inl rfl)));have HRR:=Hd (HR.o.fr hS.fr (HF.o.no (.inr rfl)));have HKR:=Hd (HK.o.fr hS.fr (fun ad e=>by
       have h1:=HF.o.key ad e;rintro(⟨i,hi⟩|⟨a,e2,e3⟩)
       ·exact h1.2.2.2.2.1 i hi
       ·exact h1.2.2.2.2.2 a e2 e3))
      clear hS c5;by_cases hlt:k<xan
      ·obtain⟨v,hv⟩:∃v,vs9[k]?=some v:=⟨_,Asq (by have:=HVN.o;omega)⟩;obtain⟨t',ht'⟩:∃t',ts9[k]?=some t':=⟨_,Asq (by have h1:=HVN.o;have h2:=HVL.o;omega)⟩;obtain⟨g,off,e,v0,v1,v2,v3,v4,v5⟩:=Gt HS.o.own.is ((HS.o.rest k (Asp _)).trans hv);obtain rfl:off=0:=congrArg Addr.off (HS.o.own.addr _ e).1;have e':A9=some ⟨g,0,none⟩:=e;clear e;subst e';rw [Nat.zero_add] at v0 v1 v2 v3 v4 v5;have hgo:=HF.o.off _ rfl;have HGO:=Hd hgo;have hk0:(0:Int)≤(k:Int):=by omega
       have hkn:(k:Int)<(xan:Int):=by omega
       have hn40:xan≤1099511627776:=HCC.o.2.2;have c5:wr.cell? ⟨bt,5,none⟩=some (.slice (some ⟨g,0,none⟩) xan xan):=HXR.o.cell 5;have hal:=(Below.refl wr.heap.size wr).alloc (Asp _) (.cells #[Aa Ab v.k,Aa Ab v.n,Aa Ac (v.u:Int),.string ⟨v.s.toArray⟩,.slice v.A v.an v.ac,.slice v.B v.bn v.bc] 26);have HX5:=Hd (HXR.o.pure hal);have HV5:=Hd (Ag.new wr 26 #[Aa Ab v.k,Aa Ab v.n,Aa Ac (v.u:Int),.string ⟨v.s.toArray⟩,.slice v.A v.an v.ac,.slice v.B v.bn v.bc]);have HB5:=Hd hal;have hbx:=HF.o.bts;have hbs:=HS.o.fr.size;have HNX:=Hd (show wr.heap.size≠g∧(∀b,q9 k b→b≠wr.heap.size)∧¬q9 k bt∧bt≠g by
        refine⟨?_,fun b hb e=>?_,fun hb=>?_,?_⟩
        ·have h1:g<W0.heap.size:=hgo.1;omega
        ·have h1:=(HF.o.qs _ _ hb).2;omega
        ·have h1:=(HF.o.qs _ _ hb).2;omega
        ·have h1:g≠bt:=hgo.2.1;omega)
       have HCD:=Hd (HIH.o k v t' hv ht' (wr.alloc (.cells #[Aa Ab v.k,Aa Ab v.n,Aa Ac (v.u:Int),.string ⟨v.s.toArray⟩,.slice v.A v.an v.ac,.slice v.B v.bn v.bc] 26)).drew (fun b hb=>by
        have h1:=(HF.o.qs _ _ hb).2;have h2:(wr.alloc (.cells #[Aa Ab v.k,Aa Ab v.n,Aa Ac (v.u:Int),.string ⟨v.s.toArray⟩,.slice v.A v.an v.ac,.slice v.B v.bn v.bc] 26)).heap[b]?=wr.heap[b]?:=hal.block b (by omega);exact h2.trans ((HS.o.same k b (Asp _) hb).trans (HQ0.o.1 k b hb))) (by have h1:=HQ0.o.2;have h2:=hal.size;show w0.heap.size≤(wr.alloc (.cells #[Aa Ab v.k,Aa Ab v.n,Aa Ac (v.u:Int),.string ⟨v.s.toArray⟩,.slice v.A v.an v.ac,.slice v.B v.bn v.bc] 26)).heap.size;omega))
       have HT':=Hd ht';clear hv ht' hal hbx hbs hgo;go_upto_region 13 with fail
       generalize wr.alloc (.cells #[Aa Ab v.k,Aa Ab v.n,Aa Ac (v.u:Int),.string ⟨v.s.toArray⟩,.slice v.A v.an v.ac,.slice v.B v.bn v.bc] 26)=w5 at HX5 HV5 HB5 HCD⊢;generalize wr.heap.size=bx at HV5 HNX⊢;clear v0 v1 v2 v3 v4 v5 c5;have y5:w5.cell? ⟨bt,5,none⟩=some (.slice (some ⟨g,0,none⟩) xan xan):=HX5.o.cell 5;obtain ⟨z0,z1,z2,z3,z4,z5⟩:=HV5.o.c6;go_region_held3 (fun w'=>w'.cell? ⟨bt,5,none⟩=some (.slice (some ⟨g,0,none⟩) xan xan)∧w'.cell? ⟨bx,0,none⟩=some (Aa Ab v.k)∧w'.cell? ⟨bx,1,none⟩=some (Aa Ab v.n)∧w'.cell? ⟨bx,2,none⟩=some (Aa Ac (v.u:Int))∧w'.cell? ⟨bx,3,none⟩=some (.string ⟨v.s.toArray⟩)∧w'.cell? ⟨bx,4,none⟩=some (.slice v.A v.an v.ac)∧w'.cell? ⟨bx,5,none⟩=some (.slice v.B v.bn v.bc)) (first|with_reducible exact⟨y5,z0,z1,z2,z3,z4,z5⟩|with_reducible exact⟨Af y5,Af z0,Af z1,Af z2,Af z3,Af z4,Af z5⟩|with_reducible exact⟨x5,q0,q1,q2,q3,q4,q5⟩|exact⟨D3 x5 HNX.o.2.2.2,D3 q0 HNX.o.1,D3 q1 HNX.o.1,D3 q2 HNX.o.1,D3 q3 HNX.o.1,D3 q4 HNX.o.1,D3 q5 HNX.o.1⟩) (first|(go_at_call 79;(with_reducible refine HCD.o.mono ?_);rintro e W6 ⟨y,rfl,hN6,hF6⟩;have x5:=B4 hF6 (Af y5) HNX.o.2.2.1;have q0:=B4 hF6 (Af z0) (fun hh=>HNX.o.2.1 _ hh rfl);have q1:=B4 hF6 (Af z1) (fun hh=>HNX.o.2.1 _ hh rfl);have q2:=B4 hF6 (Af z2) (fun hh=>HNX.o.2.1 _ hh rfl);have q3:=B4 hF6 (Af z3) (fun hh=>HNX.o.2.1 _ hh rfl);have q4:=B4 hF6 (Af z4) (fun hh=>HNX.o.2.1 _ hh rfl);have q5:=B4 hF6 (Af z5) (fun hh=>HNX.o.2.1 _ hh rfl);have HN6:=Hd hN6;have HF6:=Hd hF6;clear hN6 hF6;have hO6:=(HS.o.own.pure (HB5.o.drew)).fr HF6.o (fun ad e=>by injection e with e;subst e;exact HGO.o.2.2.2.1 k);obtain⟨hex,hfz,hnew⟩:=J2 hO6 hlt y;obtain⟨a0,ha0⟩:=hex 0 (by omega);obtain⟨a1,ha1⟩:=hex 1 (by omega);obtain⟨a2,ha2⟩:=hex 2 (by omega);obtain⟨a3,ha3⟩:=hex 3 (by omega);obtain⟨a4,ha4⟩:=hex 4 (by omega);obtain⟨a5,ha5⟩:=hex 5 (by omega);rw [Nat.add_zero] at ha0;have f0:=hfz (k*6);have f1:=hfz (k*6+1);have f2:=hfz (k*6+2);have f3:=hfz (k*6+3);have f4:=hfz (k*6+4);have f5:=hfz (k*6+5);clear hex hfz hnew hO6));clear ha0 ha1 ha2 ha3 ha4 ha5 f0 f1 f2 f3 f4 f5 x5 q0 q1 q2 q3 q4 q5 y5 z0 z1 z2 z3 z4 z5;go_wp2_with fail;go_roundw
       case rel=>
        have hst:=HS.o.step hlt HT'.o (fun i b hb=>⟨by have h1:=HF.o.qs i b hb;have h2:=HF.o.bts;omega,fun e=>HGO.o.2.2.2.1 i (by rw [e] at hb;exact hb)⟩) HGO.o.1 HF.o.apart HB5.o.drew HN6.o HF6.o;exact⟨k+1,by omega,by go_num,_,hst⟩
       case measure=>simp [intOf];omega
      ·obtain rfl:xan=k:=by omega
       have c0:wr.cell? ⟨bt,0,none⟩=some (Aa Ab 17):=HXR.o.cell 0;have c1':wr.cell? ⟨bt,1,none⟩=some (Aa Ab xn):=HXR.o.cell 1;have c2:wr.cell? ⟨bt,2,none⟩=some (Aa Ac (xu:Int)):=HXR.o.cell 2;have c3:wr.cell? ⟨bt,3,none⟩=some (.string ⟨xs.toArray⟩):=HXR.o.cell 3;have c4:wr.cell? ⟨bt,4,none⟩=some (.slice A8 xan xan):=HXR.o.cell 4;have c5:wr.cell? ⟨bt,5,none⟩=some (.slice A9 xan xan):=HXR.o.cell 5;obtain ⟨r0,r1,r2,r3,r4,r5⟩:=HRR.o.c6;have hfz:∀j,wr.frozen? ⟨br,j,none⟩=false:=fun j=>HRR.o.frozen j
       have f0:=hfz 0;have f1:=hfz 1;have f2:=hfz 2;have f3:=hfz 3;have f4:=hfz 4;have f5:=hfz 5;clear hfz;go_wp2_with fail;refine bodyPost_ret (v:= .agg #[Aa Ab 17,Aa Ab xn,Aa Ac (xu:Int),.string ⟨xs.toArray⟩,.slice A8 xan xan,.slice A9 xan xan]) (by simp [results,Tryz.results79,go_sem,r0,r1,r2,r3,r4,r5]) rfl ?_;have hd:=HF.o.done HS.o HKR.o HCC.o.1 HCC.o.2.1 HCC.o.2.2 (by rw [←HVN.o];exact HVL.o.symm) 17 xn xu xs (He wr br (Aa Ab 17) (Aa Ab xn) (Aa Ac (xu:Int)) (.string ⟨xs.toArray⟩) (.slice A8 xan xan) (.slice A9 xan xan));rw [←HEQ.o] at hd;exact⟨_,rfl,hd.1,hd.2⟩
  ·have HEQ:=Hd (show Bf (.mk xk xn xu xs ks l)= .mk xk xn xu xs ks (l.map Bf) by rw [Bf,if_neg h17,Cx]);have e17:(xk==17)=false:=by simpa using h17
   have HCC:=Hd (And.intro hac (And.intro hx hy));clear ih h1 ha h2 hb hy hab hq hd hl hc hp hv hcost hW hsz hK hO hBl h17 hac hx;go_enter Tryz.func79,Tryz.ntmps79;go_upto_region 1 with fail
   generalize (W.alloc (.cells #[Aa Ab xk,Aa Ab xn,Aa Ac (xu:Int),.string ⟨xs.toArray⟩,.slice XA xan xac,.slice XB xbn xbc] 26)).alloc (.cells #[Aa Ab 0,Aa Ab 0,Aa Ac 0,.string ⟨#[]⟩,.slice none 0 0,.slice none 0 0] 26)=W0 at HB0 HX0 HR0 HK0 HO0⊢;generalize hbt:W.heap.size=bt at HX0 HR0⊢;generalize hbr:bt+1=br at HR0⊢;have HF:=Hd (show SrF W W0 p q bt br XA XB by
    have e1:=HR0.o.lt;have e2:=HB0.o.size;refine⟨fun i b hb=>⟨HPW.o.2.1 i b hb,HPW.o.1 b (HPW.o.2.1 i b hb)⟩,⟨hbt,hbr,e1⟩,fun ad e=>?_,fun ad e=>?_,Fr.of_below HB0.o _,HPW.o.2.2⟩
    ·have h1:=HBB.o ad e;have h2:=HPW.o.1 _ h1.1;exact⟨by omega,by omega,by omega,h1.2,.inl h1.1⟩
    ·have h1:=HA.o ad e;have h2:=HPW.o.1 _ h1.1;exact⟨by omega,by omega,by omega,.inl h1.1,h1.2,fun a ea=>HAB.o ad a e ea⟩)
   clear hbt hbr;have c0:W0.cell? ⟨bt,0,none⟩=some (Aa Ab xk):=HX0.o.cell 0;have HQ0:=Hd (show(∀i b,q i b→W0.heap[b]?=w0.heap[b]?)∧w0.heap.size≤W0.heap.size from⟨fun i b hb=>(HB0.o.block b (HPW.o.1 b (HPW.o.2.1 i b hb))).trans (HWW.o.1 b (HPW.o.2.1 i b hb)),Nat.le_trans HWW.o.2 HB0.o.size⟩);have HVN:=HOL;have HX:=HX0;have HR:=HR0;have HK:=HK0;have HO:=HO0;clear HX0 HR0 HK0 HO0;go_upto_region 10 with fail
   clear c0 e17;have HC:=Hd (HX.o.cell 0);have c5:W0.cell? ⟨bt,5,none⟩=some (.slice XB xbn xbc):=HX.o.cell 5;go_wp2_with fail;go_loopw [57] (fun uu wr=>∃k:Nat,k≤xbn∧uu= Aa Ab (k:Int)∧∃us,SrR W0 wr q XB xbn xbc k vs l us) (fun uu _=>xbn-(intOf uu).toNat)
   case atStart=>exact⟨0,Nat.zero_le _,rfl,vs,HO.o,fun _ _=>rfl,fun i _ _ hi=>by omega,Fr.refl _ _,fun _ _ _ _=>rfl⟩
   case round=>
    obtain⟨k,hk,rfl,us,hS⟩:=hrel;have HS:=Hd hS;have HXR:=Hd (HX.o.fr hS.fr (HF.o.no (.inl rfl)));have HRR:=Hd (HR.o.fr hS.fr (HF.o.no (.inr rfl)));have HKR:=Hd (HK.o.fr hS.fr (fun ad e=>by
     have h1:=HF.o.key ad e;rintro(⟨i,hi⟩|⟨a,e2,e3⟩)
     ·exact h1.2.2.2.2.1 i hi
     ·exact h1.2.2.2.2.2 a e2 e3))
    clear hS c5;by_cases hlt:k<xbn
    ·obtain⟨v,hv⟩:∃v,vs[k]?=some v:=⟨_,Asq (by have:=HVN.o;omega)⟩;obtain⟨t',ht'⟩:∃t',l[k]?=some t':=⟨_,Asq (by have h1:=HVN.o;have h2:=HVL.o;omega)⟩;obtain⟨g,off,e,v0,v1,v2,v3,v4,v5⟩:=Gt HS.o.own.is ((HS.o.rest k (Asp _)).trans hv);obtain rfl:off=0:=congrArg Addr.off (HS.o.own.addr _ e).1;have e':XB=some ⟨g,0,none⟩:=e;clear e;subst e';rw [Nat.zero_add] at v0 v1 v2 v3 v4 v5;have hgo:=HF.o.off _ rfl;have HGO:=Hd hgo;have hk0:(0:Int)≤(k:Int):=by omega
     have hkn:(k:Int)<(xbn:Int):=by omega
     have hn40:xbn≤1099511627776:=HCC.o.2.2;have c5:wr.cell? ⟨bt,5,none⟩=some (.slice (some ⟨g,0,none⟩) xbn xbc):=HXR.o.cell 5;have hal:=(Below.refl wr.heap.size wr).alloc (Asp _) (.cells #[Aa Ab v.k,Aa Ab v.n,Aa Ac (v.u:Int),.string ⟨v.s.toArray⟩,.slice v.A v.an v.ac,.slice v.B v.bn v.bc] 26);have HX5:=Hd (HXR.o.pure hal);have HV5:=Hd (Ag.new wr 26 #[Aa Ab v.k,Aa Ab v.n,Aa Ac (v.u:Int),.string ⟨v.s.toArray⟩,.slice v.A v.an v.ac,.slice v.B v.bn v.bc]);have HB5:=Hd hal;have hbx:=HF.o.bts;have hbs:=HS.o.fr.size;have HNX:=Hd (show wr.heap.size≠g∧(∀b,q k b→b≠wr.heap.size)∧¬q k bt∧bt≠g by
      refine⟨?_,fun b hb e=>?_,fun hb=>?_,?_⟩
      ·have h1:g<W0.heap.size:=hgo.1;omega
      ·have h1:=(HF.o.qs _ _ hb).2;omega
      ·have h1:=(HF.o.qs _ _ hb).2;omega
      ·have h1:g≠bt:=hgo.2.1;omega)
     have HCD:=Hd (HIH.o k v t' hv ht' (wr.alloc (.cells #[Aa Ab v.k,Aa Ab v.n,Aa Ac (v.u:Int),.string ⟨v.s.toArray⟩,.slice v.A v.an v.ac,.slice v.B v.bn v.bc] 26)).drew (fun b hb=>by
      have h1:=(HF.o.qs _ _ hb).2;have h2:(wr.alloc (.cells #[Aa Ab v.k,Aa Ab v.n,Aa Ac (v.u:Int),.string ⟨v.s.toArray⟩,.slice v.A v.an v.ac,.slice v.B v.bn v.bc] 26)).heap[b]?=wr.heap[b]?:=hal.block b (by omega);exact h2.trans ((HS.o.same k b (Asp _) hb).trans (HQ0.o.1 k b hb))) (by have h1:=HQ0.o.2;have h2:=hal.size;show w0.heap.size≤(wr.alloc (.cells #[Aa Ab v.k,Aa Ab v.n,Aa Ac (v.u:Int),.string ⟨v.s.toArray⟩,.slice v.A v.an v.ac,.slice v.B v.bn v.bc] 26)).heap.size;omega))
     have HT':=Hd ht';clear hv ht' hal hbx hbs hgo;go_upto_region 13 with fail
     generalize wr.alloc (.cells #[Aa Ab v.k,Aa Ab v.n,Aa Ac (v.u:Int),.string ⟨v.s.toArray⟩,.slice v.A v.an v.ac,.slice v.B v.bn v.bc] 26)=w5 at HX5 HV5 HB5 HCD⊢;generalize wr.heap.size=bx at HV5 HNX⊢;clear v0 v1 v2 v3 v4 v5 c5;have y5:w5.cell? ⟨bt,5,none⟩=some (.slice (some ⟨g,0,none⟩) xbn xbc):=HX5.o.cell 5;obtain ⟨z0,z1,z2,z3,z4,z5⟩:=HV5.o.c6;go_region_held3 (fun w'=>w'.cell? ⟨bt,5,none⟩=some (.slice (some ⟨g,0,none⟩) xbn xbc)∧w'.cell? ⟨bx,0,none⟩=some (Aa Ab v.k)∧w'.cell? ⟨bx,1,none⟩=some (Aa Ab v.n)∧w'.cell? ⟨bx,2,none⟩=some (Aa Ac (v.u:Int))∧w'.cell? ⟨bx,3,none⟩=some (.string ⟨v.s.toArray⟩)∧w'.cell? ⟨bx,4,none⟩=some (.slice v.A v.an v.ac)∧w'.cell? ⟨bx,5,none⟩=some (.slice v.B v.bn v.bc)) (first|with_reducible exact⟨y5,z0,z1,z2,z3,z4,z5⟩|with_reducible exact⟨Af y5,Af z0,Af z1,Af z2,Af z3,Af z4,Af z5⟩|with_reducible exact⟨x5,q0,q1,q2,q3,q4,q5⟩|exact⟨D3 x5 HNX.o.2.2.2,D3 q0 HNX.o.1,D3 q1 HNX.o.1,D3 q2 HNX.o.1,D3 q3 HNX.o.1,D3 q4 HNX.o.1,D3 q5 HNX.o.1⟩) (first|(go_at_call 79;(with_reducible refine HCD.o.mono ?_);rintro e W6 ⟨y,rfl,hN6,hF6⟩;have x5:=B4 hF6 (Af y5) HNX.o.2.2.1;have q0:=B4 hF6 (Af z0) (fun hh=>HNX.o.2.1 _ hh rfl);have q1:=B4 hF6 (Af z1) (fun hh=>HNX.o.2.1 _ hh rfl);have q2:=B4 hF6 (Af z2) (fun hh=>HNX.o.2.1 _ hh rfl);have q3:=B4 hF6 (Af z3) (fun hh=>HNX.o.2.1 _ hh rfl);have q4:=B4 hF6 (Af z4) (fun hh=>HNX.o.2.1 _ hh rfl);have q5:=B4 hF6 (Af z5) (fun hh=>HNX.o.2.1 _ hh rfl);have HN6:=Hd hN6;have HF6:=Hd hF6;clear hN6 hF6;have hO6:=(HS.o.own.pure (HB5.o.drew)).fr HF6.o (fun ad e=>by injection e with e;subst e;exact HGO.o.2.2.2.1 k);obtain⟨hex,hfz,hnew⟩:=J2 hO6 hlt y;obtain⟨a0,ha0⟩:=hex 0 (by omega);obtain⟨a1,ha1⟩:=hex 1 (by omega);obtain⟨a2,ha2⟩:=hex 2 (by omega);obtain⟨a3,ha3⟩:=hex 3 (by omega);obtain⟨a4,ha4⟩:=hex 4 (by omega);obtain⟨a5,ha5⟩:=hex 5 (by omega);rw [Nat.add_zero] at ha0;have f0:=hfz (k*6);have f1:=hfz (k*6+1);have f2:=hfz (k*6+2);have f3:=hfz (k*6+3);have f4:=hfz (k*6+4);have f5:=hfz (k*6+5);clear hex hfz hnew hO6));clear ha0 ha1 ha2 ha3 ha4 ha5 f0 f1 f2 f3 f4 f5 x5 q0 q1 q2 q3 q4 q5 y5 z0 z1 z2 z3 z4 z5;go_wp2_with fail;go_roundw
     case rel=>
      have hst:=HS.o.step hlt HT'.o (fun i b hb=>⟨by have h1:=HF.o.qs i b hb;have h2:=HF.o.bts;omega,fun e=>HGO.o.2.2.2.1 i (by rw [e] at hb;exact hb)⟩) HGO.o.1 HF.o.apart HB5.o.drew HN6.o HF6.o;exact⟨k+1,by omega,by go_num,_,hst⟩
     case measure=>simp [intOf];omega
    ·obtain rfl:xbn=k:=by omega
     have c0:wr.cell? ⟨bt,0,none⟩=some (Aa Ab xk):=HXR.o.cell 0;have c1':wr.cell? ⟨bt,1,none⟩=some (Aa Ab xn):=HXR.o.cell 1;have c2:wr.cell? ⟨bt,2,none⟩=some (Aa Ac (xu:Int)):=HXR.o.cell 2;have c3:wr.cell? ⟨bt,3,none⟩=some (.string ⟨xs.toArray⟩):=HXR.o.cell 3;have c4:wr.cell? ⟨bt,4,none⟩=some (.slice XA xan xac):=HXR.o.cell 4;have c5:wr.cell? ⟨bt,5,none⟩=some (.slice XB xbn xbc):=HXR.o.cell 5;obtain ⟨r0,r1,r2,r3,r4,r5⟩:=HRR.o.c6;have hfz:∀j,wr.frozen? ⟨br,j,none⟩=false:=fun j=>HRR.o.frozen j
     have f0:=hfz 0;have f1:=hfz 1;have f2:=hfz 2;have f3:=hfz 3;have f4:=hfz 4;have f5:=hfz 5;clear hfz;go_wp2_with fail;refine bodyPost_ret (v:= .agg #[Aa Ab xk,Aa Ab xn,Aa Ac (xu:Int),.string ⟨xs.toArray⟩,.slice XA xan xac,.slice XB xbn xbc]) (by simp [results,Tryz.results79,go_sem,r0,r1,r2,r3,r4,r5]) rfl ?_;have hd:=HF.o.done HS.o HKR.o HCC.o.1 HCC.o.2.1 HCC.o.2.2 (by rw [←HOL.o];exact HVL.o.symm) xk xn xu xs (He wr br (Aa Ab xk) (Aa Ab xn) (Aa Ac (xu:Int)) (.string ⟨xs.toArray⟩) (.slice XA xan xac) (.slice XB xbn xbc));rw [←HEQ.o] at hd;exact⟨_,rfl,hd.1,hd.2⟩
end Go.Proofs.YtgbjodnegkbfoaaGreat
