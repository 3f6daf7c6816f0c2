/- Parts of the proof. -/
import Derived.Test.YtgbjodnegkbfoaaGreatQa17
set_option maxHeartbeats 4000000
set_option maxRecDepth 100000
open List renaming getElem?_eq_getElem→Ati,replicate→Atm,getD_eq_getElem?_getD→Atw
open Nat renaming zero_le→Atl
namespace Go.Proofs.YtgbjodnegkbfoaaGreat
open Go.RowKit Go.Acc Go.Sort
theorem Am6{α:Type}{f:α→List Value}{sz:Nat}{e:TypeId}{w:World}{B g n c:Nat}{l:List α}(h:Go.Acc.Own f sz e w 0 (some ⟨g,0,none⟩) n c l)(hB:B≤g):Go.Acc.Own f sz e w B (some ⟨g,0,none⟩) n c l:=by
 refine⟨h.1,?_⟩;obtain⟨h1,h2⟩:=h.2;refine⟨h1,?_⟩;rcases h2 with h2|⟨g',cap,cur,hv,hb,r⟩
 ·exact .inl h2
 ·injection hv with e1 e2 e3
  injection e1 with e1
  injection e1 with e1
  subst e1;exact .inr ⟨g,cap,cur,by rw [e3],hB,r⟩
theorem Aem{α β:Type}{f:β→List Value}{v:α→β}{sz:Nat}{e:TypeId}{w:World}{B n c:Nat}{A:Option Addr}{l:List α}:Go.Acc.Own (fun x=>f (v x)) sz e w B A n c l↔Go.Acc.Own f sz e w B A n c (l.map v):=by
 unfold Go.Acc.Own;rw [List.length_map,List.flatMap_map]
theorem Qy(n:Nat):(List.finRange n).map Fin.val=List.range n:=by
 apply List.ext_getElem (by simp);intro i h1 h2;simp
theorem Sk{α:Type}(d:Array α)(n:Nat)(h:d.size=n):d.extract 0 n=d:=by
 subst h;simp
theorem Ak1(B g n c bl:Nat)(A:Option Addr)(nc:Nat)(l:List (List UInt8))(w:World)(hb:w.cell? ⟨bl,0,none⟩=some (.slice A n nc))(hI:Ey w A n l)(hn:n≤2147483648)(h:Qh w B (some ⟨g,0,none⟩) n c (List.range n))(hbg:bl≠g)(hAg:∀ad,A=some ad→ad.block≠g):
  Calls Tryz.prog 212 #[.slice (some ⟨g,0,none⟩) n c,.func (.func 213) #[] #[.pointer (some ⟨bl,0,none⟩)]] w fun e w'=>e= .returned (.tuple #[])∧∃ps:List Nat,ps.Perm (List.range n)∧(∀(i j:Nat) (hi:i<ps.length) (hj:j<ps.length),i<j→¬l.getD ps[j] []<l.getD ps[i] [])∧Qh w' B (some ⟨g,0,none⟩) n c ps∧Fr (fun k=>k=g) w w':=by
 have hl:l.length=n:=by have:=hI.1;simpa using this
 by_cases h0:n=0
 ·subst h0;refine(AnyF.slices_SortFunc_none (ρ:=Su) { Ae6 with} (some ⟨g,0,none⟩) c (.func (.func 213) #[] #[.pointer (some ⟨bl,0,none⟩)]) w).mono ?_;rintro e w' ⟨rfl,rfl⟩;exact⟨rfl,[],List.Perm.refl _,fun i j hi=>by simp at hi,h,Fr.refl _ _⟩
 ·subst hl
  haveI:Inhabited (Fin l.length):=⟨⟨0,by omega⟩⟩
  obtain⟨enc,henc⟩:∃enc:Fin l.length→Value,enc=fun i=> .int .i64 ((i.val:Nat):Int):=⟨_,rfl⟩
  have hf:∀x:Fin l.length,Jw x.val=[enc x]:=fun x=>by rw [henc];rfl
  have hown:Go.Acc.Own (fun x:Fin l.length=>Jw x.val) 1 3 w B (some ⟨g,0,none⟩) l.length c (List.finRange l.length):=Aem.2 (by rw [Qy];exact h);have eg:∀args w,(callFunc 213 args).run Tryz.prog w= .ok (.enter 213 args) w:=enters_of Tryz.func213 (by kernel_rfl) rfl;have hsz:(List.finRange l.length).toArray.size=l.length:=by simp
  have hlay:CmpReads Tryz.prog 213 #[.pointer (some ⟨bl,0,none⟩)] enc (cfS l) g 0 (List.finRange l.length).toArray.size w:=by
   intro m os dk hdk x y;have hfr:=(Sp hf hown dk (by rw [hdk,hsz]) m os).2;have e2:=Agv bl A l.length nc l x.val y.val _ (By hfr hb hbg) (hI.fr hfr hAg) x.isLt y.isLt (cfS l x y) (fun _ _=>rfl);have e3: #[enc x,enc y]++ #[Value.pointer (some ⟨bl,0,none⟩)]=#[.int .i64 ((x.val:Nat):Int),.int .i64 ((y.val:Nat):Int),.pointer (some ⟨bl,0,none⟩)]:=by rw [henc];rfl
   rw [e3];exact e2.mono fun e w' h=>⟨h.1,1,h.2⟩
  have hlt:g<w.heap.size:=(Ps hown.2 rfl).elim fun _ h=>h.1.lt
  have hH:Holds enc w g 0 (List.finRange l.length).toArray:=by
   intro j hj;have hj':j<(List.finRange l.length).length:=by simpa using hj
   obtain⟨b,off,e1,h3⟩:=Rd.of_own hown.2 j (enc (List.finRange l.length).toArray[j]!) (by
    have h1:=G7 (f:=fun x:Fin l.length=>Jw x.val) (sz:=1) (fun _=>rfl) (List.finRange l.length) j 0 hj' (by omega);rw [Nat.mul_one,Nat.add_zero] at h1;rw [h1,getElem!_pos _ j hj,hf];simp)
   injection e1 with e1
   injection e1 with e1 e2
   subst e1 e2;refine⟨h3,?_⟩;rw [Nat.zero_add];exact Kn hown.2 j
  have hs:=Any.slices_SortFunc Ae6 enc (fun x=>by rw [henc];rfl) (cfS l) (Ata l) 213 #[.pointer (some ⟨bl,0,none⟩)] g 0 c (List.finRange l.length).toArray w eg hlay.lays hH hlt (by omega);rw [hsz] at hs;change Calls Tryz.prog 212 _ _ _ at hs;refine hs.mono ?_;rintro e w' ⟨rfl,d,m,os,hp,hsd,rfl⟩;have hdn:d.size=l.length:=by rw [hp.1,hsz]
  obtain⟨h1,h2⟩:=Sp hf hown d hdn m os;refine⟨rfl,d.toList.map Fin.val,?_,?_,Aem.1 h1,h2⟩
  ·have h3:=hp.2.2;rw [Sk d _ hdn,Sk _ _ hsz] at h3;have h4:=h3.map Fin.val;simpa [Qy] using h4
  ·intro i j hi hj hij;rw [List.length_map,Array.length_toList] at hi hj;have h4:=hsd i j (Atl _) hij (by omega);rw [U7,getElem!_pos d j hj,getElem!_pos d i hi] at h4;have h5:=of_decide_eq_false h4;have e1:∀(k:Nat) (hk:k<d.size) hk',l.getD ((d.toList.map Fin.val)[k]'hk') []=l[d[k]]:=by
    intro k hk hk';rw [List.getElem_map,Atw];simp
   rw [e1 i hi,e1 j hj];exact h5
theorem Mm(w:World):∀q,Below w.heap.size w (w.drewN q)
 |0=>Below.refl _ _
 |q+1=>(Mm w q).drew
theorem Arh:(Tryz.prog.info? 3).map (fun i=>(i.zero,i.size,i.bytes))=some (some (.int .i64 0),1,8):=by kernel_rfl
theorem Am0(n:Nat):(madeCells #[.int .i64 0] n).toList=(Atm n 0).flatMap Jw:=by
 apply List.ext_getElem?;intro j;by_cases hj:j<n
 ·have h1:=G7 Fl (Atm n 0) j 0 (by simpa using hj) (by omega);rw [Nat.mul_one,Nat.add_zero,List.getElem_replicate] at h1;rw [h1];simp [madeCells,hj,Jw,Nat.mod_one]
 ·rw [List.getElem?_eq_none (by simp [madeCells];omega),List.getElem?_eq_none (by rw [Bj Fl];simp;omega)]
theorem Aro(n:Nat)(hn:n≤1099511627776):∃Z:Array Value,Z.toList=(Atm n 0).flatMap Jw∧∀W:World,(Instr.makeSlice 151 (.int .i64 (n:Int)) (.int .i64 (n:Int))).run Tryz.prog W= .ok (.slice (some ⟨W.heap.size,0,none⟩) n n) (W.alloc (.cells Z 3)):=by
 obtain⟨i,hi,hz,hs,hb⟩:=info_parts Arh;refine⟨_,Am0 n,fun W=>?_⟩;have hr:=run_make (P:=Tryz.prog) W 151 3 i _ Tryz.underlying151 hi hz .i64 .i64 n n (by omega) (Int.le_refl _) (by rw [hb];omega) (by omega);simp only [Int.toNat_natCast,hs,Nat.mul_one] at hr;exact hr
theorem Ap5{α:Type}{f:α→List Value}{e:TypeId}(hf:∀x,(f x).length=1)(W:World)(Z:Array Value)(n B:Nat)(l:List α)(hB:B≤W.heap.size)(hn:l.length=n)(hm:n≤1099511627776)(hZ:Z.toList=l.flatMap f):Go.Acc.Own f 1 e (W.alloc (.cells Z e)) B (some ⟨W.heap.size,0,none⟩) n n l:=by
 refine⟨hn,?_⟩;have hs:Z.size=n*1:=by rw [←Array.length_toList,hZ,Bj hf,hn]
 have:=World.ownsRow_lit (base:=B) (e:=e) (size:=1) W Z n hB (by simp only [maxLen];omega) hs;rw [hZ] at this;exact this
theorem Ai3(k n:Nat)(hk:k<n):(List.range k++Atm (n-k) 0).take k++ [k]++(List.range k++Atm (n-k) 0).drop (k+1)=List.range (k+1)++Atm (n-(k+1)) 0:=by
 have e1:(List.range k).length=k:=List.length_range;rw [List.take_append_of_le_length (by omega),List.take_of_length_le (by omega),List.drop_append,List.drop_of_length_le (by omega),e1,List.range_succ,List.drop_replicate,List.nil_append]
 congr 2
 omega
def As1(w:World)(l:List (List UInt8))(e:Ending)(w':World):Prop:=
 ∃A c ps,e= .returned (.tuple #[.slice A l.length c,.int .i64 0])∧Qh w' w.heap.size A l.length c ps∧ps.Perm (List.range l.length)∧(∀(i j:Nat) (hi:i<ps.length) (hj:j<ps.length),i<j→l.getD ps[i] []<l.getD ps[j] [])∧Below w.heap.size w w'
theorem Vd(A:Option Addr)(n c:Nat)(l:List (List UInt8))(w:World)(hI:Ey w A n l)(ho:∀ad,A=some ad→ad.block<w.heap.size)(hn:n≤1000000)(hd:l.Nodup):
  Calls Tryz.prog 125 #[.slice A n c] w (As1 w l):=by
 have hl:l.length=n:=by have:=hI.1;simpa using this
 obtain⟨Z,hZ,hmk⟩:=Aro n (by omega);have HI:=Hd hI;have HOA:=Hd ho;have HND:=Hd hd;have HLL:=Hd hl;have hB1:=(Below.refl w.heap.size w).alloc (Nat.le_refl _) (.cells #[.slice A n c] 23);have hB2:=hB1.alloc hB1.size (.cells Z 3);have HX1:=Hd (Af.new w 23 #[.slice A n c]);have HX2:=Hd ((Af.new w 23 #[.slice A n c]).alloc (.cells Z 3));have HO2:=Hd (Ap5 (e:=3) Fl (w.alloc (.cells #[.slice A n c] 23)) Z n 0 (Atm n 0) (Atl _) (by simp) (by omega) hZ);have HB2:=Hd hB2;have x0:(w.alloc (.cells #[.slice A n c] 23)).cell? ⟨w.heap.size,0,none⟩=some (.slice A n c):=(Af.new w 23 #[.slice A n c]).cell 0;clear hI ho hd hB1 hB2 hZ;go_enter Tryz.func125,Tryz.ntmps125;go_upto_region 2 with fail
 rw [Jq] at HO2;generalize (w.alloc (.cells #[.slice A n c] 23)).alloc (.cells Z 3)=w2 at HX2 HO2 HB2⊢;generalize hg:w.heap.size+1=g at HO2⊢;generalize hbl:w.heap.size=bl at HX2⊢;have HG:=Hd (show w.heap.size≤g∧w.heap.size=bl∧bl≠g by omega);clear hg hbl x0 hmk HX1;go_wp2_with fail;go_loopw [12] (fun u wr=>∃k:Nat,k≤n∧u= .int .i64 k∧Qh wr 0 (some ⟨g,0,none⟩) n n (List.range k++Atm (n-k) 0)∧Below w.heap.size w wr∧Af wr bl 23 #[.slice A n c]) (fun u _=>n-(intOf u).toNat)
 case atStart=>exact⟨0,Atl _,rfl,HO2.o,HB2.o,HX2.o⟩
 case round=>
  obtain⟨k,hk,rfl,how,hbr,hxr⟩:=hrel;have HOW:=Hd how;have HBR:=Hd hbr;have HXR:=Hd hxr;clear how hbr hxr;by_cases hlt:k<n
  ·obtain⟨⟨u,hu⟩,hf,hnew⟩:=Gx Fl HOW.o hlt k (.int .i64 (k:Int)) rfl;rw [Ai3 k n hlt] at hnew;have HNEW:=Hd hnew;have HB3:=Hd (Bs HBR.o (Fr.setCell (S:=fun j=>j=g) (Fr.refl _ wr) (p:=⟨g,k,none⟩) (fun _=>rfl) (.int .i64 (k:Int))) (by rintro j rfl;exact HG.o.1));have HX3:=Hd (HXR.o.far (p:=⟨g,k,none⟩) HG.o.2.2 (.int .i64 (k:Int)));have hk0:(0:Int)≤(k:Int):=by omega
   have hkn:(k:Int)<(n:Int):=by omega
   clear hnew;go_wp2_with fail;go_roundw
   case rel=>exact⟨k+1,by omega,by go_num,HNEW.o,HB3.o,HX3.o⟩
   case measure=>simp [intOf];omega
  ·obtain rfl:k=n:=by omega
   have how:=HOW.o;rw [Nat.sub_self,List.replicate_zero,List.append_nil] at how;have HON:=Hd (Am6 how HG.o.1);clear how HOW;go_wp2_with fail;go_at_call 212;refine(Ak1 w.heap.size g k k bl A c l _ (HXR.o.cell 0) (HI.o.pure HBR.o) (by omega) HON.o HG.o.2.2 (fun ad e=>by have h1:=HOA.o ad e;have h2:=HG.o.1;omega)).mono ?_;rintro e w3 ⟨rfl,ps,hp,hr,ho3,hf3⟩;have HP3:=Hd hp;have HR3:=Hd hr;have HO3:=Hd ho3;have HB3:=Hd (Bs HBR.o hf3 (by rintro j rfl;exact HG.o.1));have HX3:=Hd (HXR.o.fr hf3 HG.o.2.2);have HI3:=Hd (HI.o.pure HB3.o);have HPL:=Hd (show ps.length=k by have:=hp.length_eq;simpa using this);have HPM:=Hd (show ∀p∈ps,p<k from fun p h=>List.mem_range.1 (hp.mem_iff.1 h));have HPN:=Hd (show ps.Nodup from hp.nodup_iff.2 List.nodup_range);clear hp hr ho3 hf3 HBR HXR HON HI;have HAS:=Hd (show ∀(i j:Nat) (hi:i<ps.length) (hj:j<ps.length),i<j→l.getD ps[i] []<l.getD ps[j] [] by
    intro i j hi hj hij;have h1:=HR3.o i j hi hj hij;have hpi:=HPM.o ps[i] (List.getElem_mem _);have hpj:=HPM.o ps[j] (List.getElem_mem _);have hg:∀p (h:p<l.length),l.getD p []=l[p]:=fun p h=>by rw [Atw,Ati];rfl
    rw [hg _ (by rw [hl];exact hpi),hg _ (by rw [hl];exact hpj)];rw [hg _ (by rw [hl];exact hpj),hg _ (by rw [hl];exact hpi)] at h1;rcases Af8 (l[ps[i]]'(by rw [hl];exact hpi)) (l[ps[j]]'(by rw [hl];exact hpj)) with⟨h2,_⟩|⟨h2,_⟩|⟨h2,_⟩
    ·exact h2
    ·have h3:=(List.getElem_inj HND.o).1 h2;have h4:=(List.getElem_inj HPN.o).1 h3;omega
    ·exact absurd h2 h1)
   go_wp2_with fail;go_loopw [6] (fun u wr=>∃j:Nat,(j+1≤k∨j=0)∧u= .int .i64 ((j+1:Nat):Int)∧Qh wr w.heap.size (some ⟨g,0,none⟩) k k ps∧Below w.heap.size w wr∧Af wr bl 23 #[.slice A k c]∧Ey wr A k l) (fun u _=>k+1-(intOf u).toNat)
   case atStart=>exact⟨0,.inr rfl,rfl,HO3.o,HB3.o,HX3.o,HI3.o⟩
   case round=>
    obtain⟨j,hj,rfl,ho,hb,hx,hi⟩:=hrel;have HO:=Hd ho;have HB:=Hd hb;have HX:=Hd hx;have HII:=Hd hi;have x0:wr.cell? ⟨bl,0,none⟩=some (.slice A k c):=hx.cell 0;clear ho hb hx hi;by_cases hlt2:j+1<k
    ·obtain⟨b1,o1,e1,hk1,y0⟩:=Q6 HO.o.is (show j<k by omega);obtain⟨b2,o2,e2,hk2,y1⟩:=Q6 HO.o.is (show j+1<k by omega);injection e1 with e1
     injection e1 with e1 e3
     injection e2 with e2
     injection e2 with e2 e4
     subst e1 e3 e2 e4;have hst:=HAS.o j (j+1) hk1 hk2 (by omega);have hp:=HPM.o ps[j] (List.getElem_mem _);have hq:=HPM.o ps[j+1] (List.getElem_mem _);generalize ps[j]=p at y0 hst hp;generalize ps[j+1]=q at y1 hst hq;obtain⟨b3,o3,e5,hk3,z0⟩:=Gd HII.o hp;obtain⟨b4,o4,e6,hk4,z1⟩:=Gd HII.o hq;have hg:∀p (h:p<l.length),l.getD p []=l[p]:=fun p h=>by rw [Atw,Ati];rfl
     rw [hg _ hk3,hg _ hk4] at hst;generalize l[p]=s at z0 hst;generalize l[q]=t at z1 hst;have HSA:=Hd e5;rw [e5] at e6 x0;injection e6 with e6
     injection e6 with e6 e7
     subst e6 e7;rw [Nat.zero_add] at y0 y1;have hne:(s==t)=false:=beq_eq_false_iff_ne.mpr (fun e=>by rw [e] at hst;exact List.lt_irrefl _ hst);have hj0:(0:Int)≤(j:Int):=by omega
     have hj1:(j:Int)+1<(k:Int):=by omega
     have hj2:(j:Int)<(k:Int):=by omega
     have hp0:(0:Int)≤(p:Int):=by omega
     have hp1:(p:Int)<(k:Int):=by omega
     have hq0:(0:Int)≤(q:Int):=by omega
     have hq1:(q:Int)<(k:Int):=by omega
     clear hg hst e5 hk1 hk2 hk3 hk4;go_wp2_with fail;go_quiet (fail);go_wp2_with fail;go_roundw
     case rel=>exact⟨j+1,.inl (by omega),by go_num,HO.o.pure (Mm _ _),Ad HB.o (Mm _ _),HX.o.pure (Mm _ _),HII.o.pure (Mm _ _)⟩
     case measure=>simp [intOf];omega
    ·have hj3:¬((j:Int)+1<(k:Int)):=by omega
     go_wp2_with fail;go_ret2;subst hl;exact⟨_,_,ps,rfl,HO.o,HP3.o,HAS.o,HB.o⟩
end Go.Proofs.YtgbjodnegkbfoaaGreat
