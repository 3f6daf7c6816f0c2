/- Parts of the proof. -/
import Derived.Test.YtejpbijeifjdeaaGreatQv12
set_option maxHeartbeats 4000000
set_option maxRecDepth 100000
open Go.RowKit.Below renaming refl→Af
open List renaming getElem?_eq_getElem→Ai,replicate→An,take_of_length_le→Aw,getD_eq_getElem?_getD→Ay
open Nat renaming zero_le→Am
open Go.Proofs.Tryz
open Go.Proofs.Tryz renaming prog→Ad
namespace Go.Proofs.YtejpbijeifjdeaaGreat
variable {α:Type}{w:World}{B g n c sz:Nat}{e:TypeId}{A:Option Addr}
section
open Go.RowKit Go.Acc Go.Sort
theorem iY:∀(a b:List UInt8),(a<b∧Lib.compareBytes a b= -1)∨(a=b∧Lib.compareBytes a b=0)∨(b<a∧Lib.compareBytes a b=1)
 | [],[]=> .inr (.inl ⟨rfl,rfl⟩)
 | [],_::_=> .inl ⟨List.nil_lt_cons _ _,rfl⟩
 |_::_,[]=> .inr (.inr ⟨List.nil_lt_cons _ _,rfl⟩)
 |x::a,y::b=>by
  unfold Lib.compareBytes;by_cases h1:x<y
  ·exact .inl ⟨List.cons_lt_cons_iff.2 (.inl h1),by rw [if_pos h1]⟩
  ·by_cases h2:y<x
   ·exact .inr (.inr ⟨List.cons_lt_cons_iff.2 (.inl h2),by rw [if_neg h1,if_pos h2]⟩)
   ·have e:x=y:=UInt8.le_antisymm (UInt8.not_lt.1 h2) (UInt8.not_lt.1 h1);subst e;rw [if_neg h1,if_neg h2];rcases iY a b with⟨h,e⟩|⟨h,e⟩|⟨h,e⟩
    ·exact .inl ⟨List.cons_lt_cons_iff.2 (.inr ⟨rfl,h⟩),e⟩
    ·exact .inr (.inl ⟨by rw [h],e⟩)
    ·exact .inr (.inr ⟨List.cons_lt_cons_iff.2 (.inr ⟨rfl,h⟩),e⟩)
def fJ(l:List (List UInt8))(x y:Fin l.length):Int:=Lib.compareBytes l[x] l[y]
theorem Vn(l:List (List UInt8))(x y:Fin l.length):ltOf (fJ l) x y=decide (l[x]<l[y]):=by
 unfold ltOf fJ;rcases iY l[x] l[y] with⟨h,e⟩|⟨h,e⟩|⟨h,e⟩ <;>rw [e] <;>apply decide_eq_decide.2
 ·exact⟨fun _=>h,fun _=>by decide⟩
 ·exact⟨fun h=>absurd h (by decide),fun h'=>absurd h' (by rw [h];exact List.lt_irrefl _)⟩
 ·exact⟨fun h=>absurd h (by decide),fun h'=>absurd h' (List.lt_asymm h)⟩
theorem Abt(l:List (List UInt8)):SWO (ltOf (fJ l)) where
 irrefl x:=by rw [Vn];exact decide_eq_false (List.lt_irrefl _)
 trans x y z h1 h2:=by rw [Vn] at *;exact decide_eq_true (List.lt_trans (of_decide_eq_true h1) (of_decide_eq_true h2))
 ntrans x y z h1 h2:=by
  rw [Vn] at*;have h1:=of_decide_eq_false h1;have h2:=of_decide_eq_false h2;apply decide_eq_false;intro h;rcases iY l[x] l[y] with⟨h3,_⟩|⟨h3,_⟩|⟨h3,_⟩
  ·exact h1 h3
  ·rw [h3] at h;exact h2 h
  ·exact h2 (List.lt_trans h3 h)
theorem kA(bl:Nat)(A:Option Addr)(n c:Nat)(l:List (List UInt8))(x y:Nat)(w:World)(hb:w.cell? ⟨bl,0,none⟩=some (.slice A n c))(hI:Fm w A n l)(hx:x<n)(hy:y<n)(r:Int)(hr:∀hx hy,Lib.compareBytes (l[x]'hx) (l[y]'hy)=r):
  Calls Ad 241 #[.int .i64 (x:Int),.int .i64 (y:Int),Aca bl] w fun e w'=>e= .returned (.int .i64 r)∧w'=w.drew:=by
 obtain⟨g,a,e,b,c1⟩:=Gc hI hx;obtain⟨q,h,f,d,c2⟩:=Gc hI hy;have hr:=hr b d;generalize l[x]=s at c1 hr;generalize l[y]=t at c2 hr;subst e;injection f with f
 injection f with e3 e4
 subst e3 e4;have i:=Hd hr;have j:(0:Int)≤(x:Int):=by omega
 have k:(x:Int)<(n:Int):=by omega
 have m:(0:Int)≤(y:Int):=by omega
 have p:(y:Int)<(n:Int):=by omega
 clear hr hI b d;go_enter func241,ntmps241;go_wp2_with fail;go_region_held3 (fun w'=>w'.cell? ⟨bl,0,none⟩=some (.slice (some ⟨g,a,none⟩) n c)∧w'.cell? ⟨g,a+x,none⟩=some (.string ⟨s.toArray⟩)∧w'.cell? ⟨g,a+y,none⟩=some (.string ⟨t.toArray⟩)) (first|with_reducible exact⟨hb,c1,c2⟩|with_reducible exact⟨Bc hb,Bc c1,Bc c2⟩) (first|(go_at_call 242;(with_reducible refine(pN s t _).mono ?_);rintro e w' ⟨rfl,rfl⟩));go_wp2_with fail;go_ret;exact⟨congrArg (fun z=>Ending.returned (.int .i64 z)) i.o,rfl⟩
theorem Sz[Inhabited α]{enc:α→Value}{f:α→List Value}(hf:∀x,f x=[enc x]){l:List α}(h:Go.Acc.Own f 1 e w B (some ⟨g,0,none⟩) n c l)(d':Array α)(hd:d'.size=n)(m:Nat)(os:Array Obj):
  Go.Acc.Own f 1 e (sortWorld enc w g 0 m d' os) B (some ⟨g,0,none⟩) n c d'.toList∧Fr (fun k=>k=g) w (sortWorld enc w g 0 m d' os):=by
 have b:∀x,(f x).length=1:=fun x=>by rw [hf];rfl
 obtain⟨a,y,p,v,o,r,C⟩:=Qc h.2 rfl;have t:=y.lt;have d:(sortWorld enc w g 0 m d' os).heap[g]?=some (.cells (putCells enc 0 d' a) e (0,0)):=by
  unfold sortWorld putRow mapBlock;rw [heap_grow_old _ _ (by simpa [ahead] using t)];have q:w.heap[g]?=some (.cells a e (0,0)):=y;simp [Array.getElem?_modify,q,onCells]
 refine⟨⟨by simp [hd],?_,.inr ⟨g,c,_,rfl,C,d,o,r,?_,?_⟩⟩,⟨rfl,rfl,rfl,?_,?_⟩⟩
 ·rw [Cd b,Array.length_toList,hd]
 ·unfold putCells;rw [Array.size_mapIdx];exact p
 ·have A:n*1≤a.size:=by rw [p];exact Nat.mul_le_mul_right _ o
  apply List.ext_getElem?;intro j;rw [List.getElem?_take];by_cases z:j<n*1
  ·have i:j<d'.toList.length:=by rw [Array.length_toList,hd];omega
   have h1:=H6 b d'.toList j 0 i (by omega);rw [Nat.mul_one,Nat.add_zero] at h1;have h2:(d'.toList.flatMap f)[j]?=some (enc d'[j]!):=by
    rw [h1,hf];simp [getElem!_pos d' j (by rw [←Array.length_toList];exact i)]
   rw [if_pos z,h2];have s:j<a.size:=by omega
   unfold putCells;simp [hd,s];omega
  ·rw [if_neg z,List.getElem?_eq_none];rw [Cd b,Array.length_toList,hd];omega
 ·unfold sortWorld;rw [size_grow];simp [putRow,mapBlock]
 ·intro k D u;unfold sortWorld putRow mapBlock;rw [heap_grow_old _ _ (by simpa [ahead] using D)];rw [Array.getElem?_modify,if_neg (fun e=>u e.symm)];rfl
end
section
open Go.RowKit Go.Acc
theorem Rm{l:List Nat}(h:Is J7 w A n l){k:Nat}(hk:k<n):
  ∃b off,A=some ⟨b,off,none⟩∧∃hk':k<l.length,w.cell? ⟨b,off+k,none⟩=some (.int .i64 (l[k]:Int)):=by
 obtain⟨b,off,e,hk',hc⟩:=h.at_ Fw (by omega) hk;exact⟨b,off,e,hk',by have:=hc 0 (by omega);simpa [J7] using this⟩
def iI(w:World)(n:Nat)(l:List Bv)(e:Ending)(w':World):Prop:=∃A c,e= .returned (.slice A n c)∧Gd w' w.heap.size A n c (l.map vv)∧Below w.heap.size w w'
def N0(l:List Bv)(d:Nat)(p:Nat):Bv:=l.getD (2*p+d) ⟨0,0,0⟩
theorem U5(bp bl d:Nat)(AP:Option Addr)(np cp:Nat)(ps:List Nat)(A:Option Addr)(n c:Nat)(l:List Bv)(w:World)(hp:Bb w bp 118 #[.slice AP np cp])(hl:Bb w bl 144 #[.slice A n c])(hP:Is J7 w AP np ps)(hI:Ef w A n (l.map vv))(hd:d≤1)(hn:np≤1000000)(hps:∀p∈ps,2*p+1<n)(hn2:n≤1000000):
  Calls Ad 206 #[.int .i64 (d:Int),Aca bp,Aca bl] w (iI w np (ps.map (N0 l d))):=by
 have U:=Hd hp;have T:=Hd hl;have I:=Hd hps;have F:=Hd hP;have S:=Hd hI;have G:=Hd (show ps.length=np by have:=hP.1;simpa using this);have c0:w.cell? ⟨bp,0,none⟩=some (.slice AP np cp):=hp.cell 0;clear hp hl hP hI hps;go_enter func206,ntmps206;go_wp2_with fail;go_loopw [4,9] (fun s u wr=>∃k:Nat,k≤np∧u= .int .i64 k∧∃A1 c1,s= .slice A1 k c1∧Gd wr w.heap.size A1 k c1 (((ps.take k).map (N0 l d)).map vv)∧Below w.heap.size w wr) (fun _ u _=>np-(intOf u).toNat)
 case atStart=>exact⟨0,Am _,rfl,none,0,rfl,Own.nil _ _,Af _ _⟩
 case round=>
  obtain⟨k,hk,rfl,A1,c1,rfl,B,y⟩:=hrel;have i:=Hd B;have a:=Hd y;clear B y;by_cases K:k<np
  ·obtain⟨g,aj,e,z,v0⟩:=Rm (F.o.pure a.o) K;obtain⟨p,f⟩:∃p,ps[k]=p:=⟨_,rfl⟩;rw [f] at v0;have af:=I.o p (by rw [←f];exact List.getElem_mem _);obtain⟨q,M⟩:∃q,2*p+d=q:=⟨_,rfl⟩;have L:q<n:=by omega
   obtain⟨g2,O,v,J,N,y0,y1,y2⟩:=Ha (S.o.pure a.o) L;have C:N0 l d p=v:=by
    unfold N0;rw [M,Ay,N];rfl
   have V:=Hd (show(((ps.take (k+1)).map (N0 l d)).map vv)=(((ps.take k).map (N0 l d)).map vv)++ [vv v] by
    rw [List.take_succ_eq_append_getElem z,f,List.map_append,List.map_append,List.map_cons,C];rfl)
   have d0:wr.cell? ⟨bp,0,none⟩=some (.slice AP np cp):=(U.o.pure a.o).cell 0;have Y:wr.cell? ⟨bl,0,none⟩=some (.slice A n c):=(T.o.pure a.o).cell 0;have Z:(0:Int)≤(k:Int):=by omega
   have aa:(k:Int)<(np:Int):=by omega
   have ag:(2:Int)*(p:Int)+(d:Int)=(q:Int):=by omega
   have ah:(0:Int)≤(q:Int):=by omega
   have ai:(q:Int)<(n:Int):=by omega
   have ab:(0:Int)≤(p:Int):=by omega
   have ae:(2:Int)*(p:Int)≤1000000:=by omega
   have m:=Hd (a.o.alloc a.o.size (.cells #[.int .i64 (v.t:Int),.int .i64 (v.w:Int),.int .u64 (v.n:Int)] 169));have r:=Hd (i.o.pure ((Af wr.heap.size wr).alloc (Nat.le_refl _) (.cells #[.int .i64 (v.t:Int),.int .i64 (v.w:Int),.int .u64 (v.n:Int)] 169)));have E:=Hd (Sd wr v);have R:=Hd (And.intro e J);rw [e];rw [J] at Y;clear f N C z M e J;go_wp2_with (at_builtin;refine Fl _ rfl (.tmp 13) (.tmp 21) _ rfl 169 _ 3 24 underlying144 Ot rfl (by omega) I9 O8 _ _ _ _ _ rfl r.o _ _ _ _ rfl E.o (by omega) m.o.size ?_;intro P X w2 b h x;have H:=Hd b;have D:=Hd (Cf m.o h (by rintro j ⟨W,e,rfl⟩;exact(r.o.addr W e).2.1));clear b h x);go_roundw
   case rel=>exact⟨k+1,by omega,by go_num,P,X,rfl,by rw [V.o];exact H.o,D.o⟩
   case measure=>simp [intOf];omega
  ·obtain rfl:k=np:=by omega
   have Q:=Hd (show ps.take k=ps from Aw (by have:=G.o;omega));rw [Q.o] at i;go_wp2_with fail;go_ret;exact⟨A1,c1,rfl,i.o,a.o⟩
end
section
open Go.RowKit Go.Acc Go.Sort
theorem sQ{f:α→List Value}{l:List α}(h:Go.Acc.Own f sz e w 0 (some ⟨g,0,none⟩) n c l)(hB:B≤g):Go.Acc.Own f sz e w B (some ⟨g,0,none⟩) n c l:=by
 refine⟨h.1,?_⟩;obtain⟨h1,h2⟩:=h.2;refine⟨h1,?_⟩;rcases h2 with h2|⟨i,a,b,d,j,r⟩
 ·exact .inl h2
 ·injection d with e1 e2 e3
  injection e1 with e1
  injection e1 with e1
  subst e1;exact .inr ⟨g,a,b,by rw [e3],hB,r⟩
theorem fY{β:Type}{f:β→List Value}{v:α→β}{l:List α}:Go.Acc.Own (fun x=>f (v x)) sz e w B A n c l↔Go.Acc.Own f sz e w B A n c (l.map v):=by
 unfold Go.Acc.Own;rw [List.length_map,List.flatMap_map]
theorem Ri(n:Nat):(List.finRange n).map Fin.val=List.range n:=by
 apply List.ext_getElem (by simp);intro i h1 h2;simp
theorem Sw(d:Array α)(n:Nat)(h:d.size=n):d.extract 0 n=d:=by
 subst h;simp
theorem pR(B g n c bl:Nat)(A:Option Addr)(nc:Nat)(l:List (List UInt8))(w:World)(hb:w.cell? ⟨bl,0,none⟩=some (.slice A n nc))(hI:Fm w A n l)(hn:n≤2147483648)(h:Qy w B (some ⟨g,0,none⟩) n c (List.range n))(hbg:bl≠g)(hAg:∀ad,A=some ad→ad.block≠g):
  Calls Ad 240 #[.slice (some ⟨g,0,none⟩) n c,.func (.func 241) #[] #[Aca bl]] w fun e w'=>e= .returned (.tuple #[])∧∃ps:List Nat,ps.Perm (List.range n)∧(∀(i j:Nat) (hi:i<ps.length) (hj:j<ps.length),i<j→¬l.getD ps[j] []<l.getD ps[i] [])∧Qy w' B (some ⟨g,0,none⟩) n c ps∧Fr (fun k=>k=g) w w':=by
 have P:l.length=n:=by have:=hI.1;simpa using this
 by_cases h0:n=0
 ·subst h0;refine(AnyF.slices_SortFunc_none (ρ:=S4) { gP with} (some ⟨g,0,none⟩) c (.func (.func 241) #[] #[Aca bl]) w).mono ?_;rintro e w' ⟨rfl,rfl⟩;exact⟨rfl,[],List.Perm.refl _,fun i j hi=>by simp at hi,h,Fr.refl _ _⟩
 ·subst P
  haveI:Inhabited (Fin l.length):=⟨⟨0,by omega⟩⟩
  obtain⟨enc,o⟩:∃enc:Fin l.length→Value,enc=fun i=> .int .i64 ((i.val:Nat):Int):=⟨_,rfl⟩
  have C:∀x:Fin l.length,J7 x.val=[enc x]:=fun x=>by rw [o];rfl
  have a:Go.Acc.Own (fun x:Fin l.length=>J7 x.val) 1 3 w B (some ⟨g,0,none⟩) l.length c (List.finRange l.length):=fY.2 (by rw [Ri];exact h);have M:∀args w,(callFunc 241 args).run Ad w= .ok (.enter 241 args) w:=enters_of func241 (by kernel_rfl) rfl;have p:(List.finRange l.length).toArray.size=l.length:=by simp
  have t:CmpReads Ad 241 #[Aca bl] enc (fJ l) g 0 (List.finRange l.length).toArray.size w:=by
   intro m I K z x y;have s:=(Sz C a K (by rw [z,p]) m I).2;have v:=kA bl A l.length nc l x.val y.val _ (Cq s hb hbg) (hI.fr s hAg) x.isLt y.isLt (fJ l x y) (fun _ _=>rfl);have L: #[enc x,enc y]++ #[Aca bl]=#[.int .i64 ((x.val:Nat):Int),.int .i64 ((y.val:Nat):Int),Aca bl]:=by rw [o];rfl
   rw [L];exact v.mono fun e w' h=>⟨h.1,1,h.2⟩
  have F:g<w.heap.size:=(Qc a.2 rfl).elim fun _ h=>h.1.lt
  have O:Holds enc w g 0 (List.finRange l.length).toArray:=by
   intro j hj;have E:j<(List.finRange l.length).length:=by simpa using hj
   obtain⟨b,Q,q,h3⟩:=Rd.of_own a.2 j (enc (List.finRange l.length).toArray[j]!) (by
    have h1:=H6 (f:=fun x:Fin l.length=>J7 x.val) (sz:=1) (fun _=>rfl) (List.finRange l.length) j 0 E (by omega);rw [Nat.mul_one,Nat.add_zero] at h1;rw [h1,getElem!_pos _ j hj,C];simp)
   injection q with q
   injection q with q v
   subst q v;refine⟨h3,?_⟩;rw [Nat.zero_add];exact Kv a.2 j
  have G:=Any.slices_SortFunc gP enc (fun x=>by rw [o];rfl) (fJ l) (Abt l) 241 #[Aca bl] g 0 c (List.finRange l.length).toArray w M t.lays O F (by omega);rw [p] at G;change Calls Ad 240 _ _ _ at G;refine G.mono ?_;rintro e w' ⟨rfl,d,m,I,J,H,rfl⟩;have r:d.size=l.length:=by rw [J.1,p]
  obtain⟨h1,h2⟩:=Sz C a d r m I;refine⟨rfl,d.toList.map Fin.val,?_,?_,fY.1 h1,h2⟩
  ·have h3:=J.2.2;rw [Sw d _ r,Sw _ _ p] at h3;have u:=h3.map Fin.val;simpa [Ri] using u
  ·intro i j hi hj D;rw [List.length_map,Array.length_toList] at hi hj;have u:=H i j (Am _) D (by omega);rw [Vn,getElem!_pos d j hj,getElem!_pos d i hi] at u;have N:=of_decide_eq_false u;have q:∀(k:Nat) (hk:k<d.size) hk',l.getD ((d.toList.map Fin.val)[k]'hk') []=l[d[k]]:=by
    intro k hk hk';rw [List.getElem_map,Ay];simp
   rw [q i hi,q j hj];exact N
theorem Mt(w:World):∀q,Below w.heap.size w (w.drewN q)
 |0=>Af _ _
 |q+1=>(Mt w q).drew
theorem zE:(Ad.info? 3).map (fun i=>(i.zero,i.size,i.bytes))=some (some (.int .i64 0),1,8):=by kernel_rfl
theorem sJ(n:Nat):(madeCells #[.int .i64 0] n).toList=(An n 0).flatMap J7:=by
 apply List.ext_getElem?;intro j;by_cases a:j<n
 ·have h1:=H6 Fw (An n 0) j 0 (by simpa using a) (by omega);rw [Nat.mul_one,Nat.add_zero,List.getElem_replicate] at h1;rw [h1];simp [madeCells,a,J7,Nat.mod_one]
 ·rw [List.getElem?_eq_none (by simp [madeCells];omega),List.getElem?_eq_none (by rw [Cd Fw];simp;omega)]
theorem zQ(n:Nat)(hn:n≤1099511627776):∃Z:Array Value,Z.toList=(An n 0).flatMap J7∧∀W:World,(Instr.makeSlice 118 (.int .i64 (n:Int)) (.int .i64 (n:Int))).run Ad W= .ok (.slice (some ⟨W.heap.size,0,none⟩) n n) (W.alloc (.cells Z 3)):=by
 obtain⟨i,c,e,d,b⟩:=info_parts zE;refine⟨_,sJ n,fun W=>?_⟩;have a:=run_make (P:=Ad) W 118 3 i _ underlying118 c e .i64 .i64 n n (by omega) (Int.le_refl _) (by rw [b];omega) (by omega);simp only [Int.toNat_natCast,d,Nat.mul_one] at a;exact a
theorem wS{f:α→List Value}(hf:∀x,(f x).length=1)(W:World)(Z:Array Value)(n B:Nat)(l:List α)(hB:B≤W.heap.size)(hn:l.length=n)(hm:n≤1099511627776)(hZ:Z.toList=l.flatMap f):Go.Acc.Own f 1 e (W.alloc (.cells Z e)) B (some ⟨W.heap.size,0,none⟩) n n l:=by
 refine⟨hn,?_⟩;have a:Z.size=n*1:=by rw [←Array.length_toList,hZ,Cd hf,hn]
 have:=World.ownsRow_lit (base:=B) (e:=e) (size:=1) W Z n hB (by simp only [maxLen];omega) a;rw [hZ] at this;exact this
theorem mV(k n:Nat)(hk:k<n):(List.range k++An (n-k) 0).take k++ [k]++(List.range k++An (n-k) 0).drop (k+1)=List.range (k+1)++An (n-(k+1)) 0:=by
 have a:(List.range k).length=k:=List.length_range;rw [List.take_append_of_le_length (by omega),Aw (by omega),List.drop_append,List.drop_of_length_le (by omega),a,List.range_succ,List.drop_replicate,List.nil_append]
 congr 2
 omega
def Abh(w:World)(l:List (List UInt8))(e:Ending)(w':World):Prop:=
 ∃A c ps,e= .returned (.tuple #[.slice A l.length c,.int .i64 0])∧Qy w' w.heap.size A l.length c ps∧ps.Perm (List.range l.length)∧(∀(i j:Nat) (hi:i<ps.length) (hj:j<ps.length),i<j→l.getD ps[i] []<l.getD ps[j] [])∧Below w.heap.size w w'
theorem Vt(A:Option Addr)(n c:Nat)(l:List (List UInt8))(w:World)(hI:Fm w A n l)(ho:∀ad,A=some ad→ad.block<w.heap.size)(hn:n≤1000000)(hd:l.Nodup):
  Calls Ad 145 #[.slice A n c] w (Abh w l):=by
 have z:l.length=n:=by have:=hI.1;simpa using this
 obtain⟨Z,hZ,au⟩:=zQ n (by omega);have HI:=Hd hI;have ak:=Hd ho;have ai:=Hd hd;have a5:=Hd z;have H:=(Af w.heap.size w).alloc (Nat.le_refl _) (.cells #[.slice A n c] 31);have T:=H.alloc H.size (.cells Z 3);have ao:=Hd (Bb.new w 31 #[.slice A n c]);have F:=Hd ((Bb.new w 31 #[.slice A n c]).alloc (.cells Z 3));have v:=Hd (wS (e:=3) Fw (w.alloc (.cells #[.slice A n c] 31)) Z n 0 (An n 0) (Am _) (by simp) (by omega) hZ);have N:=Hd T;have x0:(w.alloc (.cells #[.slice A n c] 31)).cell? ⟨w.heap.size,0,none⟩=some (.slice A n c):=(Bb.new w 31 #[.slice A n c]).cell 0;clear hI ho hd H T hZ;go_enter func145,ntmps145;go_upto_region 2 with fail
 rw [J3] at v;generalize (w.alloc (.cells #[.slice A n c] 31)).alloc (.cells Z 3)=w2 at F v N⊢;generalize f:w.heap.size+1=g at v⊢;generalize aq:w.heap.size=bl at F⊢;have C:=Hd (show w.heap.size≤g∧w.heap.size=bl∧bl≠g by omega);clear f aq x0 au ao;go_wp2_with fail;go_loopw [12] (fun u wr=>∃k:Nat,k≤n∧u= .int .i64 k∧Qy wr 0 (some ⟨g,0,none⟩) n n (List.range k++An (n-k) 0)∧Below w.heap.size w wr∧Bb wr bl 31 #[.slice A n c]) (fun u _=>n-(intOf u).toNat)
 case atStart=>exact⟨0,Am _,rfl,v.o,N.o,F.o⟩
 case round=>
  obtain⟨k,hk,rfl,b,U,ae⟩:=hrel;have E:=Hd b;have r:=Hd U;have y:=Hd ae;clear b U ae;by_cases aa:k<n
  ·obtain⟨⟨u,hu⟩,hf,d⟩:=Hc Fw E.o aa k (.int .i64 (k:Int)) rfl;rw [mV k n aa] at d;have O:=Hd d;have m:=Hd (Cf r.o (Fr.setCell (S:=fun j=>j=g) (Fr.refl _ wr) (p:=⟨g,k,none⟩) (fun _=>rfl) (.int .i64 (k:Int))) (by rintro j rfl;exact C.o.1));have G:=Hd (y.o.far (p:=⟨g,k,none⟩) C.o.2.2 (.int .i64 (k:Int)));have be:(0:Int)≤(k:Int):=by omega
   have bf:(k:Int)<(n:Int):=by omega
   clear d;go_wp2_with fail;go_roundw
   case rel=>exact⟨k+1,by omega,by go_num,O.o,m.o,G.o⟩
   case measure=>simp [intOf];omega
  ·obtain rfl:k=n:=by omega
   have b:=E.o;rw [Nat.sub_self,List.replicate_zero,List.append_nil] at b;have P:=Hd (sQ b C.o.1);clear b E;go_wp2_with fail;go_at_call 240;refine(pR w.heap.size g k k bl A c l _ (y.o.cell 0) (HI.o.pure r.o) (by omega) P.o C.o.2.2 (fun ad e=>by have h1:=ak.o ad e;have h2:=C.o.1;omega)).mono ?_;rintro e w3 ⟨rfl,ps,B,hr,ab,I⟩;have al:=Hd B;have an:=Hd hr;have aj:=Hd ab;have m:=Hd (Cf r.o I (by rintro j rfl;exact C.o.1));have G:=Hd (y.o.fr I C.o.2.2);have ah:=Hd (HI.o.pure m.o);have a6:=Hd (show ps.length=k by have:=B.length_eq;simpa using this);have x:=Hd (show ∀p∈ps,p<k from fun p h=>List.mem_range.1 (B.mem_iff.1 h));have am:=Hd (show ps.Nodup from B.nodup_iff.2 List.nodup_range);clear B hr ab I r y P HI;have M:=Hd (show ∀(i j:Nat) (hi:i<ps.length) (hj:j<ps.length),i<j→l.getD ps[i] []<l.getD ps[j] [] by
    intro i j hi hj ar;have h1:=an.o i j hi hj ar;have J:=x.o ps[i] (List.getElem_mem _);have K:=x.o ps[j] (List.getElem_mem _);have f:∀p (h:p<l.length),l.getD p []=l[p]:=fun p h=>by rw [Ay,Ai];rfl
    rw [f _ (by rw [z];exact J),f _ (by rw [z];exact K)];rw [f _ (by rw [z];exact K),f _ (by rw [z];exact J)] at h1;rcases iY (l[ps[i]]'(by rw [z];exact J)) (l[ps[j]]'(by rw [z];exact K)) with⟨h2,_⟩|⟨h2,_⟩|⟨h2,_⟩
    ·exact h2
    ·have h3:=(List.getElem_inj ai.o).1 h2;have h4:=(List.getElem_inj am.o).1 h3;omega
    ·exact absurd h2 h1)
   go_wp2_with fail;go_loopw [6] (fun u wr=>∃j:Nat,(j+1≤k∨j=0)∧u= .int .i64 ((j+1:Nat):Int)∧Qy wr w.heap.size (some ⟨g,0,none⟩) k k ps∧Below w.heap.size w wr∧Bb wr bl 31 #[.slice A k c]∧Fm wr A k l) (fun u _=>k+1-(intOf u).toNat)
   case atStart=>exact⟨0,.inr rfl,rfl,aj.o,m.o,G.o,ah.o⟩
   case round=>
    obtain⟨j,hj,rfl,ho,hb,hx,hi⟩:=hrel;have HO:=Hd ho;have HB:=Hd hb;have HX:=Hd hx;have D:=Hd hi;have x0:wr.cell? ⟨bl,0,none⟩=some (.slice A k c):=hx.cell 0;clear ho hb hx hi;by_cases a0:j+1<k
    ·obtain⟨b1,o1,Q,V,y0⟩:=Rm HO.o.is (show j<k by omega);obtain⟨b2,o2,R,W,y1⟩:=Rm HO.o.is (show j+1<k by omega);injection Q with Q
     injection Q with Q e3
     injection R with R
     injection R with R e4
     subst Q e3 R e4;have a:=M.o j (j+1) V W (by omega);have B:=x.o ps[j] (List.getElem_mem _);have hq:=x.o ps[j+1] (List.getElem_mem _);generalize ps[j]=p at y0 a B;generalize ps[j+1]=q at y1 a hq;obtain⟨b3,o3,e5,X,z0⟩:=Gc D.o B;obtain⟨b4,o4,L,Y,z1⟩:=Gc D.o hq;have f:∀p (h:p<l.length),l.getD p []=l[p]:=fun p h=>by rw [Ay,Ai];rfl
     rw [f _ X,f _ Y] at a;generalize l[p]=s at z0 a;generalize l[q]=t at z1 a;have a7:=Hd e5;rw [e5] at L x0;injection L with L
     injection L with L e7
     subst L e7;rw [Nat.zero_add] at y0 y1;have bg:(s==t)=false:=beq_eq_false_iff_ne.mpr (fun e=>by rw [e] at a;exact List.lt_irrefl _ a);have a9:(0:Int)≤(j:Int):=by omega
     have ba:(j:Int)+1<(k:Int):=by omega
     have bb:(j:Int)<(k:Int):=by omega
     have bh:(0:Int)≤(p:Int):=by omega
     have bi:(p:Int)<(k:Int):=by omega
     have bj:(0:Int)≤(q:Int):=by omega
     have bk:(q:Int)<(k:Int):=by omega
     clear f a e5 V W X Y;go_wp2_with fail;go_quiet (fail);go_wp2_with fail;go_roundw
     case rel=>exact⟨j+1,.inl (by omega),by go_num,HO.o.pure (Mt _ _),A6 HB.o (Mt _ _),HX.o.pure (Mt _ _),D.o.pure (Mt _ _)⟩
     case measure=>simp [intOf];omega
    ·have bd:¬((j:Int)+1<(k:Int)):=by omega
     go_wp2_with fail;go_ret2;subst z;exact⟨_,_,ps,rfl,HO.o,al.o,M.o,HB.o⟩
end
end Go.Proofs.YtejpbijeifjdeaaGreat
