/- Parts of the proof. -/
import Derived.Test.YtejpbijeifjdeaaGreatQv24
import Derived.Test.YtejpbijeifjdeaaGreatQv26
set_option maxHeartbeats 4000000
set_option maxRecDepth 100000
open Go.Value renaming int→Aa
open Go.IntKind renaming i64→Ab,u64→Ac
open Nat renaming le_refl→Ae
open Go.RowKit.Below renaming refl→Af
open Go.IntWalk renaming i64_in→Ag
open List renaming getElem?_eq_getElem→Ai,take_of_length_le→Aw,getD_eq_getElem?_getD→Ay
open Go.Proofs.Tryz
open Go.Proofs.Tryz renaming prog→Ad
namespace Go.Proofs.YtejpbijeifjdeaaGreat
variable {n m z w c u f xu xan xac xbn xbc:Nat}{A XA XB:Option Addr}{L s l xs:List UInt8}{v y:Bv}{lim k xk xn:Int}{W w0:World}{ys:List Bv}{t:Tr}{p:Nat→Prop}{x:Nv}
section
open Go.Acc
def Abn(s:List UInt8)(v:Bv):P3:=((v.n:Int),((v.n+s.length+1:Nat):Int),9)
def Aay:List (List UInt8)→List Bv→List P3
 |s::r,v::q=>Abn s v::Aay r q
 |_,_=>[]
def Ab1(t:Nat)(s:List UInt8)(v:Bv):List P3:=
 (((v.n-v.w:Nat):Int),(v.n:Int),(6:Int))::(if t=5 then [((v.n:Int),((v.n+s.length+1:Nat):Int),(10:Int))] else if s=[] then [] else [((v.n:Int),((v.n+s.length:Nat):Int),(11:Int))])
def Ab3(v:Bv)(c:Int):P3:=((v.n:Int),((v.n+v.w:Nat):Int),c)
end
section
open Go.RowKit Go.Acc
theorem qR.more{go:Rq→Bj→Bj×Int}{d:Nat}{r:Rq}(h:qR go d n r)(hm:n≤m):qR go d m r:=by
 intro s h1 h2;obtain⟨a,b,c⟩:=h s (by omega) h2;exact⟨a,by omega,c⟩
theorem C9(a b c:Int)(w:World):Calls Ad 42 #[Aa Ab a,Aa Ab b,Aa Ab c] w (Ab5 (.agg #[Aa Ab a,Aa Ab b,Aa Ab c]) w):=by
 go_enter func42,ntmps42;go_wp2;refine bodyPost_ret (v:= .agg #[Aa Ab a,Aa Ab b,Aa Ab c]) (by simp [results,results42,go_sem]) rfl ⟨rfl,?_⟩;exact(Af _ _).alloc (Ae _) _
theorem pU(s:ByteArray)(w:World):∃c w',(convert 9 22 (.string s)).run Ad w= .ok (.slice (some ⟨w.heap.size,0,none⟩) s.size c) w'∧s.size≤c∧B4 w' (some ⟨w.heap.size,0,none⟩) s.size s.data.toList∧Below w.heap.size w w':=by
 refine⟨_,_,run_bytes_of_string w 9 22 5 s underlying9 underlying22 underlying5,?_,?_,(Af _ _).drew.alloc (Ae _) _⟩
 ·exact grownCap_ge _ _ _ _
 ·refine⟨Array.length_toList,fun j u hu=>⟨_,_,rfl,?_⟩⟩;have b:j<s.data.size:=by
   have:=(List.getElem?_eq_some_iff.1 hu).1;rw [Cd C0] at this;simpa using this
  have a:=heap_alloc_new w.drew (.cells (bytesRow s (grownCap w s.size 0 5)) 5 ((bytesRow s (grownCap w s.size 0 5)).size,(bytesRow s (grownCap w s.size 0 5)).size+1));change _[w.heap.size]?=_ at a;rw [cell_of_row _ _ _ _ _ _ a,Nat.zero_add,bytesRow_at s _ j b,←hu];have h1:=H6 C0 s.data.toList j 0 (by simpa using b) (by omega);rw [Nat.mul_one,Nat.add_zero] at h1;rw [h1];rfl
theorem G9{w:World}{k:Nat}{L:List P3}(h:J0 w A n L)(hk:k<n):∃b off,A=some ⟨b,off,none⟩∧∀x y z,L[k]?=some (x,y,z)→w.cell? ⟨b,off+k*3,none⟩=some (Aa Ab x)∧w.cell? ⟨b,off+k*3+1,none⟩=some (Aa Ab y)∧w.cell? ⟨b,off+k*3+2,none⟩=some (Aa Ab z):=by
 obtain⟨b,off,c,a,h1⟩:=h.at_ Gt (by omega) hk;refine⟨b,off,c,fun x y z hx=>?_⟩;rw [Ai a] at hx;injection hx with hx
 rw [hx] at h1;have h0:=h1 0 (by omega);have h2:=h1 1 (by omega);have h3:=h1 2 (by omega);exact⟨h0,h2,h3⟩
theorem Le(s:ByteArray)(fuel er:Int)(A2:Option Addr)(m c2:Nat)(L:List P3)(w:World)(h:J0 w A2 m L)(hm:m≤2147483648)(hf:fuel≤100000000)(hs:s.size≤1000)(h1:Cb s.data.toList fuel=er)(h2:Cg s.data.toList fuel=L):
  Calls Ad 41 #[.string s,Aa Ab fuel,Aa Ab er,.slice A2 m c2] w (Ab5 (.bool true) w):=by
 have d:=Hd h;have C:=Hd h1;have D:=Hd h2;have f:L.length=m:=h.1;obtain⟨c,W,n,H,A,a⟩:=pU s w;have r:=Hd A;have b:=Hd a;replace d:=Hd (h.pure a);have l:=Hd f;clear h h1 h2 A a f;go_enter func41,ntmps41;go_wp2_with fail;go_at_call 17;refine(Gi _ s.size c fuel s.data.toList _ r.o H (by omega) hf).mono ?_;rw [C.o,D.o];rintro e X ⟨B,k,E,rfl,p,a⟩;replace d:=Hd (d.o.pure a);replace b:=Hd (A6 b.o a);obtain rfl:m=k:=by rw [←l.o];exact p.1
 have t:=Hd p.is;clear p a n r;go_wp2_with fail;go_loopw [11] (fun i wr=>∃k:Nat,k≤m∧i= Aa Ab k∧Below w.heap.size w wr∧J0 wr B m L∧J0 wr A2 m L) (fun i _=>m-(intOf i).toNat)
 case atStart=>exact⟨0,by omega,rfl,b.o,t.o,d.o⟩
 case round=>
  clear b t d;obtain⟨k,T,rfl,a,h1,h2⟩:=hrel;have b:=Hd a;have u:=Hd h1;have v:=Hd h2;have g:L.length=m:=h1.1;clear a h1 h2;by_cases j:k<m
  ·obtain⟨Q,U,F,h1⟩:=G9 u.o j;obtain⟨R,V,G,h2⟩:=G9 v.o j;obtain⟨⟨x,y,z⟩,q⟩:∃x,L[k]?=some x:=⟨_,Ai (by omega)⟩;obtain⟨N,O,P⟩:=h1 x y z q;obtain⟨S,E,c2⟩:=h2 x y z q;have I:=Ng (x,y,z) (x,y,z) false (by simp);have J:(0:Int)≤k:=by omega
   have K:(k:Int)<m:=by omega
   have M:IntKind.i64.wrap ((k:Int)+1)=(k:Int)+1:=Ag _ (by omega);subst F G;clear h1 h2 q g;go_wp2_with fail;go_quiet (fail);go_wp2_with fail;go_roundw
   case rel=>exact⟨k+1,by omega,by go_num,below_drewN b.o _,u.o.drewN _,v.o.drewN _⟩
   case measure=>simp [intOf];omega
  ·obtain rfl:k=m:=by omega
   clear g;go_wp2;go_ret;exact⟨rfl,b.o⟩
theorem uP:Cb [5,4,1] 1=0∧Cg [5,4,1] 1=[(0,1,2),(1,2,8),(2,3,14)]:=by decide
theorem uQ:Cb [2,104,105,0,3,20,1] 9=0∧Cg [2,104,105,0,3,20,1] 9=[(0,1,6),(1,4,10),(4,5,5),(5,6,8),(6,7,14)]:=by decide
theorem uR:Cb [97,0,2,3,4,2,56,1] 9=0∧Cg [97,0,2,3,4,2,56,1] 9=[(0,2,9),(2,3,6),(3,4,5),(4,5,5),(5,6,5),(6,7,8),(7,8,14)]:=by decide
theorem uS:Cb [5,4,1] 0=260∧Cg [5,4,1] 0=[]:=by decide
theorem uT:Cb [4,1] 9=210∧Cg [4,1] 9=[]:=by decide
theorem uU:Cb [2,104,105,1,3,20,1] 9=213∧Cg [2,104,105,1,3,20,1] 9=[]:=by decide
theorem aN(W:World)(vs:Array Value)(n:Nat)(L:List P3)(hn:L.length=n)(h:vs.toList=L.flatMap pc):J0 (W.alloc (.cells vs 46)) (some ⟨W.heap.size,0,none⟩) n L:=
 ⟨hn,fun j u hj=>⟨_,_,rfl,by rw [(Bb.new W 46 vs).cell,Nat.zero_add,←Array.getElem?_toList,h];exact hj⟩⟩
theorem Fg(w:World):Calls Ad 16 #[] w (Ab5 (.bool true) w):=by
 have b:=Hd (Af w.heap.size w);go_enter func16,ntmps16;go_wp2_with fail;go_at_call 42;refine(C9 0 1 2 _).mono ?_;rintro e c ⟨rfl,a⟩;replace b:=Hd (A6 b.o a);clear a;go_wp2_with fail;go_at_call 42;refine(C9 1 2 8 _).mono ?_;rintro e c ⟨rfl,a⟩;replace b:=Hd (A6 b.o a);clear a;go_wp2_with fail;go_at_call 42;refine(C9 2 3 14 _).mono ?_;rintro e c ⟨rfl,a⟩;replace b:=Hd (A6 b.o a);clear a;go_wp2_with fail;have d:=Hd (aN c #[Aa Ab 0,Aa Ab 1,Aa Ab 2,Aa Ab 1,Aa Ab 2,Aa Ab 8,Aa Ab 2,Aa Ab 3,Aa Ab 14] 3 [(0,1,2),(1,2,8),(2,3,14)] (by rfl) (by rfl));replace b:=Hd (b.o.alloc b.o.size (.cells #[Aa Ab 0,Aa Ab 1,Aa Ab 2,Aa Ab 1,Aa Ab 2,Aa Ab 8,Aa Ab 2,Aa Ab 3,Aa Ab 14] 46));go_at_call 41;refine(Le _ 1 0 _ 3 3 [(0,1,2),(1,2,8),(2,3,14)] _ d.o (by decide) (by decide) (by decide) uP.1 uP.2).mono ?_;rintro e c ⟨rfl,a⟩;replace b:=Hd (A6 b.o a);clear a d;go_wp2_with fail;go_at_call 42;refine(C9 0 1 6 _).mono ?_;rintro e c ⟨rfl,a⟩;replace b:=Hd (A6 b.o a);clear a;go_wp2_with fail;go_at_call 42;refine(C9 1 4 10 _).mono ?_;rintro e c ⟨rfl,a⟩;replace b:=Hd (A6 b.o a);clear a;go_wp2_with fail;go_at_call 42;refine(C9 4 5 5 _).mono ?_;rintro e c ⟨rfl,a⟩;replace b:=Hd (A6 b.o a);clear a;go_wp2_with fail;go_at_call 42;refine(C9 5 6 8 _).mono ?_;rintro e c ⟨rfl,a⟩;replace b:=Hd (A6 b.o a);clear a;go_wp2_with fail;go_at_call 42;refine(C9 6 7 14 _).mono ?_;rintro e c ⟨rfl,a⟩;replace b:=Hd (A6 b.o a);clear a;go_wp2_with fail;have d:=Hd (aN c #[Aa Ab 0,Aa Ab 1,Aa Ab 6,Aa Ab 1,Aa Ab 4,Aa Ab 10,Aa Ab 4,Aa Ab 5,Aa Ab 5,Aa Ab 5,Aa Ab 6,Aa Ab 8,Aa Ab 6,Aa Ab 7,Aa Ab 14] 5 [(0,1,6),(1,4,10),(4,5,5),(5,6,8),(6,7,14)] (by rfl) (by rfl));replace b:=Hd (b.o.alloc b.o.size (.cells #[Aa Ab 0,Aa Ab 1,Aa Ab 6,Aa Ab 1,Aa Ab 4,Aa Ab 10,Aa Ab 4,Aa Ab 5,Aa Ab 5,Aa Ab 5,Aa Ab 6,Aa Ab 8,Aa Ab 6,Aa Ab 7,Aa Ab 14] 46));go_at_call 41;refine(Le _ 9 0 _ 5 5 [(0,1,6),(1,4,10),(4,5,5),(5,6,8),(6,7,14)] _ d.o (by decide) (by decide) (by decide) uQ.1 uQ.2).mono ?_;rintro e c ⟨rfl,a⟩;replace b:=Hd (A6 b.o a);clear a d;go_wp2_with fail;go_at_call 42;refine(C9 0 2 9 _).mono ?_;rintro e c ⟨rfl,a⟩;replace b:=Hd (A6 b.o a);clear a;go_wp2_with fail;go_at_call 42;refine(C9 2 3 6 _).mono ?_;rintro e c ⟨rfl,a⟩;replace b:=Hd (A6 b.o a);clear a;go_wp2_with fail;go_at_call 42;refine(C9 3 4 5 _).mono ?_;rintro e c ⟨rfl,a⟩;replace b:=Hd (A6 b.o a);clear a;go_wp2_with fail;go_at_call 42;refine(C9 4 5 5 _).mono ?_;rintro e c ⟨rfl,a⟩;replace b:=Hd (A6 b.o a);clear a;go_wp2_with fail;go_at_call 42;refine(C9 5 6 5 _).mono ?_;rintro e c ⟨rfl,a⟩;replace b:=Hd (A6 b.o a);clear a;go_wp2_with fail;go_at_call 42;refine(C9 6 7 8 _).mono ?_;rintro e c ⟨rfl,a⟩;replace b:=Hd (A6 b.o a);clear a;go_wp2_with fail;go_at_call 42;refine(C9 7 8 14 _).mono ?_;rintro e c ⟨rfl,a⟩;replace b:=Hd (A6 b.o a);clear a;go_wp2_with fail;have d:=Hd (aN c #[Aa Ab 0,Aa Ab 2,Aa Ab 9,Aa Ab 2,Aa Ab 3,Aa Ab 6,Aa Ab 3,Aa Ab 4,Aa Ab 5,Aa Ab 4,Aa Ab 5,Aa Ab 5,Aa Ab 5,Aa Ab 6,Aa Ab 5,Aa Ab 6,Aa Ab 7,Aa Ab 8,Aa Ab 7,Aa Ab 8,Aa Ab 14] 7 [(0,2,9),(2,3,6),(3,4,5),(4,5,5),(5,6,5),(6,7,8),(7,8,14)] (by rfl) (by rfl));replace b:=Hd (b.o.alloc b.o.size (.cells #[Aa Ab 0,Aa Ab 2,Aa Ab 9,Aa Ab 2,Aa Ab 3,Aa Ab 6,Aa Ab 3,Aa Ab 4,Aa Ab 5,Aa Ab 4,Aa Ab 5,Aa Ab 5,Aa Ab 5,Aa Ab 6,Aa Ab 5,Aa Ab 6,Aa Ab 7,Aa Ab 8,Aa Ab 7,Aa Ab 8,Aa Ab 14] 46));go_at_call 41;refine(Le _ 9 0 _ 7 7 [(0,2,9),(2,3,6),(3,4,5),(4,5,5),(5,6,5),(6,7,8),(7,8,14)] _ d.o (by decide) (by decide) (by decide) uR.1 uR.2).mono ?_;rintro e c ⟨rfl,a⟩;replace b:=Hd (A6 b.o a);clear a d;go_wp2_with fail;go_at_call 41;refine(Le _ 0 260 _ 0 0 [] _ (Is.nil _ _) (by decide) (by decide) (by decide) uS.1 uS.2).mono ?_;rintro e c ⟨rfl,a⟩;replace b:=Hd (A6 b.o a);clear a;go_wp2_with fail;go_at_call 41;refine(Le _ 9 210 _ 0 0 [] _ (Is.nil _ _) (by decide) (by decide) (by decide) uT.1 uT.2).mono ?_;rintro e c ⟨rfl,a⟩;replace b:=Hd (A6 b.o a);clear a;go_wp2_with fail;go_at_call 41;refine(Le _ 9 213 _ 0 0 [] _ (Is.nil _ _) (by decide) (by decide) (by decide) uU.1 uU.2).mono ?_;rintro e c ⟨rfl,a⟩;replace b:=Hd (A6 b.o a);clear a;go_wp2;go_ret;exact⟨rfl,b.o⟩
def Bj.more(s:Bj)(k:Nat):Bj:={ s with left:=s.left+k}
theorem Hx(s:Bj)(k:Nat)(a b c:Int):(s.more k).tell a b c=(s.tell a b c).more k:=by unfold Bj.tell;split <;>rfl
def R6(k:Nat)(go go':Rq→Bj→Bj×Int):Prop:=∀r s,(go r s).2≠260→go' r (s.more k)=((go r s).1.more k,(go r s).2)
section
variable {l:List UInt8} {go go':Rq→Bj→Bj×Int} (r:Rq) {k:Nat}
theorem qC(s:Bj):Cn l r (s.more k)=((Cn l r s).1.more k,(Cn l r s).2):=by
 unfold Cn
 (repeat' split) <;>simp only [Hx]
theorem iM(s:Bj):Ct l r (s.more k)=((Ct l r s).1.more k,(Ct l r s).2):=by
 unfold Ct
 (repeat' split) <;>simp only [Hx]
theorem tT(i:Nat)(s:Bj):D6 l r i (s.more k)=(D6 l r i s).more k:=by unfold D6;split <;>simp only [Hx]
theorem sF(s:Bj):Hl l r (s.more k)=(Hl l r s).more k:=by unfold Hl;split <;>simp only [Hx]
theorem nQ(hg:R6 k go go')(s:Bj)(h:(Fe l go r s).2≠260):Fe l go' r (s.more k)=((Fe l go r s).1.more k,(Fe l go r s).2):=by
 unfold Fe at h⊢;split
 ·rfl
 ·rename_i h1;rw [if_neg h1] at h;have hne:(go (Gf l r) s).2≠260:=by
   by_cases h2:(go (Gf l r) s).2≠0
   ·rw [if_pos h2] at h;exact h
   ·have:=Decidable.of_not_not h2;omega
  have e:=hg (Gf l r) s hne;rw [e];split
  ·rfl
  ·simp only [Hx]
theorem nF(hg:R6 k go go')(s:Bj)(h:(Eg l go r s).2≠260):Eg l go' r (s.more k)=((Eg l go r s).1.more k,(Eg l go r s).2):=by
 unfold Eg at h⊢;split
 ·rename_i ht;rw [if_pos ht] at h;exact nQ r hg s h
 ·rfl
theorem U0(hg:R6 k go go'):∀(n i:Nat) (s:Bj),(Du l go r n i s).2≠260→Du l go' r n i (s.more k)=((Du l go r n i s).1.more k,(Du l go r n i s).2)
 |0,i,s,_=>rfl
 |n+1,i,s,h=>by
  unfold Du at h⊢;rw [tT];split
  ·rfl
  ·rename_i h1;rw [if_neg h1] at h;have a:(go (G0 l r i) (D6 l r i s)).2≠260:=by
    by_cases h2:(go (G0 l r i) (D6 l r i s)).2≠0
    ·rw [if_pos h2] at h;exact h
    ·have:=Decidable.of_not_not h2;omega
   have e:=hg (G0 l r i) (D6 l r i s) a;rw [e];split
   ·rfl
   ·rename_i h2;rw [if_neg h2] at h;exact U0 hg n (i+1) _ h
theorem oF(hg:R6 k go go')(s:Bj)(h:(Db l go r s).2≠260):Db l go' r (s.more k)=((Db l go r s).1.more k,(Db l go r s).2):=by
 unfold Db at h⊢;split
 ·rfl
 ·rename_i h1;rw [if_neg h1] at h;have a:(Eg l go r s).2≠260:=by
   by_cases h2:(Eg l go r s).2≠0
   ·rw [if_pos h2] at h;exact h
   ·have:=Decidable.of_not_not h2;omega
  have e:=nF r hg s a;rw [e];split
  ·rfl
  ·rename_i h2;rw [if_neg h2] at h;simp only [sF];exact U0 r hg _ _ _ h
theorem mK(hg:R6 k go go')(s:Bj)(h:(Da l go r s).2≠260):Da l go' r (s.more k)=((Da l go r s).1.more k,(Da l go r s).2):=by
 unfold Da at h⊢;split
 ·exact qC r s
 ·rename_i h1;rw [if_neg h1] at h;split
  ·exact iM r s
  ·rename_i h2;rw [if_neg h2] at h;exact oF r hg s h
end
theorem kS(r:Rq)(s:Bj)(k:Nat):Cw r (s.more k)=(Cw r s).more k:=by
 unfold Cw;rw [←Hx]
 congr 1
 unfold Bj.burn Bj.more;simp only
 congr 1
 omega
theorem X0(l:List UInt8)(k:Nat):∀d d',d≤d'→R6 k (Ca l d) (Ca l d')
 |0,_,_,r,s,h=>absurd rfl h
 |d+1,0,h,_,_,_=>by omega
 |d+1,d'+1,hd,r,s,h=>by
  unfold Ca at h⊢;by_cases h1:s.left<1
  ·rw [if_pos h1] at h;exact absurd rfl h
  ·rw [if_neg h1] at h;rw [if_neg h1,if_neg (show ¬(s.more k).left<1 by unfold Bj.more;simp only;omega),kS];split
   ·rfl
   ·rename_i h2;rw [if_neg h2] at h;have a:(s.more k).had=s.had:=rfl;rw [a];split
    ·rfl
    ·rename_i h3;rw [if_neg h3] at h;have b:((Cw r s).more k).see (F7 l r)=((Cw r s).see (F7 l r)).more k:=rfl;rw [b];exact mK r (X0 l k d d' (by omega)) _ h
theorem nC(l:List UInt8)(n m:Int)(h:n≤m)(he:Cb l n≠260):Cb l m=Cb l n∧Cg l m=Cg l n:=by
 obtain⟨k,rfl⟩:∃k:Nat,m=n+k:=⟨(m-n).toNat,by omega⟩;have a:Cb l (n+k)=Cb l n∧(Dq l=0→(F8 l (n+k)).1.o=(F8 l n).1.o):=by
  unfold Cb at he⊢;by_cases hr:Dq l≠0
  ·rw [if_pos hr,if_pos hr];exact⟨rfl,fun h=>absurd h hr⟩
  ·rw [if_neg hr] at he;rw [if_neg hr,if_neg hr];have h1:=X0 l k (n.toNat+1) ((n+k).toNat+1) (by omega) (Ff l) (Ec l n) he;have h2:(Ec l n).more k=Ec l (n+k):=by unfold Ec;rw [←Hx,←Hx];rfl
   rw [h2] at h1;unfold F8;rw [h1];exact⟨rfl,fun _=>rfl⟩
 refine⟨a.1,?_⟩;unfold Cg;rw [a.1];split
 ·rfl
 ·rename_i h0;have h0:=Decidable.of_not_not h0;have hr:Dq l=0:=by
   refine Decidable.byContradiction fun hr=>?_
   unfold Cb at h0;rw [if_pos hr] at h0;exact hr h0
  rw [a.2 hr]
theorem Kj(A:Option Addr)(n c:Nat)(l:List UInt8)(w:World)(h:B4 w A n l)(hc:n≤c):
  Calls Ad 53 #[.slice A n c] w fun e w'=>∃A' n' c',e= .returned (.slice A' n' c')∧n'≤1500∧Gp w' w.heap.size A' n' c' (l.take 1500)∧Below w.heap.size w w':=by
 obtain⟨M,f,s,a,k⟩:=mF A n c 1500 1500 rfl hc;have t:=h.1;have j:l.take 1500=l.take M:=by
  by_cases u:n≤1500
  ·have:M=n:=by split at a <;>omega
   rw [this,Aw (by omega),Aw (by omega)]
  ·have:M=1500:=by split at a <;>omega
   rw [this]
 rw [j];have g:min (n:Int) 1500=M:=by split at a <;>omega
 have i:=Hd (h.take C0 f);clear h t j;go_enter func53,ntmps53;go_wp2_with fail;go_at_call 12;refine(Pr A M c (l.take M) _ i.o (by omega)).mono ?_;rintro e v ⟨m,n1,r,rfl,b,d⟩;obtain rfl:M=n1:=by rw [←b.1,i.o.1]
 have q:=Hd b;have p:=Hd d;clear b d;go_wp2_with fail;go_ret;exact⟨m,M,r,rfl,by omega,q.o,p.o⟩
theorem kP(A1 A2:Option Addr)(n c1 c2:Nat)(L:List P3)(w:World)(h1:J0 w A1 n L)(h2:J0 w A2 n L)(hm:n≤9223372036854775807):
  Calls Ad 56 #[.slice A1 n c1,.slice A2 n c2] w (Ab5 (.bool true) w):=by
 have e:=Hd h1;have f:=Hd h2;have a:=Hd (Af w.heap.size w);clear h1 h2;go_enter func56,ntmps56;go_wp2_with fail;go_loopw [5] (fun i wr=>∃k:Nat,k≤n∧i= Aa Ab k∧Below w.heap.size w wr∧J0 wr A1 n L∧J0 wr A2 n L) (fun i _=>n-(intOf i).toNat)
 case atStart=>exact⟨0,by omega,rfl,a.o,e.o,f.o⟩
 case round=>
  clear a e f;obtain⟨k,D,rfl,j,h1,h2⟩:=hrel;have a:=Hd j;have g:=Hd h1;have h:=Hd h2;have b:L.length=n:=h1.1;clear j h1 h2;by_cases c:k<n
  ·obtain⟨A,E,l,h1⟩:=G9 g.o c;obtain⟨B,F,m,h2⟩:=G9 h.o c;obtain⟨⟨x,y,z⟩,d⟩:∃x,L[k]?=some x:=⟨_,Ai (by omega)⟩;obtain⟨t,u,v⟩:=h1 x y z d;obtain⟨C,c1,c2⟩:=h2 x y z d;have p:=Ng (x,y,z) (x,y,z) false (by simp);have q:(0:Int)≤k:=by omega
   have r:(k:Int)<n:=by omega
   have s:IntKind.i64.wrap ((k:Int)+1)=(k:Int)+1:=Ag _ (by omega);subst l m;clear h1 h2 d b;go_wp2_with fail;go_quiet (fail);go_wp2_with fail;go_roundw
   case rel=>exact⟨k+1,by omega,by go_num,below_drewN a.o _,g.o.drewN _,h.o.drewN _⟩
   case measure=>simp [intOf];omega
  ·obtain rfl:k=n:=by omega
   clear b;go_wp2;go_ret;exact⟨rfl,a.o⟩
theorem Wn(A:Option Addr)(n c:Nat)(x y:Int)(l:List UInt8)(w:World)(h:B4 w A n l)(hc:n≤c):
  Calls Ad 22 #[.slice A n c,Aa Ab x,Aa Ab y] w (Ab5 (.bool true) w):=by
 have V:=Hd h;clear h;go_enter func22,ntmps22;go_wp2_with fail;go_at_call 53;refine(Kj A n c l _ V.o hc).mono ?_;rintro e w1 ⟨A1,n1,c1,rfl,an,m,H⟩;have I:=m.cap.1;have t:=Hd m.is;have d:=Hd H;generalize l.take 1500=l at t;clear m H V;go_wp2_with fail;go_at_call 18;refine(Pl x 2001 _ (by decide) (by decide)).mono ?_;rintro e w2 ⟨rfl,rfl⟩;have Z:=Int.emod_nonneg x (show(2001:Int)≠0 by decide);have a1:=Int.emod_lt_of_pos x (show(0:Int)<2001 by decide);generalize x % 2001=a at Z a1⊢;go_wp2_with fail;go_at_call 18;refine(Pl y 2001 _ (by decide) (by decide)).mono ?_;rintro e w2 ⟨rfl,rfl⟩;have b0:=Int.emod_nonneg y (show(2001:Int)≠0 by decide);have b1:=Int.emod_lt_of_pos y (show(0:Int)<2001 by decide);generalize y % 2001=b at b0 b1⊢;go_wp2_with fail;have i:=nC l (min a b) (max a b) (by omega);obtain⟨O,j⟩:∃z,min a b=z:=⟨_,rfl⟩;obtain⟨M,s⟩:∃z,max a b=z:=⟨_,rfl⟩;have l1:O≤100000000:=by omega
 have l2:M≤100000000:=by omega
 rw [j,s] at i;have P:=Hd j;have v:=Hd s;rw [j];obtain⟨E,g⟩:∃z,Cb l O=z:=⟨_,rfl⟩;obtain⟨F,Q⟩:∃z,Cb l M=z:=⟨_,rfl⟩;obtain⟨L,J⟩:∃z,Cg l O=z:=⟨_,rfl⟩;obtain⟨K,R⟩:∃z,Cg l M=z:=⟨_,rfl⟩;rw [g,Q,J,R] at i;have D:E=260→L=[]:=fun e=>by rw [←J];unfold Cg;rw [g,if_pos (by omega)]
 have u:=Hd i;have B:=Hd D;have T:=Gi A1 n1 c1 O l w1 t.o I (by omega) l1;rw [g,J] at T;have U:=fun W (h:B4 W A1 n1 l)=>Gi A1 n1 c1 M l W h I (by omega) l2
 rw [Q,R] at U;have X:=Hd T;have Y:=Hd U;clear j s g Q J R i D T U l1 l2 Z a1 b0 b1;refine X.o.mono ?_;rintro e w2 ⟨A2,N,c2,rfl,p,q⟩;replace t:=Hd (t.o.pure q);replace d:=Hd (A6 d.o q);have f:=Hd p.is;have S:N≤9223372036854775807:=by have:=p.cap;simp only [maxLen] at this;omega
 clear p q X;go_wp2_with fail;go_at_call 17;rw [v.o];refine(Y.o _ t.o).mono ?_;rintro e w3 ⟨A3,k3,c3,rfl,G,r⟩;replace f:=Hd (f.o.pure r);replace d:=Hd (A6 d.o r);have C:=Hd G.is;clear G r Y t P v;by_cases g:E=260
 ·subst g;obtain rfl:N=0:=by rw [←f.o.1,B.o rfl];rfl
  go_wp2_with fail;go_at_call 16;refine(Fg _).mono ?_;rintro e w4 ⟨rfl,k⟩;replace d:=Hd (A6 d.o k);clear k;go_wp2;go_ret;exact⟨rfl,d.o⟩
 ·obtain⟨rfl,rfl⟩:=u.o g;obtain rfl:N=k3:=by rw [←f.o.1,C.o.1]
  have am:(F==260)=false:=by simpa using g
  clear g B u;go_wp2_with fail;go_at_call 56;refine(kP A2 A3 N c2 c3 K _ f.o C.o S).mono ?_;rintro e w4 ⟨rfl,k⟩;replace d:=Hd (A6 d.o k);clear k;go_wp2_with fail;go_at_call 16;refine(Fg _).mono ?_;rintro e w5 ⟨rfl,k⟩;replace d:=Hd (A6 d.o k);clear k;go_wp2;go_ret;exact⟨rfl,d.o⟩
def Nn(f:Int)(y:Bv):Prop:=inl y.t=false→(y.n:Int)-F4 y.t*(y.w:Int)<f
def yF(ks:List (List UInt8)):Prop:=∀(i:Nat) s t,ks[i]?=some s→ks[i+1]?=some t→Op.bytesLess s t=true
inductive Dn(L:List UInt8):Bv→Tr→Prop
 |null:Dn L ⟨0,1,0⟩ (.mk 1 0 0 [] [] [])
 |truth {n:Int} (h:n=0∨n=1):Dn L (E3 n) (.mk 2 n 0 [] [] [])
 |int {n:Int} (h: -9223372036854775808≤n∧n≤9223372036854775807):Dn L (Gs n) (.mk 3 n 0 [] [] [])
 |uint {u:Nat} (h:u<18446744073709551616):Dn L (Ds u) (.mk 4 0 u [] [] [])
 |key {v:Bv} {s:List UInt8} (h:Ja L s v) (h0:Cl s=false):Dn L v (.mk 5 0 0 s [] [])
 |str {v:Bv} {s:List UInt8} (h:G4 L 5 s [0] v):Dn L v (.mk 6 0 0 s [] [])
 |blob {v:Bv} {s:List UInt8} (h:G4 L 25 s [] v):Dn L v (.mk 7 0 0 s [] [])
 |indInt {v:Bv} {n:Int} (h:Kh L 6 (bWidthI n) (bits n) v) (hn: -9223372036854775808≤n∧n≤9223372036854775807):Dn L v (.mk 8 n 0 [] [] [])
 |indUint {v:Bv} {u:Nat} (h:Kh L 7 (bWidth u) u v) (hu:u<18446744073709551616):Dn L v (.mk 9 0 u [] [] [])
 |list {v:Bv} {k:Int} {c:List Tr} {vs:List Bv} (hk:De (v.t:Int)=k) (h10:10≤k∧k≤16) (hl:Mb L 0 vs v) (hlen:vs.length=c.length) (he:O9 v.t vs) (hlow:∀y∈vs,Nn ((v.n:Int)-aheadT (v.t:Int)*v.w) y)
   (hr:∀(i:Nat) y t,vs[i]?=some y→c[i]?=some t→Dn L y t):Dn L v (.mk k 0 0 [] [] c)
 |map {v kv:Bv} {c:List Tr} {vs kvs:List Bv} {ks:List (List UInt8)} {cc:Nat} (h9:v.t=9) (hl:Mb L 0 vs v) (hlen:vs.length=c.length) (he:O9 v.t vs) (hlow:∀y∈vs,Nn (cc:Int) y) (hcc:v.n=cc+3*v.w)
   (h14:kv.t=14) (hkl:Mb L 0 kvs kv) (hks:F2 L ks kvs) (hkn:ks.length=c.length) (h0:∀s∈ks,Cl s=false) (hri:yF ks) (hkw:∀y∈kvs,Nn ((kv.n:Int)-kv.w) y) (hsl:Fa L cc v.w kv) (hwd:At L (cc+v.w) (Bi v.w kv.w))
   (hr:∀(i:Nat) y t,vs[i]?=some y→c[i]?=some t→Dn L y t):Dn L v (.mk 17 0 0 [] ks c)
theorem Ly(h:Fa L z w v):Bz L.length (z:Int) (w:Int)=0:=by
 have:=h.le;unfold Bz;rw [if_pos h.sw,if_pos ⟨by omega,by omega⟩]
theorem Ua{v:Int}(XA XB:Option Addr)(xac xbc:Nat)(hl:B4 W A n l)(hc:n≤c)(hn:n≤4294967295)(h:Fa l z w y)(hk:Ja l s y)(h0:Cl s=false)(hv:Br v=true)(hlow:Nn lim y):
  Calls Ad 87 #[.slice A n c,.agg (Ab9 (z:Int) (w:Int) 4 v),Aa Ab lim,.agg #[Aa Ab 5,Aa Ab 0,Aa Ac 0,.string ⟨s.toArray⟩,.slice XA 0 xac,.slice XB 0 xbc]] W (K1 W):=by
 have d:inl y.t=false:=by rw [hk.1];decide
 obtain⟨h1,h2⟩:=h.load d;have j:=h.le;have a:=hl.1;have b:=hlow d;rw [hk.1] at b;have g:F4 ((4:Nat):Int)=0:=by decide
 rw [g] at b;refine cS A n c z w 4 v lim (z-y.n) l 266 5 0 0 s XA 0 xac XB 0 xbc W h.sw hv (by decide) (by decide) (.inl (by rfl)) (by intro xs W;kernel_rfl) hl hc (by omega) (by rw [←a];exact Ly h) h1 (by omega) (by omega) (by omega) (by rw [show F4 4=0 by decide];omega) ?_;intro f i;have e:(z:Int)-((z-y.n:Nat):Int)=(y.n:Int):=by omega
 rw [e];exact mN A n c y.n z w 4 v s XA XB xac xbc l f (hl.pure i) hc (by omega) h0 hk.2.2
def Fx(s:List UInt8):Nv:=⟨5,0,0,s,none,0,0,none,0,0⟩
def Yi(T:Int)(ys:List Bv)(i:Nat):Int:=if Dk T=true then((ys.getD i ⟨0,0,0⟩).t:Int) else Fh T
def Sx(T:Int)(w:Nat)(ys:List Bv)(i:Nat):Int:=if Dk T=true then(ownW w (ys.getD i ⟨0,0,0⟩):Int) else w
theorem bD(h:Mb l 0 ys v)(he:O9 v.t ys)(hk:De (v.t:Int)=k)(hm0:0≤Cr (v.t:Int))(hk0:((k==10)||(k==17))=Dk (v.t:Int))(h17:k=17↔(v.t:Int)=9)(hm9:0<Cr (v.t:Int)→(v.t:Int)≠9):
  yA l v.t k (Cr v.t) (Dk v.t) v.n v.w ys.length (v.n-aheadT (v.t:Int)*v.w) (Yi v.t ys) (Sx v.t v.w ys):=by
 have j:=h.w;have m:1≤v.w∧v.w≤8:=by have:=B6.1 j;omega
 have c:=h.ah;rw [Nat.zero_add] at c;have a:=h.sp;refine⟨h.typ,hk,rfl,hk0,m,by have:=h.md;rwa [Nat.zero_add] at this,?_,fun hm=>?_,fun hm=>?_,fun hm hk=>?_,fun hk=>?_,fun hT i=>?_,fun hT i hi=>?_⟩
 ·rw [Nat.mul_add] at a;unfold tgs at a;cases hT:Dk (v.t:Int) with
  |true=>rw [hT] at a;simp only [if_true] at a ⊢;omega
  |false=>rw [hT] at a;simp only [Bool.false_eq_true,if_false] at a ⊢;omega
 ·have d:0<Cr (v.t:Int):=by omega
  have b:aheadT (v.t:Int)=0:=by unfold aheadT;rw [if_neg (hm9 d),if_pos d]
  refine⟨d,h.n1 d,by rw [b];omega,fun e=>hm9 d (h17.1 e)⟩
 ·have o:=h.n2 (by omega);have h1:1≤aheadT (v.t:Int):=by unfold aheadT;rw [hm];split <;>simp
  have f:v.w≤v.n:=by
   have h2:=Nat.mul_le_mul_right v.w h1;omega
  rw [Nat.zero_add] at o;refine⟨f,?_,o⟩;unfold Bz;rw [if_pos j,if_pos ⟨by omega,by omega⟩]
 ·have b:aheadT (v.t:Int)=1:=by unfold aheadT;rw [if_neg (fun e=>hk (h17.2 e)),if_neg (by omega)]
  rw [b] at c⊢;omega
 ·have b:aheadT (v.t:Int)=3:=by unfold aheadT;rw [if_pos (h17.1 hk)]
  rw [b] at c⊢;omega
 ·unfold Yi Sx;rw [if_neg (by rw [hT];decide),if_neg (by rw [hT];decide)];exact⟨rfl,rfl⟩
 ·have p:ys[i]?=some ys[i]:=Ai hi;have b:=h.tags hT;rw [Nat.zero_add] at b;refine⟨D2 v.w ys[i],by rw [b.get (by simpa using hi),List.getElem?_map,p];rfl,?_⟩;obtain⟨_,x,y,_⟩:=he _ (List.getElem_mem hi);have g:Br (ownW v.w ys[i]:Int)=true:=by
   unfold ownW;split
   ·exact j
   ·exact y
  obtain⟨q,r,s⟩:=pX ys[i].t (ownW v.w ys[i]) x g;have u:D2 v.w ys[i]=UInt8.ofNat (4*ys[i].t+bCode (ownW v.w ys[i])):=rfl;rw [u];unfold Yi Sx;rw [if_pos hT,if_pos hT,Ay,p];exact⟨s,q,r⟩
theorem jH(A XA:Option Addr)(n c N xac f wv:Nat)(l:List UInt8)(kv:Bv)(kvs:List Bv)(ks:List (List UInt8))(w:World)(hl:B4 w A n l)(hc:n≤c)(hn:n≤4294967295)(hS:Fm w XA N ks)(h14:kv.t=14)(hsl:Fa l f wv kv)(hwd:At l (f+wv) (Bi wv kv.w))
  (hkl:Mb l 0 kvs kv) (hks:F2 l ks kvs) (h0:∀s∈ks,Cl s=false) (hri:yF ks) (hkw:∀y∈kvs,Nn ((kv.n:Int)-kv.w) y):
  Calls Ad 271 #[.slice A n c,Aa Ab (f:Int),Aa Ab (wv:Int),.slice XA N xac] w (K1 w):=by
 have d:=hl.1;have a1:=hS.1;have L:inl kv.t=false:=by rw [h14];decide
 obtain⟨g1,g2⟩:=hsl.load L;have g3:=Ly hsl;have m:Br (kv.w:Int)=true:=hkl.w;have K:1≤kv.w∧kv.w≤8:=by have:=B6.1 m;omega
 have a2:1≤wv∧wv≤8:=by have:=B6.1 hsl.sw;omega
 have g4:loadU l ((f+wv:Nat):Int) (wv:Int)=kv.w:=bB hsl.sw hwd (by
  have:=B6.1 hsl.sw;have h2:wv=1∨wv=2∨wv=4∨wv=8:=by omega
  rcases h2 with h|h|h|h <;>rw [h] <;>omega)
 have O:=hwd.le;rw [B3,d] at O;have g5:Bz n ((f+wv:Nat):Int) (wv:Int)=0:=by
  unfold Bz;rw [if_pos hsl.sw,if_pos ⟨by omega,by omega⟩]
 rw [d] at g3;obtain⟨u1,U⟩:∃u,f-kv.n=u:=⟨_,rfl⟩;rw [U] at g1;have T:=hkl.sp;rw [d,Nat.mul_add] at T;have G:=hkl.ah;have z:aheadT (kv.t:Int)=1:=by rw [h14];decide
 rw [z] at G;have hN:kvs.length=N:=by rw [hks.1,a1]
 have ar:N*1≤kvs.length*kv.w:=by rw [hN];exact Nat.mul_le_mul_left _ K.1
 have C:=Hd (fun W (hb:Below w.heap.size w W)=>J5 A n c f wv u1 l W (hl.pure hb) hc (by omega) g3 g1 (by omega));have F:((f+wv:Nat):Int)=(f:Int)+(wv:Int):=by omega
 rw [F] at g4 g5;have D:=Hd (fun W (hb:Below w.heap.size w W)=>J5 A n c ((f:Int)+(wv:Int)) wv kv.w l W (hl.pure hb) hc (by omega) g5 g4 (by omega));have HC:=Hd (fun W=>Es (kv.w:Int) W m);have a3:IntKind.i64.wrap ((f:Int)+(wv:Int))=(f:Int)+(wv:Int):=Ag _ (by omega);have V:IntKind.i64.wrap ((f:Int)-(u1:Int))=(kv.n:Int):=(Ag _ (by omega)).trans (by omega);have X:IntKind.i64.wrap ((kv.n:Int)-(kv.w:Int))=(kv.n:Int)-(kv.w:Int):=Ag _ (by omega);have aw:decide ((f:Int)<(u1:Int))=false:=decide_eq_false (by omega);have ay:decide (f<u1)=false:=decide_eq_false (by omega);have ax:decide ((f:Int)≤(kv.n:Int)-(kv.w:Int))=false:=decide_eq_false (by omega);have P:yA l 14 13 0 false kv.n kv.w N (kv.n-kv.w) (fun _=>4) (fun _=>kv.w):=by
  have av:O9 kv.t kvs:=rM hks (by rw [h14];decide);have h:=bD (k:=13) hkl av (by rw [h14];decide) (by rw [h14];decide) (by rw [h14];decide) (by rw [h14];decide) (by rw [h14];decide);rw [z,hN,Nat.one_mul] at h;have al:(kv.t:Int)=14:=by rw [h14];rfl
  rw [al] at h;exact h
 have aa:=Hd P;have ag:=Hd (fun(i:Nat) (s:List UInt8) (hs:ks[i]?=some s) (XA XB:Option Addr) (xac xbc:Nat) (W:World) (hb:Below w.heap.size w W)=>by
  have hi:i<kvs.length:=by rw [hks.1];exact(List.getElem?_eq_some_iff.1 hs).1
  have hy:kvs[i]?=some kvs[i]:=Ai hi;exact Ua (v:=kv.w) (lim:=(kv.n:Int)-kv.w) XA XB xac xbc (hl.pure hb) hc hn (hkl.slot hy) (hks.2 i s _ hs hy) (h0 s (List.mem_of_getElem? hs)) m (hkw _ (List.getElem_mem hi)))
 have HS:=Hd hS;have HR:=Hd hri;have HL:=Hd hl;have bp:kv.w≤kv.n:=by omega
 have bk:N≤n:=by omega
 clear hl hS h14 hsl hwd hkl hks h0 hri hkw L g1 g2 g3 m K a2 g4 O g5 U T G z hN ar P F;unfold K1;go_enter func271,ntmps271;go_wp2_with fail;go_at_call 160;refine(C.o w (Af _ _)).mono ?_;rintro e w1 ⟨rfl,hb⟩;have a:=Hd hb;clear hb C;go_wp2_with fail;go_at_call 160;refine(D.o w1 a.o).mono ?_;rintro e w2 ⟨rfl,hb⟩;replace a:=Hd (A6 a.o hb);clear hb D;go_wp2_with fail;go_at_call 32;refine(HC.o w2).mono ?_;rintro e w' ⟨⟨c1,rfl⟩,rfl⟩;go_wp2_with fail;go_loopw [16,69] (fun s u wr=>∃k:Nat,k≤N∧u= Aa Ab k∧∃A1 c1,s= .slice A1 k c1∧Jj wr w.heap.size A1 k c1 ((ks.take k).map Fx)∧Below w.heap.size w wr) (fun _ u _=>N-(intOf u).toNat)
 case atStart=>exact⟨0,Nat.zero_le _,rfl,none,0,rfl,Own.nil _ _,a.o⟩
 case round=>
  clear a HC a3 V X aw ax ay;obtain⟨k,hk,rfl,A1,d1,rfl,Q,H⟩:=hrel;have HO:=Hd Q;have a:=Hd H;clear Q H;by_cases M:k<N
  ·obtain⟨b,bt,e,az,B⟩:=Gc (HS.o.pure a.o) M;obtain⟨s,hs⟩:∃s,ks[k]=s:=⟨_,rfl⟩;rw [hs] at B;have E:=Hd hs;subst e;have bm:(0:Int)≤k:=by omega
   have bo:(k:Int)<N:=by omega
   have br:IntKind.i64.wrap ((k:Int)+1)=(k:Int)+1:=Ag _ (by omega);go_upto_region 11 with fail
   go_cut [85] from 70 to 91 (fun u85 wx=>wr=wx∧u85= .bool false)
   case first=>
    by_cases hz:k=0
    ·subst hz;go_wp2_with fail;go_meet;exact⟨rfl,rfl⟩
    ·obtain⟨b',ba,e',bn,j⟩:=Gc (HS.o.pure a.o) (k:=k-1) (by omega);obtain⟨s',S⟩:∃s,ks[k-1]=s:=⟨_,rfl⟩;rw [S] at j;injection e' with e'
     injection e' with e1 F
     subst e1 F;have R:Op.bytesLess s' s=true:=HR.o (k-1) s' s (by rw [←S,Ai]) (by rw [show k-1+1=k by omega,←E.o,Ai]);have HK:=Hd (Px s' s true wr R);have hd:decide ((0:Int)<(k:Int))=true:=decide_eq_true (by omega);have bl:0<k:=by omega
     have bs:IntKind.i64.wrap ((k:Int)-1)=((k-1:Nat):Int):=(Ag _ (by omega)).trans (by omega);have bq:(0:Int)≤((k-1:Nat):Int):=by omega
     have a0:((k-1:Nat):Int)<N:=by omega
     clear R hz;go_wp2_with fail;go_at_call 322;refine HK.o.mono ?_;rintro e w' ⟨rfl,rfl⟩;go_wp2_with fail;go_meet;exact⟨rfl,rfl⟩
   case rest=>
   obtain⟨rfl,rfl⟩:=hcut;have HI:=Hd (bO wr (Fx s));have r:=Hd (HO.o.pure ((Af wr.heap.size wr).alloc (Ae _) (.cells (Ab7 (Fx s)) 34)));have g:=Hd (a.o.alloc a.o.size (.cells (Ab7 (Fx s)) 34));have a0:k≤4294967295:=by omega
   have ai:=Hd (show(ks.take k).map Fx++ [Fx s]=(ks.take (k+1)).map Fx by rw [List.take_succ_eq_append_getElem az,E.o,List.map_append];rfl);simp only [Fx] at HI r g;go_wp2_with (at_builtin;refine Fl _ rfl (.tmp 86) (.tmp 89) _ rfl 34 _ 6 88 underlying32 Sc rfl (by omega) Jh Wv _ _ _ _ _ rfl r.o _ _ _ _ rfl HI.o (by omega) g.o.size ?_;intro A2 d2 w5 p J au);have af:=Hd p;have Y:=Hd (g.o.trans (J.belowB (by rintro q hq ⟨ad,e1,F⟩;have:=(r.o.addr ad e1).2.1;omega) g.o.size));clear p J au;go_wp2_with fail;go_roundw
   case rel=>
    refine⟨k+1,by omega,by go_num,A2,d2,rfl,?_,Y.o⟩;rw [←ai.o];exact af.o
   case measure=>simp [intOf];omega
  ·obtain rfl:k=N:=by omega
   have I:ks.take k=ks:=Aw (by omega);rw [I] at HO;have ab:=Hd (Ps A n c l 0 0 14 13 0 false kv.n kv.w k (kv.n-kv.w) (fun _=>4) (fun _=>kv.w) none A1 0 0 d1 (ks.map Fx) wr (HL.o.pure a.o) hc hn aa.o HO.o.is (fun _=>rfl) (fun e=>by cases e) (fun i x hi hx W hW=>by
    rw [List.getElem?_map] at hx;have hs:ks[i]?=some ks[i]:=Ai (by omega);rw [hs] at hx;injection hx with hx
    subst hx;have e:((kv.n-kv.w:Nat):Int)=(kv.n:Int)-kv.w:=by omega
    rw [e];exact ag.o i _ hs none none 0 0 W (A6 a.o hW)))
   go_wp2_with fail;go_at_call 159;refine ab.o.mono ?_;rintro e w9 ⟨rfl,hb⟩;have Z:=Hd (A6 a.o hb);clear hb;go_wp2_with fail;go_ret;exact⟨rfl,Z.o⟩
theorem oS(h:inl v.t=true):ownW w v=w:=by unfold ownW;rw [if_pos h]
theorem fZ(h:inl v.t=false):ownW w v=v.w:=by unfold ownW;rw [if_neg (by rw [h];decide)]
theorem Aaf{n:Int}(h:Fa L z w (Gs n))(hn: -9223372036854775808≤n∧n≤9223372036854775807):Jg L (z:Int) (w:Int)=n:=by
 obtain⟨e1,e2⟩:=h.num (show inl (Gs n).t=true from(by decide:inl 1=true));have:=h.le;exact aZ h.sw e2 hn e1 (by omega) (by omega)
theorem Aah(h:Fa L z w (Ds u))(hu:u<18446744073709551616):loadU L (z:Int) (w:Int)=u:=by
 obtain⟨e1,e2⟩:=h.num (show inl (Ds u).t=true from(by decide:inl 2=true));rw [e1];exact zO h.sw e2 hu
theorem Aag{n:Int}(h:Fa L z w (E3 n)):loadU L (z:Int) (w:Int)=if n=1 then 1 else 0:=by
 obtain⟨e1,e2⟩:=h.num (show inl (E3 n).t=true from(by decide:inl 26=true));rw [e1];show(if n=1 then 1 else 0) % 2^(8*w)=_;rcases Jf.1 h.sw with rfl|rfl|rfl|rfl <;>(split <;>rfl)
theorem Zs{t:Nat}(h:Kh L t w m v)(hw:Br (w:Int)=true):Bz L.length (v.n:Int) (v.w:Int)=0∧loadU L (v.n:Int) (v.w:Int)=m % 2^(8*w)∧(v.n:Int) % (v.w:Int)=0∧Br (v.w:Int)=true∧v.n+v.w≤L.length:=by
 obtain⟨_,h2,h3,h4⟩:=h;have hle:=h3.le;rw [B3] at hle;rw [h2];refine⟨?_,by rw [h3.load hw,Jr,Nat.mod_mod],by omega,hw,hle⟩;unfold Bz;rw [if_pos hw,if_pos ⟨by omega,by omega⟩]
theorem gS{z:List UInt8}{T:Nat}(h:G4 L T s z v)(hL:L.length<4294967296):(1≤(v.w:Int)∧(v.w:Int)≤8)∧(v.n:Int) % (v.w:Int)=0∧Bz L.length ((v.n:Int)-(v.w:Int)) (v.w:Int)=0∧loadU L ((v.n:Int)-(v.w:Int)) (v.w:Int)=s.length∧s.length<4294967296∧At L v.n (s++z)∧Br (v.w:Int)=true:=by
 obtain⟨_,h2,c,h3,a,g⟩:=h;have b:Br (v.w:Int)=true:=by rw [h2];exact Fo _
 have i:=B6.1 b;have d:=a.le;simp only [List.length_append,B3] at d;have f:s.length<2^(8*v.w):=by rw [h2];exact Gk (Fo _) (by omega) (Ae _)
 have e:(v.n:Int)-(v.w:Int)=(c:Int):=by omega
 rw [List.append_assoc] at a;refine⟨by omega,?_,?_,?_,by omega,?_,b⟩
 ·have:v.n % v.w=0:=by rw [h3,Nat.add_mod_right];exact g
  omega
 ·rw [e];unfold Bz;rw [if_pos b,if_pos ⟨by omega,by omega⟩]
 ·rw [e];exact bB b a.left f
 ·have:=a.right;rw [B3,←h3] at this;exact this
theorem V0(h:Fa l z w v)(hi:inl v.t=true)(hf:Rf (v.t:Int)= .func (.func f) #[] #[])
  (hcf:∀(xs:Array Value) (W:World),(callFunc f xs).run Ad W= .ok (.enter f xs) W)
  (hcall:∀W',Below W.heap.size W W'→Calls Ad f #[.slice A n c,.agg (Ab9 (z:Int) (w:Int) (v.t:Int) (w:Int)),Aa Ab 0,.agg (Ab8 xk xn xu xs XA xan xac XB xbn xbc)] W' fun e w'=>e= .returned (.bool true)∧Below W'.heap.size W' w'):
  Calls Ad 87 #[.slice A n c,.agg #[Aa Ab (z:Int),Aa Ab (w:Int),Aa Ab (v.t:Int),Aa Ab (ownW w v:Int)],Aa Ab lim,.agg (Ab8 xk xn xu xs XA xan xac XB xbn xbc)] W (K1 W):=by
 rw [oS hi];exact xE A n c z w v.t w lim f xk xn xu xs XA xan xac XB xbn xbc W h.sw h.sw (Rk hi) hi hf hcf hcall
theorem O3(hl:B4 W A n l)(hc:n≤c)(hn:n≤4294967295)(h:Fa l z w v)(hi:inl v.t=false)(hg:Ch (v.t:Int)=true)(hw:Br (v.w:Int)=true)(hlow:Nn lim v)
  (hf:Rf (v.t:Int)= .func (.func f) #[] #[]∨(Rf (v.t:Int)= .nilFunc∧f=159))
  (hcf:∀(xs:Array Value) (W:World),(callFunc f xs).run Ad W= .ok (.enter f xs) W)
  (hcall:∀W',Below W.heap.size W W'→Calls Ad f #[.slice A n c,.agg (Ab9 (z:Int) (w:Int) (v.t:Int) (v.w:Int)),Aa Ab (v.n:Int),.agg (Ab8 xk xn xu xs XA xan xac XB xbn xbc)] W' fun e w'=>e= .returned (.bool true)∧Below W'.heap.size W' w'):
  Calls Ad 87 #[.slice A n c,.agg #[Aa Ab (z:Int),Aa Ab (w:Int),Aa Ab (v.t:Int),Aa Ab (ownW w v:Int)],Aa Ab lim,.agg (Ab8 xk xn xu xs XA xan xac XB xbn xbc)] W (K1 W):=by
 rw [fZ hi];obtain⟨h1,h2⟩:=h.load hi;have b:=h.le;have a:=hl.1;have d:=hlow hi;have e:(z:Int)-((z-v.n:Nat):Int)=(v.n:Int):=by omega
 refine cS A n c z w v.t v.w lim (z-v.n) l f xk xn xu xs XA xan xac XB xbn xbc W h.sw hw hg hi hf hcf hl hc (by omega) (by rw [←a];exact Ly h) h1 (by omega) (by omega) (by omega) (by omega) ?_;rw [e];exact hcall
theorem Ye{T:Int}(h:Iq T=true):0≤Cr T∧((De T==10)||(De T==17))=Dk T∧(De T=17↔T=9)∧(0<Cr T→T≠9)∧Rf T= .nilFunc∧Ch T=true∧Bt T=false∧(Dk T=false→Bt (Fh T)=false→Fh T=4):=by
 rcases Yd h with rfl|rfl|rfl|rfl|rfl|rfl|(rfl|rfl|rfl)|rfl|rfl|rfl
 all_goals exact⟨by decide,by decide,by decide,by decide,by rfl,by decide,by decide,by decide⟩
theorem mO(h:Dn L y t)(h4:y.t=4):∃s,t= .mk 5 0 0 s [] []∧Ja L s y∧Cl s=false:=by
 cases h with
 |null=>cases h4
 |truth=>cases h4
 |int=>cases h4
 |uint=>cases h4
 |key h h0=>exact⟨_,rfl,h,h0⟩
 |str h=>rw [h.1] at h4;cases h4
 |blob h=>rw [h.1] at h4;cases h4
 |indInt h=>rw [h.1] at h4;cases h4
 |indUint h=>rw [h.1] at h4;cases h4
 |list hk h10=>
  rw [h4] at hk;have:De ((4:Nat):Int)=5:=by decide
  omega
 |map h9=>rw [h9] at h4;cases h4
theorem sN{w:World}(h:B7 w p x (.mk 5 0 0 s [] [])):x.k=5∧x.n=0∧x.u=0∧x.s=s∧x.an=0∧x.bn=0:=by
 generalize ht:Tr.mk 5 0 0 s [] []=t at h;cases h with
 |mk h1 _ _ _ h2 _ _ _ hl=>
  injection ht with e1 e2 e3 e4 e5 e6
  subst e5 e6;exact⟨e1.symm,e2.symm,e3.symm,e4.symm,h1.1.symm,by rw [←h2.1,hl];rfl⟩
theorem gK{i:Nat}{f:Int}(hl:B4 w0 A n l)(hc:n≤c)(hn:n≤4294967295)(hli:Mb l 0 ys v)(he:O9 v.t ys)(hy:ys[i]?=some y)(hd:Dn l y t)(hlow:Nn f y)(hx:B7 w0 p x t)
  (ih:∀(z w:Nat) (lim:Int),Fa l z w y→Nn lim y→∀W,Below w0.heap.size w0 W→Calls Ad 87 #[.slice A n c,.agg #[Aa Ab (z:Int),Aa Ab (w:Int),Aa Ab (y.t:Int),Aa Ab (ownW w y:Int)],Aa Ab lim,.agg (Ab7 x)] W (K1 W)):
  ∀W,Below w0.heap.size w0 W→Calls Ad 87 #[.slice A n c,.agg #[Aa Ab ((v.n+i*v.w:Nat):Int),Aa Ab (v.w:Int),Aa Ab (Yi v.t ys i),Aa Ab (Sx v.t v.w ys i)],Aa Ab f,.agg (Ab7 x)] W (K1 W):=by
 intro W B;have C:=hli.slot hy;obtain⟨_,L,M,b⟩:=he y (List.mem_of_getElem? hy);have u:Yi v.t ys i=(y.t:Int):=by
  unfold Yi;by_cases ht:Dk (v.t:Int)=true
  ·rw [if_pos ht,Ay,hy];rfl
  ·rw [if_neg ht,b (by simpa using ht)]
 by_cases a:Dk (v.t:Int)=false∧inl y.t=false
 ·have F:(y.t:Int)=4:=by
   rw [←b a.1];exact(Ye hli.typ).2.2.2.2.2.2.2 a.1 (by rw [b a.1];exact a.2)
  obtain⟨s,rfl,H,I⟩:=mO hd (by omega);obtain⟨N,O,P,xs,D,J,g,E,K,h⟩:=x;obtain⟨j,k,m,o,q,r⟩:=sN hx;simp only at j k m o q r;subst j k m o q r;have d:Sx v.t v.w ys i=(v.w:Int):=by unfold Sx;rw [if_neg (by rw [a.1];decide)]
  rw [u,F,d];exact Ua D E g h (hl.pure B) hc hn C H I hli.w hlow
 ·have d:Sx v.t v.w ys i=(ownW v.w y:Int):=by
   unfold Sx;by_cases ht:Dk (v.t:Int)=true
   ·rw [if_pos ht,Ay,hy];rfl
   ·have ht:Dk (v.t:Int)=false:=by simpa using ht
    have G:inl y.t=true:=by
     cases e:inl y.t with
     |true=>rfl
     |false=>exact absurd ⟨ht,e⟩ a
    rw [if_neg (by rw [ht];decide),oS G]
  rw [u,d];exact ih _ _ f C hlow W B
theorem Hb{w:World}{n:Int}(h:B7 w p ⟨xk,xn,xu,xs,XA,xan,xac,XB,xbn,xbc⟩ (.mk k n u s [] [])):k=xk∧n=xn∧u=xu∧s=xs∧0=xan∧0=xbn:=h.fields
theorem Ym{w:World}{n:Int}{ks:List (List UInt8)}{c:List Tr}(h:B7 w p ⟨xk,xn,xu,xs,XA,xan,xac,XB,xbn,xbc⟩ (.mk k n u s ks c)):
  (k=xk∧n=xn∧u=xu∧s=xs∧ks.length=xan∧c.length=xbn)∧Fm w XA xan ks∧∃vs,It w XB xbn vs∧vs.length=c.length∧∀(i:Nat) v t,vs[i]?=some v→c[i]?=some t→B7 w p v t:=by
 refine⟨h.fields,?_⟩;generalize ht:Tr.mk k n u s ks c=t at h;generalize a:(⟨xk,xn,xu,xs,XA,xan,xac,XB,xbn,xbc⟩:Nv)=x at h;cases h with
 |mk h1 _ _ _ h2 _ _ _ hl hc=>
  injection ht with _ _ _ _ e5 e6
  subst e5 e6 a;exact⟨h1,_,h2,hl,hc⟩
theorem pK(hl:B4 w0 A n l)(hc:n≤c)(hn:n≤4294967295)(hd:Dn l v t):
  ∀(x:Nv),B7 w0 p x t→∀(z w:Nat) (lim:Int),Fa l z w v→Nn lim v→∀W,Below w0.heap.size w0 W→Calls Ad 87 #[.slice A n c,.agg #[Aa Ab (z:Int),Aa Ab (w:Int),Aa Ab (v.t:Int),Aa Ab (ownW w v:Int)],Aa Ab lim,.agg (Ab7 x)] W (K1 W):=by
 induction hd with
 |null=>
  rintro⟨B,C,D,xs,j,xan,b,o,xbn,d⟩ hx z w lim g a W hW;obtain⟨rfl,rfl,rfl,rfl,rfl,rfl⟩:=Hb hx;refine V0 g (by decide) (f:=262) (by rfl) (by intro xs W;kernel_rfl) (fun W' hb=>?_);exact jI A n c z w 0 w 0 j o b d l W' ((hl.pure hW).pure hb) hc (by omega) (by rw [←hl.1];exact Ly g)
 | @truth k h=>
  rintro⟨B,C,D,xs,j,xan,b,o,xbn,d⟩ hx z w lim g a W hW;obtain⟨rfl,rfl,rfl,rfl,rfl,rfl⟩:=Hb hx;refine V0 g (show inl 26=true by decide) (f:=265) (by rfl) (by intro xs W;kernel_rfl) (fun W' hb=>?_);have Q:=Aag g;rcases h with rfl|rfl
  ·exact vI A n c z w 26 w 0 j o b d l W' ((hl.pure hW).pure hb) hc (by omega) (by rw [←hl.1];exact Ly g) Q
  ·exact vJ A n c z w 26 w 0 j o b d l W' ((hl.pure hW).pure hb) hc (by omega) (by rw [←hl.1];exact Ly g) Q
 | @int k h=>
  rintro⟨B,C,D,xs,j,xan,b,o,xbn,d⟩ hx z w lim g a W hW;obtain⟨rfl,rfl,rfl,rfl,rfl,rfl⟩:=Hb hx;refine V0 g (show inl 1=true by decide) (f:=263) (by rfl) (by intro xs W;kernel_rfl) (fun W' hb=>?_);exact mM A n c z w 1 w 0 k j o b d l W' ((hl.pure hW).pure hb) hc (by omega) (by rw [←hl.1];exact Ly g) (Aaf g h)
 | @uint u h=>
  rintro⟨B,C,D,xs,j,xan,b,o,xbn,d⟩ hx z w lim g a W hW;obtain⟨rfl,rfl,rfl,rfl,rfl,rfl⟩:=Hb hx;refine V0 g (show inl 2=true by decide) (f:=264) (by rfl) (by intro xs W;kernel_rfl) (fun W' hb=>?_);exact jJ A n c z w 2 w 0 u j o b d l W' ((hl.pure hW).pure hb) hc (by omega) (by rw [←hl.1];exact Ly g) (Aah g h)
 | @key v s h h0=>
  rintro⟨B,C,D,xs,j,xan,b,o,xbn,d⟩ hx z w lim g a W hW;obtain⟨rfl,rfl,rfl,rfl,rfl,rfl⟩:=Hb hx;have hi:inl v.t=false:=by rw [h.1];decide
  have:=Ua (v:=v.w) j o b d (hl.pure hW) hc hn g h h0 (by rw [h.2.1];decide) a;rw [fZ hi,h.1];exact this
 | @str v s h=>
  rintro⟨B,C,D,xs,j,xan,b,o,xbn,d⟩ hx z w lim g a W hW;obtain⟨rfl,rfl,rfl,rfl,rfl,rfl⟩:=Hb hx;obtain⟨K,L,M,r,P,R,V⟩:=gS h (by rw [hl.1];omega);obtain⟨F,q,y⟩:=v;obtain rfl:F=5:=h.1;refine O3 (hl.pure hW) hc hn g (show inl 5=false by decide) (show Ch ((5:Nat):Int)=true by decide) V a (f:=267) (.inl (by rfl)) (by intro xs W;kernel_rfl) (fun W' hb=>?_);exact vN A n c y z w q s j o b d l W' ((hl.pure hW).pure hb) hc (by omega) K L (by rw [←hl.1];exact M) r P R
 | @blob v s h=>
  rintro⟨B,C,D,xs,j,xan,b,o,xbn,d⟩ hx z w lim g a W hW;obtain⟨rfl,rfl,rfl,rfl,rfl,rfl⟩:=Hb hx;obtain⟨K,L,M,r,P,R,V⟩:=gS h (by rw [hl.1];omega);rw [List.append_nil] at R;obtain⟨F,q,y⟩:=v;obtain rfl:F=25:=h.1;refine O3 (hl.pure hW) hc hn g (show inl 25=false by decide) (show Ch ((25:Nat):Int)=true by decide) V a (f:=267) (.inl (by rfl)) (by intro xs W;kernel_rfl) (fun W' hb=>?_);exact vM A n c y z w q s j o b d l W' ((hl.pure hW).pure hb) hc (by omega) K L (by rw [←hl.1];exact M) r P R
 | @indInt v k h hk=>
  rintro⟨B,C,D,xs,j,xan,b,o,xbn,d⟩ hx z w lim g a W hW;obtain⟨rfl,rfl,rfl,rfl,rfl,rfl⟩:=Hb hx;obtain⟨K,L,M,r,P⟩:=Zs h (Me _);have hI:Jg l (v.n:Int) (v.w:Int)=k:=aZ r (by rw [h.2.1];omega) hk (by rw [L,h.2.1]) (by omega) (by omega);obtain⟨F,q,y⟩:=v;obtain rfl:F=6:=h.1;have J:=B6.1 r;refine O3 (hl.pure hW) hc hn g (show inl 6=false by decide) (show Ch ((6:Nat):Int)=true by decide) r a (f:=268) (.inl (by rfl)) (by intro xs W;kernel_rfl) (fun W' hb=>?_);exact rI A n c z w q y k j o b d l W' ((hl.pure hW).pure hb) hc (by omega) (by rw [←hl.1];exact K) (by omega) (by simp only at J;omega) M hI
 | @indUint v u h Q=>
  rintro⟨B,C,D,xs,j,xan,b,o,xbn,d⟩ hx z w lim g a W hW;obtain⟨rfl,rfl,rfl,rfl,rfl,rfl⟩:=Hb hx;obtain⟨K,L,M,r,P⟩:=Zs h (Fo _);have hU:loadU l (v.n:Int) (v.w:Int)=u:=by rw [L];exact Nat.mod_eq_of_lt (Gk (Fo _) Q (Ae _))
  obtain⟨F,q,y⟩:=v;obtain rfl:F=7:=h.1;have J:=B6.1 r;refine O3 (hl.pure hW) hc hn g (show inl 7=false by decide) (show Ch ((7:Nat):Int)=true by decide) r a (f:=268) (.inl (by rfl)) (by intro xs W;kernel_rfl) (fun W' hb=>?_);exact rJ A n c z w q y u j o b d l W' ((hl.pure hW).pure hb) hc (by omega) (by rw [←hl.1];exact K) (by omega) (by simp only at J;omega) M hU
 | @list v k ts vs hk h10 hli hlen he hlow' hr ih=>
  rintro⟨B,C,D,xs,j,xan,b,o,xbn,d⟩ hx z w lim g a W hW;obtain⟨⟨rfl,rfl,rfl,rfl,rfl,e6⟩,hS,ys,S,U,m⟩:=Ym hx;obtain rfl:vs.length=xbn:=by omega
  obtain⟨f1,X,Y,f4,f5,f6,f7,f8⟩:=Ye hli.typ;rw [hk] at X Y;refine O3 (hl.pure hW) hc hn g f7 f6 hli.w a (f:=159) (.inr ⟨f5,rfl⟩) (by intro xs W;kernel_rfl) (fun W' hb=>?_);have E:=A6 hW hb;exact Ps A n c l z w v.t k (Cr v.t) (Dk v.t) v.n v.w vs.length (v.n-aheadT (v.t:Int)*v.w) (Yi v.t vs) (Sx v.t v.w vs) j o 0 b d ys W' (hl.pure E) hc hn (bD hli he hk f1 X Y f4) (S.pure E) (fun _=>rfl) (fun e=>by omega) (fun i x hi hx W2 hW2=>by
   have G:i<ts.length:=by omega
   have I:=Ai hi;have ht:=Ai G;have H:=hlow' _ (List.getElem_mem hi);have T:((v.n-aheadT (v.t:Int)*v.w:Nat):Int)=(v.n:Int)-aheadT (v.t:Int)*v.w:=by
    have Z:=hli.ah;rw [Nat.zero_add] at Z;rw [Int.ofNat_sub Z,Int.natCast_mul]
   rw [T];exact gK hl hc hn hli he I (hr i _ _ I ht) H (m i _ _ hx ht) (fun z w lim h1 h2 W hW=>ih i _ _ I ht x (m i _ _ hx ht) z w lim h1 h2 W hW) W2 (A6 E hW2))
 | @map v kv ts vs kvs ks cc h9 hli hlen he hlow' hcc h14 hkl hks hkn h0 hri hkw hsl hwd hr ih=>
  rintro⟨B,C,D,xs,j,xan,b,o,xbn,d⟩ hx z w lim g a W hW;obtain⟨⟨rfl,rfl,rfl,rfl,e5,e6⟩,hS,ys,S,U,m⟩:=Ym hx;obtain rfl:vs.length=xbn:=by omega
  obtain rfl:vs.length=xan:=by omega
  obtain⟨F,q,y⟩:=v;obtain rfl:F=9:=h9;refine O3 (hl.pure hW) hc hn g (show inl 9=false by decide) (show Ch ((9:Nat):Int)=true by decide) hli.w a (f:=159) (.inr ⟨by rfl,rfl⟩) (by intro xs W;kernel_rfl) (fun W' hb=>?_);have E:=A6 hW hb;have O:=bD (k:=17) hli he (show De ((9:Nat):Int)=17 by decide) (show 0≤Cr ((9:Nat):Int) by decide) (show((17:Int)==10||(17:Int)==17)=Dk ((9:Nat):Int) by decide) (show(17:Int)=17↔((9:Nat):Int)=9 by decide) (show 0<Cr ((9:Nat):Int)→((9:Nat):Int)≠9 by decide);have N:y-aheadT ((9:Nat):Int)*q=cc:=by rw [show aheadT ((9:Nat):Int)=3 by decide];simp only at hcc;omega
  rw [N] at O;exact Ps A n c l z w 9 17 0 true y q vs.length cc (Yi 9 vs) (Sx 9 q vs) j o vs.length b d ys W' (hl.pure E) hc hn O (S.pure E) (fun e=>absurd rfl e) (fun _=>⟨rfl,fun W2 hW2=>jH A j n c vs.length b cc q l kv kvs ks W2 ((hl.pure E).pure hW2) hc hn ((hS.pure E).pure hW2) h14 hsl hwd hkl hks h0 hri hkw⟩) (fun i x hi hx W2 hW2=>by
   have G:i<ts.length:=by omega
   have I:=Ai hi;have ht:=Ai G;have H:=hlow' _ (List.getElem_mem hi);exact gK hl hc hn hli he I (hr i _ _ I ht) H (m i _ _ hx ht) (fun z w lim h1 h2 W hW=>ih i _ _ I ht x (m i _ _ hx ht) z w lim h1 h2 W hW) W2 (A6 E hW2))
end
end Go.Proofs.YtejpbijeifjdeaaGreat
