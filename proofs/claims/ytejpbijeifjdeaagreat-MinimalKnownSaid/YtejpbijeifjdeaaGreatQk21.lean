/- Parts of the proof. -/
import Derived.Test.YtejpbijeifjdeaaGreatQk20
import Derived.ScopeJumps
import Derived.WalkMore
import Derived.Deep.DeepCutAuto
set_option maxHeartbeats 2000000
set_option maxRecDepth 100000
open Go.Value renaming int→Aa
open Go.IntKind renaming i64→Ab
open Nat renaming le_refl→Ae,le_succ→Ai
open Go.RowKit.Below renaming refl→Af
open Go.Proofs.Tryz
open Go.Proofs.Tryz renaming prog→Ad
namespace Go.Proofs.YtejpbijeifjdeaaGreat
open Go.RowKit Go.Acc
variable {w w':World}{l:List UInt8}{p q t v er a:Int}{B g n c i:Nat}
def kyU(l:List UInt8)(p q t v:Int):Nat:=loadU l ((lsFrom l p q t v:Int)+v) v
def Hf(l:List UInt8)(p q t v:Int):Int:=
 if Cb l.length p q t v≠0 then Cb l.length p q t v else if t≠9 then 60 else if Cm l p q t v≠0 then Cm l p q t v else if Bt (kyU l p q t v:Int)=false then 212 else 0
def Sp(l:List UInt8)(p q t v:Int):Int:=if Hf l p q t v=0 then lsFrom l p q t v else 0
def Sq(l:List UInt8)(p q t v:Int):Int:=if Hf l p q t v=0 then v else 0
def Ps(l:List UInt8)(p q t v:Int):Int:=if Hf l p q t v=0 then 14 else 0
def Sr(l:List UInt8)(p q t v:Int):Int:=if Hf l p q t v=0 then kyU l p q t v else 0
def iT(w:World)(l:List UInt8)(p q t v:Int)(e:Ending)(w':World):Prop:=
 e= .returned (.tuple #[.agg #[Aa Ab (Sp l p q t v),Aa Ab (Sq l p q t v),Aa Ab (Ps l p q t v),Aa Ab (Sr l p q t v)],Aa Ab (Hf l p q t v)])∧Below w.heap.size w w'
theorem Jw(h:Hf l p q t v=er)(hne:er≠0)(hb:Below w.heap.size w w'):iT w l p q t v (.returned (.tuple #[.agg (Adl 0 0 0 0),Aa Ab er])) w':=by
 unfold iT Sp Sq Ps Sr;rw [h,if_neg hne,if_neg hne,if_neg hne,if_neg hne];exact⟨rfl,hb⟩
theorem Ki{b g:Int}(h:Hf l p q t v=0)(h1:(lsFrom l p q t v:Int)=a)(h2:v=b)(h3:(kyU l p q t v:Int)=g)(hb:Below w.heap.size w w'):iT w l p q t v (.returned (.tuple #[.agg (Adl a b 14 g),Aa Ab 0])) w':=by
 unfold iT Sp Sq Ps Sr;rw [h,if_pos rfl,if_pos rfl,if_pos rfl,if_pos rfl,h1,h3,←h2];exact⟨rfl,hb⟩
theorem U6(l:List UInt8)(p q t v:Int):(Cb l.length p q t v≠0∧Hf l p q t v=Cb l.length p q t v)∨(Cb l.length p q t v=0∧((t≠9∧Hf l p q t v=60)∨(t=9∧
  ((Cm l p q t v≠0∧Hf l p q t v=Cm l p q t v)∨(Cm l p q t v=0∧((Bt (kyU l p q t v:Int)=false∧Hf l p q t v=212)∨(Bt (kyU l p q t v:Int)=true∧Hf l p q t v=0))))))):=by
 unfold Hf;by_cases h1:Cb l.length p q t v=0
 ·refine .inr ⟨h1,?_⟩;rw [if_neg (by simpa using h1)];by_cases h2:t=9
  ·refine .inr ⟨h2,?_⟩;rw [if_neg (by simpa using h2)];by_cases h3:Cm l p q t v=0
   ·refine .inr ⟨h3,?_⟩;rw [if_neg (by simpa using h3)];cases h4:Bt (kyU l p q t v:Int) with
    |false=>exact .inl ⟨rfl,if_pos rfl⟩
    |true=>exact .inr ⟨rfl,if_neg (by decide)⟩
   ·rw [if_pos h3];exact .inl ⟨h3,rfl⟩
  ·rw [if_pos h2];exact .inl ⟨h2,rfl⟩
 ·rw [if_pos h1];exact .inl ⟨h1,rfl⟩
theorem yH(l:List UInt8)(a x:Int):(loadU l a x:Int)<18446744073709551616:=by
 unfold loadU;split
 ·rename_i h;have h1:=Bz.1 h.1;have hl:=Ny ((l.drop a.toNat).take x.toNat);have h8:((l.drop a.toNat).take x.toNat).length≤8:=by
   have:=List.length_take_le x.toNat (l.drop a.toNat);omega
  have:=Nat.pow_le_pow_right (n:=2) (by omega) (Nat.mul_le_mul_left 8 h8);omega
 ·omega
theorem lY(A:Option Addr)(n c:Nat)(p q t v:Int)(l:List UInt8)(w:World)(h:Ca w A n l)(hc:n≤c)(hn:n≤1099511627776):
  Calls Ad 93 #[.slice A n c,.agg (Adl p q t v)] w (iT w l p q t v):=by
 have S:=h.1;subst S;have i:=Hd ((h.alloc (.cells (Adl p q t v) 70)).alloc (.cells (Adl 0 0 0 0) 70));have d:=Hd (((Af w.heap.size w).alloc (Ae _) (.cells (Adl p q t v) 70)).alloc (by simp) (.cells (Adl 0 0 0 0) 70));have f:=Hd ((Bh.new w 70 (Adl p q t v)).alloc (.cells (Adl 0 0 0 0) 70));have b:=Hd (Bh.new_ (w:=w.alloc (.cells (Adl p q t v) 70)) (g:=w.heap.size+1) (by simp) 70 (Adl 0 0 0 0));have j:=U6 l p q t v;clear h;go_enter func93,ntmps93;go_wp2_with fail;go_at_call 148;refine(N1 A _ c p q t v _ (by omega)).mono ?_;generalize (w.alloc (.cells (Adl p q t v) 70)).alloc (.cells (Adl 0 0 0 0) 70)=wB at i d f b⊢;obtain ⟨y,z,B,C⟩:=f.o.c4;rintro e w1 ⟨rfl,a⟩;clear y z B C;replace d:=Hd (Ba d.o a);replace f:=Hd (f.o.pure a);replace b:=Hd (b.o.pure a);replace i:=Hd (i.o.pure a);clear a;obtain ⟨y,z,B,C⟩:=f.o.c4;rcases j with⟨R,u⟩|⟨R,j⟩
 ·have D:=Hd u;have H:=Hd R;have P:(Cb l.length p q t v != 0)=true:=by simpa using R
  clear u R;obtain ⟨k,m,r,s⟩:=b.o.c4;obtain ⟨I,J,K,L⟩:=b.o.f4;go_wp2;refine bodyPost_ret (v:= .tuple #[.agg (Adl 0 0 0 0),Aa Ab (Cb l.length p q t v)]) (by simp [results,results93,go_sem,k,m,r,s]) rfl ?_;exact Jw D.o H.o (B6 _ d.o (Ai _) _ _ _ _)
 ·rw [R];clear R;rcases j with⟨h9,u⟩|⟨rfl,j⟩
  ·have D:=Hd u;have H:=Hd (show(60:Int)≠0 by decide);have P:(t != 9)=true:=by simpa using h9
   clear u h9;obtain ⟨k,m,r,s⟩:=b.o.c4;obtain ⟨I,J,K,L⟩:=b.o.f4;go_wp2;refine bodyPost_ret (v:= .tuple #[.agg (Adl 0 0 0 0),Aa Ab 60]) (by simp [results,results93,go_sem,k,m,r,s]) rfl ?_;exact Jw D.o H.o (B6 _ d.o (Ai _) _ _ _ _)
  ·have O:=Hd j;clear j;go_wp2_with fail;go_at_call 152;refine(Xb A _ c p q 9 v l _ i.o hc hn).mono ?_;rintro e w2 ⟨rfl,a⟩;clear y z B C;replace d:=Hd (Ba d.o a);replace f:=Hd (f.o.pure a);replace b:=Hd (b.o.pure a);replace i:=Hd (i.o.pure a);clear a;obtain ⟨y,z,B,C⟩:=f.o.c4;rcases O.o with⟨M,u⟩|⟨M,j⟩
   ·have D:=Hd u;have H:=Hd M;have P:(Cm l p q 9 v != 0)=true:=by simpa using M
    clear u M O;obtain ⟨k,m,r,s⟩:=b.o.c4;obtain ⟨I,J,K,L⟩:=b.o.f4;go_wp2;refine bodyPost_ret (v:= .tuple #[.agg (Adl 0 0 0 0),Aa Ab (Cm l p q 9 v)]) (by simp [results,results93,go_sem,k,m,r,s]) rfl ?_;exact Jw D.o H.o (B6 _ d.o (Ai _) _ _ _ _)
   ·obtain⟨_,_,hW,_⟩:=Tn M;have hv:=Bz.1 hW;rw [M];obtain⟨V,rfl⟩:∃V:Nat,v=V:=⟨v.toNat,by omega⟩;obtain⟨e1,e2,e3,_⟩:=Z3 M;obtain⟨nf,G⟩:∃x,lsFrom l p q 9 V=x:=⟨_,rfl⟩;obtain⟨U,X⟩:∃U,kyU l p q 9 V=U:=⟨_,rfl⟩;have aa:nf≤1099511627776:=by omega
    have Q:=Hd (show loadU l ((nf:Int)+(V:Int)) V=U by rw [←X,←G];rfl);have E:=Hd X;have F:=Hd G;have ak:V≤8:=by omega
    rw [X] at j;rw [G];have N:=Hd j;clear j X G M e1 e2 e3 hv hW O;rcases N.o with⟨T,u⟩|⟨T,u⟩
    ·have D:=Hd u;have H:=Hd (show(212:Int)≠0 by decide);have ae:(U:Int)<18446744073709551616:=by rw [←Q.o];exact yH _ _ _
     have HW:=Hd T;clear u T N;go_wp2_with fail;go_at_call 149;refine(Ie A _ c ((nf:Int)+V) V l _ (Cl l.length ((nf:Int)+V) V) U i.o hc (by omega) rfl Q.o).mono ?_;rintro e Y ⟨rfl,a⟩;clear y z B C;replace d:=Hd (Ba d.o a);replace f:=Hd (f.o.pure a);replace b:=Hd (b.o.pure a);replace i:=Hd (i.o.pure a);clear a;obtain ⟨y,z,B,C⟩:=f.o.c4;go_wp2_with fail;go_at_call 32;refine(Gm ((U:Int) % 4294967296) _).mono ?_;cases hx:Bt ((U:Int) % 4294967296) with
     |false=>
      rw [cD hx];rintro e W ⟨rfl,rfl⟩;clear hx;obtain ⟨k,m,r,s⟩:=b.o.c4;obtain ⟨I,J,K,L⟩:=b.o.f4;go_wp2;refine bodyPost_ret (v:= .tuple #[.agg (Adl 0 0 0 0),Aa Ab 212]) (by simp [results,results93,go_sem,k,m,r,s]) rfl ?_;exact Jw D.o H.o (B6 _ d.o (Ai _) _ _ _ _)
     |true=>
      rw [Zp hx];rintro e W ⟨rfl,rfl⟩;have hq:¬(U/4294967296=0):=by
       intro h0;have e:(U:Int) % 4294967296=U:=by omega
       rw [e,HW.o] at hx;cases hx
      have P:(((U:Int)/4294967296) != 0)=true:=by simpa using(show ¬((U:Int)/4294967296=0) by omega)
      clear hx hq;obtain ⟨k,m,r,s⟩:=b.o.c4;obtain ⟨I,J,K,L⟩:=b.o.f4;go_wp2;refine bodyPost_ret (v:= .tuple #[.agg (Adl 0 0 0 0),Aa Ab 212]) (by simp [results,results93,go_sem,k,m,r,s]) rfl ?_;exact Jw D.o H.o (B6 _ d.o (Ai _) _ _ _ _)
    ·have ab:=Bz.1 T;have D:=Hd u;clear u T N;have Z:U=1∨U=2∨U=4∨U=8:=by omega
     clear ab;rcases Z with rfl|rfl|rfl|rfl
     ·go_wp2_with fail;go_at_call 149;refine(Ie A _ c ((nf:Int)+V) V l _ (Cl l.length ((nf:Int)+V) V) 1 i.o hc (by omega) rfl Q.o).mono ?_;rintro e Y ⟨rfl,a⟩;clear y z B C;replace d:=Hd (Ba d.o a);replace f:=Hd (f.o.pure a);replace b:=Hd (b.o.pure a);replace i:=Hd (i.o.pure a);clear a;obtain ⟨y,z,B,C⟩:=f.o.c4;go_wp2_with fail;go_at_call 32;refine(Gm 1 _).mono ?_;rw [show Jj 1=0 by decide];rintro e W ⟨rfl,rfl⟩;obtain ⟨k,m,r,s⟩:=b.o.c4;obtain ⟨I,J,K,L⟩:=b.o.f4;go_wp2;refine bodyPost_ret (v:= .tuple #[.agg (Adl nf V 14 1),Aa Ab 0]) (by simp [results,results93,go_sem,k,m,r,s]) rfl ?_;exact Ki D.o (by rw [F.o]) rfl (by rw [E.o];rfl) (B6 _ d.o (Ai _) _ _ _ _)
     ·go_wp2_with fail;go_at_call 149;refine(Ie A _ c ((nf:Int)+V) V l _ (Cl l.length ((nf:Int)+V) V) 2 i.o hc (by omega) rfl Q.o).mono ?_;rintro e Y ⟨rfl,a⟩;clear y z B C;replace d:=Hd (Ba d.o a);replace f:=Hd (f.o.pure a);replace b:=Hd (b.o.pure a);replace i:=Hd (i.o.pure a);clear a;obtain ⟨y,z,B,C⟩:=f.o.c4;go_wp2_with fail;go_at_call 32;refine(Gm 2 _).mono ?_;rw [show Jj 2=0 by decide];rintro e W ⟨rfl,rfl⟩;obtain ⟨k,m,r,s⟩:=b.o.c4;obtain ⟨I,J,K,L⟩:=b.o.f4;go_wp2;refine bodyPost_ret (v:= .tuple #[.agg (Adl nf V 14 2),Aa Ab 0]) (by simp [results,results93,go_sem,k,m,r,s]) rfl ?_;exact Ki D.o (by rw [F.o]) rfl (by rw [E.o];rfl) (B6 _ d.o (Ai _) _ _ _ _)
     ·go_wp2_with fail;go_at_call 149;refine(Ie A _ c ((nf:Int)+V) V l _ (Cl l.length ((nf:Int)+V) V) 4 i.o hc (by omega) rfl Q.o).mono ?_;rintro e Y ⟨rfl,a⟩;clear y z B C;replace d:=Hd (Ba d.o a);replace f:=Hd (f.o.pure a);replace b:=Hd (b.o.pure a);replace i:=Hd (i.o.pure a);clear a;obtain ⟨y,z,B,C⟩:=f.o.c4;go_wp2_with fail;go_at_call 32;refine(Gm 4 _).mono ?_;rw [show Jj 4=0 by decide];rintro e W ⟨rfl,rfl⟩;obtain ⟨k,m,r,s⟩:=b.o.c4;obtain ⟨I,J,K,L⟩:=b.o.f4;go_wp2;refine bodyPost_ret (v:= .tuple #[.agg (Adl nf V 14 4),Aa Ab 0]) (by simp [results,results93,go_sem,k,m,r,s]) rfl ?_;exact Ki D.o (by rw [F.o]) rfl (by rw [E.o];rfl) (B6 _ d.o (Ai _) _ _ _ _)
     ·go_wp2_with fail;go_at_call 149;refine(Ie A _ c ((nf:Int)+V) V l _ (Cl l.length ((nf:Int)+V) V) 8 i.o hc (by omega) rfl Q.o).mono ?_;rintro e Y ⟨rfl,a⟩;clear y z B C;replace d:=Hd (Ba d.o a);replace f:=Hd (f.o.pure a);replace b:=Hd (b.o.pure a);replace i:=Hd (i.o.pure a);clear a;obtain ⟨y,z,B,C⟩:=f.o.c4;go_wp2_with fail;go_at_call 32;refine(Gm 8 _).mono ?_;rw [show Jj 8=0 by decide];rintro e W ⟨rfl,rfl⟩;obtain ⟨k,m,r,s⟩:=b.o.c4;obtain ⟨I,J,K,L⟩:=b.o.f4;go_wp2;refine bodyPost_ret (v:= .tuple #[.agg (Adl nf V 14 8),Aa Ab 0]) (by simp [results,results93,go_sem,k,m,r,s]) rfl ?_;exact Ki D.o (by rw [F.o]) rfl (by rw [E.o];rfl) (B6 _ d.o (Ai _) _ _ _ _)
theorem iI(A:Option Addr)(n c:Nat)(p q t v:Int)(l:List UInt8)(w:World)(h:Ca w A n l)(hn:n≤1099511627776):
  Calls Ad 102 #[.slice A n c,.agg (Adl p q t v)] w (iT w l p q t v):=by
 have R:=h.1;subst R;have i:=Hd ((h.alloc (.cells (Adl p q t v) 70)).alloc (.cells (Adl 0 0 0 0) 70));have d:=Hd (((Af w.heap.size w).alloc (Ae _) (.cells (Adl p q t v) 70)).alloc (by simp) (.cells (Adl 0 0 0 0) 70));have f:=Hd ((Bh.new w 70 (Adl p q t v)).alloc (.cells (Adl 0 0 0 0) 70));have b:=Hd (Bh.new_ (w:=w.alloc (.cells (Adl p q t v) 70)) (g:=w.heap.size+1) (by simp) 70 (Adl 0 0 0 0));have j:=U6 l p q t v;clear h;go_enter func102,ntmps102;go_wp2_with fail;go_at_call 179;refine(Mi A _ c p q t v _ (by omega)).mono ?_;generalize (w.alloc (.cells (Adl p q t v) 70)).alloc (.cells (Adl 0 0 0 0) 70)=wB at i d f b⊢;obtain ⟨u,y,z,B⟩:=f.o.c4;rintro e w1 ⟨rfl,a⟩;clear u y z B;replace d:=Hd (Ba d.o a);replace f:=Hd (f.o.pure a);replace b:=Hd (b.o.pure a);replace i:=Hd (i.o.pure a);clear a;obtain ⟨u,y,z,B⟩:=f.o.c4;rcases j with⟨Q,C⟩|⟨Q,j⟩
 ·have D:=Hd C;have H:=Hd Q;have S:(Cb l.length p q t v != 0)=true:=by simpa using Q
  clear C Q;obtain ⟨k,m,r,s⟩:=b.o.c4;obtain ⟨I,J,K,L⟩:=b.o.f4;go_wp2;refine bodyPost_ret (v:= .tuple #[.agg (Adl 0 0 0 0),Aa Ab (Cb l.length p q t v)]) (by simp [results,results102,go_sem,k,m,r,s]) rfl ?_;exact Jw D.o H.o (B6 _ d.o (Ai _) _ _ _ _)
 ·rw [Q];clear Q;rcases j with⟨h9,C⟩|⟨rfl,j⟩
  ·have D:=Hd C;have H:=Hd (show(60:Int)≠0 by decide);have S:(t != 9)=true:=by simpa using h9
   clear C h9;obtain ⟨k,m,r,s⟩:=b.o.c4;obtain ⟨I,J,K,L⟩:=b.o.f4;go_wp2;refine bodyPost_ret (v:= .tuple #[.agg (Adl 0 0 0 0),Aa Ab 60]) (by simp [results,results102,go_sem,k,m,r,s]) rfl ?_;exact Jw D.o H.o (B6 _ d.o (Ai _) _ _ _ _)
  ·have O:=Hd j;clear j;go_wp2_with fail;go_at_call 182;refine(Ud A _ c p q 9 v l _ i.o hn).mono ?_;rintro e w2 ⟨rfl,a⟩;clear u y z B;replace d:=Hd (Ba d.o a);replace f:=Hd (f.o.pure a);replace b:=Hd (b.o.pure a);replace i:=Hd (i.o.pure a);clear a;obtain ⟨u,y,z,B⟩:=f.o.c4;rcases O.o with⟨M,C⟩|⟨M,j⟩
   ·have D:=Hd C;have H:=Hd M;have S:(Cm l p q 9 v != 0)=true:=by simpa using M
    clear C M O;obtain ⟨k,m,r,s⟩:=b.o.c4;obtain ⟨I,J,K,L⟩:=b.o.f4;go_wp2;refine bodyPost_ret (v:= .tuple #[.agg (Adl 0 0 0 0),Aa Ab (Cm l p q 9 v)]) (by simp [results,results102,go_sem,k,m,r,s]) rfl ?_;exact Jw D.o H.o (B6 _ d.o (Ai _) _ _ _ _)
   ·obtain⟨_,_,hW,_⟩:=Tn M;have hv:=Bz.1 hW;rw [M];obtain⟨V,rfl⟩:∃V:Nat,v=V:=⟨v.toNat,by omega⟩;obtain⟨e1,e2,e3,_⟩:=Z3 M;obtain⟨nf,G⟩:∃x,lsFrom l p q 9 V=x:=⟨_,rfl⟩;obtain⟨U,X⟩:∃U,kyU l p q 9 V=U:=⟨_,rfl⟩;have aa:nf≤1099511627776:=by omega
    have P:=Hd (show loadU l ((nf:Int)+(V:Int)) V=U by rw [←X,←G];rfl);have E:=Hd X;have F:=Hd G;have ak:V≤8:=by omega
    rw [X] at j;rw [G];have N:=Hd j;clear j X G M e1 e2 e3 hv hW O;rcases N.o with⟨T,C⟩|⟨T,C⟩
    ·have D:=Hd C;have H:=Hd (show(212:Int)≠0 by decide);have HW:=Hd T;clear C T N;by_cases h8:8<U
     ·have hd:decide ((8:Int)<(U:Int))=true:=decide_eq_true (by omega);clear h8;go_wp2_with fail;go_at_call 176;refine(Cv A _ c ((nf:Int)+V) V l _ (Cl l.length ((nf:Int)+V) V) U i.o (by omega) rfl P.o).mono ?_;rintro e W ⟨rfl,a⟩;clear u y z B;replace d:=Hd (Ba d.o a);replace f:=Hd (f.o.pure a);replace b:=Hd (b.o.pure a);replace i:=Hd (i.o.pure a);clear a;obtain ⟨u,y,z,B⟩:=f.o.c4;obtain ⟨k,m,r,s⟩:=b.o.c4;obtain ⟨I,J,K,L⟩:=b.o.f4;go_wp2;refine bodyPost_ret (v:= .tuple #[.agg (Adl 0 0 0 0),Aa Ab 212]) (by simp [results,results102,go_sem,k,m,r,s]) rfl ?_;exact Jw D.o H.o (B6 _ d.o (Ai _) _ _ _ _)
     ·have hd:decide ((8:Int)<(U:Int))=false:=decide_eq_false (by omega);go_wp2_with fail;go_at_call 176;refine(Cv A _ c ((nf:Int)+V) V l _ (Cl l.length ((nf:Int)+V) V) U i.o (by omega) rfl P.o).mono ?_;rintro e W ⟨rfl,a⟩;clear u y z B;replace d:=Hd (Ba d.o a);replace f:=Hd (f.o.pure a);replace b:=Hd (b.o.pure a);replace i:=Hd (i.o.pure a);clear a;obtain ⟨u,y,z,B⟩:=f.o.c4;go_wp2_with fail;go_at_call 95;refine(E3 U _).mono ?_;rw [HW.o];rintro e Y ⟨rfl,rfl⟩;obtain ⟨k,m,r,s⟩:=b.o.c4;obtain ⟨I,J,K,L⟩:=b.o.f4;go_wp2;refine bodyPost_ret (v:= .tuple #[.agg (Adl 0 0 0 0),Aa Ab 212]) (by simp [results,results102,go_sem,k,m,r,s]) rfl ?_;exact Jw D.o H.o (B6 _ d.o (Ai _) _ _ _ _)
    ·have ab:=Bz.1 T;have D:=Hd C;clear C T N;have Z:U=1∨U=2∨U=4∨U=8:=by omega
     clear ab;rcases Z with rfl|rfl|rfl|rfl
     ·go_wp2_with fail;go_at_call 176;refine(Cv A _ c ((nf:Int)+V) V l _ (Cl l.length ((nf:Int)+V) V) 1 i.o (by omega) rfl P.o).mono ?_;rintro e W ⟨rfl,a⟩;clear u y z B;replace d:=Hd (Ba d.o a);replace f:=Hd (f.o.pure a);replace b:=Hd (b.o.pure a);replace i:=Hd (i.o.pure a);clear a;obtain ⟨u,y,z,B⟩:=f.o.c4;go_wp2_with fail;go_at_call 95;refine(E3 1 _).mono ?_;rw [show Bt 1=true by decide];rintro e Y ⟨rfl,rfl⟩;obtain ⟨k,m,r,s⟩:=b.o.c4;obtain ⟨I,J,K,L⟩:=b.o.f4;go_wp2;refine bodyPost_ret (v:= .tuple #[.agg (Adl nf V 14 1),Aa Ab 0]) (by simp [results,results102,go_sem,k,m,r,s]) rfl ?_;exact Ki D.o (by rw [F.o]) rfl (by rw [E.o];rfl) (B6 _ d.o (Ai _) _ _ _ _)
     ·go_wp2_with fail;go_at_call 176;refine(Cv A _ c ((nf:Int)+V) V l _ (Cl l.length ((nf:Int)+V) V) 2 i.o (by omega) rfl P.o).mono ?_;rintro e W ⟨rfl,a⟩;clear u y z B;replace d:=Hd (Ba d.o a);replace f:=Hd (f.o.pure a);replace b:=Hd (b.o.pure a);replace i:=Hd (i.o.pure a);clear a;obtain ⟨u,y,z,B⟩:=f.o.c4;go_wp2_with fail;go_at_call 95;refine(E3 2 _).mono ?_;rw [show Bt 2=true by decide];rintro e Y ⟨rfl,rfl⟩;obtain ⟨k,m,r,s⟩:=b.o.c4;obtain ⟨I,J,K,L⟩:=b.o.f4;go_wp2;refine bodyPost_ret (v:= .tuple #[.agg (Adl nf V 14 2),Aa Ab 0]) (by simp [results,results102,go_sem,k,m,r,s]) rfl ?_;exact Ki D.o (by rw [F.o]) rfl (by rw [E.o];rfl) (B6 _ d.o (Ai _) _ _ _ _)
     ·go_wp2_with fail;go_at_call 176;refine(Cv A _ c ((nf:Int)+V) V l _ (Cl l.length ((nf:Int)+V) V) 4 i.o (by omega) rfl P.o).mono ?_;rintro e W ⟨rfl,a⟩;clear u y z B;replace d:=Hd (Ba d.o a);replace f:=Hd (f.o.pure a);replace b:=Hd (b.o.pure a);replace i:=Hd (i.o.pure a);clear a;obtain ⟨u,y,z,B⟩:=f.o.c4;go_wp2_with fail;go_at_call 95;refine(E3 4 _).mono ?_;rw [show Bt 4=true by decide];rintro e Y ⟨rfl,rfl⟩;obtain ⟨k,m,r,s⟩:=b.o.c4;obtain ⟨I,J,K,L⟩:=b.o.f4;go_wp2;refine bodyPost_ret (v:= .tuple #[.agg (Adl nf V 14 4),Aa Ab 0]) (by simp [results,results102,go_sem,k,m,r,s]) rfl ?_;exact Ki D.o (by rw [F.o]) rfl (by rw [E.o];rfl) (B6 _ d.o (Ai _) _ _ _ _)
     ·go_wp2_with fail;go_at_call 176;refine(Cv A _ c ((nf:Int)+V) V l _ (Cl l.length ((nf:Int)+V) V) 8 i.o (by omega) rfl P.o).mono ?_;rintro e W ⟨rfl,a⟩;clear u y z B;replace d:=Hd (Ba d.o a);replace f:=Hd (f.o.pure a);replace b:=Hd (b.o.pure a);replace i:=Hd (i.o.pure a);clear a;obtain ⟨u,y,z,B⟩:=f.o.c4;go_wp2_with fail;go_at_call 95;refine(E3 8 _).mono ?_;rw [show Bt 8=true by decide];rintro e Y ⟨rfl,rfl⟩;obtain ⟨k,m,r,s⟩:=b.o.c4;obtain ⟨I,J,K,L⟩:=b.o.f4;go_wp2;refine bodyPost_ret (v:= .tuple #[.agg (Adl nf V 14 8),Aa Ab 0]) (by simp [results,results102,go_sem,k,m,r,s]) rfl ?_;exact Ki D.o (by rw [F.o]) rfl (by rw [E.o];rfl) (B6 _ d.o (Ai _) _ _ _ _)
theorem eM(h:F4 w B (some ⟨g,0,none⟩) n c l)(hi:i<n)(b:UInt8):
  (w.frozen? ⟨g,i,none⟩=false∧∃u,w.cell? ⟨g,i,none⟩=some u)∧F4 (w.setCell ⟨g,i,none⟩ (.int .u8 (b.toNat:Int))) B (some ⟨g,0,none⟩) n c (l.take i++ [b]++l.drop (i+1)):=by
 obtain⟨d,e,f,a⟩:=jQ h;refine⟨⟨e.frozen i,_,(e.cell i).trans (Array.getElem?_eq_getElem (by omega))⟩,a _ _ i 1 [b] (e.set_ i _) ?_ rfl (by omega)⟩;have:=(L9.zero d i ([b].flatMap bc)).step (v:= .int .u8 (b.toNat:Int)) rfl (by omega);exact this
theorem vD{A:Option Addr}(h:F4 w B A n c l)(hn:0<n):∃g,A=some ⟨g,0,none⟩∧B≤g:=by
 cases A with
 |none=>exact absurd (h.is.none_ Cn (by omega)).2 (by omega)
 |some ad=>
  obtain⟨h1,h2,_⟩:=h.addr ad rfl;exact⟨ad.block,by rw [h1],h2⟩
theorem Lj(A:Option Addr)(n c:Nat)(p q t v a b d g er:Int)(l:List UInt8)(w:World)(h:Ca w A n l)(hc:n≤c)(hn:n≤1099511627776)(h1:Sp l p q t v=a)(h2:Sq l p q t v=b)(h3:Ps l p q t v=d)(h4:Sr l p q t v=g)(h5:Hf l p q t v=er):
  Calls Ad 93 #[.slice A n c,.agg (Adl p q t v)] w (Adh (.tuple #[.agg (Adl a b d g),Aa Ab er]) w):=by
 subst h1 h2 h3 h4 h5;exact lY A n c p q t v l w h hc hn
theorem Mg(A:Option Addr)(n c:Nat)(p q t v a b d g er:Int)(l:List UInt8)(w:World)(h:Ca w A n l)(hn:n≤1099511627776)(h1:Sp l p q t v=a)(h2:Sq l p q t v=b)(h3:Ps l p q t v=d)(h4:Sr l p q t v=g)(h5:Hf l p q t v=er):
  Calls Ad 102 #[.slice A n c,.agg (Adl p q t v)] w (Adh (.tuple #[.agg (Adl a b d g),Aa Ab er]) w):=by
 subst h1 h2 h3 h4 h5;exact iI A n c p q t v l w h hn
theorem J1{g' j:Nat}{u v:Value}(h:w.cell? ⟨g,i,none⟩=some v)(hne:g≠g'):(w.setCell ⟨g',j,none⟩ u).cell? ⟨g,i,none⟩=some v:=Vb h hne
theorem U9(l:List UInt8)(a x:Int):(loadU l a x:Int)<18446744073709551616:=by
 unfold loadU;split
 ·rename_i h;have h1:=Bz.1 h.1;have hl:=Ny ((l.drop a.toNat).take x.toNat);have h8:((l.drop a.toNat).take x.toNat).length≤8:=by
   have:=List.length_take_le x.toNat (l.drop a.toNat);omega
  have:=Nat.pow_le_pow_right (n:=2) (by omega) (Nat.mul_le_mul_left 8 h8);omega
 ·omega
theorem Abp{y u:Nat}(hy:y=1∨y=2∨y=4∨y=8)(hu:u<2^(8*y)): -9223372036854775808≤sx y u∧sx y u≤9223372036854775807:=by
 unfold sx;rcases hy with rfl|rfl|rfl|rfl <;>split <;>simp at* <;>omega
theorem U8(l:List UInt8)(a x:Int): -9223372036854775808≤Ht l a x∧Ht l a x≤9223372036854775807:=by
 unfold Ht;split
 ·rename_i h;have h1:=Bz.1 h.1;have hx:=Va l a x.toNat;rw [show((x.toNat:Nat):Int)=x by omega] at hx;exact Abp (by omega) hx
 ·omega
theorem Mk(h:B7 l p q t v=0):0≤By l p q t v∧By l p q t v≤l.length:=by
 have a:Cb l.length p q t v=0:=by
  by_cases e:Cb l.length p q t v=0
  ·exact e
  ·rw [Ls e] at h;exact absurd h e
 obtain⟨_,h2⟩:=Dr.1 a;obtain⟨h1,_⟩:=Dr.1 a;have h2:=Eh.1 h2;have h1:=Cz.1 h1;have c:=Bz.1 h1.2.1;unfold B7 at h;rw [if_pos a] at h;unfold By;have b:B7 l p q t v=0:=by unfold B7;rw [if_pos a];exact h
 rw [if_pos b];split at h
 ·cases h
 ·split at h
  ·cases h
  ·omega
def Nt(t:Int):Bool:=(fE t).isSome
theorem Zz(h:Bs t=true):Nt t=true:=by
 have:=Ja (dJ h);revert h;refine Lq (p:=fun t=>Bs t=true→Nt t=true) ?_ this;decide
theorem fF(h:Nt t=true):t=0∨t=1∨t=2∨t=6∨t=7∨t=26:=by
 unfold Nt fE at h;split at h <;>try omega
 split at h <;>try omega
 split at h <;>try omega
 split at h <;>try omega
 cases h
def F7(l:List UInt8)(p q t v:Int):Int:=
 if Cb l.length p q t v≠0 then Cb l.length p q t v
 else if Nt t=false then 60
 else if Bs t=true then 0
 else if B7 l p q t v≠0 then B7 l p q t v
 else if By l p q t v % v≠0 then 212
 else if G1 l.length (By l p q t v) v=false then 211 else 0
def F6(l:List UInt8)(p q t v:Int):Int:=if F7 l p q t v=0 then(if Bs t=true then p else By l p q t v) else 0
def G3(l:List UInt8)(p q t v:Int):Int:=if F7 l p q t v=0 then(if Bs t=true then q else v) else 0
def Yd(w:World)(l:List UInt8)(p q t v:Int)(e:Ending)(w':World):Prop:=
 e= .returned (.tuple #[Aa Ab (F6 l p q t v),Aa Ab (G3 l p q t v),Aa Ab (F7 l p q t v)])∧Below w.heap.size w w'
theorem It(h:F7 l p q t v=er)(hne:er≠0)(hb:Below w.heap.size w w'):Yd w l p q t v (.returned (.tuple #[Aa Ab 0,Aa Ab 0,Aa Ab er])) w':=by
 unfold Yd F6 G3;rw [h,if_neg hne,if_neg hne];exact⟨rfl,hb⟩
theorem Q7{x:Int}(h:F7 l p q t v=0)(ha:(if Bs t=true then p else By l p q t v)=a)(hx:(if Bs t=true then q else v)=x)(hb:Below w.heap.size w w'):Yd w l p q t v (.returned (.tuple #[Aa Ab a,Aa Ab x,Aa Ab 0])) w':=by
 unfold Yd F6 G3;rw [h,if_pos rfl,if_pos rfl,ha,hx];exact⟨rfl,hb⟩
theorem Ox(l:List UInt8)(p q t v:Int):(Cb l.length p q t v≠0∧F7 l p q t v=Cb l.length p q t v)∨(Cb l.length p q t v=0∧
  ((Nt t=false∧F7 l p q t v=60)∨(Nt t=true∧Bs t=true∧F7 l p q t v=0)∨(Nt t=true∧Bs t=false∧
   ((B7 l p q t v≠0∧F7 l p q t v=B7 l p q t v)∨(B7 l p q t v=0∧By l p q t v % v≠0∧F7 l p q t v=212)∨(B7 l p q t v=0∧By l p q t v % v=0∧G1 l.length (By l p q t v) v=false∧F7 l p q t v=211)∨
    (B7 l p q t v=0∧By l p q t v % v=0∧G1 l.length (By l p q t v) v=true∧F7 l p q t v=0))))):=by
 unfold F7;by_cases h1:Cb l.length p q t v=0
 ·refine .inr ⟨h1,?_⟩;rw [if_neg (by simpa using h1)];cases h2:Nt t with
  |false=>exact .inl ⟨rfl,if_pos rfl⟩
  |true=>
   rw [if_neg (by decide)];cases h3:Bs t with
   |true=>exact .inr (.inl ⟨rfl,rfl,if_pos rfl⟩)
   |false=>
    refine .inr (.inr ⟨rfl,rfl,?_⟩);rw [if_neg (by decide)];by_cases a:B7 l p q t v=0
    ·rw [if_neg (by simpa using a)];by_cases b:By l p q t v % v=0
     ·rw [if_neg (by simpa using b)];cases h6:G1 l.length (By l p q t v) v with
      |false=>exact .inr (.inr (.inl ⟨a,b,rfl,if_pos rfl⟩))
      |true=>exact .inr (.inr (.inr ⟨a,b,rfl,if_neg (by decide)⟩))
     ·rw [if_pos b];exact .inr (.inl ⟨a,b,rfl⟩)
    ·rw [if_pos a];exact .inl ⟨a,rfl⟩
 ·rw [if_pos h1];exact .inl ⟨h1,rfl⟩
theorem tX{r:Option (Nat×Value)}(h:r.map (·.2)=fE t):r.isSome=Nt t:=by
 unfold Nt;rw [←h];cases r <;>rfl
theorem Aad:∀W:World,(zeroValue 274).run Ad W= .ok .nilFunc W:=by
 intro W
 kernel_rfl
theorem zI(t:Int)(W:World)(g:Nat)(hb:W.heap[g]?=some (.map fD 6)):
  (∀b,(Instr.lookup 276 (.map (some g)) (Aa Ab t) b).run Ad W= .ok (if b then .tuple #[(fE t).getD .nilFunc,.bool (Nt t)] else(fE t).getD .nilFunc) W):=by
 intro b;obtain⟨r,h1,h2⟩:=zH t;rw [Rh underlying276 underlying3 .nilFunc Aad W fD 6 g t b r hb h1,h2,tX h2]
theorem Ui(A:Option Addr)(n c:Nat)(p q t v:Int)(l:List UInt8)(w:World)(h:Ca w A n l)(hc:n≤c)(hn:n≤9223372036854775807):
  Calls Ad 151 #[.slice A n c,.agg (Adl p q t v)] w (Yd w l p q t v):=by
 have K:=h.1;subst K;have r:=Hd (h.alloc (.cells (Adl p q t v) 70));have f:=Hd ((Af w.heap.size w).alloc (Ae _) (.cells (Adl p q t v) 70));have i:=Hd (Bh.new w 70 (Adl p q t v));have j:=Ox l p q t v;clear h;go_enter func151,ntmps151;go_wp2_with fail;go_at_call 148;refine(N1 A _ c p q t v _ hn).mono ?_;obtain ⟨x,y,m,z⟩:=i.o.c4;rintro e S ⟨rfl,b⟩;clear x y m z;replace f:=Hd (Ba f.o b);replace i:=Hd (i.o.pure b);replace r:=Hd (r.o.pure b);clear b;obtain ⟨x,y,m,z⟩:=i.o.c4;rcases j with⟨D,d⟩|⟨D,j⟩
 ·have k:=Hd d;have P:(Cb l.length p q t v != 0)=true:=by simpa using D
  have Q:=Hd D;clear d D;go_wp2;go_ret3;exact It k.o Q.o f.o
 ·obtain⟨M,O⟩:=Dr.1 D;have O:=Eh.1 O;have M:=Cz.1 M;have Z:=Bz.1 M.2.2;rw [D];obtain⟨V,rfl⟩:∃V:Nat,v=V:=⟨v.toNat,by omega⟩;have W:1≤V:=by omega
  have X:V≤8:=by omega
  have Y:(V==0)=false:=beq_eq_false_iff_ne.mpr (by omega);clear M O Z;have B:=Hd j;have Q:=Hd D;clear j D;go_wp2_with fail;go_upto_region 4 with fail
  go_cut [8,9] (fun u8 u9 wx=>u9= .bool (Nt t)∧Below S.heap.size S wx)
  case first=>
   go_region_held3 (fun w'=>w'.cell? ⟨w.heap.size,2,none⟩=some (Aa Ab t)) (first|assumption|exact m|exact Bg H.o m)
    (first|(go_at_call 250;refine(fG _).mono ?_;rintro e w5 ⟨g,rfl,R,J⟩;have H:=Hd J;have U:=zI t w5 g R;clear J R))
   go_wp2_with fail;go_meet;exact⟨rfl,Ba (Af _ _).drew H.o⟩
  case rest=>
   obtain⟨rfl,b⟩:=hcut;clear x y m z;replace f:=Hd (Ba f.o b);replace i:=Hd (i.o.pure b);replace r:=Hd (r.o.pure b);clear b;obtain ⟨x,y,m,z⟩:=i.o.c4;rcases B.o with⟨h1,d⟩|⟨h1,h2,d⟩|⟨h1,h2,j⟩
   ·have k:=Hd d;rw [h1];clear d h1 B;go_wp2;go_ret3;exact It k.o (by decide) f.o
   ·have k:=Hd d;have E:=Hd h2;rw [h1];clear d h1 B h2;go_wp2_with fail;go_at_call 78;refine(C0 t _).mono ?_;rw [E.o];rintro e w2 ⟨rfl,b⟩;clear x y m z;replace f:=Hd (Ba f.o b);replace i:=Hd (i.o.pure b);replace r:=Hd (r.o.pure b);clear b;obtain ⟨x,y,m,z⟩:=i.o.c4;go_wp2_with fail;go_quiet (fail);go_wp2;go_ret3;exact Q7 k.o (if_pos E.o) (if_pos E.o) (below_drewN f.o _)
   ·have E:=Hd h2;have I:=Hd j;rw [h1];clear h1 B h2 j;go_wp2_with fail;go_at_call 78;refine(C0 t _).mono ?_;rw [E.o];rintro e w2 ⟨rfl,b⟩;clear x y m z;replace f:=Hd (Ba f.o b);replace i:=Hd (i.o.pure b);replace r:=Hd (r.o.pure b);clear b;obtain ⟨x,y,m,z⟩:=i.o.c4;go_wp2_with fail;go_at_call 79;refine(Jz A _ c p q t V l _ r.o hc hn).mono ?_;rintro e w3 ⟨rfl,b⟩;clear x y m z;replace f:=Hd (Ba f.o b);replace i:=Hd (i.o.pure b);replace r:=Hd (r.o.pure b);clear b;obtain ⟨x,y,m,z⟩:=i.o.c4;rcases I.o with⟨h1,d⟩|⟨h0,s,d⟩|⟨h0,s,G,d⟩|⟨h0,s,G,d⟩
    ·have P:(B7 l p q t V != 0)=true:=by simpa using h1
     have k:=Hd d;have T:=Hd h1;clear h1 d I;go_wp2;go_ret3;exact It k.o T.o f.o
    ·have k:=Hd d;have u:=Mk h0;rw [h0];obtain⟨a,C⟩:∃a:Nat,By l p q t V=a:=⟨(By l p q t V).toNat,by omega⟩;rw [C] at s⊢;have L:((a:Int) % (V:Int) != 0)=true:=by simpa using s
     clear h0 s d I C u;go_wp2;go_ret3;exact It k.o (by decide) f.o
    ·have k:=Hd d;have u:=Mk h0;rw [h0];obtain⟨a,C⟩:∃a:Nat,By l p q t V=a:=⟨(By l p q t V).toNat,by omega⟩;rw [C] at s G⊢;have L:((a:Int) % (V:Int) != 0)=false:=by simpa using s
     have F:=Hd G;clear h0 s G d I C u;go_wp2_with fail;go_at_call 246;refine(Hq A _ c a V _ hn).mono ?_;rw [F.o];rintro e w4 ⟨rfl,rfl⟩;go_wp2;go_ret3;exact It k.o (by decide) f.o
    ·have k:=Hd d;have u:=Mk h0;rw [h0];obtain⟨a,C⟩:∃a:Nat,By l p q t V=a:=⟨(By l p q t V).toNat,by omega⟩;have N:=Hd C;rw [C] at s G⊢;have L:((a:Int) % (V:Int) != 0)=false:=by simpa using s
     have F:=Hd G;clear h0 s G d I C u;go_wp2_with fail;go_at_call 246;refine(Hq A _ c a V _ hn).mono ?_;rw [F.o];rintro e w4 ⟨rfl,rfl⟩;go_wp2_with fail;go_quiet (fail);go_wp2;go_ret3;exact Q7 k.o (by rw [if_neg (by rw [E.o];decide)];exact N.o) (if_neg (by rw [E.o];decide)) (below_drewN f.o _)
theorem Aaz(h:Nt t=true)(hi:Bs t=false):t=6∨t=7:=by
 rcases fF h with rfl|rfl|rfl|rfl|rfl|rfl
 ·exact absurd hi (by decide)
 ·exact absurd hi (by decide)
 ·exact absurd hi (by decide)
 ·exact .inl rfl
 ·exact .inr rfl
 ·exact absurd hi (by decide)
theorem Aa0(h:Nt t=false):(t != 6)=true∧(t != 7)=true:=by
 constructor
 ·rw [bne_iff_ne];rintro rfl;exact absurd h (by decide)
 ·rw [bne_iff_ne];rintro rfl;exact absurd h (by decide)
theorem fI(A:Option Addr)(n c:Nat)(p q t v:Int)(l:List UInt8)(w:World)(h:Ca w A n l)(hn:n≤9223372036854775807):
  Calls Ad 166 #[.slice A n c,.agg (Adl p q t v)] w (Yd w l p q t v):=by
 have F:=h.1;subst F;have B:=Hd (h.alloc (.cells (Adl p q t v) 70));have g:=Hd ((Af w.heap.size w).alloc (Ae _) (.cells (Adl p q t v) 70));have x:=Hd (Bh.new w 70 (Adl p q t v));have d:=Ox l p q t v;clear h;go_enter func166,ntmps166;go_wp2_with fail;go_at_call 179;refine(Mi A _ c p q t v _ hn).mono ?_;obtain ⟨I,J,K,L⟩:=x.o.c4;rintro e Z ⟨rfl,r⟩;clear I J K L;replace g:=Hd (Ba g.o r);replace x:=Hd (x.o.pure r);replace B:=Hd (B.o.pure r);clear r;obtain ⟨I,J,K,L⟩:=x.o.c4;rcases d with⟨s,b⟩|⟨s,d⟩
 ·have f:=Hd b;have O:(Cb l.length p q t v != 0)=true:=by simpa using s
  have P:=Hd s;clear b s;go_wp2;go_ret3;exact It f.o P.o g.o
 ·obtain⟨H,N⟩:=Dr.1 s;have N:=Eh.1 N;have H:=Cz.1 H;have X:=Bz.1 H.2.2;rw [s];obtain⟨V,rfl⟩:∃V:Nat,v=V:=⟨v.toNat,by omega⟩;have S:1≤V:=by omega
  have T:V≤8:=by omega
  have U:(V==0)=false:=beq_eq_false_iff_ne.mpr (by omega);clear H N X;have k:=Hd d;have P:=Hd s;clear d s;go_wp2_with fail;go_at_call 97;refine(N9 t _).mono ?_;rintro e w2 ⟨rfl,rfl⟩;rcases k.o with⟨h1,b⟩|⟨h1,h2,b⟩|⟨h1,h2,d⟩
  ·have f:=Hd b;have hi:Bs t=false:=by
    cases hi:Bs t with
    |false=>rfl
    |true=>exact absurd (Zz hi) (by rw [h1];decide)
   obtain⟨Q,W⟩:=Aa0 h1;rw [hi];clear b h1 k hi;go_wp2;go_ret3;exact It f.o (by decide) g.o
  ·have f:=Hd b;have z:=Hd h2;rw [h2];clear b h1 k h2;go_wp2_with fail;go_quiet (fail);go_wp2;go_ret3;exact Q7 f.o (if_pos z.o) (if_pos z.o) (below_drewN g.o _)
  ·have z:=Hd h2;have C:=Hd d;have D:=Aaz h1 h2;have E:((t != 6)=false)∨((t != 6)=true∧(t != 7)=false):=by
    rcases D with rfl|rfl
    ·exact .inl rfl
    ·exact .inr ⟨rfl,rfl⟩
   rw [h2];clear h1 k h2 d D;rcases E with Q|⟨Q,W⟩
   all_goals
    go_wp2_with fail;go_at_call 99;refine(Fb A _ c p q t V l _ B.o hn).mono ?_;rintro e w3 ⟨rfl,r⟩;clear I J K L;replace g:=Hd (Ba g.o r);replace x:=Hd (x.o.pure r);replace B:=Hd (B.o.pure r);clear r;obtain ⟨I,J,K,L⟩:=x.o.c4;rcases C.o with⟨h1,b⟩|⟨h0,i,b⟩|⟨h0,i,y,b⟩|⟨h0,i,y,b⟩
    ·have O:(B7 l p q t V != 0)=true:=by simpa using h1
     have f:=Hd b;have R:=Hd h1;clear h1 b C;go_wp2;go_ret3;exact It f.o R.o g.o
    ·have f:=Hd b;have j:=Mk h0;rw [h0];obtain⟨a,m⟩:∃a:Nat,By l p q t V=a:=⟨(By l p q t V).toNat,by omega⟩;rw [m] at i⊢;have G:((a:Int) % (V:Int) != 0)=true:=by simpa using i
     clear h0 i b C m j;go_wp2;go_ret3;exact It f.o (by decide) g.o
    ·have f:=Hd b;have j:=Mk h0;rw [h0];obtain⟨a,m⟩:∃a:Nat,By l p q t V=a:=⟨(By l p q t V).toNat,by omega⟩;rw [m] at i y⊢;have G:((a:Int) % (V:Int) != 0)=false:=by simpa using i
     have u:=Hd y;clear h0 i y b C m j;go_wp2_with fail;go_at_call 273;refine(Oa A _ c a V _ hn).mono ?_;rw [u.o];rintro e Y ⟨rfl,rfl⟩;go_wp2;go_ret3;exact It f.o (by decide) g.o
    ·have f:=Hd b;have j:=Mk h0;rw [h0];obtain⟨a,m⟩:∃a:Nat,By l p q t V=a:=⟨(By l p q t V).toNat,by omega⟩;have M:=Hd m;rw [m] at i y⊢;have G:((a:Int) % (V:Int) != 0)=false:=by simpa using i
     have u:=Hd y;clear h0 i y b C m j;go_wp2_with fail;go_at_call 273;refine(Oa A _ c a V _ hn).mono ?_;rw [u.o];rintro e Y ⟨rfl,rfl⟩;go_wp2_with fail;go_quiet (fail);go_wp2;go_ret3;exact Q7 f.o (by rw [if_neg (by rw [z.o];decide)];exact M.o) (if_neg (by rw [z.o];decide)) (below_drewN g.o _)
theorem Abc(A:Option Addr)(n c:Nat)(p q t v:Int)(l:List UInt8)(a x er:Int)(w:World)(h:Ca w A n l)(hc:n≤c)(hn:n≤9223372036854775807)(h0:F6 l p q t v=a)(h1:G3 l p q t v=x)(h2:F7 l p q t v=er):
  Calls Ad 151 #[.slice A n c,.agg (Adl p q t v)] w (Adh (.tuple #[Aa Ab a,Aa Ab x,Aa Ab er]) w):=by
 subst h0 h1 h2;exact Ui A n c p q t v l w h hc hn
structure Rq where
 p:Int
 q:Int
 t:Int
 v:Int
abbrev P3:=Int×Int×Int
structure Bk where
 left:Int
 had:List P3
 o:List P3
def Fz(t:Int):Int:=if t=0 then 1 else if t=1 then 2 else if t=2 then 3 else if t=26 then 4 else 5
def Bk.tell(s:Bk)(a b c:Int):Bk:=if a<b then { s with o:=s.o++ [(a,b,c)]} else s
def Bk.burn(s:Bk):Bk:={ s with left:=s.left-1}
def Bk.see(s:Bk)(x:P3):Bk:={ s with had:=s.had++ [x]}
section
variable (l:List UInt8) (go:Rq→Bk→Bk×Int) (r:Rq)
def Cx(s:Bk):Bk×Int:=
 if C6 l r.p r.q r.t r.v [4,5,25]≠0 then(s,C6 l r.p r.q r.t r.v [4,5,25])
 else if r.t=4 then(s.tell (D1 l r.p r.q r.t r.v [4,5,25]) (D1 l r.p r.q r.t r.v [4,5,25]+(Dx l r.p r.q r.t r.v [4,5,25]).length+1) 9,0)
 else if r.t=5 then((s.tell (D1 l r.p r.q r.t r.v [4,5,25]-r.v) (D1 l r.p r.q r.t r.v [4,5,25]) 6).tell (D1 l r.p r.q r.t r.v [4,5,25]) (D1 l r.p r.q r.t r.v [4,5,25]+(Dx l r.p r.q r.t r.v [4,5,25]).length+1) 10,0)
 else((s.tell (D1 l r.p r.q r.t r.v [4,5,25]-r.v) (D1 l r.p r.q r.t r.v [4,5,25]) 6).tell (D1 l r.p r.q r.t r.v [4,5,25]) (D1 l r.p r.q r.t r.v [4,5,25]+(Dx l r.p r.q r.t r.v [4,5,25]).length) 11,0)
def C8(s:Bk):Bk×Int:=
 if F7 l r.p r.q r.t r.v=0 then(s.tell (F6 l r.p r.q r.t r.v) (F6 l r.p r.q r.t r.v+G3 l r.p r.q r.t r.v) (if r.t=6 then 12 else 13),0)
 else(s,F7 l r.p r.q r.t r.v)
def Ck:Rq:=⟨Sp l r.p r.q r.t r.v,Sq l r.p r.q r.t r.v,Ps l r.p r.q r.t r.v,Sr l r.p r.q r.t r.v⟩
def Cq(i:Nat):Rq:=⟨Rm l r.p r.q r.t r.v i,Rn l r.p r.q r.t r.v i,Pk l r.p r.q r.t r.v i,Ro l r.p r.q r.t r.v i⟩
def G9(s:Bk):Bk×Int:=
 if Hf l r.p r.q r.t r.v≠0 then(s,Hf l r.p r.q r.t r.v)
 else if(go (Ck l r) s).2≠0 then go (Ck l r) s
 else((go (Ck l r) s).1.tell (lsFrom l r.p r.q r.t r.v+r.v) (lsFrom l r.p r.q r.t r.v+2*r.v) 7,0)
def Fk(i:Nat)(s:Bk):Bk:=
 if Fv r.t=true then s.tell ((lsAt l r.p r.q r.t r.v:Int)+lsLen l r.p r.q r.t r.v*r.v+i) ((lsAt l r.p r.q r.t r.v:Int)+lsLen l r.p r.q r.t r.v*r.v+i+1) 8 else s
def E0:Nat→Nat→Bk→Bk×Int
 |0,_,s=>(s,0)
 |k+1,i,s=>
  if Eu l r.p r.q r.t r.v i≠0 then(Fk l r i s,Eu l r.p r.q r.t r.v i)
  else if(go (Cq l r i) (Fk l r i s)).2≠0 then go (Cq l r i) (Fk l r i s)
  else E0 k (i+1) (go (Cq l r i) (Fk l r i s)).1
def Jk(s:Bk):Bk:=if lsFrom l r.p r.q r.t r.v<lsAt l r.p r.q r.t r.v then s.tell ((lsAt l r.p r.q r.t r.v:Int)-r.v) (lsAt l r.p r.q r.t r.v) 6 else s
def Gt(s:Bk):Bk×Int:=if r.t=9 then G9 l go r s else(s,0)
def Dw(s:Bk):Bk×Int:=
 if Cm l r.p r.q r.t r.v≠0 then(s,Cm l r.p r.q r.t r.v)
 else if(Gt l go r s).2≠0 then Gt l go r s
 else E0 l go r (lsLen l r.p r.q r.t r.v) 0 (Jk l r (Gt l go r s).1)
def Dv(s:Bk):Bk×Int:=if Ll [4,5,25] r.t=true then Cx l r s else if r.t=6∨r.t=7 then C8 l r s else Dw l go r s
def Hw:P3:=(By l r.p r.q r.t r.v,r.t,r.v)
end
def D0(r:Rq)(s:Bk):Bk:=s.burn.tell r.p (r.p+r.q) (Fz r.t)
def Cj(l:List UInt8):Nat→Rq→Bk→Bk×Int
 |0,_,s=>(s,260)
 |d+1,r,s=>
  if s.left<1 then(s,260)
  else if Bs r.t=true then(D0 r s,0)
  else if B7 l r.p r.q r.t r.v≠0∨Hw l r∈s.had then(D0 r s,B7 l r.p r.q r.t r.v)
  else Dv l (Cj l d) r ((D0 r s).see (Hw l r))
end Go.Proofs.YtejpbijeifjdeaaGreat
namespace Go.Acc
open Go.RowKit
variable {w w':World}{b:Nat}{l:List (Int×Int×Int)}
def G2(x:Int×Int×Int):Value:= .agg #[Aa Ab x.1,Aa Ab x.2.1,Aa Ab x.2.2]
def Js(w:World)(b:Nat)(l:List (Int×Int×Int)):Prop:=
 ∃es k,w.heap[b]?=some (.map es k)∧es.toList.map (·.key)=l.map G2∧∀x∈es.toList,x.val= .bool true
theorem Js.lt(h:Js w b l):b<w.heap.size:=by
 obtain⟨es,k,hb,_⟩:=h;exact(Array.getElem?_eq_some_iff.1 hb).1
theorem Js.fr{S:Nat→Prop}(h:Js w b l)(hf:Fr S w w')(hs:¬S b):Js w' b l:=by
 obtain⟨es,k,hb,r⟩:=h;exact⟨es,k,by rw [hf.block b (Array.getElem?_eq_some_iff.1 hb).1 hs];exact hb,r⟩
theorem Js.pure(h:Js w b l)(hf:Below w.heap.size w w'):Js w' b l:=
 h.fr (Fr.of_below hf fun _=>False) (fun h=>h)
section
variable {P:Program} {mt kt et:TypeId} {fs:Array Field}
theorem jY(heq:∀(x y:Int×Int×Int) (W:World),(Op.equal kt (G2 x) (G2 y)).run P W= .ok (decide (x=y)) W)(x:Int×Int×Int)(W:World):
  ∀(l:List (Int×Int×Int)) (es:List MapEntry) (i:Nat),es.map (·.key)=l.map G2→(∀y∈es,y.val= .bool true)→
   ∃r:Option (Nat×Value),(Instr.findAsking kt (G2 x) es i).run P W= .ok r W∧r.isSome=decide (x∈l)∧∀p,r=some p→p.2= .bool true
 | [],[],i,_,_=>⟨none,by simp [Instr.findAsking],by simp,by simp⟩
 | [],_::_,_,h,_=>by simp at h
 |_::_,[],_,h,_=>by simp at h
 |y::l,e::es,i,h,hv=>by
  simp only [List.map_cons,List.cons.injEq] at h;by_cases a:x=y
  ·refine⟨some (i,e.val),?_,by simp [a],fun p hp=>?_⟩
   ·simp only [Instr.findAsking,Sem.run_bind,h.1,heq,Result.andThen_ok,decide_eq_true a,if_true,Sem.run_pure]
   ·injection hp with hp;subst hp;exact hv e (by simp)
  ·obtain⟨r,h1,h2,h3⟩:=jY heq x W l es (i+1) h.2 (fun z hz=>hv z (by simp [hz]));refine⟨r,?_,?_,h3⟩
   ·simp only [Instr.findAsking,Sem.run_bind,h.1,heq,Result.andThen_ok,decide_eq_false a];rw [if_neg (by decide)];exact h1
   ·rw [h2];simp [a]
theorem aH(hk:P.underlying kt=some (.struct fs))(heq:∀(x y:Int×Int×Int) (W:World),(Op.equal kt (G2 x) (G2 y)).run P W= .ok (decide (x=y)) W)(x:Int×Int×Int)(W:World)
  (l:List (Int×Int×Int)) (es:List MapEntry) (h:es.map (·.key)=l.map G2) (hv:∀y∈es,y.val= .bool true):
   ∃r:Option (Nat×Value),(Instr.findKey kt (G2 x) es).run P W= .ok r W∧r.isSome=decide (x∈l)∧∀p,r=some p→p.2= .bool true:=by
 obtain⟨r,h1,h2,h3⟩:=jY heq x W l es 0 h hv;refine⟨r,?_,h2,h3⟩;cases es with
 |nil=>
  simp only [Instr.findAsking,Sem.run_pure] at h1;rw [←h1];simp [Instr.findKey,run_underlying hk,Instr.findNow,Result.andThen]
 |cons e es=>simp [Instr.findKey,run_underlying hk,Instr.findNow,Instr.sameNow,Result.andThen,h1]
theorem O2(hu:P.underlying mt=some (.map kt et))(hk:P.underlying kt=some (.struct fs))(heq:∀(x y:Int×Int×Int) (W:World),(Op.equal kt (G2 x) (G2 y)).run P W= .ok (decide (x=y)) W)
  (hck:∀(x:Int×Int×Int) (e:Bool) (W:World),(Instr.checkKey e 10000 kt (G2 x)).run P W= .ok () W) (hz:∀W,(zeroValue et).run P W= .ok (.bool false) W)
  (b:Nat) (l:List (Int×Int×Int)) (x:Int×Int×Int) (W:World) (h:Js W b l):(Instr.lookup mt (.map (some b)) (G2 x) false).run P W= .ok (.bool (decide (x∈l))) W:=by
 obtain⟨c,k,a,h1,h2⟩:=h;obtain⟨r,h3,d,f⟩:=aH hk heq x W l c.toList h1 h2;rw [←d];cases r with
 |none=>
  simp only [Instr.lookup,Sem.run_bind,run_underlying hu,Result.andThen_ok,MapKept.run_getObj_map a,hck,h3,hz,Sem.run_pure];rfl
 |some p=>
  obtain⟨i,u⟩:=p;obtain rfl:u= .bool true:=f _ rfl;simp only [Instr.lookup,Sem.run_bind,run_underlying hu,Result.andThen_ok,MapKept.run_getObj_map a,hck,h3,Sem.run_pure];rfl
theorem fJ(hu:P.underlying mt=some (.map kt et))(hk:P.underlying kt=some (.struct fs))(heq:∀(x y:Int×Int×Int) (W:World),(Op.equal kt (G2 x) (G2 y)).run P W= .ok (decide (x=y)) W)
  (hck:∀(x:Int×Int×Int) (e:Bool) (W:World),(Instr.checkKey e 10000 kt (G2 x)).run P W= .ok () W)
  (b:Nat) (l:List (Int×Int×Int)) (x:Int×Int×Int) (W:World) (h:Js W b l) (hx:x∉l):
  ∃W',(Instr.mapUpdate mt (.map (some b)) (G2 x) (.bool true)).run P W= .ok () W'∧Js W' b (l++ [x])∧Fr (fun k=>k=b) W W'∧W'.heap.size=W.heap.size:=by
 obtain⟨c,k,d,h1,h2⟩:=h;obtain⟨r,h3,h4,_⟩:=aH hk heq x W l c.toList h1 h2;rw [decide_eq_false hx] at h4;obtain rfl:r=none:=by cases r;rfl;cases h4
 have f:=MapKept.heap_set (w:=W) (o':= .map (c.push { key:=G2 x,val:= .bool true,born:=k}) (k+1)) d;refine⟨{ W with heap:=W.heap.setIfInBounds b (.map (c.push { key:=G2 x,val:= .bool true,born:=k}) (k+1))},?_,⟨_,_,f.1,?_,?_⟩,⟨rfl,rfl,rfl,by simp,fun i hi hne=>f.2 i hne⟩,by simp⟩
 ·simp only [Instr.mapUpdate,Sem.run_bind,run_underlying hu,Result.andThen_ok,MapKept.run_getObj_map d,hck,h3,MapKept.run_setObj_map _ d]
 ·simp [h1]
 ·intro y a;simp only [Array.toList_push,List.mem_append,List.mem_singleton] at a;rcases a with a|rfl
  ·exact h2 y a
  ·rfl
end
end Go.Acc
namespace Go.Proofs.YtejpbijeifjdeaaGreat
open Go.RowKit Go.Acc
variable {w w':World}{l:List UInt8}{p q t v er a:Int}{B g n c i:Nat}
theorem Y5:∀(x y:Int×Int×Int) (W:World),(Op.equal 115 (G2 x) (G2 y)).run Ad W= .ok (decide (x=y)) W:=by
 rintro⟨a,b,c⟩ ⟨a',b',c'⟩ W;by_cases h1:a=a' <;>by_cases h2:b=b' <;>by_cases h3:c=c' <;>(simp only [G2];(change (Op.equalIn 10000 _ _ _).run Ad W=_);go_simp)
theorem Y4:∀(x:Int×Int×Int) (e:Bool) (W:World),(Instr.checkKey e 10000 115 (G2 x)).run Ad W= .ok () W:=by
 rintro⟨a,b,c⟩ e W
 kernel_rfl
theorem O3:∀W:World,(zeroValue 4).run Ad W= .ok (.bool false) W:=by
 intro W;go_simp
end Go.Proofs.YtejpbijeifjdeaaGreat
