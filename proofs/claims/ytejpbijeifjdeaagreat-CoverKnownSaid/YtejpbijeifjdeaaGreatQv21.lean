/- Parts of the proof. -/
import Derived.Test.YtejpbijeifjdeaaGreatQv20
import Derived.ScopeJumps
import Derived.WalkMore
import Derived.Deep.DeepCutAuto
set_option maxHeartbeats 2000000
set_option maxRecDepth 100000
open Go.Value renaming int→Aa
open Go.IntKind renaming i64→Ab
open Nat renaming le_refl→Ae,le_succ→Aj
open Go.RowKit.Below renaming refl→Af
open Go.Instr renaming mapUpdate→As
open Go.Proofs.Tryz
open Go.Proofs.Tryz renaming prog→Ad
namespace Go.Proofs.YtejpbijeifjdeaaGreat
open Go.RowKit Go.Acc
variable {w w':World}{l:List UInt8}{p q t v er a:Int}{B g n c i:Nat}
def kyU(l:List UInt8)(p q t v:Int):Nat:=loadU l ((lsFrom l p q t v:Int)+v) v
def J8(l:List UInt8)(p q t v:Int):Int:=
 if Cc l.length p q t v≠0 then Cc l.length p q t v else if t≠9 then 60 else if Cp l p q t v≠0 then Cp l p q t v else if Br (kyU l p q t v:Int)=false then 212 else 0
def Vc(l:List UInt8)(p q t v:Int):Int:=if J8 l p q t v=0 then lsFrom l p q t v else 0
def Vd(l:List UInt8)(p q t v:Int):Int:=if J8 l p q t v=0 then v else 0
def Yf(l:List UInt8)(p q t v:Int):Int:=if J8 l p q t v=0 then 14 else 0
def Yg(l:List UInt8)(p q t v:Int):Int:=if J8 l p q t v=0 then kyU l p q t v else 0
def fE(w:World)(l:List UInt8)(p q t v:Int)(e:Ending)(w':World):Prop:=
 e= .returned (.tuple #[.agg #[Aa Ab (Vc l p q t v),Aa Ab (Vd l p q t v),Aa Ab (Yf l p q t v),Aa Ab (Yg l p q t v)],Aa Ab (J8 l p q t v)])∧Below w.heap.size w w'
theorem Jn(h:J8 l p q t v=er)(hne:er≠0)(hb:Below w.heap.size w w'):fE w l p q t v (.returned (.tuple #[.agg (Ab9 0 0 0 0),Aa Ab er])) w':=by
 unfold fE Vc Vd Yf Yg;rw [h,if_neg hne,if_neg hne,if_neg hne,if_neg hne];exact⟨rfl,hb⟩
theorem J9{b g:Int}(h:J8 l p q t v=0)(h1:(lsFrom l p q t v:Int)=a)(h2:v=b)(h3:(kyU l p q t v:Int)=g)(hb:Below w.heap.size w w'):fE w l p q t v (.returned (.tuple #[.agg (Ab9 a b 14 g),Aa Ab 0])) w':=by
 unfold fE Vc Vd Yf Yg;rw [h,if_pos rfl,if_pos rfl,if_pos rfl,if_pos rfl,h1,h3,←h2];exact⟨rfl,hb⟩
theorem Tw(l:List UInt8)(p q t v:Int):(Cc l.length p q t v≠0∧J8 l p q t v=Cc l.length p q t v)∨(Cc l.length p q t v=0∧((t≠9∧J8 l p q t v=60)∨(t=9∧
  ((Cp l p q t v≠0∧J8 l p q t v=Cp l p q t v)∨(Cp l p q t v=0∧((Br (kyU l p q t v:Int)=false∧J8 l p q t v=212)∨(Br (kyU l p q t v:Int)=true∧J8 l p q t v=0))))))):=by
 unfold J8;by_cases h1:Cc l.length p q t v=0
 ·refine .inr ⟨h1,?_⟩;rw [if_neg (by simpa using h1)];by_cases h2:t=9
  ·refine .inr ⟨h2,?_⟩;rw [if_neg (by simpa using h2)];by_cases h3:Cp l p q t v=0
   ·refine .inr ⟨h3,?_⟩;rw [if_neg (by simpa using h3)];cases h4:Br (kyU l p q t v:Int) with
    |false=>exact .inl ⟨rfl,if_pos rfl⟩
    |true=>exact .inr ⟨rfl,if_neg (by decide)⟩
   ·rw [if_pos h3];exact .inl ⟨h3,rfl⟩
  ·rw [if_pos h2];exact .inl ⟨h2,rfl⟩
 ·rw [if_pos h1];exact .inl ⟨h1,rfl⟩
theorem wH(l:List UInt8)(a x:Int):(loadU l a x:Int)<18446744073709551616:=by
 unfold loadU;split
 ·rename_i h;have h1:=B6.1 h.1;have hl:=Py ((l.drop a.toNat).take x.toNat);have h8:((l.drop a.toNat).take x.toNat).length≤8:=by
   have:=List.length_take_le x.toNat (l.drop a.toNat);omega
  have:=Nat.pow_le_pow_right (n:=2) (by omega) (Nat.mul_le_mul_left 8 h8);omega
 ·omega
theorem jO(A:Option Addr)(n c:Nat)(p q t v:Int)(l:List UInt8)(w:World)(h:B4 w A n l)(hc:n≤c)(hn:n≤1099511627776):
  Calls Ad 93 #[.slice A n c,.agg (Ab9 p q t v)] w (fE w l p q t v):=by
 have S:=h.1;subst S;have i:=Hd ((h.alloc (.cells (Ab9 p q t v) 70)).alloc (.cells (Ab9 0 0 0 0) 70));have d:=Hd (((Af w.heap.size w).alloc (Ae _) (.cells (Ab9 p q t v) 70)).alloc (by simp) (.cells (Ab9 0 0 0 0) 70));have f:=Hd ((Bb.new w 70 (Ab9 p q t v)).alloc (.cells (Ab9 0 0 0 0) 70));have b:=Hd (Bb.new_ (w:=w.alloc (.cells (Ab9 p q t v) 70)) (g:=w.heap.size+1) (by simp) 70 (Ab9 0 0 0 0));have j:=Tw l p q t v;clear h;go_enter func93,ntmps93;go_wp2_with fail;go_at_call 148;refine(M9 A _ c p q t v _ (by omega)).mono ?_;generalize (w.alloc (.cells (Ab9 p q t v) 70)).alloc (.cells (Ab9 0 0 0 0) 70)=wB at i d f b⊢;obtain ⟨y,z,B,C⟩:=f.o.c4;rintro e w1 ⟨rfl,a⟩;clear y z B C;replace d:=Hd (A6 d.o a);replace f:=Hd (f.o.pure a);replace b:=Hd (b.o.pure a);replace i:=Hd (i.o.pure a);clear a;obtain ⟨y,z,B,C⟩:=f.o.c4;rcases j with⟨R,u⟩|⟨R,j⟩
 ·have D:=Hd u;have H:=Hd R;have P:(Cc l.length p q t v != 0)=true:=by simpa using R
  clear u R;obtain ⟨k,m,r,s⟩:=b.o.c4;obtain ⟨I,J,K,L⟩:=b.o.f4;go_wp2;refine bodyPost_ret (v:= .tuple #[.agg (Ab9 0 0 0 0),Aa Ab (Cc l.length p q t v)]) (by simp [results,results93,go_sem,k,m,r,s]) rfl ?_;exact Jn D.o H.o (B9 _ d.o (Aj _) _ _ _ _)
 ·rw [R];clear R;rcases j with⟨h9,u⟩|⟨rfl,j⟩
  ·have D:=Hd u;have H:=Hd (show(60:Int)≠0 by decide);have P:(t != 9)=true:=by simpa using h9
   clear u h9;obtain ⟨k,m,r,s⟩:=b.o.c4;obtain ⟨I,J,K,L⟩:=b.o.f4;go_wp2;refine bodyPost_ret (v:= .tuple #[.agg (Ab9 0 0 0 0),Aa Ab 60]) (by simp [results,results93,go_sem,k,m,r,s]) rfl ?_;exact Jn D.o H.o (B9 _ d.o (Aj _) _ _ _ _)
  ·have O:=Hd j;clear j;go_wp2_with fail;go_at_call 152;refine(Vl A _ c p q 9 v l _ i.o hc hn).mono ?_;rintro e w2 ⟨rfl,a⟩;clear y z B C;replace d:=Hd (A6 d.o a);replace f:=Hd (f.o.pure a);replace b:=Hd (b.o.pure a);replace i:=Hd (i.o.pure a);clear a;obtain ⟨y,z,B,C⟩:=f.o.c4;rcases O.o with⟨M,u⟩|⟨M,j⟩
   ·have D:=Hd u;have H:=Hd M;have P:(Cp l p q 9 v != 0)=true:=by simpa using M
    clear u M O;obtain ⟨k,m,r,s⟩:=b.o.c4;obtain ⟨I,J,K,L⟩:=b.o.f4;go_wp2;refine bodyPost_ret (v:= .tuple #[.agg (Ab9 0 0 0 0),Aa Ab (Cp l p q 9 v)]) (by simp [results,results93,go_sem,k,m,r,s]) rfl ?_;exact Jn D.o H.o (B9 _ d.o (Aj _) _ _ _ _)
   ·obtain⟨_,_,hW,_⟩:=Sf M;have hv:=B6.1 hW;rw [M];obtain⟨V,rfl⟩:∃V:Nat,v=V:=⟨v.toNat,by omega⟩;obtain⟨e1,e2,e3,_⟩:=Yj M;obtain⟨nf,G⟩:∃x,lsFrom l p q 9 V=x:=⟨_,rfl⟩;obtain⟨U,X⟩:∃U,kyU l p q 9 V=U:=⟨_,rfl⟩;have aa:nf≤1099511627776:=by omega
    have Q:=Hd (show loadU l ((nf:Int)+(V:Int)) V=U by rw [←X,←G];rfl);have E:=Hd X;have F:=Hd G;have ak:V≤8:=by omega
    rw [X] at j;rw [G];have N:=Hd j;clear j X G M e1 e2 e3 hv hW O;rcases N.o with⟨T,u⟩|⟨T,u⟩
    ·have D:=Hd u;have H:=Hd (show(212:Int)≠0 by decide);have ae:(U:Int)<18446744073709551616:=by rw [←Q.o];exact wH _ _ _
     have HW:=Hd T;clear u T N;go_wp2_with fail;go_at_call 149;refine(Ee A _ c ((nf:Int)+V) V l _ (Bz l.length ((nf:Int)+V) V) U i.o hc (by omega) rfl Q.o).mono ?_;rintro e Y ⟨rfl,a⟩;clear y z B C;replace d:=Hd (A6 d.o a);replace f:=Hd (f.o.pure a);replace b:=Hd (b.o.pure a);replace i:=Hd (i.o.pure a);clear a;obtain ⟨y,z,B,C⟩:=f.o.c4;go_wp2_with fail;go_at_call 32;refine(Iw ((U:Int) % 4294967296) _).mono ?_;cases hx:Br ((U:Int) % 4294967296) with
     |false=>
      rw [Zy hx];rintro e W ⟨rfl,rfl⟩;clear hx;obtain ⟨k,m,r,s⟩:=b.o.c4;obtain ⟨I,J,K,L⟩:=b.o.f4;go_wp2;refine bodyPost_ret (v:= .tuple #[.agg (Ab9 0 0 0 0),Aa Ab 212]) (by simp [results,results93,go_sem,k,m,r,s]) rfl ?_;exact Jn D.o H.o (B9 _ d.o (Aj _) _ _ _ _)
     |true=>
      rw [Xz hx];rintro e W ⟨rfl,rfl⟩;have hq:¬(U/4294967296=0):=by
       intro h0;have e:(U:Int) % 4294967296=U:=by omega
       rw [e,HW.o] at hx;cases hx
      have P:(((U:Int)/4294967296) != 0)=true:=by simpa using(show ¬((U:Int)/4294967296=0) by omega)
      clear hx hq;obtain ⟨k,m,r,s⟩:=b.o.c4;obtain ⟨I,J,K,L⟩:=b.o.f4;go_wp2;refine bodyPost_ret (v:= .tuple #[.agg (Ab9 0 0 0 0),Aa Ab 212]) (by simp [results,results93,go_sem,k,m,r,s]) rfl ?_;exact Jn D.o H.o (B9 _ d.o (Aj _) _ _ _ _)
    ·have ab:=B6.1 T;have D:=Hd u;clear u T N;have Z:U=1∨U=2∨U=4∨U=8:=by omega
     clear ab;rcases Z with rfl|rfl|rfl|rfl
     ·go_wp2_with fail;go_at_call 149;refine(Ee A _ c ((nf:Int)+V) V l _ (Bz l.length ((nf:Int)+V) V) 1 i.o hc (by omega) rfl Q.o).mono ?_;rintro e Y ⟨rfl,a⟩;clear y z B C;replace d:=Hd (A6 d.o a);replace f:=Hd (f.o.pure a);replace b:=Hd (b.o.pure a);replace i:=Hd (i.o.pure a);clear a;obtain ⟨y,z,B,C⟩:=f.o.c4;go_wp2_with fail;go_at_call 32;refine(Iw 1 _).mono ?_;rw [show Ko 1=0 by decide];rintro e W ⟨rfl,rfl⟩;obtain ⟨k,m,r,s⟩:=b.o.c4;obtain ⟨I,J,K,L⟩:=b.o.f4;go_wp2;refine bodyPost_ret (v:= .tuple #[.agg (Ab9 nf V 14 1),Aa Ab 0]) (by simp [results,results93,go_sem,k,m,r,s]) rfl ?_;exact J9 D.o (by rw [F.o]) rfl (by rw [E.o];rfl) (B9 _ d.o (Aj _) _ _ _ _)
     ·go_wp2_with fail;go_at_call 149;refine(Ee A _ c ((nf:Int)+V) V l _ (Bz l.length ((nf:Int)+V) V) 2 i.o hc (by omega) rfl Q.o).mono ?_;rintro e Y ⟨rfl,a⟩;clear y z B C;replace d:=Hd (A6 d.o a);replace f:=Hd (f.o.pure a);replace b:=Hd (b.o.pure a);replace i:=Hd (i.o.pure a);clear a;obtain ⟨y,z,B,C⟩:=f.o.c4;go_wp2_with fail;go_at_call 32;refine(Iw 2 _).mono ?_;rw [show Ko 2=0 by decide];rintro e W ⟨rfl,rfl⟩;obtain ⟨k,m,r,s⟩:=b.o.c4;obtain ⟨I,J,K,L⟩:=b.o.f4;go_wp2;refine bodyPost_ret (v:= .tuple #[.agg (Ab9 nf V 14 2),Aa Ab 0]) (by simp [results,results93,go_sem,k,m,r,s]) rfl ?_;exact J9 D.o (by rw [F.o]) rfl (by rw [E.o];rfl) (B9 _ d.o (Aj _) _ _ _ _)
     ·go_wp2_with fail;go_at_call 149;refine(Ee A _ c ((nf:Int)+V) V l _ (Bz l.length ((nf:Int)+V) V) 4 i.o hc (by omega) rfl Q.o).mono ?_;rintro e Y ⟨rfl,a⟩;clear y z B C;replace d:=Hd (A6 d.o a);replace f:=Hd (f.o.pure a);replace b:=Hd (b.o.pure a);replace i:=Hd (i.o.pure a);clear a;obtain ⟨y,z,B,C⟩:=f.o.c4;go_wp2_with fail;go_at_call 32;refine(Iw 4 _).mono ?_;rw [show Ko 4=0 by decide];rintro e W ⟨rfl,rfl⟩;obtain ⟨k,m,r,s⟩:=b.o.c4;obtain ⟨I,J,K,L⟩:=b.o.f4;go_wp2;refine bodyPost_ret (v:= .tuple #[.agg (Ab9 nf V 14 4),Aa Ab 0]) (by simp [results,results93,go_sem,k,m,r,s]) rfl ?_;exact J9 D.o (by rw [F.o]) rfl (by rw [E.o];rfl) (B9 _ d.o (Aj _) _ _ _ _)
     ·go_wp2_with fail;go_at_call 149;refine(Ee A _ c ((nf:Int)+V) V l _ (Bz l.length ((nf:Int)+V) V) 8 i.o hc (by omega) rfl Q.o).mono ?_;rintro e Y ⟨rfl,a⟩;clear y z B C;replace d:=Hd (A6 d.o a);replace f:=Hd (f.o.pure a);replace b:=Hd (b.o.pure a);replace i:=Hd (i.o.pure a);clear a;obtain ⟨y,z,B,C⟩:=f.o.c4;go_wp2_with fail;go_at_call 32;refine(Iw 8 _).mono ?_;rw [show Ko 8=0 by decide];rintro e W ⟨rfl,rfl⟩;obtain ⟨k,m,r,s⟩:=b.o.c4;obtain ⟨I,J,K,L⟩:=b.o.f4;go_wp2;refine bodyPost_ret (v:= .tuple #[.agg (Ab9 nf V 14 8),Aa Ab 0]) (by simp [results,results93,go_sem,k,m,r,s]) rfl ?_;exact J9 D.o (by rw [F.o]) rfl (by rw [E.o];rfl) (B9 _ d.o (Aj _) _ _ _ _)
theorem eP(A:Option Addr)(n c:Nat)(p q t v:Int)(l:List UInt8)(w:World)(h:B4 w A n l)(hn:n≤1099511627776):
  Calls Ad 102 #[.slice A n c,.agg (Ab9 p q t v)] w (fE w l p q t v):=by
 have R:=h.1;subst R;have i:=Hd ((h.alloc (.cells (Ab9 p q t v) 70)).alloc (.cells (Ab9 0 0 0 0) 70));have d:=Hd (((Af w.heap.size w).alloc (Ae _) (.cells (Ab9 p q t v) 70)).alloc (by simp) (.cells (Ab9 0 0 0 0) 70));have f:=Hd ((Bb.new w 70 (Ab9 p q t v)).alloc (.cells (Ab9 0 0 0 0) 70));have b:=Hd (Bb.new_ (w:=w.alloc (.cells (Ab9 p q t v) 70)) (g:=w.heap.size+1) (by simp) 70 (Ab9 0 0 0 0));have j:=Tw l p q t v;clear h;go_enter func102,ntmps102;go_wp2_with fail;go_at_call 179;refine(Lx A _ c p q t v _ (by omega)).mono ?_;generalize (w.alloc (.cells (Ab9 p q t v) 70)).alloc (.cells (Ab9 0 0 0 0) 70)=wB at i d f b⊢;obtain ⟨u,y,z,B⟩:=f.o.c4;rintro e w1 ⟨rfl,a⟩;clear u y z B;replace d:=Hd (A6 d.o a);replace f:=Hd (f.o.pure a);replace b:=Hd (b.o.pure a);replace i:=Hd (i.o.pure a);clear a;obtain ⟨u,y,z,B⟩:=f.o.c4;rcases j with⟨Q,C⟩|⟨Q,j⟩
 ·have D:=Hd C;have H:=Hd Q;have S:(Cc l.length p q t v != 0)=true:=by simpa using Q
  clear C Q;obtain ⟨k,m,r,s⟩:=b.o.c4;obtain ⟨I,J,K,L⟩:=b.o.f4;go_wp2;refine bodyPost_ret (v:= .tuple #[.agg (Ab9 0 0 0 0),Aa Ab (Cc l.length p q t v)]) (by simp [results,results102,go_sem,k,m,r,s]) rfl ?_;exact Jn D.o H.o (B9 _ d.o (Aj _) _ _ _ _)
 ·rw [Q];clear Q;rcases j with⟨h9,C⟩|⟨rfl,j⟩
  ·have D:=Hd C;have H:=Hd (show(60:Int)≠0 by decide);have S:(t != 9)=true:=by simpa using h9
   clear C h9;obtain ⟨k,m,r,s⟩:=b.o.c4;obtain ⟨I,J,K,L⟩:=b.o.f4;go_wp2;refine bodyPost_ret (v:= .tuple #[.agg (Ab9 0 0 0 0),Aa Ab 60]) (by simp [results,results102,go_sem,k,m,r,s]) rfl ?_;exact Jn D.o H.o (B9 _ d.o (Aj _) _ _ _ _)
  ·have O:=Hd j;clear j;go_wp2_with fail;go_at_call 182;refine(S2 A _ c p q 9 v l _ i.o hn).mono ?_;rintro e w2 ⟨rfl,a⟩;clear u y z B;replace d:=Hd (A6 d.o a);replace f:=Hd (f.o.pure a);replace b:=Hd (b.o.pure a);replace i:=Hd (i.o.pure a);clear a;obtain ⟨u,y,z,B⟩:=f.o.c4;rcases O.o with⟨M,C⟩|⟨M,j⟩
   ·have D:=Hd C;have H:=Hd M;have S:(Cp l p q 9 v != 0)=true:=by simpa using M
    clear C M O;obtain ⟨k,m,r,s⟩:=b.o.c4;obtain ⟨I,J,K,L⟩:=b.o.f4;go_wp2;refine bodyPost_ret (v:= .tuple #[.agg (Ab9 0 0 0 0),Aa Ab (Cp l p q 9 v)]) (by simp [results,results102,go_sem,k,m,r,s]) rfl ?_;exact Jn D.o H.o (B9 _ d.o (Aj _) _ _ _ _)
   ·obtain⟨_,_,hW,_⟩:=Sf M;have hv:=B6.1 hW;rw [M];obtain⟨V,rfl⟩:∃V:Nat,v=V:=⟨v.toNat,by omega⟩;obtain⟨e1,e2,e3,_⟩:=Yj M;obtain⟨nf,G⟩:∃x,lsFrom l p q 9 V=x:=⟨_,rfl⟩;obtain⟨U,X⟩:∃U,kyU l p q 9 V=U:=⟨_,rfl⟩;have aa:nf≤1099511627776:=by omega
    have P:=Hd (show loadU l ((nf:Int)+(V:Int)) V=U by rw [←X,←G];rfl);have E:=Hd X;have F:=Hd G;have ak:V≤8:=by omega
    rw [X] at j;rw [G];have N:=Hd j;clear j X G M e1 e2 e3 hv hW O;rcases N.o with⟨T,C⟩|⟨T,C⟩
    ·have D:=Hd C;have H:=Hd (show(212:Int)≠0 by decide);have HW:=Hd T;clear C T N;by_cases h8:8<U
     ·have hd:decide ((8:Int)<(U:Int))=true:=decide_eq_true (by omega);clear h8;go_wp2_with fail;go_at_call 176;refine(Ea A _ c ((nf:Int)+V) V l _ (Bz l.length ((nf:Int)+V) V) U i.o (by omega) rfl P.o).mono ?_;rintro e W ⟨rfl,a⟩;clear u y z B;replace d:=Hd (A6 d.o a);replace f:=Hd (f.o.pure a);replace b:=Hd (b.o.pure a);replace i:=Hd (i.o.pure a);clear a;obtain ⟨u,y,z,B⟩:=f.o.c4;obtain ⟨k,m,r,s⟩:=b.o.c4;obtain ⟨I,J,K,L⟩:=b.o.f4;go_wp2;refine bodyPost_ret (v:= .tuple #[.agg (Ab9 0 0 0 0),Aa Ab 212]) (by simp [results,results102,go_sem,k,m,r,s]) rfl ?_;exact Jn D.o H.o (B9 _ d.o (Aj _) _ _ _ _)
     ·have hd:decide ((8:Int)<(U:Int))=false:=decide_eq_false (by omega);go_wp2_with fail;go_at_call 176;refine(Ea A _ c ((nf:Int)+V) V l _ (Bz l.length ((nf:Int)+V) V) U i.o (by omega) rfl P.o).mono ?_;rintro e W ⟨rfl,a⟩;clear u y z B;replace d:=Hd (A6 d.o a);replace f:=Hd (f.o.pure a);replace b:=Hd (b.o.pure a);replace i:=Hd (i.o.pure a);clear a;obtain ⟨u,y,z,B⟩:=f.o.c4;go_wp2_with fail;go_at_call 95;refine(E4 U _).mono ?_;rw [HW.o];rintro e Y ⟨rfl,rfl⟩;obtain ⟨k,m,r,s⟩:=b.o.c4;obtain ⟨I,J,K,L⟩:=b.o.f4;go_wp2;refine bodyPost_ret (v:= .tuple #[.agg (Ab9 0 0 0 0),Aa Ab 212]) (by simp [results,results102,go_sem,k,m,r,s]) rfl ?_;exact Jn D.o H.o (B9 _ d.o (Aj _) _ _ _ _)
    ·have ab:=B6.1 T;have D:=Hd C;clear C T N;have Z:U=1∨U=2∨U=4∨U=8:=by omega
     clear ab;rcases Z with rfl|rfl|rfl|rfl
     ·go_wp2_with fail;go_at_call 176;refine(Ea A _ c ((nf:Int)+V) V l _ (Bz l.length ((nf:Int)+V) V) 1 i.o (by omega) rfl P.o).mono ?_;rintro e W ⟨rfl,a⟩;clear u y z B;replace d:=Hd (A6 d.o a);replace f:=Hd (f.o.pure a);replace b:=Hd (b.o.pure a);replace i:=Hd (i.o.pure a);clear a;obtain ⟨u,y,z,B⟩:=f.o.c4;go_wp2_with fail;go_at_call 95;refine(E4 1 _).mono ?_;rw [show Br 1=true by decide];rintro e Y ⟨rfl,rfl⟩;obtain ⟨k,m,r,s⟩:=b.o.c4;obtain ⟨I,J,K,L⟩:=b.o.f4;go_wp2;refine bodyPost_ret (v:= .tuple #[.agg (Ab9 nf V 14 1),Aa Ab 0]) (by simp [results,results102,go_sem,k,m,r,s]) rfl ?_;exact J9 D.o (by rw [F.o]) rfl (by rw [E.o];rfl) (B9 _ d.o (Aj _) _ _ _ _)
     ·go_wp2_with fail;go_at_call 176;refine(Ea A _ c ((nf:Int)+V) V l _ (Bz l.length ((nf:Int)+V) V) 2 i.o (by omega) rfl P.o).mono ?_;rintro e W ⟨rfl,a⟩;clear u y z B;replace d:=Hd (A6 d.o a);replace f:=Hd (f.o.pure a);replace b:=Hd (b.o.pure a);replace i:=Hd (i.o.pure a);clear a;obtain ⟨u,y,z,B⟩:=f.o.c4;go_wp2_with fail;go_at_call 95;refine(E4 2 _).mono ?_;rw [show Br 2=true by decide];rintro e Y ⟨rfl,rfl⟩;obtain ⟨k,m,r,s⟩:=b.o.c4;obtain ⟨I,J,K,L⟩:=b.o.f4;go_wp2;refine bodyPost_ret (v:= .tuple #[.agg (Ab9 nf V 14 2),Aa Ab 0]) (by simp [results,results102,go_sem,k,m,r,s]) rfl ?_;exact J9 D.o (by rw [F.o]) rfl (by rw [E.o];rfl) (B9 _ d.o (Aj _) _ _ _ _)
     ·go_wp2_with fail;go_at_call 176;refine(Ea A _ c ((nf:Int)+V) V l _ (Bz l.length ((nf:Int)+V) V) 4 i.o (by omega) rfl P.o).mono ?_;rintro e W ⟨rfl,a⟩;clear u y z B;replace d:=Hd (A6 d.o a);replace f:=Hd (f.o.pure a);replace b:=Hd (b.o.pure a);replace i:=Hd (i.o.pure a);clear a;obtain ⟨u,y,z,B⟩:=f.o.c4;go_wp2_with fail;go_at_call 95;refine(E4 4 _).mono ?_;rw [show Br 4=true by decide];rintro e Y ⟨rfl,rfl⟩;obtain ⟨k,m,r,s⟩:=b.o.c4;obtain ⟨I,J,K,L⟩:=b.o.f4;go_wp2;refine bodyPost_ret (v:= .tuple #[.agg (Ab9 nf V 14 4),Aa Ab 0]) (by simp [results,results102,go_sem,k,m,r,s]) rfl ?_;exact J9 D.o (by rw [F.o]) rfl (by rw [E.o];rfl) (B9 _ d.o (Aj _) _ _ _ _)
     ·go_wp2_with fail;go_at_call 176;refine(Ea A _ c ((nf:Int)+V) V l _ (Bz l.length ((nf:Int)+V) V) 8 i.o (by omega) rfl P.o).mono ?_;rintro e W ⟨rfl,a⟩;clear u y z B;replace d:=Hd (A6 d.o a);replace f:=Hd (f.o.pure a);replace b:=Hd (b.o.pure a);replace i:=Hd (i.o.pure a);clear a;obtain ⟨u,y,z,B⟩:=f.o.c4;go_wp2_with fail;go_at_call 95;refine(E4 8 _).mono ?_;rw [show Br 8=true by decide];rintro e Y ⟨rfl,rfl⟩;obtain ⟨k,m,r,s⟩:=b.o.c4;obtain ⟨I,J,K,L⟩:=b.o.f4;go_wp2;refine bodyPost_ret (v:= .tuple #[.agg (Ab9 nf V 14 8),Aa Ab 0]) (by simp [results,results102,go_sem,k,m,r,s]) rfl ?_;exact J9 D.o (by rw [F.o]) rfl (by rw [E.o];rfl) (B9 _ d.o (Aj _) _ _ _ _)
theorem Nc(h:Gp w B (some ⟨g,0,none⟩) n c l)(hi:i<n)(b:UInt8):
  (w.frozen? ⟨g,i,none⟩=false∧∃u,w.cell? ⟨g,i,none⟩=some u)∧Gp (w.setCell ⟨g,i,none⟩ (.int .u8 (b.toNat:Int))) B (some ⟨g,0,none⟩) n c (l.take i++ [b]++l.drop (i+1)):=by
 obtain⟨d,e,f,a⟩:=gA h;refine⟨⟨e.frozen i,_,(e.cell i).trans (Array.getElem?_eq_getElem (by omega))⟩,a _ _ i 1 [b] (e.set_ i _) ?_ rfl (by omega)⟩;have:=(Lq.zero d i ([b].flatMap bc)).step (v:= .int .u8 (b.toNat:Int)) rfl (by omega);exact this
theorem bQ{A:Option Addr}(h:Gp w B A n c l)(hn:0<n):∃g,A=some ⟨g,0,none⟩∧B≤g:=by
 cases A with
 |none=>exact absurd (h.is.none_ C0 (by omega)).2 (by omega)
 |some ad=>
  obtain⟨h1,h2,_⟩:=h.addr ad rfl;exact⟨ad.block,by rw [h1],h2⟩
theorem aF(A:Option Addr)(n c:Nat)(p q t v a b d g er:Int)(l:List UInt8)(w:World)(h:B4 w A n l)(hc:n≤c)(hn:n≤1099511627776)(h1:Vc l p q t v=a)(h2:Vd l p q t v=b)(h3:Yf l p q t v=d)(h4:Yg l p q t v=g)(h5:J8 l p q t v=er):
  Calls Ad 93 #[.slice A n c,.agg (Ab9 p q t v)] w (Ab5 (.tuple #[.agg (Ab9 a b d g),Aa Ab er]) w):=by
 subst h1 h2 h3 h4 h5;exact jO A n c p q t v l w h hc hn
theorem Yr(A:Option Addr)(n c:Nat)(p q t v a b d g er:Int)(l:List UInt8)(w:World)(h:B4 w A n l)(hn:n≤1099511627776)(h1:Vc l p q t v=a)(h2:Vd l p q t v=b)(h3:Yf l p q t v=d)(h4:Yg l p q t v=g)(h5:J8 l p q t v=er):
  Calls Ad 102 #[.slice A n c,.agg (Ab9 p q t v)] w (Ab5 (.tuple #[.agg (Ab9 a b d g),Aa Ab er]) w):=by
 subst h1 h2 h3 h4 h5;exact eP A n c p q t v l w h hn
theorem Sg{g' j:Nat}{u v:Value}(h:w.cell? ⟨g,i,none⟩=some v)(hne:g≠g'):(w.setCell ⟨g',j,none⟩ u).cell? ⟨g,i,none⟩=some v:=Tz h hne
theorem L0(h:B8 l p q t v=0):0≤By l p q t v∧By l p q t v≤l.length:=by
 have a:Cc l.length p q t v=0:=by
  by_cases e:Cc l.length p q t v=0
  ·exact e
  ·rw [Ld e] at h;exact absurd h e
 obtain⟨_,h2⟩:=Dy.1 a;obtain⟨h1,_⟩:=Dy.1 a;have h2:=Em.1 h2;have h1:=Cz.1 h1;have c:=B6.1 h1.2.1;unfold B8 at h;rw [if_pos a] at h;unfold By;have b:B8 l p q t v=0:=by unfold B8;rw [if_pos a];exact h
 rw [if_pos b];split at h
 ·cases h
 ·split at h
  ·cases h
  ·omega
def M0(t:Int):Bool:=(cI t).isSome
theorem Yc(h:Bt t=true):M0 t=true:=by
 have:=Hv (Rk h);revert h;refine Lb (p:=fun t=>Bt t=true→M0 t=true) ?_ this;decide
theorem cJ(h:M0 t=true):t=0∨t=1∨t=2∨t=6∨t=7∨t=26:=by
 unfold M0 cI at h;split at h <;>try omega
 split at h <;>try omega
 split at h <;>try omega
 split at h <;>try omega
 cases h
def Gu(l:List UInt8)(p q t v:Int):Int:=
 if Cc l.length p q t v≠0 then Cc l.length p q t v
 else if M0 t=false then 60
 else if Bt t=true then 0
 else if B8 l p q t v≠0 then B8 l p q t v
 else if By l p q t v % v≠0 then 212
 else if Gz l.length (By l p q t v) v=false then 211 else 0
def Hr(l:List UInt8)(p q t v:Int):Int:=if Gu l p q t v=0 then(if Bt t=true then p else By l p q t v) else 0
def Jl(l:List UInt8)(p q t v:Int):Int:=if Gu l p q t v=0 then(if Bt t=true then q else v) else 0
def Wg(w:World)(l:List UInt8)(p q t v:Int)(e:Ending)(w':World):Prop:=
 e= .returned (.tuple #[Aa Ab (Hr l p q t v),Aa Ab (Jl l p q t v),Aa Ab (Gu l p q t v)])∧Below w.heap.size w w'
theorem Il(h:Gu l p q t v=er)(hne:er≠0)(hb:Below w.heap.size w w'):Wg w l p q t v (.returned (.tuple #[Aa Ab 0,Aa Ab 0,Aa Ab er])) w':=by
 unfold Wg Hr Jl;rw [h,if_neg hne,if_neg hne];exact⟨rfl,hb⟩
theorem Qe{x:Int}(h:Gu l p q t v=0)(ha:(if Bt t=true then p else By l p q t v)=a)(hx:(if Bt t=true then q else v)=x)(hb:Below w.heap.size w w'):Wg w l p q t v (.returned (.tuple #[Aa Ab a,Aa Ab x,Aa Ab 0])) w':=by
 unfold Wg Hr Jl;rw [h,if_pos rfl,if_pos rfl,ha,hx];exact⟨rfl,hb⟩
theorem N1(l:List UInt8)(p q t v:Int):(Cc l.length p q t v≠0∧Gu l p q t v=Cc l.length p q t v)∨(Cc l.length p q t v=0∧
  ((M0 t=false∧Gu l p q t v=60)∨(M0 t=true∧Bt t=true∧Gu l p q t v=0)∨(M0 t=true∧Bt t=false∧
   ((B8 l p q t v≠0∧Gu l p q t v=B8 l p q t v)∨(B8 l p q t v=0∧By l p q t v % v≠0∧Gu l p q t v=212)∨(B8 l p q t v=0∧By l p q t v % v=0∧Gz l.length (By l p q t v) v=false∧Gu l p q t v=211)∨
    (B8 l p q t v=0∧By l p q t v % v=0∧Gz l.length (By l p q t v) v=true∧Gu l p q t v=0))))):=by
 unfold Gu;by_cases h1:Cc l.length p q t v=0
 ·refine .inr ⟨h1,?_⟩;rw [if_neg (by simpa using h1)];cases h2:M0 t with
  |false=>exact .inl ⟨rfl,if_pos rfl⟩
  |true=>
   rw [if_neg (by decide)];cases h3:Bt t with
   |true=>exact .inr (.inl ⟨rfl,rfl,if_pos rfl⟩)
   |false=>
    refine .inr (.inr ⟨rfl,rfl,?_⟩);rw [if_neg (by decide)];by_cases a:B8 l p q t v=0
    ·rw [if_neg (by simpa using a)];by_cases b:By l p q t v % v=0
     ·rw [if_neg (by simpa using b)];cases h6:Gz l.length (By l p q t v) v with
      |false=>exact .inr (.inr (.inl ⟨a,b,rfl,if_pos rfl⟩))
      |true=>exact .inr (.inr (.inr ⟨a,b,rfl,if_neg (by decide)⟩))
     ·rw [if_pos b];exact .inr (.inl ⟨a,b,rfl⟩)
    ·rw [if_pos a];exact .inl ⟨a,rfl⟩
 ·rw [if_pos h1];exact .inl ⟨h1,rfl⟩
theorem rT{r:Option (Nat×Value)}(h:r.map (·.2)=cI t):r.isSome=M0 t:=by
 unfold M0;rw [←h];cases r <;>rfl
theorem xW:∀W:World,(zeroValue 274).run Ad W= .ok .nilFunc W:=by
 intro W
 kernel_rfl
theorem xB(t:Int)(W:World)(g:Nat)(hb:W.heap[g]?=some (.map cH 6)):
  (∀b,(Instr.lookup 276 (.map (some g)) (Aa Ab t) b).run Ad W= .ok (if b then .tuple #[(cI t).getD .nilFunc,.bool (M0 t)] else(cI t).getD .nilFunc) W):=by
 intro b;obtain⟨r,h1,h2⟩:=xA t;rw [Nk underlying276 underlying3 .nilFunc xW W cH 6 g t b r hb h1,h2,rT h2]
theorem eZ(A:Option Addr)(n c:Nat)(p q t v:Int)(l:List UInt8)(w:World)(h:B4 w A n l)(hc:n≤c)(hn:n≤9223372036854775807):
  Calls Ad 151 #[.slice A n c,.agg (Ab9 p q t v)] w (Wg w l p q t v):=by
 have K:=h.1;subst K;have r:=Hd (h.alloc (.cells (Ab9 p q t v) 70));have f:=Hd ((Af w.heap.size w).alloc (Ae _) (.cells (Ab9 p q t v) 70));have i:=Hd (Bb.new w 70 (Ab9 p q t v));have j:=N1 l p q t v;clear h;go_enter func151,ntmps151;go_wp2_with fail;go_at_call 148;refine(M9 A _ c p q t v _ hn).mono ?_;obtain ⟨x,y,m,z⟩:=i.o.c4;rintro e S ⟨rfl,b⟩;clear x y m z;replace f:=Hd (A6 f.o b);replace i:=Hd (i.o.pure b);replace r:=Hd (r.o.pure b);clear b;obtain ⟨x,y,m,z⟩:=i.o.c4;rcases j with⟨D,d⟩|⟨D,j⟩
 ·have k:=Hd d;have P:(Cc l.length p q t v != 0)=true:=by simpa using D
  have Q:=Hd D;clear d D;go_wp2;go_ret3;exact Il k.o Q.o f.o
 ·obtain⟨M,O⟩:=Dy.1 D;have O:=Em.1 O;have M:=Cz.1 M;have Z:=B6.1 M.2.2;rw [D];obtain⟨V,rfl⟩:∃V:Nat,v=V:=⟨v.toNat,by omega⟩;have W:1≤V:=by omega
  have X:V≤8:=by omega
  have Y:(V==0)=false:=beq_eq_false_iff_ne.mpr (by omega);clear M O Z;have B:=Hd j;have Q:=Hd D;clear j D;go_wp2_with fail;go_upto_region 4 with fail
  go_cut [8,9] (fun u8 u9 wx=>u9= .bool (M0 t)∧Below S.heap.size S wx)
  case first=>
   go_region_held3 (fun w'=>w'.cell? ⟨w.heap.size,2,none⟩=some (Aa Ab t)) (first|assumption|exact m|exact Ba H.o m)
    (first|(go_at_call 250;refine(cL _).mono ?_;rintro e w5 ⟨g,rfl,R,J⟩;have H:=Hd J;have U:=xB t w5 g R;clear J R))
   go_wp2_with fail;go_meet;exact⟨rfl,A6 (Af _ _).drew H.o⟩
  case rest=>
   obtain⟨rfl,b⟩:=hcut;clear x y m z;replace f:=Hd (A6 f.o b);replace i:=Hd (i.o.pure b);replace r:=Hd (r.o.pure b);clear b;obtain ⟨x,y,m,z⟩:=i.o.c4;rcases B.o with⟨h1,d⟩|⟨h1,h2,d⟩|⟨h1,h2,j⟩
   ·have k:=Hd d;rw [h1];clear d h1 B;go_wp2;go_ret3;exact Il k.o (by decide) f.o
   ·have k:=Hd d;have E:=Hd h2;rw [h1];clear d h1 B h2;go_wp2_with fail;go_at_call 78;refine(Cm t _).mono ?_;rw [E.o];rintro e w2 ⟨rfl,b⟩;clear x y m z;replace f:=Hd (A6 f.o b);replace i:=Hd (i.o.pure b);replace r:=Hd (r.o.pure b);clear b;obtain ⟨x,y,m,z⟩:=i.o.c4;go_wp2_with fail;go_quiet (fail);go_wp2;go_ret3;exact Qe k.o (if_pos E.o) (if_pos E.o) (below_drewN f.o _)
   ·have E:=Hd h2;have I:=Hd j;rw [h1];clear h1 B h2 j;go_wp2_with fail;go_at_call 78;refine(Cm t _).mono ?_;rw [E.o];rintro e w2 ⟨rfl,b⟩;clear x y m z;replace f:=Hd (A6 f.o b);replace i:=Hd (i.o.pure b);replace r:=Hd (r.o.pure b);clear b;obtain ⟨x,y,m,z⟩:=i.o.c4;go_wp2_with fail;go_at_call 79;refine(Lm A _ c p q t V l _ r.o hc hn).mono ?_;rintro e w3 ⟨rfl,b⟩;clear x y m z;replace f:=Hd (A6 f.o b);replace i:=Hd (i.o.pure b);replace r:=Hd (r.o.pure b);clear b;obtain ⟨x,y,m,z⟩:=i.o.c4;rcases I.o with⟨h1,d⟩|⟨h0,s,d⟩|⟨h0,s,G,d⟩|⟨h0,s,G,d⟩
    ·have P:(B8 l p q t V != 0)=true:=by simpa using h1
     have k:=Hd d;have T:=Hd h1;clear h1 d I;go_wp2;go_ret3;exact Il k.o T.o f.o
    ·have k:=Hd d;have u:=L0 h0;rw [h0];obtain⟨a,C⟩:∃a:Nat,By l p q t V=a:=⟨(By l p q t V).toNat,by omega⟩;rw [C] at s⊢;have L:((a:Int) % (V:Int) != 0)=true:=by simpa using s
     clear h0 s d I C u;go_wp2;go_ret3;exact Il k.o (by decide) f.o
    ·have k:=Hd d;have u:=L0 h0;rw [h0];obtain⟨a,C⟩:∃a:Nat,By l p q t V=a:=⟨(By l p q t V).toNat,by omega⟩;rw [C] at s G⊢;have L:((a:Int) % (V:Int) != 0)=false:=by simpa using s
     have F:=Hd G;clear h0 s G d I C u;go_wp2_with fail;go_at_call 246;refine(Hj A _ c a V _ hn).mono ?_;rw [F.o];rintro e w4 ⟨rfl,rfl⟩;go_wp2;go_ret3;exact Il k.o (by decide) f.o
    ·have k:=Hd d;have u:=L0 h0;rw [h0];obtain⟨a,C⟩:∃a:Nat,By l p q t V=a:=⟨(By l p q t V).toNat,by omega⟩;have N:=Hd C;rw [C] at s G⊢;have L:((a:Int) % (V:Int) != 0)=false:=by simpa using s
     have F:=Hd G;clear h0 s G d I C u;go_wp2_with fail;go_at_call 246;refine(Hj A _ c a V _ hn).mono ?_;rw [F.o];rintro e w4 ⟨rfl,rfl⟩;go_wp2_with fail;go_quiet (fail);go_wp2;go_ret3;exact Qe k.o (by rw [if_neg (by rw [E.o];decide)];exact N.o) (if_neg (by rw [E.o];decide)) (below_drewN f.o _)
theorem zI(h:M0 t=true)(hi:Bt t=false):t=6∨t=7:=by
 rcases cJ h with rfl|rfl|rfl|rfl|rfl|rfl
 ·exact absurd hi (by decide)
 ·exact absurd hi (by decide)
 ·exact absurd hi (by decide)
 ·exact .inl rfl
 ·exact .inr rfl
 ·exact absurd hi (by decide)
theorem zJ(h:M0 t=false):(t != 6)=true∧(t != 7)=true:=by
 constructor
 ·rw [bne_iff_ne];rintro rfl;exact absurd h (by decide)
 ·rw [bne_iff_ne];rintro rfl;exact absurd h (by decide)
theorem cQ(A:Option Addr)(n c:Nat)(p q t v:Int)(l:List UInt8)(w:World)(h:B4 w A n l)(hn:n≤9223372036854775807):
  Calls Ad 166 #[.slice A n c,.agg (Ab9 p q t v)] w (Wg w l p q t v):=by
 have F:=h.1;subst F;have B:=Hd (h.alloc (.cells (Ab9 p q t v) 70));have g:=Hd ((Af w.heap.size w).alloc (Ae _) (.cells (Ab9 p q t v) 70));have x:=Hd (Bb.new w 70 (Ab9 p q t v));have d:=N1 l p q t v;clear h;go_enter func166,ntmps166;go_wp2_with fail;go_at_call 179;refine(Lx A _ c p q t v _ hn).mono ?_;obtain ⟨I,J,K,L⟩:=x.o.c4;rintro e Z ⟨rfl,r⟩;clear I J K L;replace g:=Hd (A6 g.o r);replace x:=Hd (x.o.pure r);replace B:=Hd (B.o.pure r);clear r;obtain ⟨I,J,K,L⟩:=x.o.c4;rcases d with⟨s,b⟩|⟨s,d⟩
 ·have f:=Hd b;have O:(Cc l.length p q t v != 0)=true:=by simpa using s
  have P:=Hd s;clear b s;go_wp2;go_ret3;exact Il f.o P.o g.o
 ·obtain⟨H,N⟩:=Dy.1 s;have N:=Em.1 N;have H:=Cz.1 H;have X:=B6.1 H.2.2;rw [s];obtain⟨V,rfl⟩:∃V:Nat,v=V:=⟨v.toNat,by omega⟩;have S:1≤V:=by omega
  have T:V≤8:=by omega
  have U:(V==0)=false:=beq_eq_false_iff_ne.mpr (by omega);clear H N X;have k:=Hd d;have P:=Hd s;clear d s;go_wp2_with fail;go_at_call 97;refine(Ni t _).mono ?_;rintro e w2 ⟨rfl,rfl⟩;rcases k.o with⟨h1,b⟩|⟨h1,h2,b⟩|⟨h1,h2,d⟩
  ·have f:=Hd b;have hi:Bt t=false:=by
    cases hi:Bt t with
    |false=>rfl
    |true=>exact absurd (Yc hi) (by rw [h1];decide)
   obtain⟨Q,W⟩:=zJ h1;rw [hi];clear b h1 k hi;go_wp2;go_ret3;exact Il f.o (by decide) g.o
  ·have f:=Hd b;have z:=Hd h2;rw [h2];clear b h1 k h2;go_wp2_with fail;go_quiet (fail);go_wp2;go_ret3;exact Qe f.o (if_pos z.o) (if_pos z.o) (below_drewN g.o _)
  ·have z:=Hd h2;have C:=Hd d;have D:=zI h1 h2;have E:((t != 6)=false)∨((t != 6)=true∧(t != 7)=false):=by
    rcases D with rfl|rfl
    ·exact .inl rfl
    ·exact .inr ⟨rfl,rfl⟩
   rw [h2];clear h1 k h2 d D;rcases E with Q|⟨Q,W⟩
   all_goals
    go_wp2_with fail;go_at_call 99;refine(Fj A _ c p q t V l _ B.o hn).mono ?_;rintro e w3 ⟨rfl,r⟩;clear I J K L;replace g:=Hd (A6 g.o r);replace x:=Hd (x.o.pure r);replace B:=Hd (B.o.pure r);clear r;obtain ⟨I,J,K,L⟩:=x.o.c4;rcases C.o with⟨h1,b⟩|⟨h0,i,b⟩|⟨h0,i,y,b⟩|⟨h0,i,y,b⟩
    ·have O:(B8 l p q t V != 0)=true:=by simpa using h1
     have f:=Hd b;have R:=Hd h1;clear h1 b C;go_wp2;go_ret3;exact Il f.o R.o g.o
    ·have f:=Hd b;have j:=L0 h0;rw [h0];obtain⟨a,m⟩:∃a:Nat,By l p q t V=a:=⟨(By l p q t V).toNat,by omega⟩;rw [m] at i⊢;have G:((a:Int) % (V:Int) != 0)=true:=by simpa using i
     clear h0 i b C m j;go_wp2;go_ret3;exact Il f.o (by decide) g.o
    ·have f:=Hd b;have j:=L0 h0;rw [h0];obtain⟨a,m⟩:∃a:Nat,By l p q t V=a:=⟨(By l p q t V).toNat,by omega⟩;rw [m] at i y⊢;have G:((a:Int) % (V:Int) != 0)=false:=by simpa using i
     have u:=Hd y;clear h0 i y b C m j;go_wp2_with fail;go_at_call 273;refine(Nj A _ c a V _ hn).mono ?_;rw [u.o];rintro e Y ⟨rfl,rfl⟩;go_wp2;go_ret3;exact Il f.o (by decide) g.o
    ·have f:=Hd b;have j:=L0 h0;rw [h0];obtain⟨a,m⟩:∃a:Nat,By l p q t V=a:=⟨(By l p q t V).toNat,by omega⟩;have M:=Hd m;rw [m] at i y⊢;have G:((a:Int) % (V:Int) != 0)=false:=by simpa using i
     have u:=Hd y;clear h0 i y b C m j;go_wp2_with fail;go_at_call 273;refine(Nj A _ c a V _ hn).mono ?_;rw [u.o];rintro e Y ⟨rfl,rfl⟩;go_wp2_with fail;go_quiet (fail);go_wp2;go_ret3;exact Qe f.o (by rw [if_neg (by rw [z.o];decide)];exact M.o) (if_neg (by rw [z.o];decide)) (below_drewN g.o _)
theorem zW(A:Option Addr)(n c:Nat)(p q t v:Int)(l:List UInt8)(a x er:Int)(w:World)(h:B4 w A n l)(hc:n≤c)(hn:n≤9223372036854775807)(h0:Hr l p q t v=a)(h1:Jl l p q t v=x)(h2:Gu l p q t v=er):
  Calls Ad 151 #[.slice A n c,.agg (Ab9 p q t v)] w (Ab5 (.tuple #[Aa Ab a,Aa Ab x,Aa Ab er]) w):=by
 subst h0 h1 h2;exact eZ A n c p q t v l w h hc hn
structure Rq where
 p:Int
 q:Int
 t:Int
 v:Int
abbrev P3:=Int×Int×Int
structure Bj where
 left:Int
 had:List P3
 o:List P3
def Ej(t:Int):Int:=if t=0 then 1 else if t=1 then 2 else if t=2 then 3 else if t=26 then 4 else 5
def Bj.tell(s:Bj)(a b c:Int):Bj:=if a<b then { s with o:=s.o++ [(a,b,c)]} else s
def Bj.burn(s:Bj):Bj:={ s with left:=s.left-1}
def Bj.see(s:Bj)(x:P3):Bj:={ s with had:=s.had++ [x]}
section
variable (l:List UInt8) (go:Rq→Bj→Bj×Int) (r:Rq)
def Cn(s:Bj):Bj×Int:=
 if C4 l r.p r.q r.t r.v [4,5,25]≠0 then(s,C4 l r.p r.q r.t r.v [4,5,25])
 else if r.t=4 then(s.tell (C6 l r.p r.q r.t r.v [4,5,25]) (C6 l r.p r.q r.t r.v [4,5,25]+(Eo l r.p r.q r.t r.v [4,5,25]).length+1) 9,0)
 else if r.t=5 then((s.tell (C6 l r.p r.q r.t r.v [4,5,25]-r.v) (C6 l r.p r.q r.t r.v [4,5,25]) 6).tell (C6 l r.p r.q r.t r.v [4,5,25]) (C6 l r.p r.q r.t r.v [4,5,25]+(Eo l r.p r.q r.t r.v [4,5,25]).length+1) 10,0)
 else((s.tell (C6 l r.p r.q r.t r.v [4,5,25]-r.v) (C6 l r.p r.q r.t r.v [4,5,25]) 6).tell (C6 l r.p r.q r.t r.v [4,5,25]) (C6 l r.p r.q r.t r.v [4,5,25]+(Eo l r.p r.q r.t r.v [4,5,25]).length) 11,0)
def Ct(s:Bj):Bj×Int:=
 if Gu l r.p r.q r.t r.v=0 then(s.tell (Hr l r.p r.q r.t r.v) (Hr l r.p r.q r.t r.v+Jl l r.p r.q r.t r.v) (if r.t=6 then 12 else 13),0)
 else(s,Gu l r.p r.q r.t r.v)
def Gf:Rq:=⟨Vc l r.p r.q r.t r.v,Vd l r.p r.q r.t r.v,Yf l r.p r.q r.t r.v,Yg l r.p r.q r.t r.v⟩
def G0(i:Nat):Rq:=⟨Q4 l r.p r.q r.t r.v i,Q5 l r.p r.q r.t r.v i,Sp l r.p r.q r.t r.v i,Sq l r.p r.q r.t r.v i⟩
def Fe(s:Bj):Bj×Int:=
 if J8 l r.p r.q r.t r.v≠0 then(s,J8 l r.p r.q r.t r.v)
 else if(go (Gf l r) s).2≠0 then go (Gf l r) s
 else((go (Gf l r) s).1.tell (lsFrom l r.p r.q r.t r.v+r.v) (lsFrom l r.p r.q r.t r.v+2*r.v) 7,0)
def D6(i:Nat)(s:Bj):Bj:=
 if Dk r.t=true then s.tell ((lsAt l r.p r.q r.t r.v:Int)+lsLen l r.p r.q r.t r.v*r.v+i) ((lsAt l r.p r.q r.t r.v:Int)+lsLen l r.p r.q r.t r.v*r.v+i+1) 8 else s
def Du:Nat→Nat→Bj→Bj×Int
 |0,_,s=>(s,0)
 |k+1,i,s=>
  if Fz l r.p r.q r.t r.v i≠0 then(D6 l r i s,Fz l r.p r.q r.t r.v i)
  else if(go (G0 l r i) (D6 l r i s)).2≠0 then go (G0 l r i) (D6 l r i s)
  else Du k (i+1) (go (G0 l r i) (D6 l r i s)).1
def Hl(s:Bj):Bj:=if lsFrom l r.p r.q r.t r.v<lsAt l r.p r.q r.t r.v then s.tell ((lsAt l r.p r.q r.t r.v:Int)-r.v) (lsAt l r.p r.q r.t r.v) 6 else s
def Eg(s:Bj):Bj×Int:=if r.t=9 then Fe l go r s else(s,0)
def Db(s:Bj):Bj×Int:=
 if Cp l r.p r.q r.t r.v≠0 then(s,Cp l r.p r.q r.t r.v)
 else if(Eg l go r s).2≠0 then Eg l go r s
 else Du l go r (lsLen l r.p r.q r.t r.v) 0 (Hl l r (Eg l go r s).1)
def Da(s:Bj):Bj×Int:=if Kr [4,5,25] r.t=true then Cn l r s else if r.t=6∨r.t=7 then Ct l r s else Db l go r s
def F7:P3:=(By l r.p r.q r.t r.v,r.t,r.v)
end
def Cw(r:Rq)(s:Bj):Bj:=s.burn.tell r.p (r.p+r.q) (Ej r.t)
def Ca(l:List UInt8):Nat→Rq→Bj→Bj×Int
 |0,_,s=>(s,260)
 |d+1,r,s=>
  if s.left<1 then(s,260)
  else if Bt r.t=true then(Cw r s,0)
  else if B8 l r.p r.q r.t r.v≠0∨F7 l r∈s.had then(Cw r s,B8 l r.p r.q r.t r.v)
  else Da l (Ca l d) r ((Cw r s).see (F7 l r))
end Go.Proofs.YtejpbijeifjdeaaGreat
namespace Go.Acc
open Go.RowKit
variable {w w':World}{b:Nat}{l:List (Int×Int×Int)}
def Hw(x:Int×Int×Int):Value:= .agg #[Aa Ab x.1,Aa Ab x.2.1,Aa Ab x.2.2]
def K4(w:World)(b:Nat)(l:List (Int×Int×Int)):Prop:=
 ∃es k,w.heap[b]?=some (.map es k)∧es.toList.map (·.key)=l.map Hw∧∀x∈es.toList,x.val= .bool true
theorem K4.lt(h:K4 w b l):b<w.heap.size:=by
 obtain⟨es,k,hb,_⟩:=h;exact(Array.getElem?_eq_some_iff.1 hb).1
theorem K4.fr{S:Nat→Prop}(h:K4 w b l)(hf:Fr S w w')(hs:¬S b):K4 w' b l:=by
 obtain⟨es,k,hb,r⟩:=h;exact⟨es,k,by rw [hf.block b (Array.getElem?_eq_some_iff.1 hb).1 hs];exact hb,r⟩
theorem K4.pure(h:K4 w b l)(hf:Below w.heap.size w w'):K4 w' b l:=
 h.fr (Fr.of_below hf fun _=>False) (fun h=>h)
section
variable {P:Program} {mt kt et:TypeId} {fs:Array Field}
theorem gI(heq:∀(x y:Int×Int×Int) (W:World),(Op.equal kt (Hw x) (Hw y)).run P W= .ok (decide (x=y)) W)(x:Int×Int×Int)(W:World):
  ∀(l:List (Int×Int×Int)) (es:List MapEntry) (i:Nat),es.map (·.key)=l.map Hw→(∀y∈es,y.val= .bool true)→
   ∃r:Option (Nat×Value),(Instr.findAsking kt (Hw x) es i).run P W= .ok r W∧r.isSome=decide (x∈l)∧∀p,r=some p→p.2= .bool true
 | [],[],i,_,_=>⟨none,by simp [Instr.findAsking],by simp,by simp⟩
 | [],_::_,_,h,_=>by simp at h
 |_::_,[],_,h,_=>by simp at h
 |y::l,e::es,i,h,hv=>by
  simp only [List.map_cons,List.cons.injEq] at h;by_cases a:x=y
  ·refine⟨some (i,e.val),?_,by simp [a],fun p hp=>?_⟩
   ·simp only [Instr.findAsking,Sem.run_bind,h.1,heq,Result.andThen_ok,decide_eq_true a,if_true,Sem.run_pure]
   ·injection hp with hp;subst hp;exact hv e (by simp)
  ·obtain⟨r,h1,h2,h3⟩:=gI heq x W l es (i+1) h.2 (fun z hz=>hv z (by simp [hz]));refine⟨r,?_,?_,h3⟩
   ·simp only [Instr.findAsking,Sem.run_bind,h.1,heq,Result.andThen_ok,decide_eq_false a];rw [if_neg (by decide)];exact h1
   ·rw [h2];simp [a]
theorem Yu(hk:P.underlying kt=some (.struct fs))(heq:∀(x y:Int×Int×Int) (W:World),(Op.equal kt (Hw x) (Hw y)).run P W= .ok (decide (x=y)) W)(x:Int×Int×Int)(W:World)
  (l:List (Int×Int×Int)) (es:List MapEntry) (h:es.map (·.key)=l.map Hw) (hv:∀y∈es,y.val= .bool true):
   ∃r:Option (Nat×Value),(Instr.findKey kt (Hw x) es).run P W= .ok r W∧r.isSome=decide (x∈l)∧∀p,r=some p→p.2= .bool true:=by
 obtain⟨r,h1,h2,h3⟩:=gI heq x W l es 0 h hv;refine⟨r,?_,h2,h3⟩;cases es with
 |nil=>
  simp only [Instr.findAsking,Sem.run_pure] at h1;rw [←h1];simp [Instr.findKey,run_underlying hk,Instr.findNow,Result.andThen]
 |cons e es=>simp [Instr.findKey,run_underlying hk,Instr.findNow,Instr.sameNow,Result.andThen,h1]
theorem Yv(hu:P.underlying mt=some (.map kt et))(hk:P.underlying kt=some (.struct fs))(heq:∀(x y:Int×Int×Int) (W:World),(Op.equal kt (Hw x) (Hw y)).run P W= .ok (decide (x=y)) W)
  (hck:∀(x:Int×Int×Int) (e:Bool) (W:World),(Instr.checkKey e 10000 kt (Hw x)).run P W= .ok () W) (hz:∀W,(zeroValue et).run P W= .ok (.bool false) W)
  (b:Nat) (l:List (Int×Int×Int)) (x:Int×Int×Int) (W:World) (h:K4 W b l):(Instr.lookup mt (.map (some b)) (Hw x) false).run P W= .ok (.bool (decide (x∈l))) W:=by
 obtain⟨c,k,a,h1,h2⟩:=h;obtain⟨r,h3,d,f⟩:=Yu hk heq x W l c.toList h1 h2;rw [←d];cases r with
 |none=>
  simp only [Instr.lookup,Sem.run_bind,run_underlying hu,Result.andThen_ok,MapKept.run_getObj_map a,hck,h3,hz,Sem.run_pure];rfl
 |some p=>
  obtain⟨i,u⟩:=p;obtain rfl:u= .bool true:=f _ rfl;simp only [Instr.lookup,Sem.run_bind,run_underlying hu,Result.andThen_ok,MapKept.run_getObj_map a,hck,h3,Sem.run_pure];rfl
theorem tH(hu:P.underlying mt=some (.map kt et))(hk:P.underlying kt=some (.struct fs))(heq:∀(x y:Int×Int×Int) (W:World),(Op.equal kt (Hw x) (Hw y)).run P W= .ok (decide (x=y)) W)
  (hck:∀(x:Int×Int×Int) (e:Bool) (W:World),(Instr.checkKey e 10000 kt (Hw x)).run P W= .ok () W)
  (b:Nat) (l:List (Int×Int×Int)) (x:Int×Int×Int) (W:World) (h:K4 W b l) (hx:x∉l):
  ∃W',(As mt (.map (some b)) (Hw x) (.bool true)).run P W= .ok () W'∧K4 W' b (l++ [x])∧Fr (fun k=>k=b) W W'∧W'.heap.size=W.heap.size:=by
 obtain⟨c,k,d,h1,h2⟩:=h;obtain⟨r,h3,h4,_⟩:=Yu hk heq x W l c.toList h1 h2;rw [decide_eq_false hx] at h4;obtain rfl:r=none:=by cases r;rfl;cases h4
 have f:=MapKept.heap_set (w:=W) (o':= .map (c.push { key:=Hw x,val:= .bool true,born:=k}) (k+1)) d;refine⟨{ W with heap:=W.heap.setIfInBounds b (.map (c.push { key:=Hw x,val:= .bool true,born:=k}) (k+1))},?_,⟨_,_,f.1,?_,?_⟩,⟨rfl,rfl,rfl,by simp,fun i hi hne=>f.2 i hne⟩,by simp⟩
 ·simp only [As,Sem.run_bind,run_underlying hu,Result.andThen_ok,MapKept.run_getObj_map d,hck,h3,MapKept.run_setObj_map _ d]
 ·simp [h1]
 ·intro y a;simp only [Array.toList_push,List.mem_append,List.mem_singleton] at a;rcases a with a|rfl
  ·exact h2 y a
  ·rfl
end
end Go.Acc
namespace Go.Proofs.YtejpbijeifjdeaaGreat
open Go.RowKit Go.Acc
variable {w w':World}{l:List UInt8}{p q t v er a:Int}{B g n c i:Nat}
theorem Xg:∀(x y:Int×Int×Int) (W:World),(Op.equal 115 (Hw x) (Hw y)).run Ad W= .ok (decide (x=y)) W:=by
 rintro⟨a,b,c⟩ ⟨a',b',c'⟩ W;by_cases h1:a=a' <;>by_cases h2:b=b' <;>by_cases h3:c=c' <;>(simp only [Hw];(change (Op.equalIn 10000 _ _ _).run Ad W=_);go_simp)
theorem Xf:∀(x:Int×Int×Int) (e:Bool) (W:World),(Instr.checkKey e 10000 115 (Hw x)).run Ad W= .ok () W:=by
 rintro⟨a,b,c⟩ e W
 kernel_rfl
theorem Yx:∀W:World,(zeroValue 4).run Ad W= .ok (.bool false) W:=by
 intro W;go_simp
end Go.Proofs.YtejpbijeifjdeaaGreat
