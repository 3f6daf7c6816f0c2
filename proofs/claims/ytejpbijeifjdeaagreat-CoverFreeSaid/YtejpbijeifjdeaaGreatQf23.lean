/- Parts of the proof. -/
import Derived.Test.YtejpbijeifjdeaaGreatQf22
import Derived.ScopeJumps
import Derived.WalkMore
set_option maxHeartbeats 2000000
set_option maxRecDepth 100000
open Go.Value renaming int→Aa
open Go.IntKind renaming i64→Ab
open Nat renaming le_refl→Ae,le_succ→Ai
open Go.RowKit.Below renaming refl→Af
open List renaming getElem?_eq_getElem→Ag,length_take→Az
open Int renaming toNat_natCast→Ay
open Go.Proofs.Tryz
open Go.Proofs.Tryz renaming prog→Ad
namespace Go.Proofs.YtejpbijeifjdeaaGreat
open Go.RowKit Go.Acc
variable {l:List UInt8}{p q t v i er a b:Int}{w w':World}{A:Option Addr}{n c B g:Nat}
theorem Aa3(h:C2 l p q t v≠0):lsFrom l p q t v=0∧lsAt l p q t v=0∧lsTo l p q t v=0∧lsLen l p q t v=0:=by
 unfold lsFrom lsAt lsTo lsLen;rw [if_neg h,if_neg h,if_neg h,if_neg h];exact⟨rfl,rfl,rfl,rfl⟩
theorem Vf{e:Ending}(h:jH w A n c l p q t v e w'):
  ∃S:Value,∃a0 a1 a2 a3:Int,e= .returned (.tuple #[.agg #[S,Aa Ab a0,Aa Ab a1,Aa Ab a2,Aa Ab a3,Aa Ab (lsFrom l p q t v:Nat),Aa Ab (lsAt l p q t v:Nat),Aa Ab (lsTo l p q t v:Nat),Aa Ab (lsLen l p q t v:Nat)],Aa Ab (C2 l p q t v)])∧S.oneCell'=true∧
   (C2 l p q t v=0→S= .slice A n c∧a0=p∧a1=q∧a2=t∧a3=v)∧Below w.heap.size w w':=by
 obtain⟨rfl,b⟩:=h;unfold aN;by_cases a:C2 l p q t v=0
 ·rw [if_pos a];exact⟨_,_,_,_,_,rfl,rfl,fun _=>⟨rfl,rfl,rfl,rfl,rfl⟩,b⟩
 ·obtain⟨d,f,g,i⟩:=Aa3 a;rw [if_neg a,d,f,g,i];exact⟨_,_,_,_,_,rfl,rfl,fun h=>absurd h a,b⟩
theorem Wy(A:Option Addr)(n c:Nat)(p q t v:Int)(l:List UInt8)(w:World)(h:Cv w A n l)(hc:n≤c)(hn:n≤1099511627776):
  Calls Ad 152 #[.slice A n c,.agg (Afg p q t v)] w (Afc (.tuple #[Aa Ab (lsFrom l p q t v:Nat),Aa Ab (lsAt l p q t v:Nat),Aa Ab (lsTo l p q t v:Nat),Aa Ab (C2 l p q t v)]) w):=by
 have z:=Hd (h.alloc (.cells (Afg p q t v) 70));have s:=Hd ((Af w.heap.size w).alloc (Ae _) (.cells (Afg p q t v) 70));obtain⟨nf,k⟩:∃x,lsFrom l p q t v=x:=⟨_,rfl⟩;obtain⟨na,i⟩:∃x,lsAt l p q t v=x:=⟨_,rfl⟩;obtain⟨nt,r⟩:∃x,lsTo l p q t v=x:=⟨_,rfl⟩;obtain⟨nl,m⟩:∃x,lsLen l p q t v=x:=⟨_,rfl⟩;obtain⟨H,j⟩:∃x,C2 l p q t v=x:=⟨_,rfl⟩;have f:=Hd k;have b:=Hd i;have g:=Hd r;have u:=Hd m;have d:=Hd j;clear h k i r m j;go_enter func152,ntmps152;go_wp2_with fail;go_at_call 251;refine(Q0 A n c p q t v l _ z.o hc hn).mono ?_;intro e I a;obtain⟨S,D,E,F,G,rfl,B,_,y⟩:=Vf a;rw [f.o,b.o,g.o,u.o,d.o];have C:=fun(W:World) (p:Addr)=>run_store Ad W p S .plain B
 replace s:=Hd ((Bi s.o y).alloc (Bi s.o y).size (.cells #[S,Aa Ab D,Aa Ab E,Aa Ab F,Aa Ab G,Aa Ab (nf:Nat),Aa Ab (na:Nat),Aa Ab (nt:Nat),Aa Ab (nl:Nat)] 279));clear y a z B;go_wp2_with fail;go_quiet (fail);go_wp2;refine bodyPost_ret (v:= .tuple #[Aa Ab (nf:Nat),Aa Ab (na:Nat),Aa Ab (nt:Nat),Aa Ab H]) (by simp [results,results152,go_sem]) rfl ⟨?_,below_drewN s.o _⟩;rw [f.o,b.o,g.o,d.o]
theorem sH(A:Option Addr)(n c:Nat)(p q t v:Int)(l:List UInt8)(w:World)(h:Cv w A n l)(hc:n≤c)(hn:n≤1099511627776):
  Calls Ad 153 #[.slice A n c,.agg (Afg p q t v)] w (Afc (.tuple #[Aa Ab (lsLen l p q t v:Nat),Aa Ab (C2 l p q t v)]) w):=by
 have z:=Hd (h.alloc (.cells (Afg p q t v) 70));have m:=Hd ((Af w.heap.size w).alloc (Ae _) (.cells (Afg p q t v) 70));obtain⟨nf,i⟩:∃x,lsFrom l p q t v=x:=⟨_,rfl⟩;obtain⟨na,f⟩:∃x,lsAt l p q t v=x:=⟨_,rfl⟩;obtain⟨nt,k⟩:∃x,lsTo l p q t v=x:=⟨_,rfl⟩;obtain⟨nl,j⟩:∃x,lsLen l p q t v=x:=⟨_,rfl⟩;obtain⟨H,g⟩:∃x,C2 l p q t v=x:=⟨_,rfl⟩;have s:=Hd i;have r:=Hd f;have u:=Hd k;have d:=Hd j;have b:=Hd g;clear h i f k j g;go_enter func153,ntmps153;go_wp2_with fail;go_at_call 251;refine(Q0 A n c p q t v l _ z.o hc hn).mono ?_;intro e I a;obtain⟨S,D,E,F,G,rfl,B,_,y⟩:=Vf a;rw [s.o,r.o,u.o,d.o,b.o];have C:=fun(W:World) (p:Addr)=>run_store Ad W p S .plain B
 replace m:=Hd ((Bi m.o y).alloc (Bi m.o y).size (.cells #[S,Aa Ab D,Aa Ab E,Aa Ab F,Aa Ab G,Aa Ab (nf:Nat),Aa Ab (na:Nat),Aa Ab (nt:Nat),Aa Ab (nl:Nat)] 279));clear y a z B;go_wp2;go_ret2;rw [d.o,b.o];exact⟨rfl,m.o⟩
theorem Ux(A:Option Addr)(n c:Nat)(p q t:Int)(v f a o k i X:Nat)(w:World)(hX:i*v=X)(hb:a+X≤1099511627776):
  Calls Ad 349 #[.agg #[.slice A n c,Aa Ab p,Aa Ab q,Aa Ab t,Aa Ab v,Aa Ab f,Aa Ab a,Aa Ab o,Aa Ab k],Aa Ab i] w (Afc (.agg #[Aa Ab ((a:Int)+X),Aa Ab v,Aa Ab 0,Aa Ab v]) w):=by
 have b:wrap64 ((i:Int)*(v:Int))=(X:Int):=by
  rw [←Int.natCast_mul,hX];exact Ek _ (by omega)
 have d:=Hd (((Af w.heap.size w).alloc (Ae _) (.cells #[.slice A n c,Aa Ab p,Aa Ab q,Aa Ab t,Aa Ab v,Aa Ab f,Aa Ab a,Aa Ab o,Aa Ab k] 279)).alloc (by simp) (.cells (Afg 0 0 0 0) 70));clear hX;go_enter func349,ntmps349;go_wp2;refine bodyPost_ret (v:= .agg #[Aa Ab ((a:Int)+X),Aa Ab v,Aa Ab 0,Aa Ab v]) (by simp [results,results349,go_sem]) rfl ⟨rfl,?_⟩;exact((Af _ _).alloc (Ae _) _).alloc (by simp) _
theorem iW(A:Option Addr)(n c:Nat)(p q t:Int)(v f a o k i X:Nat)(w:World)(hX:i*v=X)(hb:a+X≤1099511627776):
  Calls Ad 310 #[.agg #[.slice A n c,Aa Ab p,Aa Ab q,Aa Ab t,Aa Ab v,Aa Ab f,Aa Ab a,Aa Ab o,Aa Ab k],Aa Ab i] w (Afc (.tuple #[.agg #[Aa Ab ((a:Int)+X),Aa Ab v,Aa Ab (E9 t),Aa Ab v],Aa Ab 0]) w):=by
 have m:=Hd ((Bk.new w 279 #[.slice A n c,Aa Ab p,Aa Ab q,Aa Ab t,Aa Ab v,Aa Ab f,Aa Ab a,Aa Ab o,Aa Ab k]).alloc (.cells (Afg 0 0 0 0) 70));have j:=Hd (Bk.new_ (w:=w.alloc (.cells #[.slice A n c,Aa Ab p,Aa Ab q,Aa Ab t,Aa Ab v,Aa Ab f,Aa Ab a,Aa Ab o,Aa Ab k] 279)) (g:=w.heap.size+1) (by simp) 70 (Afg 0 0 0 0));have l:=Hd (((Af w.heap.size w).alloc (Ae _) (.cells #[.slice A n c,Aa Ab p,Aa Ab q,Aa Ab t,Aa Ab v,Aa Ab f,Aa Ab a,Aa Ab o,Aa Ab k] 279)).alloc (by simp) (.cells (Afg 0 0 0 0) 70));have C:=Hd hX;clear hX;go_enter func310,ntmps310;go_wp2_with fail;go_at_call 349;refine(Ux A n c p q t v f a o k i X _ C.o hb).mono ?_;rintro e r ⟨rfl,b⟩;replace m:=Hd ((m.o.pure b).alloc (.cells #[Aa Ab ((a:Int)+X),Aa Ab v,Aa Ab 0,Aa Ab v] 70));replace j:=Hd ((j.o.pure b).alloc (.cells #[Aa Ab ((a:Int)+X),Aa Ab v,Aa Ab 0,Aa Ab v] 70));have h:=Hd (Bk.new r 70 #[Aa Ab ((a:Int)+X),Aa Ab v,Aa Ab 0,Aa Ab v]);replace l:=Hd ((Bi l.o b).alloc (Bi l.o b).size (.cells #[Aa Ab ((a:Int)+X),Aa Ab v,Aa Ab 0,Aa Ab v] 70));have D:w.heap.size+1<r.heap.size:=by have:=j.o.lt;have:=b.size;(try simp at this);omega
 clear b;obtain ⟨I,J,K,L,M⟩:=m.o.c5;have N:_=some (Aa Ab a):=m.o.cell 6;have O:_=some (Aa Ab k):=m.o.cell 8;obtain ⟨x,y,z,B⟩:=h.o.c4;have s:=h.o.frozen 2;have u:=h.o.frozen 3;go_wp2_with fail;go_at_call 272;refine(K2 t _).mono ?_;rintro e T ⟨rfl,d⟩;replace j:=Hd (j.o.pure d);replace h:=Hd (h.o.pure d);replace l:=Hd (Bi l.o d);clear I J K L M N O x y z B s u d;obtain ⟨E,F,G,H⟩:=j.o.c4;obtain ⟨P,Q,R,S⟩:=j.o.f4;obtain ⟨x,y,z,B⟩:=h.o.c4;have s:=h.o.frozen 2;have u:=h.o.frozen 3;go_wp2;refine bodyPost_ret (v:= .tuple #[.agg #[Aa Ab ((a:Int)+X),Aa Ab v,Aa Ab (E9 t),Aa Ab v],Aa Ab 0]) (by simp [results,results310,go_sem,E,F,G,H]) rfl ⟨rfl,?_⟩;exact((((l.o.setCell (show w.heap.size≤r.heap.size by omega) _).setCell (Ai _) _).setCell (Ai _) _).setCell (Ai _) _).setCell (Ai _) _
def gC(a X:Nat)(v:Int)(c:UInt8):Value:=if Iv c=0 then .agg #[Aa Ab ((a:Int)+X),Aa Ab v,Aa Ab (Ng c),Aa Ab (Nh c)] else .agg (Afg 0 0 0 0)
theorem Uu(A:Option Addr)(n c:Nat)(p q t:Int)(v f a o k i X K:Nat)(l:List UInt8)(c0:UInt8)(w:World)(h:Cv w A n l)(hn:n≤1099511627776)(hX:i*v=X)(hK:k*v=K)(hik:i≤k)(hin:a+K+i<n)(hc:l[a+K+i]?=some c0):
  Calls Ad 312 #[.agg #[.slice A n c,Aa Ab p,Aa Ab q,Aa Ab t,Aa Ab v,Aa Ab f,Aa Ab a,Aa Ab o,Aa Ab k],Aa Ab i] w (Afc (.tuple #[gC a X v c0,Aa Ab (Iv c0)]) w):=by
 have W:X≤K:=by rw [←hX,←hK];exact Nat.mul_le_mul_right _ hik
 have Y:a+X≤1099511627776:=by omega
 have d:wrap64 ((k:Int)*(v:Int))=(K:Int):=by
  rw [←Int.natCast_mul,hK];exact Ek _ (by omega)
 have y:=Hd d;have E:=Hd ((h.alloc (.cells #[.slice A n c,Aa Ab p,Aa Ab q,Aa Ab t,Aa Ab v,Aa Ab f,Aa Ab a,Aa Ab o,Aa Ab k] 279)).alloc (.cells (Afg 0 0 0 0) 70));have T:=Hd hc;clear d hK h hc;have z:=Hd ((Bk.new w 279 #[.slice A n c,Aa Ab p,Aa Ab q,Aa Ab t,Aa Ab v,Aa Ab f,Aa Ab a,Aa Ab o,Aa Ab k]).alloc (.cells (Afg 0 0 0 0) 70));have u:=Hd (Bk.new_ (w:=w.alloc (.cells #[.slice A n c,Aa Ab p,Aa Ab q,Aa Ab t,Aa Ab v,Aa Ab f,Aa Ab a,Aa Ab o,Aa Ab k] 279)) (g:=w.heap.size+1) (by simp) 70 (Afg 0 0 0 0));have s:=Hd (((Af w.heap.size w).alloc (Ae _) (.cells #[.slice A n c,Aa Ab p,Aa Ab q,Aa Ab t,Aa Ab v,Aa Ab f,Aa Ab a,Aa Ab o,Aa Ab k] 279)).alloc (by simp) (.cells (Afg 0 0 0 0) 70));have V:=Hd hX;clear hX;go_enter func312,ntmps312;go_wp2_with fail;go_at_call 349;refine(Ux A n c p q t v f a o k i X _ V.o Y).mono ?_;rintro e D ⟨rfl,b⟩;replace z:=Hd ((z.o.pure b).alloc (.cells #[Aa Ab ((a:Int)+X),Aa Ab v,Aa Ab 0,Aa Ab v] 70));replace u:=Hd ((u.o.pure b).alloc (.cells #[Aa Ab ((a:Int)+X),Aa Ab v,Aa Ab 0,Aa Ab v] 70));have r:=Hd (Bk.new D 70 #[Aa Ab ((a:Int)+X),Aa Ab v,Aa Ab 0,Aa Ab v]);replace s:=Hd ((Bi s.o b).alloc (Bi s.o b).size (.cells #[Aa Ab ((a:Int)+X),Aa Ab v,Aa Ab 0,Aa Ab v] 70));have aa:w.heap.size+1<D.heap.size:=by have:=u.o.lt;have:=b.size;(try simp at this);omega
 replace E:=Hd ((E.o.pure b).alloc (.cells #[Aa Ab ((a:Int)+X),Aa Ab v,Aa Ab 0,Aa Ab v] 70));clear b;obtain ⟨y0,y1,y2,y3,y4⟩:=z.o.c5;have y6:_=some (Aa Ab a):=z.o.cell 6;have y8:_=some (Aa Ab k):=z.o.cell 8;obtain ⟨L,M,N,O⟩:=r.o.c4;have I:=r.o.frozen 2;have J:=r.o.frozen 3;obtain⟨g,ab,rfl,C,j⟩:=Je E.o hin;have B:l[a+K+i]=c0:=by
  have:=T.o;rw [Ag C] at this;injection this
 rw [B] at j;have G:(a:Int)+K+i<n:=by omega
 have H:a+K+i<n:=hin;clear B C;have d:=y.o;go_wp2_with fail;clear d;go_at_call 50;refine(Mz c0 _).mono ?_;rintro e w2 ⟨rfl,m⟩;replace u:=Hd (u.o.pure m);replace r:=Hd (r.o.pure m);replace s:=Hd (Bi s.o m);clear y0 y1 y2 y3 y4 y6 y8 L M N O I J m j;obtain ⟨P,Q,R,S⟩:=u.o.c4;obtain ⟨f0,f1,f2,f3⟩:=u.o.f4;obtain ⟨L,M,N,O⟩:=r.o.c4;have I:=r.o.frozen 2;have J:=r.o.frozen 3;by_cases x:Iv c0=0
 ·have F:=Hd (show gC a X v c0=_ from if_pos x);rw [x];have U:=Hd x;clear x;go_wp2;refine bodyPost_ret (v:= .tuple #[.agg #[Aa Ab ((a:Int)+X),Aa Ab v,Aa Ab (Ng c0),Aa Ab (Nh c0)],Aa Ab 0]) (by simp [results,results312,go_sem,P,Q,R,S]) rfl ⟨?_,?_⟩
  ·rw [F.o,U.o]
  ·exact(((((s.o.setCell (show w.heap.size≤D.heap.size by omega) _).setCell (show w.heap.size≤D.heap.size by omega) _).setCell (Ai _) _).setCell (Ai _) _).setCell (Ai _) _).setCell (Ai _) _
 ·have F:=Hd (show gC a X v c0=_ from if_neg x);have Z:(Iv c0 != 0)=true:=by simpa using x
  clear x;go_wp2;refine bodyPost_ret (v:= .tuple #[.agg (Afg 0 0 0 0),Aa Ab (Iv c0)]) (by simp [results,results312,go_sem,P,Q,R,S]) rfl ⟨?_,?_⟩
  ·rw [F.o]
  ·exact(((s.o.setCell (Ai _) _).setCell (Ai _) _).setCell (Ai _) _).setCell (Ai _) _
def Np(l:List UInt8)(p q t v:Int)(i:Int):UInt8:=l.getD (lsAt l p q t v+lsLen l p q t v*v.toNat+i.toNat) 0
def F5(l:List UInt8)(p q t v i:Int):Int:=
 if C2 l p q t v≠0 then C2 l p q t v else if i<0∨(lsLen l p q t v:Int)≤i then 6 else if Cj t=true then Iv (Np l p q t v i) else 0
def Ka(l:List UInt8)(p q t v i:Int):Int:=if F5 l p q t v i=0 then((lsAt l p q t v:Int)+(i.toNat*v.toNat:Nat)) else 0
def Kb(l:List UInt8)(p q t v i:Int):Int:=if F5 l p q t v i=0 then v else 0
def Kv(l:List UInt8)(p q t v i:Int):Int:=if F5 l p q t v i=0 then(if Cj t=true then Ng (Np l p q t v i) else E9 t) else 0
def Kw(l:List UInt8)(p q t v i:Int):Int:=if F5 l p q t v i=0 then(if Cj t=true then Nh (Np l p q t v i) else v) else 0
def pG(w:World)(l:List UInt8)(p q t v i:Int)(e:Ending)(w':World):Prop:=
 e= .returned (.tuple #[.agg #[Aa Ab (Ka l p q t v i),Aa Ab (Kb l p q t v i),Aa Ab (Kv l p q t v i),Aa Ab (Kw l p q t v i)],Aa Ab (F5 l p q t v i)])∧Below w.heap.size w w'
theorem V5(h:F5 l p q t v i=er)(hne:er≠0)(hb:Below w.heap.size w w'):pG w l p q t v i (.returned (.tuple #[.agg (Afg 0 0 0 0),Aa Ab er])) w':=by
 unfold pG Ka Kb Kv Kw;rw [h,if_neg hne,if_neg hne,if_neg hne,if_neg hne];exact⟨rfl,hb⟩
theorem jM{c d:Int}(h:F5 l p q t v i=0)(h1:((lsAt l p q t v:Int)+(i.toNat*v.toNat:Nat))=a)(h2:v=b)(h3:(if Cj t=true then Ng (Np l p q t v i) else E9 t)=c)(h4:(if Cj t=true then Nh (Np l p q t v i) else v)=d)(hb:Below w.heap.size w w'):
  pG w l p q t v i (.returned (.tuple #[.agg (Afg a b c d),Aa Ab 0])) w':=by
 unfold pG Ka Kb Kv Kw;rw [h,if_pos rfl,if_pos rfl,if_pos rfl,if_pos rfl,h1,h3,h4,←h2];exact⟨rfl,hb⟩
theorem aO(h:C2 l p q t v=0):K5 t=true∧Lt t=true∧Bz v=true∧(lsAt l p q t v)+lsLen l p q t v*(v.toNat+tgs t)≤l.length∧0≤p∧0≤q∧p+q≤l.length∧Bz q=true∧(lsAt l p q t v:Int) % v=0:=by
 rcases Q6 l p q t v with⟨h1,e⟩|⟨h1,⟨_,e⟩|⟨h2,⟨h3,e⟩|⟨h3,⟨_,e⟩|⟨_,_,e⟩|⟨_,_,_,e⟩|⟨f,_,g,_⟩⟩⟩⟩
 ·rw [e] at h;exact absurd h h1
 ·rw [e] at h;cases h
 ·rw [e] at h;exact absurd h h3
 ·rw [e] at h;cases h
 ·rw [e] at h;cases h
 ·rw [e] at h;cases h
 ·obtain⟨a,b⟩:=Fg.1 h1;have b:=Eh.1 b;have a:=Du.1 a;have i:=Tl h3;have c:lsAt l p q t v=(Cg l p q t v).toNat:=if_pos h;have d:lsLen l p q t v=K8 l p q t v:=if_pos h;refine⟨h2,Ic a.1,a.2.2,?_,b.1,b.2.1,b.2.2,a.2.1,?_⟩
  ·rw [c,d];exact g
  ·rw [c,Int.toNat_of_nonneg i.1];exact f
theorem Adr(hL:K5 t=true)(ht:Lt t=true):∃a F tg,Xm t.toNat=[a,F,(if Cj t=true then Lq 312 else Lq 310),tg]:=by
 rcases kZ ht with⟨h,_⟩|⟨_,_,_,hT,_,e⟩|⟨_,_,_,e⟩
 ·rw [hL] at h;cases h
 ·rw [hT];exact⟨_,_,_,e⟩
 ·exact⟨_,_,_,e⟩
theorem fT(a F G tg:Value):∀W:World,(Instr.field 285 (.agg #[a,F,G,tg]) 2).run Ad W= .ok G W:=by
 intro W
 kernel_rfl
theorem Ed{a:World}(g:Nat)(h:Below B a w)(hg:B≤g)(v0 v1 v2 v3:Value):Below B a ((((w.setCell ⟨g,0,none⟩ v0).setCell ⟨g,1,none⟩ v1).setCell ⟨g,2,none⟩ v2).setCell ⟨g,3,none⟩ v3):=
 (((h.setCell hg _).setCell hg _).setCell hg _).setCell hg _
theorem Eg{q:Addr}{v a b c d:Value}(h:w.cell? q=some v)(hne:q.block≠g):((((w.setCell ⟨g,0,none⟩ a).setCell ⟨g,1,none⟩ b).setCell ⟨g,2,none⟩ c).setCell ⟨g,3,none⟩ d).cell? q=some v:=
 Ve (Ve (Ve (Ve h hne) hne) hne) hne
theorem wQ(A:Option Addr)(n c:Nat)(p q t v i:Int)(l:List UInt8)(w:World)(h:Cv w A n l)(hc:n≤c)(hn:n≤1099511627776):
  Calls Ad 155 #[.slice A n c,.agg (Afg p q t v),Aa Ab i] w (pG w l p q t v i):=by
 have bl:=h.1;subst bl;have M:=Hd ((h.alloc (.cells (Afg p q t v) 70)).alloc (.cells (Afg 0 0 0 0) 70));have Q:=Hd (((Af w.heap.size w).alloc (Ae _) (.cells (Afg p q t v) 70)).alloc (by simp) (.cells (Afg 0 0 0 0) 70));have m:=Hd ((Bk.new w 70 (Afg p q t v)).alloc (.cells (Afg 0 0 0 0) 70));have k:=Hd (Bk.new_ (w:=w.alloc (.cells (Afg p q t v) 70)) (g:=w.heap.size+1) (by simp) 70 (Afg 0 0 0 0));clear h;go_enter func155,ntmps155;go_wp2_with fail;go_at_call 251;refine(Q0 A _ c p q t v l _ M.o hc hn).mono ?_;generalize (w.alloc (.cells (Afg p q t v) 70)).alloc (.cells (Afg 0 0 0 0) 70)=wB at M Q m k⊢;intro e j ae;obtain⟨S,a0,a1,a2,a3,rfl,hS,bj,hb⟩:=Vf ae;have bo:=fun(W:World) (p:Addr)=>run_store Ad W p S .plain hS
 obtain⟨O,bm⟩:∃x,lsFrom l p q t v=x:=⟨_,rfl⟩;obtain⟨na,az⟩:∃x,lsAt l p q t v=x:=⟨_,rfl⟩;obtain⟨P,bn⟩:∃x,lsTo l p q t v=x:=⟨_,rfl⟩;obtain⟨nl,a4⟩:∃x,lsLen l p q t v=x:=⟨_,rfl⟩;rw [bm,az,bn,a4];have ak:=Hd az;have Z:=Hd a4;clear ae bm az bn a4;have r:=Hd (Bk.new j 279 #[S,Aa Ab a0,Aa Ab a1,Aa Ab a2,Aa Ab a3,Aa Ab O,Aa Ab na,Aa Ab P,Aa Ab nl]);have b2:w.heap.size+1<j.heap.size:=by have:=k.o.lt;have:=hb.size;omega
 replace M:=Hd ((M.o.pure hb).alloc (.cells #[S,Aa Ab a0,Aa Ab a1,Aa Ab a2,Aa Ab a3,Aa Ab O,Aa Ab na,Aa Ab P,Aa Ab nl] 279));replace m:=Hd ((m.o.pure hb).alloc (.cells #[S,Aa Ab a0,Aa Ab a1,Aa Ab a2,Aa Ab a3,Aa Ab O,Aa Ab na,Aa Ab P,Aa Ab nl] 279));replace k:=Hd ((k.o.pure hb).alloc (.cells #[S,Aa Ab a0,Aa Ab a1,Aa Ab a2,Aa Ab a3,Aa Ab O,Aa Ab na,Aa Ab P,Aa Ab nl] 279));replace Q:=Hd ((Bi Q.o hb).alloc (Bi Q.o hb).size (.cells #[S,Aa Ab a0,Aa Ab a1,Aa Ab a2,Aa Ab a3,Aa Ab O,Aa Ab na,Aa Ab P,Aa Ab nl] 279));have aq:=Hd bj;have bv:j.heap.size<(j.alloc (.cells #[S,Aa Ab a0,Aa Ab a1,Aa Ab a2,Aa Ab a3,Aa Ab O,Aa Ab na,Aa Ab P,Aa Ab nl] 279)).heap.size:=r.o.lt;clear hb bj hS;go_upto_region 2 with fail
 generalize j.alloc (.cells #[S,Aa Ab a0,Aa Ab a1,Aa Ab a2,Aa Ab a3,Aa Ab O,Aa Ab na,Aa Ab P,Aa Ab nl] 279)=w2 at r M m k Q bv⊢;clear bo;by_cases he:C2 l p q t v=0
 ·obtain⟨rfl,e0,e1,e2,e3⟩:=aq.o he;obtain rfl:p=a0:=e0.symm;obtain rfl:q=a1:=e1.symm;obtain rfl:t=a2:=e2.symm;obtain rfl:v=a3:=e3.symm;have a5:=aO he;have aj:=Hd he;rw [he];clear aq he;by_cases N:i<0
  ·have Y:=Hd (show F5 l p q t v i=6 by unfold F5;rw [if_neg (by rw [aj.o];decide),if_pos (.inl N)]);have HN:=Hd (show(6:Int)≠0 by decide);have hd:decide (i<0)=true:=decide_eq_true N;clear N a5;obtain ⟨r0,r1,r2,r3⟩:=k.o.c4;obtain ⟨f0,f1,f2,f3⟩:=k.o.f4;go_wp2;refine bodyPost_ret (v:= .tuple #[.agg (Afg 0 0 0 0),Aa Ab 6]) (by simp [results,results155,go_sem,r0,r1,r2,r3]) rfl ?_;exact V5 Y.o HN.o ((((Q.o.setCell (Ai _) _).setCell (Ai _) _).setCell (Ai _) _).setCell (Ai _) _)
  ·have bu:decide (i<0)=false:=decide_eq_false N;by_cases an:(nl:Int)≤i
   ·have Y:=Hd (show F5 l p q t v i=6 by unfold F5;rw [if_neg (by rw [aj.o];decide),Z.o,if_pos (.inr an)]);have HN:=Hd (show(6:Int)≠0 by decide);have hd:decide ((nl:Int)≤i)=true:=decide_eq_true an;clear N a5 an;have u:_=some (Aa Ab nl):=r.o.cell 8;obtain ⟨r0,r1,r2,r3⟩:=k.o.c4;obtain ⟨f0,f1,f2,f3⟩:=k.o.f4;go_wp2;refine bodyPost_ret (v:= .tuple #[.agg (Afg 0 0 0 0),Aa Ab 6]) (by simp [results,results155,go_sem,r0,r1,r2,r3]) rfl ?_;exact V5 Y.o HN.o ((((Q.o.setCell (Ai _) _).setCell (Ai _) _).setCell (Ai _) _).setCell (Ai _) _)
   ·obtain⟨hL,hT,hW,ax,_,_,_,_,_⟩:=a5;have v1:=Cr.1 hW;obtain⟨V,rfl⟩:∃V:Nat,v=V:=⟨v.toNat,by omega⟩;obtain⟨I,rfl⟩:∃I:Nat,i=I:=⟨i.toNat,by omega⟩;rw [ak.o,Z.o,Ay] at ax;have hI:I<nl:=by omega
    have hd:decide (nl≤I)=false:=decide_eq_false (by omega);have s:=lA hT;obtain⟨a,F,tg,ap⟩:=Adr hL hT;rw [ap] at s;have a6:=Hg.1 hT;have cd:=a6.1;have b3:=a6.2;obtain⟨X,hX⟩:∃X,I*V=X:=⟨_,rfl⟩;obtain⟨K,hK⟩:∃K,nl*V=K:=⟨_,rfl⟩;have cb:X+V≤K:=by
     rw [←hX,←hK];have:=Nat.mul_le_mul_right V (show I+1≤nl by omega);rw [Nat.succ_mul] at this;exact this
    have ad:nl*(V+tgs t)=K+nl*tgs t:=by rw [Nat.mul_add,hK]
    rw [ad] at ax;have aa:=Hd hX;have ar:=Hd hK;have ca:V≤8:=by omega
    clear N bu ap an hX hK hL hT hW v1 a6 ad;cases hTg:Cj t with
    |true=>
     rw [hTg] at s;rw [show tgs t=1 by unfold tgs;rw [hTg];rfl,Nat.mul_one] at ax;replace s:∀W,(Instr.index 286 (.agg Ma) (Aa Ab t)).run Ad W= .ok (.agg #[a,F,.func (.func 312) #[] #[],tg]) W:=s;have bk:=fT a F (.func (.func 312) #[] #[]) tg;have L:=Hd hTg;clear hTg;have ay:na+K+I<l.length:=by omega
     obtain⟨c0,bi⟩:∃c0,l[na+K+I]=c0:=⟨_,rfl⟩;have ab:l[na+K+I]?=some c0:=by rw [Ag ay,bi]
     have hB:Np l p q t V I=c0:=by
      unfold Np;rw [ak.o,Z.o,Ay,Ay,ar.o,List.getD_eq_getElem?_getD,ab];rfl
     have au:=Hd hB;have ao:=Hd ab;have bf:I≤nl:=by omega
     have bg:¬((I:Int)<0∨(nl:Int)≤I):=by omega
     have a8:=Hd (show F5 l p q t V I=Iv c0 by unfold F5;rw [if_neg (by rw [aj.o];decide),Z.o,if_neg bg,L.o,au.o];rfl);clear hB ab bi bg;have y:=B6 m.o;obtain ⟨z,B,C,D,E,G,H,J,u⟩:=r.o.c9;have am:w.heap.size≠w.heap.size+1:=by omega
     have b:j.heap.size≠w.heap.size+1:=by omega
     by_cases hu:Iv c0=0
     ·have HU:=Hd hu;have av:=Hd (show gC na X V c0=_ from if_pos hu);have Y:=Hd (a8.o.trans hu);clear hu;go_wp2_with fail;go_region_held3 (fun w'=>w'.cell? ⟨w.heap.size,2,none⟩=some (Aa Ab t)∧w'.cell? ⟨j.heap.size,0,none⟩=some (.slice A l.length c)∧w'.cell? ⟨j.heap.size,1,none⟩=some (Aa Ab p)∧w'.cell? ⟨j.heap.size,2,none⟩=some (Aa Ab q)∧w'.cell? ⟨j.heap.size,3,none⟩=some (Aa Ab t)∧w'.cell? ⟨j.heap.size,4,none⟩=some (Aa Ab V)∧w'.cell? ⟨j.heap.size,5,none⟩=some (Aa Ab O)∧w'.cell? ⟨j.heap.size,6,none⟩=some (Aa Ab na)∧w'.cell? ⟨j.heap.size,7,none⟩=some (Aa Ab P)∧w'.cell? ⟨j.heap.size,8,none⟩=some (Aa Ab nl)) (first|with_reducible exact⟨y,z,B,C,D,E,G,H,J,u⟩|with_reducible exact⟨C4 y,C4 z,C4 B,C4 C,C4 D,C4 E,C4 G,C4 H,C4 J,C4 u⟩|with_reducible exact⟨Eg y am,Eg z b,Eg B b,Eg C b,Eg D b,Eg E b,Eg G b,Eg H b,Eg J b,Eg u b⟩)
       (first
        |(go_at_call 252;(with_reducible refine(My _).mono ?_);rintro e w5 ⟨rfl,d⟩;have R:=Hd d;replace r:=Hd (r.o.drew.pure d);replace m:=Hd (m.o.drew.pure d);replace k:=Hd (k.o.drew.pure d);replace M:=Hd ((Ez M.o).pure d);clear d y z B C D E G H J u;have y:=B6 m.o;obtain ⟨z,B,C,D,E,G,H,J,u⟩:=r.o.c9)
        |(go_at_call 312;((with_reducible refine(Uu A _ c p q t V O na P nl I X K l c0 _ M.o hn aa.o ar.o bf ay ao.o).mono ?_);rw [av.o,HU.o]);rintro e w6 ⟨rfl,f⟩;have T:=Hd f;replace r:=Hd (r.o.pure f);replace m:=Hd (m.o.pure f);replace k:=Hd (k.o.pure f);clear f y z B C D E G H J u;have y:=B6 m.o;obtain ⟨z,B,C,D,E,G,H,J,u⟩:=r.o.c9;obtain ⟨r0,r1,r2,r3⟩:=k.o.c4;obtain ⟨f0,f1,f2⟩:=k.o.f3;have f3:=k.o.frozen 3))
      go_wp2;refine bodyPost_ret (v:= .tuple #[.agg #[Aa Ab ((na:Int)+X),Aa Ab V,Aa Ab (Ng c0),Aa Ab (Nh c0)],Aa Ab 0]) (by simp [results,results155,go_sem,r0,r1,r2,r3]) rfl ?_;have U:=Hd (C1 (Bi Q.o.drew R.o) T.o);exact jM Y.o (by rw [ak.o,Ay,Ay,aa.o]) rfl (by rw [L.o];exact(if_pos rfl).trans (by rw [au.o])) (by rw [L.o];exact(if_pos rfl).trans (by rw [au.o])) (Ed _ U.o (Ai _) _ _ _ _)
     ·have HU:=Hd hu;have av:=Hd (show gC na X V c0=_ from if_neg hu);have Y:=a8;clear hu;go_wp2_with fail;go_region_held3 (fun w'=>w'.cell? ⟨w.heap.size,2,none⟩=some (Aa Ab t)∧w'.cell? ⟨j.heap.size,0,none⟩=some (.slice A l.length c)∧w'.cell? ⟨j.heap.size,1,none⟩=some (Aa Ab p)∧w'.cell? ⟨j.heap.size,2,none⟩=some (Aa Ab q)∧w'.cell? ⟨j.heap.size,3,none⟩=some (Aa Ab t)∧w'.cell? ⟨j.heap.size,4,none⟩=some (Aa Ab V)∧w'.cell? ⟨j.heap.size,5,none⟩=some (Aa Ab O)∧w'.cell? ⟨j.heap.size,6,none⟩=some (Aa Ab na)∧w'.cell? ⟨j.heap.size,7,none⟩=some (Aa Ab P)∧w'.cell? ⟨j.heap.size,8,none⟩=some (Aa Ab nl)) (first|with_reducible exact⟨y,z,B,C,D,E,G,H,J,u⟩|with_reducible exact⟨C4 y,C4 z,C4 B,C4 C,C4 D,C4 E,C4 G,C4 H,C4 J,C4 u⟩|with_reducible exact⟨Eg y am,Eg z b,Eg B b,Eg C b,Eg D b,Eg E b,Eg G b,Eg H b,Eg J b,Eg u b⟩)
       (first
        |(go_at_call 252;(with_reducible refine(My _).mono ?_);rintro e w5 ⟨rfl,d⟩;have R:=Hd d;replace r:=Hd (r.o.drew.pure d);replace m:=Hd (m.o.drew.pure d);replace k:=Hd (k.o.drew.pure d);replace M:=Hd ((Ez M.o).pure d);clear d y z B C D E G H J u;have y:=B6 m.o;obtain ⟨z,B,C,D,E,G,H,J,u⟩:=r.o.c9)
        |(go_at_call 312;((with_reducible refine(Uu A _ c p q t V O na P nl I X K l c0 _ M.o hn aa.o ar.o bf ay ao.o).mono ?_);rw [av.o]);rintro e w6 ⟨rfl,f⟩;have T:=Hd f;replace r:=Hd (r.o.pure f);replace m:=Hd (m.o.pure f);replace k:=Hd (k.o.pure f);clear f y z B C D E G H J u;have y:=B6 m.o;obtain ⟨z,B,C,D,E,G,H,J,u⟩:=r.o.c9;obtain ⟨r0,r1,r2,r3⟩:=k.o.c4;obtain ⟨f0,f1,f2⟩:=k.o.f3;have f3:=k.o.frozen 3))
      go_wp2;refine bodyPost_ret (v:= .tuple #[.agg (Afg 0 0 0 0),Aa Ab (Iv c0)]) (by simp [results,results155,go_sem,r0,r1,r2,r3]) rfl ?_;have U:=Hd (C1 (Bi Q.o.drew R.o) T.o);exact V5 Y.o HU.o (Ed _ U.o (Ai _) _ _ _ _)
    |false=>
     rw [hTg] at s;replace s:∀W,(Instr.index 286 (.agg Ma) (Aa Ab t)).run Ad W= .ok (.agg #[a,F,.func (.func 310) #[] #[],tg]) W:=s;have bk:=fT a F (.func (.func 310) #[] #[]) tg;have L:=Hd hTg;clear hTg;have Y:=Hd (show F5 l p q t V I=0 by unfold F5;rw [if_neg (by rw [aj.o];decide),Z.o,if_neg (by omega),L.o];rfl);have bh:na+X≤1099511627776:=by omega
     have y:=B6 m.o;obtain ⟨z,B,C,D,E,G,H,J,u⟩:=r.o.c9;have am:w.heap.size≠w.heap.size+1:=by omega
     have b:j.heap.size≠w.heap.size+1:=by omega
     go_wp2_with fail;go_region_held3 (fun w'=>w'.cell? ⟨w.heap.size,2,none⟩=some (Aa Ab t)∧w'.cell? ⟨j.heap.size,0,none⟩=some (.slice A l.length c)∧w'.cell? ⟨j.heap.size,1,none⟩=some (Aa Ab p)∧w'.cell? ⟨j.heap.size,2,none⟩=some (Aa Ab q)∧w'.cell? ⟨j.heap.size,3,none⟩=some (Aa Ab t)∧w'.cell? ⟨j.heap.size,4,none⟩=some (Aa Ab V)∧w'.cell? ⟨j.heap.size,5,none⟩=some (Aa Ab O)∧w'.cell? ⟨j.heap.size,6,none⟩=some (Aa Ab na)∧w'.cell? ⟨j.heap.size,7,none⟩=some (Aa Ab P)∧w'.cell? ⟨j.heap.size,8,none⟩=some (Aa Ab nl)) (first|with_reducible exact⟨y,z,B,C,D,E,G,H,J,u⟩|with_reducible exact⟨C4 y,C4 z,C4 B,C4 C,C4 D,C4 E,C4 G,C4 H,C4 J,C4 u⟩|with_reducible exact⟨Eg y am,Eg z b,Eg B b,Eg C b,Eg D b,Eg E b,Eg G b,Eg H b,Eg J b,Eg u b⟩)
      (first
       |(go_at_call 252;(with_reducible refine(My _).mono ?_);rintro e w5 ⟨rfl,d⟩;have R:=Hd d;replace r:=Hd (r.o.drew.pure d);replace m:=Hd (m.o.drew.pure d);replace k:=Hd (k.o.drew.pure d);replace M:=Hd ((Ez M.o).pure d);clear d y z B C D E G H J u;have y:=B6 m.o;obtain ⟨z,B,C,D,E,G,H,J,u⟩:=r.o.c9)
       |(go_at_call 310;(with_reducible refine(iW A _ c p q t V O na P nl I X _ aa.o bh).mono ?_);rintro e w6 ⟨rfl,f⟩;have T:=Hd f;replace r:=Hd (r.o.pure f);replace m:=Hd (m.o.pure f);replace k:=Hd (k.o.pure f);clear f y z B C D E G H J u;have y:=B6 m.o;obtain ⟨z,B,C,D,E,G,H,J,u⟩:=r.o.c9;obtain ⟨r0,r1,r2,r3⟩:=k.o.c4;obtain ⟨f0,f1,f2⟩:=k.o.f3;have f3:=k.o.frozen 3))
     go_wp2;refine bodyPost_ret (v:= .tuple #[.agg #[Aa Ab ((na:Int)+X),Aa Ab V,Aa Ab (E9 t),Aa Ab V],Aa Ab 0]) (by simp [results,results155,go_sem,r0,r1,r2,r3]) rfl ?_;have U:=Hd (C1 (Bi Q.o.drew R.o) T.o);exact jM Y.o (by rw [ak.o,Ay,Ay,aa.o]) rfl (by rw [L.o];exact if_neg (by decide)) (by rw [L.o];exact if_neg (by decide)) (Ed _ U.o (Ai _) _ _ _ _)
 ·have Y:=Hd (show F5 l p q t v i=C2 l p q t v from if_pos he);have HN:=Hd he;have cc:(C2 l p q t v != 0)=true:=by simpa using he
  clear aq he;obtain ⟨r0,r1,r2,r3⟩:=k.o.c4;obtain ⟨f0,f1,f2,f3⟩:=k.o.f4;go_wp2;refine bodyPost_ret (v:= .tuple #[.agg (Afg 0 0 0 0),Aa Ab (C2 l p q t v)]) (by simp [results,results155,go_sem,r0,r1,r2,r3]) rfl ?_;exact V5 Y.o HN.o ((((Q.o.setCell (Ai _) _).setCell (Ai _) _).setCell (Ai _) _).setCell (Ai _) _)
theorem wV(A:Option Addr)(n c:Nat)(p q t v f a o er:Int)(l:List UInt8)(w:World)(h:Cv w A n l)(hc:n≤c)(hn:n≤1099511627776)(h1:(lsFrom l p q t v:Int)=f)(h2:(lsAt l p q t v:Int)=a)(h3:(lsTo l p q t v:Int)=o)(h4:C2 l p q t v=er):
  Calls Ad 152 #[.slice A n c,.agg (Afg p q t v)] w (Afc (.tuple (Afg f a o er)) w):=by
 subst h1 h2 h3 h4;exact Wy A n c p q t v l w h hc hn
theorem Aa0(A:Option Addr)(n c:Nat)(p q t v k er:Int)(l:List UInt8)(w:World)(h:Cv w A n l)(hc:n≤c)(hn:n≤1099511627776)(h1:(lsLen l p q t v:Int)=k)(h4:C2 l p q t v=er):
  Calls Ad 153 #[.slice A n c,.agg (Afg p q t v)] w (Afc (.tuple #[Aa Ab k,Aa Ab er]) w):=by
 subst h1 h4;exact sH A n c p q t v l w h hc hn
theorem sA(A:Option Addr)(n c:Nat)(p q t v i a b d g er:Int)(l:List UInt8)(w:World)(h:Cv w A n l)(hc:n≤c)(hn:n≤1099511627776)(h1:Ka l p q t v i=a)(h2:Kb l p q t v i=b)(h3:Kv l p q t v i=d)(h4:Kw l p q t v i=g)(h5:F5 l p q t v i=er):
  Calls Ad 155 #[.slice A n c,.agg (Afg p q t v),Aa Ab i] w (Afc (.tuple #[.agg (Afg a b d g),Aa Ab er]) w):=by
 subst h1 h2 h3 h4 h5;exact wQ A n c p q t v i l w h hc hn
theorem Li(w:World):Below w.heap.size w w.drew:=(Af _ _).drew
theorem sM{V:Nat}(h:C2 l p q t V=0):
  lsFrom l p q t V≤lsAt l p q t V∧lsAt l p q t V+(lsLen l p q t V*V+lsLen l p q t V*tgs t)=lsTo l p q t V∧lsTo l p q t V≤l.length∧(V=1∨V=2∨V=4∨V=8)∧(lsAt l p q t V:Int) % V=0∧K5 t=true:=by
 obtain⟨h1,_,h2,h3,_,_,_,_,b⟩:=aO h;have d:=Cr.1 h2;rw [Ay] at h3;have a:lsTo l p q t V=lsAt l p q t V+lsLen l p q t V*(V+tgs t):=by
  unfold lsTo lsAt lsLen;rw [if_pos h,if_pos h,if_pos h];unfold Na;rw [Ay]
 have c:lsFrom l p q t V≤lsAt l p q t V:=by
  unfold lsFrom lsAt;rw [if_pos h,if_pos h];exact Nat.sub_le _ _
 exact⟨c,by rw [a,Nat.mul_add],by rw [a];exact h3,by omega,b,h1⟩
theorem Z8{a k:Nat}:(l.drop a).take k=(l.drop a).take ((l.drop a).take k).length:=by
 rw [Az,List.take_eq_take_iff];simp
theorem wI(h:D7 l p q t v [4,5,25]=0):∃a:Nat,Dj l p q t v [4,5,25]=a∧Fc l p q t v [4,5,25]=(l.drop a).take (Fc l p q t v [4,5,25]).length∧a+(Fc l p q t v [4,5,25]).length≤l.length:=by
 have ht:Ch l p q t v=0:=by
  by_cases c:Co l.length p q t v=0
  ·by_cases d:G3 [4,5,25] t=false
   ·unfold D7 at h;rw [if_neg (by simpa using c),if_pos d] at h;cases h
   ·by_cases b:Ch l p q t v=0
    ·exact b
    ·unfold D7 at h;rw [if_neg (by simpa using c),if_neg d,if_pos b] at h;exact absurd h b
  ·unfold D7 at h;rw [if_pos c] at h;exact absurd h c
 have e:=Yv ht;refine⟨(Cg l p q t v).toNat,?_,?_,?_⟩
 ·unfold Dj;rw [if_pos h];omega
 ·unfold Fc;rw [if_pos h];split
  ·unfold Om;exact Z8
  ·unfold cntL;exact Z8
 ·unfold Fc;rw [if_pos h];split
  ·unfold Om;rw [Az,List.length_drop];omega
  ·unfold cntL;rw [Az,List.length_drop];omega
def kyU(l:List UInt8)(p q t v:Int):Nat:=loadU l ((lsFrom l p q t v:Int)+v) v
def Ib(l:List UInt8)(p q t v:Int):Int:=
 if Co l.length p q t v≠0 then Co l.length p q t v else if t≠9 then 60 else if C2 l p q t v≠0 then C2 l p q t v else if Bz (kyU l p q t v:Int)=false then 212 else 0
def Gm(l:List UInt8)(p q t v:Int):Int:=if Ib l p q t v=0 then lsFrom l p q t v else 0
def Gn(l:List UInt8)(p q t v:Int):Int:=if Ib l p q t v=0 then v else 0
def Nq(l:List UInt8)(p q t v:Int):Int:=if Ib l p q t v=0 then 14 else 0
def Gw(l:List UInt8)(p q t v:Int):Int:=if Ib l p q t v=0 then kyU l p q t v else 0
def pI(w:World)(l:List UInt8)(p q t v:Int)(e:Ending)(w':World):Prop:=
 e= .returned (.tuple #[.agg #[Aa Ab (Gm l p q t v),Aa Ab (Gn l p q t v),Aa Ab (Nq l p q t v),Aa Ab (Gw l p q t v)],Aa Ab (Ib l p q t v)])∧Below w.heap.size w w'
theorem S5(h:Ib l p q t v=er)(hne:er≠0)(hb:Below w.heap.size w w'):pI w l p q t v (.returned (.tuple #[.agg (Afg 0 0 0 0),Aa Ab er])) w':=by
 unfold pI Gm Gn Nq Gw;rw [h,if_neg hne,if_neg hne,if_neg hne,if_neg hne];exact⟨rfl,hb⟩
theorem T4{g:Int}(h:Ib l p q t v=0)(h1:(lsFrom l p q t v:Int)=a)(h2:v=b)(h3:(kyU l p q t v:Int)=g)(hb:Below w.heap.size w w'):pI w l p q t v (.returned (.tuple #[.agg (Afg a b 14 g),Aa Ab 0])) w':=by
 unfold pI Gm Gn Nq Gw;rw [h,if_pos rfl,if_pos rfl,if_pos rfl,if_pos rfl,h1,h3,←h2];exact⟨rfl,hb⟩
theorem eD(l:List UInt8)(p q t v:Int):(Co l.length p q t v≠0∧Ib l p q t v=Co l.length p q t v)∨(Co l.length p q t v=0∧((t≠9∧Ib l p q t v=60)∨(t=9∧
  ((C2 l p q t v≠0∧Ib l p q t v=C2 l p q t v)∨(C2 l p q t v=0∧((Bz (kyU l p q t v:Int)=false∧Ib l p q t v=212)∨(Bz (kyU l p q t v:Int)=true∧Ib l p q t v=0))))))):=by
 unfold Ib;by_cases h1:Co l.length p q t v=0
 ·refine .inr ⟨h1,?_⟩;rw [if_neg (by simpa using h1)];by_cases h2:t=9
  ·refine .inr ⟨h2,?_⟩;rw [if_neg (by simpa using h2)];by_cases h3:C2 l p q t v=0
   ·refine .inr ⟨h3,?_⟩;rw [if_neg (by simpa using h3)];cases h4:Bz (kyU l p q t v:Int) with
    |false=>exact .inl ⟨rfl,if_pos rfl⟩
    |true=>exact .inr ⟨rfl,if_neg (by decide)⟩
   ·rw [if_pos h3];exact .inl ⟨h3,rfl⟩
  ·rw [if_pos h2];exact .inl ⟨h2,rfl⟩
 ·rw [if_pos h1];exact .inl ⟨h1,rfl⟩
theorem Aa1(l:List UInt8)(a x:Int):(loadU l a x:Int)<18446744073709551616:=by
 unfold loadU;split
 ·rename_i h;have h1:=Cr.1 h.1;have hl:=Vd ((l.drop a.toNat).take x.toNat);have h8:((l.drop a.toNat).take x.toNat).length≤8:=by
   have:=List.length_take_le x.toNat (l.drop a.toNat);omega
  have:=Nat.pow_le_pow_right (n:=2) (by omega) (Nat.mul_le_mul_left 8 h8);omega
 ·omega
theorem nF(A:Option Addr)(n c:Nat)(p q t v:Int)(l:List UInt8)(w:World)(h:Cv w A n l)(hc:n≤c)(hn:n≤1099511627776):
  Calls Ad 93 #[.slice A n c,.agg (Afg p q t v)] w (pI w l p q t v):=by
 have S:=h.1;subst S;have i:=Hd ((h.alloc (.cells (Afg p q t v) 70)).alloc (.cells (Afg 0 0 0 0) 70));have d:=Hd (((Af w.heap.size w).alloc (Ae _) (.cells (Afg p q t v) 70)).alloc (by simp) (.cells (Afg 0 0 0 0) 70));have f:=Hd ((Bk.new w 70 (Afg p q t v)).alloc (.cells (Afg 0 0 0 0) 70));have b:=Hd (Bk.new_ (w:=w.alloc (.cells (Afg p q t v) 70)) (g:=w.heap.size+1) (by simp) 70 (Afg 0 0 0 0));have j:=eD l p q t v;clear h;go_enter func93,ntmps93;go_wp2_with fail;go_at_call 148;refine(Ot A _ c p q t v _ (by omega)).mono ?_;generalize (w.alloc (.cells (Afg p q t v) 70)).alloc (.cells (Afg 0 0 0 0) 70)=wB at i d f b⊢;obtain ⟨y,z,B,C⟩:=f.o.c4;rintro e w1 ⟨rfl,a⟩;clear y z B C;replace d:=Hd (Bi d.o a);replace f:=Hd (f.o.pure a);replace b:=Hd (b.o.pure a);replace i:=Hd (i.o.pure a);clear a;obtain ⟨y,z,B,C⟩:=f.o.c4;rcases j with⟨R,u⟩|⟨R,j⟩
 ·have D:=Hd u;have H:=Hd R;have P:(Co l.length p q t v != 0)=true:=by simpa using R
  clear u R;obtain ⟨k,m,r,s⟩:=b.o.c4;obtain ⟨I,J,K,L⟩:=b.o.f4;go_wp2;refine bodyPost_ret (v:= .tuple #[.agg (Afg 0 0 0 0),Aa Ab (Co l.length p q t v)]) (by simp [results,results93,go_sem,k,m,r,s]) rfl ?_;exact S5 D.o H.o (Ed _ d.o (Ai _) _ _ _ _)
 ·rw [R];clear R;rcases j with⟨h9,u⟩|⟨rfl,j⟩
  ·have D:=Hd u;have H:=Hd (show(60:Int)≠0 by decide);have P:(t != 9)=true:=by simpa using h9
   clear u h9;obtain ⟨k,m,r,s⟩:=b.o.c4;obtain ⟨I,J,K,L⟩:=b.o.f4;go_wp2;refine bodyPost_ret (v:= .tuple #[.agg (Afg 0 0 0 0),Aa Ab 60]) (by simp [results,results93,go_sem,k,m,r,s]) rfl ?_;exact S5 D.o H.o (Ed _ d.o (Ai _) _ _ _ _)
  ·have O:=Hd j;clear j;go_wp2_with fail;go_at_call 152;refine(Wy A _ c p q 9 v l _ i.o hc hn).mono ?_;rintro e w2 ⟨rfl,a⟩;clear y z B C;replace d:=Hd (Bi d.o a);replace f:=Hd (f.o.pure a);replace b:=Hd (b.o.pure a);replace i:=Hd (i.o.pure a);clear a;obtain ⟨y,z,B,C⟩:=f.o.c4;rcases O.o with⟨M,u⟩|⟨M,j⟩
   ·have D:=Hd u;have H:=Hd M;have P:(C2 l p q 9 v != 0)=true:=by simpa using M
    clear u M O;obtain ⟨k,m,r,s⟩:=b.o.c4;obtain ⟨I,J,K,L⟩:=b.o.f4;go_wp2;refine bodyPost_ret (v:= .tuple #[.agg (Afg 0 0 0 0),Aa Ab (C2 l p q 9 v)]) (by simp [results,results93,go_sem,k,m,r,s]) rfl ?_;exact S5 D.o H.o (Ed _ d.o (Ai _) _ _ _ _)
   ·obtain⟨_,_,hW,_⟩:=aO M;have hv:=Cr.1 hW;rw [M];obtain⟨V,rfl⟩:∃V:Nat,v=V:=⟨v.toNat,by omega⟩;obtain⟨e1,e2,e3,_⟩:=sM M;obtain⟨nf,G⟩:∃x,lsFrom l p q 9 V=x:=⟨_,rfl⟩;obtain⟨U,X⟩:∃U,kyU l p q 9 V=U:=⟨_,rfl⟩;have aa:nf≤1099511627776:=by omega
    have Q:=Hd (show loadU l ((nf:Int)+(V:Int)) V=U by rw [←X,←G];rfl);have E:=Hd X;have F:=Hd G;have ak:V≤8:=by omega
    rw [X] at j;rw [G];have N:=Hd j;clear j X G M e1 e2 e3 hv hW O;rcases N.o with⟨T,u⟩|⟨T,u⟩
    ·have D:=Hd u;have H:=Hd (show(212:Int)≠0 by decide);have ae:(U:Int)<18446744073709551616:=by rw [←Q.o];exact Aa1 _ _ _
     have HW:=Hd T;clear u T N;go_wp2_with fail;go_at_call 149;refine(Ff A _ c ((nf:Int)+V) V l _ (Cy l.length ((nf:Int)+V) V) U i.o hc (by omega) rfl Q.o).mono ?_;rintro e Y ⟨rfl,a⟩;clear y z B C;replace d:=Hd (Bi d.o a);replace f:=Hd (f.o.pure a);replace b:=Hd (b.o.pure a);replace i:=Hd (i.o.pure a);clear a;obtain ⟨y,z,B,C⟩:=f.o.c4;go_wp2_with fail;go_at_call 32;refine(Jq ((U:Int) % 4294967296) _).mono ?_;cases hx:Bz ((U:Int) % 4294967296) with
     |false=>
      rw [bP hx];rintro e W ⟨rfl,rfl⟩;clear hx;obtain ⟨k,m,r,s⟩:=b.o.c4;obtain ⟨I,J,K,L⟩:=b.o.f4;go_wp2;refine bodyPost_ret (v:= .tuple #[.agg (Afg 0 0 0 0),Aa Ab 212]) (by simp [results,results93,go_sem,k,m,r,s]) rfl ?_;exact S5 D.o H.o (Ed _ d.o (Ai _) _ _ _ _)
     |true=>
      rw [Y6 hx];rintro e W ⟨rfl,rfl⟩;have hq:¬(U/4294967296=0):=by
       intro h0;have e:(U:Int) % 4294967296=U:=by omega
       rw [e,HW.o] at hx;cases hx
      have P:(((U:Int)/4294967296) != 0)=true:=by simpa using(show ¬((U:Int)/4294967296=0) by omega)
      clear hx hq;obtain ⟨k,m,r,s⟩:=b.o.c4;obtain ⟨I,J,K,L⟩:=b.o.f4;go_wp2;refine bodyPost_ret (v:= .tuple #[.agg (Afg 0 0 0 0),Aa Ab 212]) (by simp [results,results93,go_sem,k,m,r,s]) rfl ?_;exact S5 D.o H.o (Ed _ d.o (Ai _) _ _ _ _)
    ·have ab:=Cr.1 T;have D:=Hd u;clear u T N;have Z:U=1∨U=2∨U=4∨U=8:=by omega
     clear ab;rcases Z with rfl|rfl|rfl|rfl
     ·go_wp2_with fail;go_at_call 149;refine(Ff A _ c ((nf:Int)+V) V l _ (Cy l.length ((nf:Int)+V) V) 1 i.o hc (by omega) rfl Q.o).mono ?_;rintro e Y ⟨rfl,a⟩;clear y z B C;replace d:=Hd (Bi d.o a);replace f:=Hd (f.o.pure a);replace b:=Hd (b.o.pure a);replace i:=Hd (i.o.pure a);clear a;obtain ⟨y,z,B,C⟩:=f.o.c4;go_wp2_with fail;go_at_call 32;refine(Jq 1 _).mono ?_;rw [show Lo 1=0 by decide];rintro e W ⟨rfl,rfl⟩;obtain ⟨k,m,r,s⟩:=b.o.c4;obtain ⟨I,J,K,L⟩:=b.o.f4;go_wp2;refine bodyPost_ret (v:= .tuple #[.agg (Afg nf V 14 1),Aa Ab 0]) (by simp [results,results93,go_sem,k,m,r,s]) rfl ?_;exact T4 D.o (by rw [F.o]) rfl (by rw [E.o];rfl) (Ed _ d.o (Ai _) _ _ _ _)
     ·go_wp2_with fail;go_at_call 149;refine(Ff A _ c ((nf:Int)+V) V l _ (Cy l.length ((nf:Int)+V) V) 2 i.o hc (by omega) rfl Q.o).mono ?_;rintro e Y ⟨rfl,a⟩;clear y z B C;replace d:=Hd (Bi d.o a);replace f:=Hd (f.o.pure a);replace b:=Hd (b.o.pure a);replace i:=Hd (i.o.pure a);clear a;obtain ⟨y,z,B,C⟩:=f.o.c4;go_wp2_with fail;go_at_call 32;refine(Jq 2 _).mono ?_;rw [show Lo 2=0 by decide];rintro e W ⟨rfl,rfl⟩;obtain ⟨k,m,r,s⟩:=b.o.c4;obtain ⟨I,J,K,L⟩:=b.o.f4;go_wp2;refine bodyPost_ret (v:= .tuple #[.agg (Afg nf V 14 2),Aa Ab 0]) (by simp [results,results93,go_sem,k,m,r,s]) rfl ?_;exact T4 D.o (by rw [F.o]) rfl (by rw [E.o];rfl) (Ed _ d.o (Ai _) _ _ _ _)
     ·go_wp2_with fail;go_at_call 149;refine(Ff A _ c ((nf:Int)+V) V l _ (Cy l.length ((nf:Int)+V) V) 4 i.o hc (by omega) rfl Q.o).mono ?_;rintro e Y ⟨rfl,a⟩;clear y z B C;replace d:=Hd (Bi d.o a);replace f:=Hd (f.o.pure a);replace b:=Hd (b.o.pure a);replace i:=Hd (i.o.pure a);clear a;obtain ⟨y,z,B,C⟩:=f.o.c4;go_wp2_with fail;go_at_call 32;refine(Jq 4 _).mono ?_;rw [show Lo 4=0 by decide];rintro e W ⟨rfl,rfl⟩;obtain ⟨k,m,r,s⟩:=b.o.c4;obtain ⟨I,J,K,L⟩:=b.o.f4;go_wp2;refine bodyPost_ret (v:= .tuple #[.agg (Afg nf V 14 4),Aa Ab 0]) (by simp [results,results93,go_sem,k,m,r,s]) rfl ?_;exact T4 D.o (by rw [F.o]) rfl (by rw [E.o];rfl) (Ed _ d.o (Ai _) _ _ _ _)
     ·go_wp2_with fail;go_at_call 149;refine(Ff A _ c ((nf:Int)+V) V l _ (Cy l.length ((nf:Int)+V) V) 8 i.o hc (by omega) rfl Q.o).mono ?_;rintro e Y ⟨rfl,a⟩;clear y z B C;replace d:=Hd (Bi d.o a);replace f:=Hd (f.o.pure a);replace b:=Hd (b.o.pure a);replace i:=Hd (i.o.pure a);clear a;obtain ⟨y,z,B,C⟩:=f.o.c4;go_wp2_with fail;go_at_call 32;refine(Jq 8 _).mono ?_;rw [show Lo 8=0 by decide];rintro e W ⟨rfl,rfl⟩;obtain ⟨k,m,r,s⟩:=b.o.c4;obtain ⟨I,J,K,L⟩:=b.o.f4;go_wp2;refine bodyPost_ret (v:= .tuple #[.agg (Afg nf V 14 8),Aa Ab 0]) (by simp [results,results93,go_sem,k,m,r,s]) rfl ?_;exact T4 D.o (by rw [F.o]) rfl (by rw [E.o];rfl) (Ed _ d.o (Ai _) _ _ _ _)
def opE(l:List UInt8)(p q t v:Int):Int:=
 if Ib l p q t v≠0 then Ib l p q t v else if C2 l (Gm l p q t v) (Gn l p q t v) (Nq l p q t v) (Gw l p q t v)≠0 then C2 l (Gm l p q t v) (Gn l p q t v) (Nq l p q t v) (Gw l p q t v) else if lsLen l p q t v≠lsLen l (Gm l p q t v) (Gn l p q t v) (Nq l p q t v) (Gw l p q t v) then 214 else 0
theorem fB{i:Nat}(h:I5 w B (some ⟨g,0,none⟩) n c l)(hi:i<n)(b:UInt8):
  (w.frozen? ⟨g,i,none⟩=false∧∃u,w.cell? ⟨g,i,none⟩=some u)∧I5 (w.setCell ⟨g,i,none⟩ (.int .u8 (b.toNat:Int))) B (some ⟨g,0,none⟩) n c (l.take i++ [b]++l.drop (i+1)):=by
 obtain⟨d,e,f,a⟩:=kH h;refine⟨⟨e.frozen i,_,(e.cell i).trans (Array.getElem?_eq_getElem (by omega))⟩,a _ _ i 1 [b] (e.set_ i _) ?_ rfl (by omega)⟩;have:=(M5.zero d i ([b].flatMap bc)).step (v:= .int .u8 (b.toNat:Int)) rfl (by omega);exact this
theorem xI(h:I5 w B A n c l)(hn:0<n):∃g,A=some ⟨g,0,none⟩∧B≤g:=by
 cases A with
 |none=>exact absurd (h.is.none_ D1 (by omega)).2 (by omega)
 |some ad=>
  obtain⟨h1,h2,_⟩:=h.addr ad rfl;exact⟨ad.block,by rw [h1],h2⟩
theorem dL(A:Option Addr)(n c:Nat)(p q t v a b d g er:Int)(l:List UInt8)(w:World)(h:Cv w A n l)(hc:n≤c)(hn:n≤1099511627776)(h1:Gm l p q t v=a)(h2:Gn l p q t v=b)(h3:Nq l p q t v=d)(h4:Gw l p q t v=g)(h5:Ib l p q t v=er):
  Calls Ad 93 #[.slice A n c,.agg (Afg p q t v)] w (Afc (.tuple #[.agg (Afg a b d g),Aa Ab er]) w):=by
 subst h1 h2 h3 h4 h5;exact nF A n c p q t v l w h hc hn
theorem nW{i g' j:Nat}{u v:Value}(h:w.cell? ⟨g,i,none⟩=some v)(hne:g≠g'):(w.setCell ⟨g',j,none⟩ u).cell? ⟨g,i,none⟩=some v:=Ve h hne
end Go.Proofs.YtejpbijeifjdeaaGreat
