/- Parts of the proof. -/
import Derived.Test.YtejpbijeifjdeaaGreatQv27
set_option maxHeartbeats 4000000
set_option maxRecDepth 100000
open Go.Value renaming int→Aa
open Go.IntKind renaming i64→Ab,u64→Ac
open Nat renaming le_refl→Ae,zero_le→Am
open Go.RowKit.Below renaming refl→Af
open Go.IntWalk renaming i64_in→Ag
open List renaming getElem?_eq_getElem→Ai,take_of_length_le→Aw,getD_eq_getElem?_getD→Ay,take_succ_eq_append_getElem→Az
open UInt8 renaming ofNat→Aq
open Go.Proofs.Tryz
open Go.Proofs.Tryz renaming prog→Ad
namespace Go.Proofs.YtejpbijeifjdeaaGreat
open Go.RowKit Go.Acc
variable {l L s:List UInt8}{p:Nat→Prop}{v:Bv}{t:Tr}{x:Nv}{a k u:Nat}{α β:Type}{n:Int}{c:List Tr}{ks:List (List UInt8)}
structure lL(l:List UInt8)(p w:Nat)(v:Bv):Prop where
 sl:Fa l p w v
 len:p+w+2=l.length
 md:p % w=0
 leg:Ch (v.t:Int)=true
 vw:Br (v.w:Int)=true
 tg:At l (p+w) [D2 w v,Aq w]
theorem rK(A:Option Addr)(n c:Nat)(p q t v:Int)(x:Nv)(w:World)(hsay:∀W,Below w.heap.size w W→Calls Ad 87 #[.slice A n c,.agg (Ab9 p q t v),Aa Ab p,.agg (Ab7 x)] W (K1 W)):
  Calls Ad 51 #[.slice A n c,.agg (Ab9 p q t v),.agg (Ab7 x)] w (K1 w):=by
 have h:=Hd hsay;have a:=Hd (Bq w (.cells (Ab9 p q t v) 70) (.cells (Ab7 x) 34));have f:=Hd ((Bb.new w 70 (Ab9 p q t v)).alloc (.cells (Ab7 x) 34));have d:=Hd (Bb.new_ (w:=w.alloc (.cells (Ab9 p q t v) 70)) (g:=w.heap.size+1) (by simp) 34 (Ab7 x));clear hsay;go_enter func51,ntmps51;go_upto_region 1 with fail
 generalize (w.alloc (.cells (Ab9 p q t v) 70)).alloc (.cells (Ab7 x) 34)=w1 at a f d⊢;generalize w.heap.size+1=bn at d⊢;obtain ⟨j,k,l,m⟩:=f.o.c4;obtain ⟨s,u,y,z,B,C⟩:=d.o.c6;unfold K1 at h;go_wp2_with fail;go_at_call 87;refine(h.o w1 a.o).mono ?_;rintro e r ⟨rfl,i⟩;have b:=Hd (A6 a.o i);clear i;go_wp2_with fail;go_ret;exact⟨rfl,b.o⟩
theorem Vb{A:Option Addr}{n c p0 w0:Nat}{w:World}(hl:B4 w A n l)(hc:n≤c)(hn:n≤1099511627)(hr:lL l p0 w0 v)(hd:Dn l v t)(hlow:Nn p0 v)(hx:B7 w p x t):
  Calls Ad 19 #[.slice A n c,.agg (Ab7 x)] w (K1 w):=by
 have j:=hl.1;have J:Br (ownW w0 v:Int)=true:=by unfold ownW;split;exact hr.sl.sw;exact hr.vw
 obtain⟨Z,u2,u3⟩:=pX v.t (ownW w0 v) hr.leg J;have eb:D2 w0 v=Aq (4*v.t+bCode (ownW w0 v)):=rfl;rw [←eb] at Z u2 u3;have U:=hr.len;have V:=B6.1 hr.sl.sw;have a0:=hr.md;have h2:n-2=p0+w0:=by omega
 have h1:n-1=p0+w0+1:=by omega
 obtain⟨b,Y,rfl,G,r⟩:=Ep hl (k:=n-1) (by omega);obtain⟨b',ah,T,H,L⟩:=Ep hl (k:=n-2) (by omega);injection T with T
 injection T with e1 e2
 subst e1 e2;have D:=hr.tg.get (i:=1) (by simp);have E:=hr.tg.get (i:=0) (by simp);rw [←h1,Ai G] at D;rw [Nat.add_zero,←h2,Ai H] at E;injection D with D
 injection E with E
 rw [D] at r;rw [E] at L;have K:(Aq w0).toNat=w0:=by
  rw [UInt8.toNat_ofNat'];rcases Jf.1 hr.sl.sw with rfl|rfl|rfl|rfl <;>rfl
 rw [K] at r;have S:=Hd (fun W=>Ln (D2 w0 v) W);rw [Z,u2,u3] at S;have f:=(Af w.heap.size w).alloc (Ae _) (.cells (Ab7 x) 34);have y:=Hd f;have C:=Hd (hl.pure f);have a:=Hd (Bb.new w 34 (Ab7 x));replace r:=Ba f r;replace L:=Ba f L;have g:=Hd (fun W (hW:Below w.heap.size w W) A2 n2 c2 (h:B4 W A2 n2 l) (hc2:n2≤c2)=>pK h hc2 (by rw [←h.1,j];omega) hd x (hx.pure hW) p0 w0 p0 hr.sl hlow W (Af _ _));have HC:=Hd (fun W=>Es (w0:Int) W hr.sl.sw);have a2:3≤n:=by omega
 have a1:(3:Int)≤(n:Int):=by omega
 have a5:1≤w0∧w0≤8:=by omega
 have ag:n≤1099511627776:=by omega
 have a6:IntKind.i64.wrap (((n-2:Nat):Int)-(w0:Int))=(p0:Int):=(Ag _ (by omega)).trans (by omega);have a3:IntKind.i64.wrap ((n:Int)-1)=((n-1:Nat):Int):=(Ag _ (by omega)).trans (by omega);have a4:IntKind.i64.wrap ((n:Int)-2)=((n-2:Nat):Int):=(Ag _ (by omega)).trans (by omega);have I:(p0:Int) % (w0:Int)=0:=by omega
 clear hr hd hlow hx j J Z u2 u3 eb U V D E K h1 h2 f hl G H;go_enter func19,ntmps19;go_upto_region 1 with fail
 generalize w.alloc (.cells (Ab7 x) 34)=w1 at y C a r L⊢;generalize F:w.heap.size=bt at y a g⊢;have HT:=Hd F;clear F;go_wp2_with fail;go_at_call 50;refine(S.o _).mono ?_;rintro e M ⟨rfl,d⟩;replace y:=Hd (y.o.trans (d.mono (Nat.le_of_lt a.o.lt)));replace C:=Hd (C.o.pure d);replace a:=Hd (a.o.pure d);clear d r L S;go_wp2_with fail;go_at_call 32;refine(HC.o _).mono ?_;rintro e w' ⟨⟨cc,rfl⟩,rfl⟩;obtain ⟨x0,x1,x2,x3,x4,x5⟩:=a.o.c6;have Q:=Hd (Oa (some ⟨b,Y,none⟩) n c l M.drew C.o (by omega));have az:(((p0:Int) % (w0:Int)) != 0)=false:=by rw [I];rfl
 clear I;go_wp2_with fail;go_region_held3 (fun w'=>w'.cell? ⟨bt,0,none⟩=some (Aa Ab x.k)∧w'.cell? ⟨bt,1,none⟩=some (Aa Ab x.n)∧w'.cell? ⟨bt,2,none⟩=some (Aa Ac (x.u:Int))∧w'.cell? ⟨bt,3,none⟩=some (.string ⟨x.s.toArray⟩)∧w'.cell? ⟨bt,4,none⟩=some (.slice x.A x.an x.ac)∧w'.cell? ⟨bt,5,none⟩=some (.slice x.B x.bn x.bc)) (first|with_reducible exact⟨x0,x1,x2,x3,x4,x5⟩|with_reducible exact⟨Bc x0,Bc x1,Bc x2,Bc x3,Bc x4,Bc x5⟩|with_reducible exact⟨y0,y1,y2,y3,y4,y5⟩|with_reducible exact⟨z0,z1,z2,z3,z4,z5⟩) (first
  |(go_at_call 52;(with_reducible refine Q.o.mono ?_);rintro e w3 ⟨A1,X,c1,rfl,N,d⟩;obtain rfl:X=n:=(by rw [←N.1,C.o.1]);have q:Below M.heap.size M w3:=((Af M.heap.size M).drew).trans d;have m:=Hd (a.o.pure q);obtain ⟨y0,y1,y2,y3,y4,y5⟩:=m.o.c6;have z:=Hd (y.o.trans (q.mono (Nat.le_of_lt a.o.lt)));have R:=Hd N.is;have P:=Hd N.cap.1;clear N d q)
  |(go_at_call 51;(with_reducible refine(rK A1 X c1 p0 w0 v.t (ownW w0 v:Int) x w3 (fun W hW=>g.o W (z.o.trans (hW.mono (Nat.le_of_lt m.o.lt))) A1 X c1 (R.o.pure hW) P.o)).mono ?_);rintro e w4 ⟨rfl,d⟩;have O:=Hd (z.o.trans (d.mono (Nat.le_of_lt m.o.lt)));have z0:=Ba d y0;have z1:=Ba d y1;have z2:=Ba d y2;have z3:=Ba d y3;have z4:=Ba d y4;have z5:=Ba d y5;clear d))
 go_wp2_with fail;go_ret;refine⟨rfl,?_⟩;rw [HT.o];exact O.o
def Kg(L:List UInt8)(a:Nat)(m:List UInt8):Prop:=(L.drop a).take m.length=m∧a+m.length≤L.length
instance (L:List UInt8) (a:Nat) (m:List UInt8):Decidable (Kg L a m):=by unfold Kg;infer_instance
theorem Kg.at{m:List UInt8}(h:Kg L a m):At L a m:=by
 refine⟨L.take a,L.drop (a+m.length),?_,by rw [List.length_take];have:=h.2;omega⟩;have e:L.take a++m=L.take (a+m.length):=by rw [List.take_add,h.1]
 rw [e,List.take_append_drop]
instance (w p:Nat) (y:Bv):Decidable (Qu w p y):=by unfold Qu;infer_instance
def Mp(L:List UInt8)(vs:List Bv)(v:Bv):Prop:=
 Br (v.w:Int)=true∧Iq (v.t:Int)=true∧(0+v.n) % v.w=0∧aheadT (v.t:Int)*v.w≤0+v.n∧(0<Cr (v.t:Int)→Cr (v.t:Int)=(vs.length:Int))∧(¬0<Cr (v.t:Int)→loadU L (((0+v.n:Nat):Int)-(v.w:Int)) (v.w:Int)=vs.length)∧0+v.n+vs.length*(v.w+tgs (v.t:Int))≤L.length∧
  (Dk (v.t:Int)=true→Kg L (0+v.n+vs.length*v.w) (vs.map (D2 v.w)))∧(∀i,i<vs.length→Kg L (0+v.n+i*v.w) (Bi v.w (Dc v.w (v.n+i*v.w) (vs.getD i ⟨0,0,0⟩)))∧Qu v.w (v.n+i*v.w) (vs.getD i ⟨0,0,0⟩))∧
  ∀y∈vs,((y.t=0∧y.w=1∧y.n=0)∨(y.t=2∧y.w=bWidth y.n∧y.n<18446744073709551616)∨inl y.t=false)∧(Ch (y.t:Int)=true∧Br (y.w:Int)=true∧(Dk (v.t:Int)=false→Fh (v.t:Int)=(y.t:Int)))∧(inl y.t=false→(y.n:Int)-F4 y.t*(y.w:Int)<(v.n:Int)-aheadT (v.t:Int)*v.w)
instance (L:List UInt8) (vs:List Bv) (v:Bv):Decidable (Mp L vs v):=by unfold Mp;infer_instance
theorem Mp.ok{vs:List Bv}(h:Mp L vs v):Mb L 0 vs v∧O9 v.t vs∧∀y∈vs,Nn ((v.n:Int)-aheadT (v.t:Int)*v.w) y:=by
 obtain⟨h1,h2,h3,b,c,d,f,g,j,a⟩:=h;refine⟨⟨h1,h2,h3,b,c,d,f,fun ht=>(g ht).at,fun i y hy=>?_⟩,fun y hy=>⟨?_,(a y hy).2.1⟩,fun y hy=>(a y hy).2.2⟩
 ·obtain⟨k,e⟩:=List.getElem?_eq_some_iff.1 hy;have:=j i k;rw [Ay,hy,Option.getD_some] at this;exact⟨this.1.at,this.2⟩
 ·obtain⟨t,w,n⟩:=y;rcases(a _ hy).1 with⟨rfl,rfl,rfl⟩|⟨rfl,h,hn⟩|h
  ·exact .inl rfl
  ·have h:w=bWidth n:=h;subst h;exact .inr (.inr (.inr (.inl ⟨n,hn,rfl⟩)))
  ·exact .inr (.inr (.inr (.inr h)))
theorem Lf{R:α→β→Prop}:∀(i:Nat) (x:α) (y:β),([]:List α)[i]?=some x→([]:List β)[i]?=some y→R x y:=fun i x y h=>by simp at h
theorem Fk{R:α→β→Prop}{a:α}{b:β}{l:List α}{m:List β}(h:R a b)(hs:∀(i:Nat) x y,l[i]?=some x→m[i]?=some y→R x y):∀(i:Nat) x y,(a::l)[i]?=some x→(b::m)[i]?=some y→R x y:=by
 intro i x y hx hy;cases i with
 |zero=>
  injection hx with hx
  injection hy with hy
  rw [←hx,←hy];exact h
 |succ i=>exact hs i x y hx hy
def Ht:Tr:=sL 16 4 0 1 0 1099511627776
def lG(L:List UInt8)(e a:Nat):Prop:=
 (Mp L [⟨10,1,11⟩,⟨17,8,24⟩,⟨9,1,e+4⟩] ⟨9,1,e+13⟩∧Mp L [⟨4,1,0⟩,⟨4,1,19⟩,⟨4,1,40⟩] ⟨14,1,e+7⟩∧Mp L [⟨6,2,2⟩,⟨5,1,5⟩,⟨25,1,9⟩,⟨10,1,10⟩] ⟨10,1,11⟩∧Mp L [] ⟨10,1,10⟩∧Mp L [Ds 1,Ds 1099511627776] ⟨17,8,24⟩∧Mp L [⟨0,1,0⟩] ⟨9,1,e+4⟩∧Mp L [⟨4,1,a⟩] ⟨14,1,e⟩)∧
 (Kg L 0 [0]∧Kg L 19 [97,0]∧Kg L 40 [98,0]∧Kg L a [97,0]∧Kg L 2 (Bi (bWidthI (-300)) (bits (-300) % 2^(8*bWidthI (-300))))∧Kg L 4 (Bi 1 2++ [195,169]++ [0])∧Kg L 8 (Bi 1 0++ []++ []))∧
 (Kg L (e+10) (Bi 1 (Dc 1 (e+10) ⟨14,1,e+7⟩))∧Qu 1 (e+10) ⟨14,1,e+7⟩∧Kg L (e+10+1) (Bi 1 1)∧Kg L (e+1) (Bi 1 (Dc 1 (e+1) ⟨14,1,e⟩))∧Qu 1 (e+1) ⟨14,1,e⟩∧Kg L (e+1+1) (Bi 1 1))∧
 (Kg L (e+19) (Bi 1 (Dc 1 (e+19) ⟨9,1,e+13⟩))∧Qu 1 (e+19) ⟨9,1,e+13⟩∧e+19+1+2=L.length∧Kg L (e+19+1) [D2 1 ⟨9,1,e+13⟩,1])
instance (L:List UInt8) (e a:Nat):Decidable (lG L e a):=by unfold lG;infer_instance
theorem Vk{f g:Int}{y:Bv}(h:Nn f y)(e:f=g):Nn g y:=e▸h
theorem uJ{e:Nat}(h:lG L e a):lL L (e+19) 1 ⟨9,1,e+13⟩∧Dn L ⟨9,1,e+13⟩ Ht∧Nn ((e+19:Nat):Int) ⟨9,1,e+13⟩:=by
 obtain⟨⟨g,p,j,k,l,m,d⟩,⟨B,C,D,E,F,N,O⟩,⟨J,G,Q,K,H,R⟩,M,I,c,P⟩:=h;have r:Dn L ⟨6,2,2⟩ (.mk 8 (-300) 0 [] [] []):= .indInt ⟨rfl,by decide,F.at,by decide⟩ (by decide);have u:Dn L ⟨5,1,5⟩ (.mk 6 0 0 [195,169] [] []):= .str ⟨rfl,by decide,4,rfl,N.at,by decide⟩;have v:Dn L ⟨25,1,9⟩ (.mk 7 0 0 [] [] []):= .blob ⟨rfl,by decide,8,rfl,O.at,by decide⟩;have w:Dn L ⟨10,1,10⟩ (.mk 10 0 0 [] [] []):= .list (by decide) (by decide) k.ok.1 rfl k.ok.2.1 k.ok.2.2 Lf;have q:Dn L ⟨10,1,11⟩ (.mk 10 0 0 [] [] [.mk 8 (-300) 0 [] [] [],.mk 6 0 0 [195,169] [] [],.mk 7 0 0 [] [] [],.mk 10 0 0 [] [] []]):= .list (by decide) (by decide) j.ok.1 rfl j.ok.2.1 j.ok.2.2 (Fk r (Fk u (Fk v (Fk w Lf))));have x:Dn L ⟨17,8,24⟩ (.mk 16 0 0 [] [] [.mk 4 0 1 [] [] [],.mk 4 0 1099511627776 [] [] []]):= .list (by decide) (by decide) l.ok.1 rfl l.ok.2.1 l.ok.2.2 (Fk (.uint (by decide)) (Fk (.uint (by decide)) Lf));have n:aheadT ((9:Nat):Int)=3:=by decide
 have b:aheadT ((14:Nat):Int)=1:=by decide
 have f:Br ((1:Nat):Int)=true:=by decide
 have A:Ch ((9:Nat):Int)=true:=by decide
 have z:Dn L ⟨9,1,e+4⟩ (.mk 17 0 0 [] [[97]] [.mk 1 0 0 [] [] []]):=
  .map (kv:=⟨14,1,e⟩) (cc:=e+1) rfl m.ok.1 rfl m.ok.2.1 (fun y hy=>Vk (m.ok.2.2 y hy) (by show((e+4:Nat):Int)-(aheadT ((9:Nat):Int):Int)*((1:Nat):Int)=_;rw [n];omega)) rfl rfl d.ok.1 ⟨rfl,Fk ⟨rfl,rfl,E.at⟩ Lf⟩ rfl (by decide)
   (fun i s t h1 h2=>by rw [List.getElem?_eq_none (by simp)] at h2;cases h2) (fun y hy=>Vk (d.ok.2.2 y hy) (by show((e:Nat):Int)-(aheadT ((14:Nat):Int):Int)*((1:Nat):Int)=_;rw [b];simp)) ⟨f,K.at,H⟩ R.at (Fk .null Lf)
 refine⟨⟨⟨f,M.at,I⟩,c,Nat.mod_one _,A,f,P.at⟩,?_,fun _=>?_⟩
 ·refine .map (kv:=⟨14,1,e+7⟩) (cc:=e+10) rfl g.ok.1 rfl g.ok.2.1 (fun y hy=>Vk (g.ok.2.2 y hy) (by show((e+13:Nat):Int)-(aheadT ((9:Nat):Int):Int)*((1:Nat):Int)=_;rw [n];omega)) rfl rfl p.ok.1 ⟨rfl,Fk ⟨rfl,rfl,B.at⟩ (Fk ⟨rfl,rfl,C.at⟩ (Fk ⟨rfl,rfl,D.at⟩ Lf))⟩ rfl (by decide)
   (fun i s t h1 h2=>?_) (fun y hy=>Vk (p.ok.2.2 y hy) (by show((e+7:Nat):Int)-(aheadT ((14:Nat):Int):Int)*((1:Nat):Int)=_;rw [b];simp)) ⟨f,J.at,G⟩ Q.at (Fk q (Fk x (Fk z Lf)))
  have o:i=0∨i=1∨2≤i:=by omega
  rcases o with rfl|rfl|o
  ·cases h1;cases h2;decide
  ·cases h1;cases h2;decide
  ·rw [List.getElem?_eq_none (by simp;omega)] at h2;cases h2
 ·show((e+13:Nat):Int)-F4 ((9:Nat):Int)*((1:Nat):Int)<_;rw [show F4 ((9:Nat):Int)=3 by decide];omega
theorem Ls:(Jm Ji 0 Ht 0).1=0∧Ht.cost≤65000:=by decide +kernel
theorem Pn:Cs Ht=Ht:=by kernel_rfl
theorem vE:(Hn 40 Ht 59).1=Ht:=by rfl
def Nr(fl:Int):Nat:=if Go.bits .and .i64 fl 1=0 then bits (Go.bits .andNot .i64 fl 4) else bits fl
def Xv(fl:Int):List UInt8:=F5 (Nr fl) Ht
def Kq(L:List P3)(k i:Nat):Bool:=(L.take k).all fun p=>decide ((i:Int)<p.1)||decide (p.2.1≤(i:Int))
def Jp(L:List P3)(q:Int)(l:List UInt8):Nat→List UInt8
 |0=>l
 |k+1=>if Kq L L.length k=true then(Jp L q l k).take k++ [Aq ((q+(k:Int) % 7) % 256).toNat]++(Jp L q l k).drop (k+1) else Jp L q l k
def Ju(L:List P3)(k:Nat):Int:=((L.take k).getLast?.map (·.2.1)).getD 0
def Zi(l:List UInt8)(L:List P3):Prop:=Ju L L.length=l.length∧∀k,k<L.length→0≤Ju L k∧Ju L k≤(L.getD k (0,0,0)).1∧(L.getD k (0,0,0)).1<(L.getD k (0,0,0)).2.1∧(L.getD k (0,0,0)).2.1≤l.length∧∀j:Nat,j<l.length→Ju L k≤(j:Int)→(j:Int)<(L.getD k (0,0,0)).1→l[j]?=some 0
instance (l:List UInt8) (L:List P3):Decidable (Zi l L):=by unfold Zi;infer_instance
def Zk(l:List UInt8)(e a:Nat):Prop:=l.length=e+22∧Cb l 1000=0∧Zi l (Cg l 1000)∧lG l e a∧lG (Jp (Cg l 1000) 77 l l.length) e a
instance (l:List UInt8) (e a:Nat):Decidable (Zk l e a):=by unfold Zk;infer_instance
theorem Abk:Zk (Xv 0) 45 42∧Cb (Xv 0) (Ht.cnt:Int)=0∧Cb (Xv 0) ((Ht.cnt:Int)-1)=260∧Ht.cnt=17:=by decide +kernel
theorem Abl:Zk (Xv 7) 43 19:=by decide +kernel
def xX(w:World)(T:Tr)(f:Nat)(e:Ending)(w':World):Prop:=
 ∃(z:Nv) (A:Option Addr) (n c:Nat),e= .returned (.tuple #[.agg (Ab7 z),.slice A n c,.bool true])∧B7 w' (fun b=>b<w'.heap.size) z T∧Gp w' w.heap.size A n c (F5 f T)∧Below w.heap.size w w'
theorem Wh(x:Nv)(T:Tr)(fl:Int)(w:World)(hC:∀W,Below w.heap.size w W→Calls Ad 38 #[.agg (Ab7 x),Aa Ab 60,Aa Ab 40] W (R8 W T))(hs:Cs T=T)(hca:Ew T)(hc:T.cost≤65000)(he:(Jm Ji 0 T 0).1=0):
  Calls Ad 15 #[.agg (Ab7 x),Aa Ab fl] w (xX w T (Nr fl)):=by
 have N:=Hd hC;have ak:=Hd (show Ew (Cs T) by rw [hs];exact hca);have i:=Hd (And.intro hc he);have X:=Hd hs;clear hC hca hc he hs;have Z:=Bq w (.cells (Ab7 x) 34) (.cells #[Aa Ab 0,Aa Ab 0,Aa Ac 0,.string ⟨#[]⟩,.slice none 0 0,.slice none 0 0] 34);have HX:=Hd ((Bb.new w 34 (Ab7 x)).alloc (.cells #[Aa Ab 0,Aa Ab 0,Aa Ac 0,.string ⟨#[]⟩,.slice none 0 0,.slice none 0 0] 34));have R:=Hd (Bb.new_ (w:=w.alloc (.cells (Ab7 x) 34)) (g:=w.heap.size+1) (by simp) 34 #[Aa Ab 0,Aa Ab 0,Aa Ac 0,.string ⟨#[]⟩,.slice none 0 0,.slice none 0 0]);have HB:=Hd Z;clear Z;go_enter func15,ntmps15;go_upto_region 1 with fail
 generalize (w.alloc (.cells (Ab7 x) 34)).alloc (.cells #[Aa Ab 0,Aa Ab 0,Aa Ac 0,.string ⟨#[]⟩,.slice none 0 0,.slice none 0 0] 34)=w1 at HX R HB⊢;generalize ab:w.heap.size=bt at HX R⊢;generalize aa:bt+1=br at R⊢;have HT:=Hd (And.intro ab aa);clear ab aa;obtain ⟨c0,c1,c2,c3,c4,c5⟩:=HX.o.c6;have HC:=Hd (N.o w1 HB.o);go_wp2_with fail;go_at_call 38;refine HC.o.mono ?_;rintro e w2 ⟨y,rfl,Y,I⟩;have O:=Hd (show B7 w2 (fun b=>b<w2.heap.size) y T from Y.mono fun b hb=>hb.2);have M:=Hd (A6 HB.o I);have D:=Hd (R.o.pure I);clear Y I c0 c1 c2 c3 c4 c5 HC HX R HB;have V:=Hd (Qt O.o (fun k hk=>hk) (Nat.le_trans i.o.1 (by decide)) i.o.2);go_wp2_with fail;go_at_call 40;refine V.o.mono ?_;rintro e L ⟨z,rfl,G,J⟩;rw [X.o] at G;have t:=Hd (A6 M.o J);have S:=Hd (D.o.pure J);have am:=Hd (show br<w2.heap.size from D.o.lt);have P:=Hd G;clear J G V O M D;go_upto_region 2 with fail
 have H:=(Af L.heap.size L).alloc (Ae _) (.cells (Ab7 z) 34);have C:=Hd (t.o.alloc t.o.size (.cells (Ab7 z) 34));have E:=Hd (S.o.alloc (.cells (Ab7 z) 34));have p:=Hd (Bb.new L 34 (Ab7 z));have f:=Hd (P.o.pure H);have l:=Hd H.size;generalize L.alloc (.cells (Ab7 z) 34)=w4 at C E p f l⊢;have r:=Hd (show ∀a,(w2.heap.size≤a∧a<L.heap.size)→a≠br from fun a h=>by have:=am.o;omega);generalize L.heap.size=bz at p l r f⊢;have ao:=Hd (show B7 w4 (fun b=>b<w4.heap.size) z T from f.o.mono fun b hb=>Nat.lt_of_lt_of_le hb.2 l.o);clear t S H P;have aj:=Hd (fun F=>Xt F ao.o (fun k hk=>hk) ak.o i.o.1 i.o.2);obtain ⟨z0,z1,z2,z3,z4,z5⟩:=p.o.c6;obtain⟨q,hq⟩:∃q,Go.bits .and .i64 fl 1=q:=⟨_,rfl⟩;obtain⟨q2,av⟩:∃q,Go.bits .andNot .i64 fl 4=q:=⟨_,rfl⟩;have aw:(q=0∧Nr fl=bits q2)∨((q==0)=false∧Nr fl=bits fl):=by
  unfold Nr;rw [hq,av];by_cases h:q=0
  ·exact .inl ⟨h,if_pos h⟩
  ·exact .inr ⟨beq_eq_false_iff_ne.mpr h,if_neg h⟩
 rcases aw with⟨rfl,K⟩|⟨bh,K⟩
 all_goals
  have al:=Hd K;clear K;go_wp2_with fail;go_at_call 10;refine(aj.o _).mono ?_;intro e w5 hD;obtain⟨A,m,c,rfl,hO,hb⟩:=hD;rw [X.o,←al.o] at hO;have Q:=Hd hO;have ap:=Hd (f.o.pure hb);have U:=Hd (E.o.pure hb);have ar:=Hd (p.o.pure hb);have ai:=Hd (A6 C.o hb);have aq:=Hd hb.size;clear hO hb z0 z1 z2 z3 z4 z5;obtain ⟨r0,r1,r2,r3,r4,r5⟩:=U.o.c6;have d:∀j,w5.frozen? ⟨br,j,none⟩=false:=fun j=>U.o.frozen j
  have f0:=d 0;have f1:=d 1;have f2:=d 2;have f3:=d 3;have f4:=d 4;have f5:=d 5;clear d;obtain ⟨z0,z1,z2,z3,z4,z5⟩:=ar.o.c6;go_wp2_with fail;refine bodyPost_ret (v:= .tuple #[.agg (Ab7 z),.slice A m c,.bool true]) (by simp [results,results15,go_sem,r0,r1,r2,r3,r4,r5]) rfl ?_;have hf:=Ij w5 br (Aa Ab z.k) (Aa Ab z.n) (Aa Ac (z.u:Int)) (.string ⟨z.s.toArray⟩) (.slice z.A z.an z.ac) (.slice z.B z.bn z.bc);have ht:=HT.o;have bi:=E.o.lt;have bk:=aq.o;have bf:=hf.size;have bj:=l.o;have be:=C.o.size;exact⟨z,A,m,c,rfl,(ap.o.keep fun a u hc hp=>Cq hf hc (r.o a.block hp)).mono fun b hb=>by omega,(Q.o.fr hf (fun ad e hj=>by have:=Q.o.addr ad e;omega)).rebase (by omega),Cf ai.o hf (by rintro j rfl;omega)⟩
theorem Xy{l:List Tr}(h:l[k]?=some t):Tr.cntL (l.take (k+1))=Tr.cntL (l.take k)+t.cnt∧Tr.cntL (l.take k)+t.cnt≤Tr.cntL l:=by
 have c:∀a b:List Tr,Tr.cntL (a++b)=Tr.cntL a+Tr.cntL b:=by
  intro a
  induction a with
  |nil=>intro b;simp [Tr.cntL]
  |cons x r ih=>intro b;rw [List.cons_append,Tr.cntL,Tr.cntL,ih,Nat.add_assoc]
 obtain⟨i,e⟩:=List.getElem?_eq_some_iff.1 h;have d:l.take (k+1)=l.take k++ [t]:=by rw [Az i,e]
 have f:Tr.cntL (l.take (k+1))=Tr.cntL (l.take k)+t.cnt:=by rw [d,c];simp [Tr.cntL]
 refine⟨f,?_⟩;have g:=c (l.take (k+1)) (l.drop (k+1));rw [List.take_append_drop] at g;omega
theorem jD{w0:World}(h:B7 w0 p x t):(∀k,p k→k<w0.heap.size)→t.cnt≤100000→∀w,Below w0.heap.size w0 w→Calls Ad 57 #[.agg (Ab7 x)] w (Ab5 (Aa Ab (t.cnt:Int)) w):=by
 induction h with
 | @mk x ks l vs h1 ha hac hx h2 j hbc hy hl hc ih=>
  intro hp M w hw;obtain⟨r,G,H,xs,N,xan,m,A,xbn,f⟩:=x;have P:ks.length=xan:=h1.1;have ag:=Hd P;have ad:vs.length=xbn:=h2.1;have M:Tr.cnt (.mk r G H xs ks l)≤100000:=M;have L:=M;rw [Tr.cnt] at L;have aa:=Hd (h2.pure hw);have Z:=Hd (fun(i:Nat) v z (a:vs[i]?=some v) (b:l[i]?=some z) (c:z.cnt≤100000) (W:World) (d:Below w0.heap.size w0 W)=>ih i v z a b hp c W d);have ab:=Hd hw;have y:=Hd (And.intro ad hl);have u:=Hd (show Below w.heap.size w (w.alloc (.cells (Ab8 r G H xs N xan m A xbn f) 34)) from(Af _ _).alloc (Ae _) _);have n:=Hd (Bb.new w 34 (Ab8 r G H xs N xan m A xbn f));obtain⟨base,g⟩:∃b:Nat,(if r=17 then 2+ks.length else 1)=b:=⟨_,rfl⟩;rw [g] at L;have J:=Hd L;have V:=Hd g;have a9:base≤100000:=by omega
  have O:Tr.cnt (.mk r G H xs ks l)=base+Tr.cntL l:=by rw [Tr.cnt,g]
  show Calls Ad 57 #[.agg (Ab8 r G H xs N xan m A xbn f)] w (Ab5 (Aa Ab ((Tr.cnt (.mk r G H xs ks l):Nat):Int)) w);rw [O];have B:=Hd (show Below w.heap.size w (w.alloc (.cells (Ab8 r G H xs N xan m A xbn f) 34)) from u.o);clear h1 ha hac hx h2 j hbc hc ih hp M hw L O ad hl g;go_enter func57,ntmps57;go_upto_region 1 with fail
  generalize w.alloc (.cells (Ab8 r G H xs N xan m A xbn f) 34)=w1 at u n B⊢;generalize a8:w.heap.size=bt at n⊢;have K:=Hd (aa.o.pure B.o);have x0:w1.cell? ⟨bt,0,none⟩=some (Aa Ab r):=n.o.cell 0;have x4:w1.cell? ⟨bt,4,none⟩=some (.slice N xan m):=n.o.cell 4;have x5:w1.cell? ⟨bt,5,none⟩=some (.slice A xbn f):=n.o.cell 5;clear aa B;have be:xbn≤1099511627776:=hy;clear hy P;by_cases C:r=17
  ·have I:=Hd (show((2:Int)+(xan:Int))=(base:Int) by have:=V.o;rw [if_pos C] at this;have:=ag.o;omega);have bd:IntKind.i64.wrap ((2:Int)+(xan:Int))=(2:Int)+(xan:Int):=Ag _ (by have:=I.o;omega);have ao:(r==17)=true:=by simp [C]
   clear C;go_wp2_with fail;go_loopw [3,4] (fun s i wr=>∃k:Nat,k≤xbn∧i= Aa Ab (k:Int)∧s= Aa Ab ((base+Tr.cntL (l.take k):Nat):Int)∧Below w.heap.size w wr∧Bb wr bt 34 (Ab8 r G H xs N xan m A xbn f)∧It wr A xbn vs) (fun _ i _=>xbn-(intOf i).toNat)
   case atStart=>exact⟨0,Am _,rfl,by rw [List.take_zero,Tr.cntL,Nat.add_zero,←I.o],u.o,n.o,K.o⟩
   case round=>
    clear u n K x0 x4 x5;obtain⟨k,hk,rfl,rfl,j,h1,h2⟩:=hrel;have u:=Hd j;have n:=Hd h1;have Y:=Hd h2;clear j h1 h2;have x5:wr.cell? ⟨bt,5,none⟩=some (.slice A xbn f):=n.o.cell 5;by_cases ak:k<xbn
    ·have ai:(0:Int)≤k:=by omega
     have aj:(k:Int)<xbn:=by omega
     have am:IntKind.i64.wrap ((k:Int)+1)=(k:Int)+1:=Ag _ (by omega);obtain⟨v,U⟩:∃v,vs[k]?=some v:=⟨_,Ai (by have:=y.o.1;omega)⟩;obtain⟨z,q⟩:∃v,l[k]?=some v:=⟨_,Ai (by have:=y.o;omega)⟩;obtain⟨b2,o2,e2,a0,a1,a2,a3,a4,a5⟩:=Hp Y.o U;obtain⟨t1,t2⟩:=Xy q;have X:=Hd (Z.o k v z U q (by have:=J.o;omega) wr (B5 ab.o u.o));have F:IntKind.i64.wrap (((base+Tr.cntL (l.take k):Nat):Int)+(z.cnt:Int))=((base+Tr.cntL (l.take (k+1)):Nat):Int):=by
      rw [t1,show((base+Tr.cntL (l.take k):Nat):Int)+(z.cnt:Int)=((base+(Tr.cntL (l.take k)+z.cnt):Nat):Int) by omega];exact Ag _ (by have:=J.o;omega)
     subst e2;clear U q t1 t2;generalize E:((base+Tr.cntL (l.take (k+1)):Nat):Int)=s2 at F⊢;have S:=Hd E;clear E;generalize ((base+Tr.cntL (l.take k):Nat):Int)=s1 at F⊢;go_wp2_with fail;go_at_call 57;refine X.o.mono ?_;rintro e w5 ⟨rfl,j⟩;have Q:=Hd (A6 u.o j);have T:=Hd (n.o.pure j);have R:=Hd (Y.o.pure j);clear j X;go_wp2_with fail;go_roundw
     case rel=>exact⟨k+1,by omega,by go_num,by rw [S.o],Q.o,T.o,R.o⟩
     case measure=>simp [intOf];omega
    ·obtain rfl:k=xbn:=by omega
     have D:l.take k=l:=Aw (by have:=y.o;omega);rw [D];go_wp2_with fail;go_ret;exact⟨by norm_cast,u.o⟩
  ·have I:=Hd (show(1:Int)=(base:Int) by have:=V.o;rw [if_neg C] at this;omega);have bb:(r==17)=false:=beq_eq_false_iff_ne.mpr C;go_wp2_with fail;go_loopw [3,4] (fun s i wr=>∃k:Nat,k≤xbn∧i= Aa Ab (k:Int)∧s= Aa Ab ((base+Tr.cntL (l.take k):Nat):Int)∧Below w.heap.size w wr∧Bb wr bt 34 (Ab8 r G H xs N xan m A xbn f)∧It wr A xbn vs) (fun _ i _=>xbn-(intOf i).toNat)
   case atStart=>exact⟨0,Am _,rfl,by rw [List.take_zero,Tr.cntL,Nat.add_zero,←I.o],u.o,n.o,K.o⟩
   case round=>
    clear u n K x0 x4 x5;obtain⟨k,hk,rfl,rfl,j,h1,h2⟩:=hrel;have u:=Hd j;have n:=Hd h1;have Y:=Hd h2;clear j h1 h2;have x5:wr.cell? ⟨bt,5,none⟩=some (.slice A xbn f):=n.o.cell 5;by_cases ak:k<xbn
    ·have ai:(0:Int)≤k:=by omega
     have aj:(k:Int)<xbn:=by omega
     have am:IntKind.i64.wrap ((k:Int)+1)=(k:Int)+1:=Ag _ (by omega);obtain⟨v,U⟩:∃v,vs[k]?=some v:=⟨_,Ai (by have:=y.o.1;omega)⟩;obtain⟨z,q⟩:∃v,l[k]?=some v:=⟨_,Ai (by have:=y.o;omega)⟩;obtain⟨b2,o2,e2,a0,a1,a2,a3,a4,a5⟩:=Hp Y.o U;obtain⟨t1,t2⟩:=Xy q;have X:=Hd (Z.o k v z U q (by have:=J.o;omega) wr (B5 ab.o u.o));have F:IntKind.i64.wrap (((base+Tr.cntL (l.take k):Nat):Int)+(z.cnt:Int))=((base+Tr.cntL (l.take (k+1)):Nat):Int):=by
      rw [t1,show((base+Tr.cntL (l.take k):Nat):Int)+(z.cnt:Int)=((base+(Tr.cntL (l.take k)+z.cnt):Nat):Int) by omega];exact Ag _ (by have:=J.o;omega)
     subst e2;clear U q t1 t2;generalize E:((base+Tr.cntL (l.take (k+1)):Nat):Int)=s2 at F⊢;have S:=Hd E;clear E;generalize ((base+Tr.cntL (l.take k):Nat):Int)=s1 at F⊢;go_wp2_with fail;go_at_call 57;refine X.o.mono ?_;rintro e w5 ⟨rfl,j⟩;have Q:=Hd (A6 u.o j);have T:=Hd (n.o.pure j);have R:=Hd (Y.o.pure j);clear j X;go_wp2_with fail;go_roundw
     case rel=>exact⟨k+1,by omega,by go_num,by rw [S.o],Q.o,T.o,R.o⟩
     case measure=>simp [intOf];omega
    ·obtain rfl:k=xbn:=by omega
     have D:l.take k=l:=Aw (by have:=y.o;omega);rw [D];go_wp2_with fail;go_ret;exact⟨by norm_cast,u.o⟩
theorem mR(L:List P3):Ju L 0=0:=by simp [Ju]
theorem mQ{L:List P3}{x:P3}(h:L[k]?=some x):Ju L (k+1)=x.2.1:=by
 have e:L.take (k+1)=L.take k++ [x]:=by
  obtain⟨hk,e⟩:=List.getElem?_eq_some_iff.1 h;rw [Az hk,e]
 unfold Ju;rw [e,List.getLast?_concat];rfl
theorem Aan{L:List P3}(h:Zi l L){x y z:Int}(hx:L[k]?=some (x,y,z)):0≤Ju L k∧Ju L k≤x∧x<y∧y≤l.length∧∀j:Nat,j<l.length→Ju L k≤(j:Int)→(j:Int)<x→l[j]?=some 0:=by
 obtain⟨hk,e⟩:=List.getElem?_eq_some_iff.1 hx;have:=h.2 k hk;rw [Ay,hx,Option.getD_some] at this;exact this
theorem rD(x:Nv)(T:Tr)(fl:Int)(e0 a0:Nat)(w:World)(hC:∀W,Below w.heap.size w W→Calls Ad 38 #[.agg (Ab7 x),Aa Ab 60,Aa Ab 40] W (R8 W T))(hs:Cs T=T)(hca:Ew T)(hc:T.cost≤65000)(he:(Jm Ji 0 T 0).1=0)(hk:Zk (F5 (Nr fl) T) e0 a0)(he0:e0≤1000):
  Calls Ad 23 #[.agg (Ab7 x),Aa Ab fl] w (Ab5 (.bool true) w):=by
 have K:=Hd hC;have aa:=Hd hca;have J:=Hd (And.intro hc he);have HS:=Hd hs;have y:=Hd hk;clear hC hca hc he hs hk;have m:=Hd (show Below w.heap.size w (w.alloc (.cells (Ab7 x) 34)) from(Af _ _).alloc (Ae _) _);have f:=Hd (Bb.new w 34 (Ab7 x));go_enter func23,ntmps23;go_upto_region 1 with fail
 generalize w.alloc (.cells (Ab7 x) 34)=w1 at m f⊢;generalize ai:w.heap.size=bt at f⊢;clear ai;go_wp2_with fail;go_at_call 16;refine(Fg _).mono ?_;rintro e w2 ⟨rfl,b⟩;have s:=Hd (A6 m.o b);have P:=Hd (f.o.pure b);clear b m f;obtain ⟨x0,x1,x2,x3,x4,x5⟩:=P.o.c6;go_wp2_with fail;go_at_call 15;refine(Wh x T fl w2 (fun W hW=>K.o W (B5 s.o hW)) HS.o aa.o J.o.1 J.o.2).mono ?_;rintro e w3 ⟨z,A,n,c,rfl,_,R,b⟩;obtain⟨h,F,S,_⟩:=y.o;generalize F5 (Nr fl) T=l at R S h F y;obtain⟨L,hL⟩:∃L,Cg l 1000=L:=⟨_,rfl⟩;rw [hL] at S;have t:=Hd ((A6 s.o b).alloc (A6 s.o b).size (.cells (Ab7 z) 34));have U:=(Af w3.heap.size w3).alloc (Ae _) (.cells (Ab7 z) 34);have d:=Hd (R.is.pure U);have hca:=R.cap.1;have Y:n=l.length:=R.is.1.symm;have ae:=Hd S;have ab:=Hd S.1;have B:=Hd Y;have ax:n≤65100:=by omega
 clear b R x0 x1 x2 x3 x4 x5 P U Y h y;go_upto_region 4 with fail
 generalize w3.alloc (.cells (Ab7 z) 34)=w4 at t d⊢;have C:=Hd (Gi A n c 1000 l w4 d.o hca (by omega) (by decide));rw [F,hL] at C;clear F hL S;go_wp2_with fail;go_at_call 17;refine C.o.mono ?_;rintro e w5 ⟨A2,k2,c2,rfl,g,D⟩;have I:=Hd (A6 t.o D);have M:=Hd (d.o.pure D);have O:=Hd g.is;have bh:k2≤9223372036854775807:=by have:=g.cap;simp only [maxLen] at this;omega
 have N:=Hd (show L.length=k2 from g.is.1);clear g D C t d;go_wp2_with fail;go_loopw [10,11,12] (fun a i _ wr=>∃k:Nat,k≤k2∧i= Aa Ab k∧a= Aa Ab (Ju L k)∧Below w.heap.size w wr∧J0 wr A2 k2 L∧B4 wr A n l) (fun _ i _ _=>k2-(intOf i).toNat)
 case atStart=>exact⟨0,Am _,rfl,by rw [mR],I.o,O.o,M.o⟩
 case round=>
  clear I O M;obtain⟨k,hk,rfl,rfl,b,h1,h2⟩:=hrel;have G:=Hd b;have v:=Hd h1;have H:=Hd h2;clear b h1 h2;by_cases E:k<k2
  ·have bf:(0:Int)≤k:=by omega
   have bg:(k:Int)<k2:=by omega
   have bj:IntKind.i64.wrap ((k:Int)+1)=(k:Int)+1:=Ag _ (by omega);obtain⟨b2,o2,e2,h2⟩:=G9 v.o E;subst e2;obtain⟨⟨p,q,r⟩,Z⟩:∃x,L[k]?=some x:=⟨_,Ai (by rw [N.o];exact E)⟩;obtain⟨a0,a1,a2⟩:=h2 p q r Z;obtain⟨g1,g2,g3,g4,g5⟩:=Aan ae.o Z;have HX:=Hd Z;have HZ:=Hd g5;have ad:=Hd (mQ Z);obtain⟨at_,V⟩:∃a:Nat,Ju L k=(a:Int):=⟨(Ju L k).toNat,by omega⟩;obtain⟨pn,al⟩:∃a:Nat,p=(a:Int):=⟨p.toNat,by omega⟩;subst al;rw [V] at g1 g2 HZ⊢;have t1:¬pn<at_:=by omega
   have t2:¬q≤(pn:Int):=by omega
   have t3:¬(n:Int)<q:=by have:=B.o;omega
   have HG:=Hd (show at_≤pn∧pn≤n by have:=B.o;omega);clear h2 Z g1 g2 g3 g4 g5 V;go_wp2_with fail;go_quiet (fail);go_wp2_with fail;go_loopw [12] (fun u wr2=>∃j:Nat,at_≤j∧j≤pn∧u= Aa Ab (j:Int)∧Below w.heap.size w wr2∧J0 wr2 (some ⟨b2,o2,none⟩) k2 L∧B4 wr2 A n l) (fun u _=>pn-(intOf u).toNat)
   case atStart=>exact⟨at_,Ae _,HG.o.1,rfl,below_drewN G.o _,v.o.drewN _,H.o.drewN _⟩
   case round=>
    clear G v H a0 a1 a2;obtain⟨j,a9,ba,rfl,b,h1,h2⟩:=hrel;have G:=Hd b;have v:=Hd h1;have H:=Hd h2;clear b h1 h2;obtain⟨b3,o3,Q,h3⟩:=G9 v.o E;injection Q with Q
    injection Q with Q e4
    subst Q e4;obtain⟨a0,a1,a2⟩:=h3 _ _ _ HX.o;clear h3;by_cases be:j<pn
    ·have a8:(0:Int)≤j:=by omega
     have bb:(j:Int)<pn:=by omega
     have ak:j<n:=by have:=HG.o;omega
     have bd:(j:Int)<n:=by omega
     have bi:IntKind.i64.wrap ((j:Int)+1)=(j:Int)+1:=Ag _ (by omega);obtain⟨b4,o4,e4,X,h4⟩:=Ep H.o ak;have am:l[j]=0:=by
      have:=HZ.o j X (by omega) (by omega);rw [Ai X] at this;exact Option.some.inj this
     rw [am] at h4;have h4:_=some (Value.int .u8 0):=h4;subst e4;go_wp2_with fail;go_roundw
     case rel=>exact⟨j+1,by omega,by omega,by go_num,G.o,v.o,H.o⟩
     case measure=>simp [intOf];omega
    ·obtain rfl:j=pn:=by omega
     go_wp2_with fail;go_roundw
     case rel=>exact⟨k+1,by omega,by go_num,by rw [ad.o],G.o,v.o,H.o⟩
     case measure=>simp [intOf];omega
  ·obtain rfl:k=k2:=by omega
   have aj:Ju L k=(n:Int):=by
    have h1:=ab.o;rw [N.o] at h1;rw [h1,B.o]
   rw [aj];go_wp2_with fail;go_ret;exact⟨rfl,G.o⟩
theorem rG(x:Nv)(T:Tr)(N:Nat)(w:World)(hC:∀W,Below w.heap.size w W→Calls Ad 38 #[.agg (Ab7 x),Aa Ab 60,Aa Ab 40] W (R8 W T))(hs:Cs T=T)(hca:Ew T)(hc:T.cost≤65000)(he:(Jm Ji 0 T 0).1=0)(hcn:T.cnt=N)(hN1:N≤1000)(hq:Cb (F5 (Nr 0) T) (N:Int)=0∧Cb (F5 (Nr 0) T) ((N:Int)-1)=260∧(F5 (Nr 0) T).length≤65100):
  Calls Ad 24 #[.agg (Ab7 x)] w (Ab5 (.bool true) w):=by
 have u:=Hd hC;have G:=Hd hca;have t:=Hd (And.intro hc he);have Q:=Hd hs;have s:=Hd hcn;have H:=Hd hq;clear hC hca hc he hs hcn hq;have b:=Hd (show Below w.heap.size w (w.alloc (.cells (Ab7 x) 34)) from(Af _ _).alloc (Ae _) _);have g:=Hd (Bb.new w 34 (Ab7 x));go_enter func24,ntmps24;go_upto_region 1 with fail
 generalize w.alloc (.cells (Ab7 x) 34)=w2 at b g⊢;generalize K:w.heap.size=bt at g⊢;clear K;obtain ⟨V,X,Y,Z,x4,x5⟩:=g.o.c6;go_wp2_with fail;go_at_call 15;refine(Wh x T 0 w2 (fun W hW=>u.o W (B5 b.o hW)) Q.o G.o t.o.1 t.o.2).mono ?_;rintro e D ⟨z,A,n,c,rfl,B,C,a⟩;obtain⟨L,M,P⟩:=H.o;generalize F5 (Nr 0) T=l at C L M P H;have p:=(Af D.heap.size D).alloc (Ae _) (.cells (Ab7 z) 34);have i:=Hd ((A6 b.o a).alloc (A6 b.o a).size (.cells (Ab7 z) 34));have f:=Hd (C.is.pure p);have h:=Hd (Bb.new D 34 (Ab7 z));have d:=Hd (jD B (fun k hk=>hk) (by have:=s.o;omega) _ p);rw [s.o] at d;have hca:=C.cap.1;have O:n≤65100:=by have:=C.is.1;omega
 have y:=Hd (And.intro L M);clear a C V X Y Z x4 x5 g p B L M P H;go_upto_region 2 with fail
 generalize D.alloc (.cells (Ab7 z) 34)=w4 at i f h d⊢;generalize D.heap.size=bz at h⊢;obtain ⟨z0,z1,z2,z3,z4,z5⟩:=h.o.c6;go_wp2_with fail;go_at_call 57;refine d.o.mono ?_;rintro e S ⟨rfl,a⟩;have q:=Hd (A6 i.o a);have v:=Hd (f.o.pure a);have j:=Hd (Gi A n c (N:Int) l S (f.o.pure a) hca (by omega) (by omega));rw [y.o.1] at j;clear a z0 z1 z2 z3 z4 z5 h d i f;go_wp2_with fail;go_at_call 17;refine j.o.mono ?_;rintro e U ⟨A2,k2,c2,rfl,I,a⟩;have r:=Hd (A6 q.o a);have m:=Hd (Gi A n c ((N:Int)-1) l U (v.o.pure a) hca (by omega) (by omega));rw [y.o.2] at m;have R:IntKind.i64.wrap ((N:Int)-1)=(N:Int)-1:=Ag _ (by omega);clear a I j q v;go_wp2_with fail;go_at_call 17;refine m.o.mono ?_;rintro e w7 ⟨A3,k3,c3,rfl,J,a⟩;have E:=Hd (A6 r.o a);clear a J m r;go_wp2_with fail;go_at_call 16;refine(Fg _).mono ?_;rintro e w8 ⟨rfl,a⟩;have F:=Hd (A6 E.o a);clear a;go_wp2_with fail;go_ret;exact⟨rfl,F.o⟩
theorem jR{L:List P3}{i:Nat}{x:P3}(h:L[k]?=some x):Kq L (k+1) i=(Kq L k i&&(decide ((i:Int)<x.1)||decide (x.2.1≤(i:Int)))):=by
 obtain⟨hk,e⟩:=List.getElem?_eq_some_iff.1 h;unfold Kq;rw [Az hk,e,List.all_append];simp
theorem vD(x:Nv)(fl wi:Int)(e0 a0:Nat)(w:World)(hC:∀W,Below w.heap.size w W→Calls Ad 38 #[.agg (Ab7 x),Aa Ab 60,Aa Ab 40] W (R8 W Ht))(hca:Ew Ht)(hk:Zk (Xv fl) e0 a0)(he0:e0≤1000)(hwi:wi % 256=77):
  Calls Ad 4 #[.agg (Ab7 x),Aa Ab fl,Aa Ab wi] w (Ab5 (.bool true) w):=by
 have aj:=Hd hC;have bg:=Hd hca;have Y:=Hd hk;have bl:=Hd hwi;clear hC hca hk hwi;have P:=Hd (show Below w.heap.size w (w.alloc (.cells (Ab7 x) 34)) from(Af _ _).alloc (Ae _) _);have H:=Hd (Bb.new w 34 (Ab7 x));go_enter func4,ntmps4;go_upto_region 1 with fail
 generalize w.alloc (.cells (Ab7 x) 34)=w2 at P H⊢;generalize bo:w.heap.size=bt at H⊢;clear bo;have Q:=P;obtain ⟨x0,x1,x2,x3,x4,x5⟩:=H.o.c6;clear P H;go_wp2_with fail;go_at_call 15;refine(Wh x Ht fl w2 (fun W hW=>aj.o W (B5 Q.o hW)) Pn bg.o Ls.2 Ls.1).mono ?_;rintro e N ⟨z,A,n,c,rfl,aw,t,hb⟩;have t:Gp N w2.heap.size A n c (Xv fl):=t;obtain⟨M,ae,_,ab,K⟩:=Y.o;generalize Xv fl=l at t M ae ab K Y;obtain⟨L,hL⟩:∃L,Cg l 1000=L:=⟨_,rfl⟩;rw [hL] at K;have ak:=Hd (uJ ab);have al:=Hd (uJ K);have J:=(Af N.heap.size N).alloc (Ae _) (.cells (Ab7 z) 34);have R:=Hd ((A6 Q.o hb).alloc (A6 Q.o hb).size (.cells (Ab7 z) 34));have F:=Hd (t.is.pure J);have G:=Hd (aw.pure J);have D:=Hd (Bb.new N 34 (Ab7 z));have hca:=t.cap.1;have a4:n=l.length:=t.is.1.symm;have ao:=Hd a4;have O:=Hd (show ∀ad,A=some ad→ad.block<N.heap.size from fun ad e=>(t.addr ad e).2.2);have aa:=Hd J.size;have b4:n≤65100:=by omega
 have bp:0<n:=by omega
 clear hb t x0 x1 x2 x3 x4 x5 J a4 M aw ab K Y;go_upto_region 4 with fail
 generalize N.alloc (.cells (Ab7 z) 34)=w4 at R F G D aa⊢;have T:=Hd (show N.heap.size<w4.heap.size from D.o.lt);generalize N.heap.size=bz at D O G aa T⊢;have Z:=Hd (Gi A n c 1000 l w4 F.o hca (by omega) (by decide));rw [ae,hL] at Z;clear ae hL;go_wp2_with fail;go_at_call 17;refine Z.o.mono ?_;rintro e w5 ⟨A2,k2,c2,rfl,E,y⟩;have S:=Hd (A6 R.o y);have X:=Hd (F.o.pure y);have an:=Hd (G.o.pure y);have av:=Hd (D.o.pure y);have ap:=Hd E.is;have ag:=Hd (show ∀ad,A2=some ad→ad.block<w5.heap.size from fun ad e=>(E.addr ad e).2.2);have au:=Hd y.size;have ci:k2≤9223372036854775807:=by have:=E.cap;simp only [maxLen] at this;omega
 have am:=Hd (show L.length=k2 from E.is.1);clear E y Z R F G D;have ai:=Hd (Pr A n c l w5 X.o (by omega));go_wp2_with fail;go_at_call 12;refine ai.o.mono ?_;rintro e w6 ⟨A3,n3,c3,rfl,I,B⟩;obtain rfl:n3=n:=by rw [←I.1,ao.o]
 obtain⟨g,rfl,ay⟩:=bQ I bp;have b9:=Hd ay;have aq:=Hd I;have bd:=Hd (A6 S.o B);have bh:=Hd (X.o.pure B);have bi:=Hd (an.o.pure B);have bm:=Hd (av.o.pure B);have bj:=Hd (ap.o.pure B);have C:=Hd (show w.heap.size≤g∧bz≠g∧(∀ad,A=some ad→¬ad.block=g)∧(∀ad,A2=some ad→¬ad.block=g)∧∀b,b<bz→¬b=g by
  have h1:=au.o;have h2:=T.o;have h3:=S.o.size;exact⟨by omega,by omega,fun ad e h=>by have:=O.o ad e;omega,fun ad e h=>by have:=ag.o ad e;omega,fun b hb h=>by omega⟩)
 clear I B ay S X an av ap ai O ag aa au T;go_wp2_with fail;go_loopw [13,14,15] (fun i _ _ wr=>∃k:Nat,k≤n3∧i= Aa Ab k∧Fr (fun j=>j=g) w6 wr∧Gp wr w5.heap.size (some ⟨g,0,none⟩) n3 c3 (Jp L 77 l k)) (fun i _ _ _=>n3-(intOf i).toNat)
 case atStart=>exact⟨0,Am _,rfl,Fr.refl _ _,aq.o⟩
 case round=>
  clear aq;obtain⟨k,hk,rfl,hf,t⟩:=hrel;have d:=Hd (show Jp L 77 l (k+1)=if Kq L L.length k=true then(Jp L 77 l k).take k++ [Aq ((77+(k:Int) % 7) % 256).toNat]++(Jp L 77 l k).drop (k+1) else Jp L 77 l k from rfl);have f:=Hd hf;have s:=Hd t;clear hf t;by_cases az:k<n3
  ·have ce:(0:Int)≤k:=by omega
   have cf:(k:Int)<n3:=by omega
   have ck:IntKind.i64.wrap ((k:Int)+1)=(k:Int)+1:=Ag _ (by omega);generalize hl':Jp L 77 l k=l' at s d;clear hl';go_wp2_with fail;go_loopw [14,15] (fun b u wr2=>∃m:Nat,m≤k2∧u= Aa Ab m∧b= .bool (Kq L m k)∧Fr (fun j=>j=g) w6 wr2∧Gp wr2 w5.heap.size (some ⟨g,0,none⟩) n3 c3 l') (fun _ u _=>k2-(intOf u).toNat)
   case atStart=>exact⟨0,Am _,rfl,rfl,f.o,s.o⟩
   case round=>
    clear f s;obtain⟨m,hm,rfl,rfl,hf,t⟩:=hrel;have f:=Hd hf;have s:=Hd t;clear hf t;by_cases a3:m<k2
    ·have cg:(0:Int)≤m:=by omega
     have ch:(m:Int)<k2:=by omega
     have cl:IntKind.i64.wrap ((m:Int)+1)=(m:Int)+1:=Ag _ (by omega);obtain⟨b2,o2,e2,h2⟩:=G9 (bj.o.fr f.o C.o.2.2.2.1) a3;obtain⟨⟨p,q,r⟩,hx⟩:∃x,L[m]?=some x:=⟨_,Ai (by rw [am.o];exact a3)⟩;obtain⟨a0,a1,a2⟩:=h2 p q r hx;subst e2;have v:=Hd (jR (i:=k) hx);clear h2 hx;cases hb:Kq L m k with
     |false=>
      rw [hb] at v;clear hb;go_wp2_with fail;go_roundw
      case rel=>exact⟨m+1,by omega,by go_num,by rw [v.o];rfl,f.o,s.o⟩
      case measure=>simp [intOf];omega
     |true=>
      rw [hb] at v;clear hb;by_cases h1:(k:Int)<p
      ·have HR:=Hd (show Kq L (m+1) k=true by rw [v.o];simp [h1]);go_wp2_with fail;go_roundw
       case rel=>exact⟨m+1,by omega,by go_num,by rw [HR.o],f.o,s.o⟩
       case measure=>simp [intOf];omega
      ·by_cases h2:q≤(k:Int)
       ·have HR:=Hd (show Kq L (m+1) k=true by rw [v.o];simp [h2]);go_wp2_with fail;go_roundw
        case rel=>exact⟨m+1,by omega,by go_num,by rw [HR.o],f.o,s.o⟩
        case measure=>simp [intOf];omega
       ·have HR:=Hd (show Kq L (m+1) k=false by rw [v.o];simp [h1,h2]);go_wp2_with fail;go_roundw
        case rel=>exact⟨m+1,by omega,by go_num,by rw [HR.o],f.o,s.o⟩
        case measure=>simp [intOf];omega
    ·obtain rfl:m=k2:=by omega
     rw [am.o] at d;cases hb:Kq L m k with
     |false=>
      rw [hb,if_neg (by decide)] at d;clear hb;go_wp2_with fail;go_roundw
      case rel=>exact⟨k+1,by omega,by go_num,f.o,by rw [d.o];exact s.o⟩
      case measure=>simp [intOf];omega
     |true=>
      rw [hb,if_pos rfl] at d;clear hb;go_wp2_with fail;go_at_call 18;refine(Pl wi 256 _ (by decide) (by decide)).mono ?_;rintro e w' ⟨rfl,rfl⟩;have bq:0≤wi % 256:=by omega
      have br:wi % 256<256:=by omega
      have af:=bl.o;generalize wi % 256=q at bq br af⊢;have bk:=Hd af;clear af;obtain⟨⟨cd,u0,cj⟩,_⟩:=Nc s.o az 0;go_wp2_with fail;go_roundw
      case rel=>
       have hb:(q+(k:Int) % 7) % 256=((Aq ((q+(k:Int) % 7) % 256).toNat).toNat:Int):=by rw [UInt8.toNat_ofNat'];omega
       rw [hb];exact⟨k+1,by omega,by go_num,f.o.setCell (fun _=>rfl) _,by rw [d.o,←bk.o];exact(Nc s.o az _).2⟩
      case measure=>simp [intOf];omega
  ·obtain rfl:k=n3:=by omega
   have HZ:=Hd (bm.o.fr f.o C.o.2.1);have HI:=Hd (bh.o.fr f.o C.o.2.2.1);have HN:=Hd (bi.o.keep fun a u hc hp=>Cq f.o hc (C.o.2.2.2.2 _ hp));have HB:=Hd (Cf bd.o f.o (by rintro j rfl;exact C.o.1));rw [show Jp L 77 l k=Jp L 77 l l.length by rw [←ao.o]] at s;obtain ⟨x0,x1,x2,x3,x4,x5⟩:=HZ.o.c6;obtain⟨r1,d1,o1⟩:=ak.o;have U:=Hd (Vb HI.o hca (by omega) r1 d1 o1 HN.o);unfold K1 at U;clear r1 d1 o1 ak;go_wp2_with fail;go_at_call 19;refine U.o.mono ?_;rintro e w7 ⟨rfl,hb⟩;obtain⟨r2,d2,o2⟩:=al.o;have V:=Hd (Vb (s.o.is.pure hb) s.o.cap.1 (by omega) r2 d2 o2 (HN.o.pure hb));unfold K1 at V;have ah:=Hd (A6 HB.o hb);replace x0:=Ba hb x0;replace x1:=Ba hb x1;replace x2:=Ba hb x2;replace x3:=Ba hb x3;replace x4:=Ba hb x4;replace x5:=Ba hb x5;clear hb r2 d2 o2 al U HB;go_wp2_with fail;go_at_call 19;refine V.o.mono ?_;rintro e w8 ⟨rfl,hb⟩;have be:=Hd (A6 ah.o hb);clear hb V ah;go_wp2_with fail;go_at_call 16;refine(Fg _).mono ?_;rintro e w9 ⟨rfl,hb⟩;have bf:=Hd (A6 be.o hb);clear hb;go_wp2_with fail;go_ret;exact⟨rfl,bf.o⟩
theorem Ny{k:Int}(h1:1≤k∧k≤9∧k≠5)(hn:(-9223372036854775808≤n∧n≤9223372036854775807)∧u<18446744073709551616):F0 (.mk k n u s [] [])∧Ew (.mk k n u s [] []):=by
 refine⟨.leaf _ _ _ h1.1 h1.2.1 hn (fun h=>absurd h h1.2.2),?_⟩;intro M a b x w o p c i g d j f;have e:Bd.calls (bits a) (.mk k n u s [] []) b=b.leaf (bits a) k n u s:=by rw [Bd.calls,if_neg (by omega),if_neg (by omega),if_pos h1.2.1]
 rw [e];exact aW M a b x k n u s [] [] w o p c d h1.1 h1.2.1 hn (fun h=>absurd h h1.2.2) (by unfold Tr.cost at f;omega)
theorem dG(h:∀t∈c,F0 t∧Ew t):F0 (.mk 10 0 0 [] [] c)∧Ew (.mk 10 0 0 [] [] c):=
 ⟨.vec _ _ _ _ fun t ht=>(h t ht).1,Y2 0 0 [] [] c (fun t ht=>(h t ht).1) (fun t ht=>(h t ht).2)⟩
theorem bJ(hl:ks.length=c.length)(h0:∀x∈ks,Cl x=false)(hu:ks.Pairwise (· < ·))(h:∀t∈c,F0 t∧Ew t):F0 (.mk 17 0 0 [] ks c)∧Ew (.mk 17 0 0 [] ks c):=
 ⟨.map _ _ _ hl h0 hu fun t ht=>(h t ht).1,Y1 0 0 [] ks c hl h0 hu (fun t ht=>(h t ht).1) (fun t ht=>(h t ht).2)⟩
theorem jN{k:Int}(hk16:k=16)(h:∀t∈c,iD t)(hf:c.length=2∨c.length=3∨c.length=4):Ew (.mk k n u s ks c):=by
 intro M d b x w o p l C B hR E m;have e:Bd.calls (bits d) (.mk k n u s ks c) b=b.flat (bits d) k c:=by rw [Bd.calls,if_neg (by omega),if_neg (by omega),if_neg (by omega)]
 rw [e];obtain⟨D,_,_,_,_,a⟩:=hR.fields;have a:c.length=x.bn:=a;cases hR with
 | @mk _ _ _ vs _ _ _ _ hI _ _ _ hl hc=>
  have i:=sB hl hc (f:=Tr.u) (g:=Nv.u) (fun v t r=>r.fields.2.2.1);have hcl:=J4 c;have q:b.b.length+b.s.length+b.keys.length+b.names.length≤b.size:=by unfold Bd.size;omega
  unfold Tr.cost at m;have A:c.map (fun t=>Ds t.u)=(vs.map Nv.u).map Ds:=by rw [←i,List.map_map];rfl
  have j:b.flat (bits d) x.k c=b.vec (11+3*x.bn) false false ((vs.map Nv.u).map Ds):=by
   rw [hk16,←A,←a];rfl
  rw [j];refine rC M d b x vs w o l hI hk16 (by rw [←a];exact hf) (by omega) ?_ (by rw [List.length_map];omega);rw [←i];intro y z;obtain⟨t,ht,rfl⟩:=List.mem_map.1 z;exact(h t ht).2
theorem nA(h:∀t∈c,iD t)(hf:c.length=2∨c.length=3∨c.length=4):F0 (.mk 16 0 0 [] [] c)∧Ew (.mk 16 0 0 [] [] c):=
 ⟨.flat _ _ _ _ (by decide) (by decide) h (fun h=>absurd h (by decide)) fun _=>hf,jN rfl h hf⟩
theorem Po:Ew Ht:=by
 unfold Ht sL;have b:∀{P:Tr→Prop} {l:List Tr} {a:Tr},P a→(∀t∈l,P t)→∀t∈a::l,P t:=fun h g t ht=>(List.mem_cons.1 ht).elim (fun e=>e▸h) (g t)
 have c:∀{P:Tr→Prop},∀t∈([]:List Tr),P t:=fun t ht=>by cases ht
 exact(bJ rfl (by decide) (by decide) (b (dG (b (Ny (by decide) (by decide)) (b (Ny (by decide) (by decide)) (b (Ny (by decide) (by decide)) (b (dG c) c)))))
  (b (nA (b ⟨by decide,by decide⟩ (b ⟨by decide,by decide⟩ c)) (.inl rfl)) (b (bJ rfl (by decide) (by decide) (b (Ny (by decide) (by decide)) c)) c)))).2
theorem lZ:Ht.cnt=17∧Cb (F5 (Nr 0) Ht) ((17:Nat):Int)=0∧Cb (F5 (Nr 0) Ht) (((17:Nat):Int)-1)=260∧(F5 (Nr 0) Ht).length≤65100:=by decide +kernel
end Go.Proofs.YtejpbijeifjdeaaGreat
