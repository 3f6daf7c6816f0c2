/- Parts of the proof. -/
import Derived.Test.YtejpbijeifjdeaaGreatQk14
import Derived.Shelf.Strings.BuilderK
import Derived.Ground.NamesProg
set_option maxHeartbeats 4000000
set_option maxRecDepth 100000
open Go.Value renaming int→Aa
open Go.IntKind renaming i64→Ab,u64→Ac
open Nat renaming le_refl→Ae,lt_of_lt_of_le→As
open Go.RowKit.Below renaming refl→Af
open List renaming length_append→An
open Go.Proofs.Tryz
open Go.Proofs.Tryz renaming prog→Ad
namespace Go.Proofs.YtejpbijeifjdeaaGreat
variable {x:Nv}{t:Tr}{p I:Nat→Prop}{w:World}{o:Nat→Nat}{i:Nat}
section
open Go.RowKit Go.Acc
mutual
theorem jW:∀(t:Tr) (d:Nat) (x:Nat×Tr),x∈Tr.pre d t→x.1+1≤d+(Tr.pre d t).length
 | .mk k n u s ks l,d,x,h=>by
  rw [Tr.pre] at h⊢;rw [List.length_cons];rcases List.mem_cons.1 h with rfl|h
  ·simp only;omega
  ·have:=eV l (d+1) x h;omega
theorem eV:∀(l:List Tr) (d:Nat) (x:Nat×Tr),x∈Tr.pre.Tr.preL d l→x.1+1≤d+(Tr.pre.Tr.preL d l).length
 | [],d,x,h=>by rw [Tr.pre.Tr.preL] at h;simp at h
 |t::r,d,x,h=>by
  rw [Tr.pre.Tr.preL] at h⊢;rw [An];rcases List.mem_append.1 h with h|h
  ·have:=jW t d x h;omega
  ·have:=eV r d x h;omega
end
theorem lJ(h:Ci w p x t)(hp:∀k,p k→k<w.heap.size)(hks:∀y∈Tr.pre 0 t,∀s∈y.2.ks,s.length≤1048576)(hm:(Tr.pre 0 t).length≤1048576):
  Calls Ad 73 #[.agg (Adj x)] w (Adh (Aa Ab (Kw Kf 0 t 0).1) w):=by
 obtain⟨Y,m⟩:=h.ord 0;have c:=m.nodes;have e:∀W,Gq (fun k=>w.heap.size≤k) w W→∀k,p k→¬(w.heap.size≤k):=fun W _ k hk=>by have:=hp k hk;omega
 refine oW x t Y p w (fun i=>match(Tr.pre 0 t)[i]? with|some y=>Hu y.2|none=>false) (fun i=>match(Tr.pre 0 t)[i]? with|some y=>I9 70 71 y.2|none=>0) (Kw Kf 0 t 0).1 m hp (by rw [c.1];omega) ?_ ?_ ?_ ?_
 ·intro y b;obtain⟨i,o,rfl⟩:=List.getElem_of_mem b;obtain⟨j,a,_⟩:=c.2 i _ (List.getElem?_eq_getElem o);have:=jW t 0 _ (List.mem_of_getElem? a);omega
 ·intro i y W b d;obtain⟨j,a,f⟩:=c.2 i y b;rw [a];exact sI (Xv f d (e W d))
 ·intro i y W b d;obtain⟨j,a,f⟩:=c.2 i y b;rw [a];have hr2:=Xv f d (e W d);have g:=hks _ (List.mem_of_getElem? a);obtain⟨q,r,u,v,_⟩:=hr2.fields;cases hr2 with
  | @mk _ ks l vs h1 ha hac hx h2 hb hbc hy' hl hc=>
   exact mD y.2 ks _ W h1 (by omega) g rfl
 ·rw [tU c.1 ?_,(iZ t 0 0).1];intro i y z b n;obtain⟨j,a,f⟩:=c.2 i y b;rw [n] at a;injection a with a
  subst a;simp [n]
theorem pN:Kf.Ok:=⟨by decide,by decide,by decide,by decide,by decide⟩
def Acw(t:Tr):Prop:=(∀y∈Tr.pre 0 t,∀s∈y.2.ks,s.length≤1048576)∧(Tr.pre 0 t).length≤1048576
theorem tW(h:t.cost≤1000000):Acw t:=⟨fun y hy s hs=>by have:=eY t 0 y hy s hs;omega,by have:=eW t 0;omega⟩
def SdW(w:World)(t:Tr)(e:Ending)(w':World):Prop:=
 ∃y:Nv,e= .returned (.tuple #[.agg (Adj y),Aa Ab 0])∧Ci w' (fun b=>w.heap.size≤b∧b<w'.heap.size) y (Cs t)∧Below w.heap.size w w'
theorem bB(h:Ci w p x t)(hp:∀k,p k→k<w.heap.size)(hc:t.cost≤1000000)(he:(Kw Kf 0 t 0).1=0):
  Calls Ad 40 #[.agg (Adj x)] w (SdW w t):=by
 have HV:=Hd (Yg pN t 0 0 he);have G:=tW hc;have X:=Hd hc;obtain⟨S,T,U,xs,Q,q,m,R,C,r⟩:=x;have l:=Cc w (.cells (Adk S T U xs Q q m R C r) 34) (.cells #[Aa Ab 0,Aa Ab 0,Aa Ac 0,.string ⟨#[]⟩,.slice none 0 0,.slice none 0 0] 34);have P:=Hd ((Bh.new w 34 (Adk S T U xs Q q m R C r)).alloc (.cells #[Aa Ab 0,Aa Ab 0,Aa Ac 0,.string ⟨#[]⟩,.slice none 0 0,.slice none 0 0] 34));have O:=Hd (Bh.new_ (w:=w.alloc (.cells (Adk S T U xs Q q m R C r) 34)) (g:=w.heap.size+1) (by simp) 34 #[Aa Ab 0,Aa Ab 0,Aa Ac 0,.string ⟨#[]⟩,.slice none 0 0,.slice none 0 0]);have HB:=Hd l;have E:=Hd (lJ (h.pure l) (fun k hk=>As (hp k hk) l.size) G.1 G.2);rw [he] at E;have HN:=Hd h;clear h hp hc G he l;go_enter func40,ntmps40;go_upto_region 1 with fail
 generalize (w.alloc (.cells (Adk S T U xs Q q m R C r) 34)).alloc (.cells #[Aa Ab 0,Aa Ab 0,Aa Ac 0,.string ⟨#[]⟩,.slice none 0 0,.slice none 0 0] 34)=w1 at P O HB E⊢;generalize N:w.heap.size=bt at P O⊢;generalize M:bt+1=br at O⊢;have HT:=Hd (And.intro N M);clear N M;obtain ⟨c0,c1,c2,c3,c4,c5⟩:=P.o.c6;go_wp2_with fail;go_at_call 73;refine E.o.mono ?_;rintro e w2 ⟨rfl,i⟩;have D:=Hd (Ba HB.o i);have H:=Hd (O.o.pure i);have L:=P.o.pure i;clear i c0 c1 c2 c3 c4 c5;obtain ⟨c0,c1,c2,c3,c4,c5⟩:=L.c6;have Y:=Hd (pC HN.o w2 D.o);clear L;go_wp2_with fail;go_at_call 75;refine Y.o.mono ?_;rintro e w3 ⟨y,rfl,F,d⟩;have aw:=Hd F;have V:=Hd (Ba D.o d);have ab:=Hd (H.o.pure d);have J:=Hd (show br<w2.heap.size∧w2.heap.size≤w3.heap.size from⟨H.o.lt,d.size⟩);have ad:=Hd (iO F (fun k hk=>hk.2) HV.o (Nat.le_trans X.o (by decide)) w3 (fun _ _=>rfl) (Ae _));clear F d c0 c1 c2 c3 c4 c5;go_wp2_with fail;go_at_call 74;refine ad.o.mono ?_;rintro e w4 ⟨z,rfl,K,f⟩;have aa:=Hd K;have Z:=Hd f;have hs:=J.o;have W:=Hd (B8 V.o f (fun k hk=>by have h1:=D.o.size;omega));have I:=Hd (ab.o.fr f (fun hk=>by omega));clear K f hs;obtain ⟨r0,r1,r2,r3,r4,r5⟩:=I.o.c6;have c:∀j,w4.frozen? ⟨br,j,none⟩=false:=fun j=>I.o.frozen j
 have f0:=c 0;have f1:=c 1;have f2:=c 2;have f3:=c 3;have f4:=c 4;have f5:=c 5;clear c;go_wp2_with fail;refine bodyPost_ret (v:= .tuple #[.agg (Adj z),Aa Ab 0]) (by simp [results,results40,go_sem,r0,r1,r2,r3,r4,r5]) rfl ?_;have hf:=Jm w4 br (Aa Ab z.k) (Aa Ab z.n) (Aa Ac (z.u:Int)) (.string ⟨z.s.toArray⟩) (.slice z.A z.an z.ac) (.slice z.B z.bn z.bc);have hs:=J.o;have ht:=HT.o;have h4:=Z.o.size;have h5:=hf.size;exact⟨z,rfl,(aa.o.keep fun a u hc hp=>Cu hf hc (by rcases hp with hp|hp <;>omega)).mono fun b hb=>by rcases hb with hb|hb <;>exact⟨by omega,by omega⟩,B8 W.o hf (by rintro j rfl;omega)⟩
theorem Dd{w':World}{o':Nat→Nat}(h:To I w o w' o'){p:Addr}{v:Value}(hc:w.cell? p=some v)(hI:¬I (o p.block)):w'.cell? p=some v:=
 (h.fr.cell (Bl hc) hI).trans hc
theorem Pf(M:Bp)(fl:Int)(b:Bd)(kv:Bv)(i bx bi bv:Nat)(A:Option Addr)(n c:Nat)(vs:List Bv)(w:World)(o:Nat→Nat)(h:BM M fl w o b)(hx:Bh w bx 104 #[Adm M.β])(hi:Bh w bi 3 #[Aa Ab (i:Int)])(hv':Bh w bv 144 #[.slice A n c])(hox:o bx=0)(hoi:o bi≠1)(hov:o bv=0)
  (hv:Ej w A n (vs.map vv)) (ho:∀ad,A=some ad→ad.block<w.heap.size∧o ad.block=0) (hki:b.vals[i]?=some kv) (hs:b.s.length<65536) (hok:E4 vs b.b) (hkt:kv.t=14) (hkw:Bt (kv.w:Int)=true) (hkf:E7 b.b.length kv):
  Calls Ad 288 #[Adm bx,Adm bi,Adm bv] w (D8 M fl { b with b:=(Gj kv vs b.b).1,s:=b.s++ [(Gj kv vs b.b).2]} w o):=by
 obtain⟨A8,m8,c8,ae,af,O,a4⟩:=h.head;have bq:b.vals.length=m8:=by have:=af.is.1;simpa using this
 have bp:i<m8:=by have:=(List.getElem?_eq_some_iff.1 hki).1;omega
 obtain⟨g,j,kv',e8,v,I,J,K⟩:=He af.is bp;obtain rfl:kv=kv':=by rw [hki] at v;injection v
 subst e8;have a3:o g=8:=O _ rfl;have hA:=(Af w.heap.size w).alloc (Ae _) (.cells #[Aa Ab 0,Aa Ab 0,Aa Ac 0] 169);have l:=hA.drew;have ab:=h.fresh l 9;have aa:=Hd (show Bh (w.alloc (.cells #[Aa Ab 0,Aa Ab 0,Aa Ac 0] 169)).drew w.heap.size 169 #[Aa Ab 0,Aa Ab 0,Aa Ac 0] from Bh.new _ _ _);have W:=Hd (show Bm o w.heap.size 9 w.heap.size=9 from Br (Ae _));have aq:=Hd (To.fresh Di l o 9);have HM:=Hd ab;have HS:=Hd hs;have T:=Hd (hx.pure l);have S:=Hd (hx.pure ((Af w.heap.size w).drew));have d:=Hd (And.intro hox (And.intro hoi (And.intro hov (And.intro a4 a3))));have ao:=Hd h.drew;have Y:=Hd (Z7 M.bb n c A vs kv b.b w.drew o h.drew.buf (hv.pure (Af w.heap.size w).drew) (fun ad e=>⟨(ho ad e).1,by rw [(ho ad e).2];omega⟩) hok hkt hkw hkf);have HP:=Hd (Z7 M.bb n c A vs kv b.b (w.alloc (.cells #[Aa Ab 0,Aa Ab 0,Aa Ac 0] 169)).drew (Bm o w.heap.size 9) ab.buf (hv.pure l) (fun ad e=>⟨As (ho ad e).1 l.size,by rw [Bw (ho ad e).1,(ho ad e).2];omega⟩) hok hkt hkw hkf);have k:w.cell? ⟨bx,0,none⟩=some (Adm M.β):=hx.cell 0;have E:w.cell? ⟨bi,0,none⟩=some (Aa Ab (i:Int)):=hi.cell 0;have F:w.cell? ⟨bv,0,none⟩=some (.slice A n c):=hv'.cell 0;have G:w.cell? ⟨M.β,0,none⟩=some (Adm M.bb):=ae.cell 0;have H:w.cell? ⟨M.β,8,none⟩=some (.slice (some ⟨g,j,none⟩) m8 c8):=ae.cell 8;have n0:bx≠w.heap.size:=Nat.ne_of_lt (Bl k);have D:bx<w.heap.size:=Bl k;have n1:bi≠w.heap.size:=Nat.ne_of_lt (Bl E);have a5:bi<w.heap.size:=Bl E;have n3:bv≠w.heap.size:=Nat.ne_of_lt (Bl F);have a6:bv<w.heap.size:=Bl F;have n4:M.β≠w.heap.size:=Nat.ne_of_lt (Bl G);have a7:M.β<w.heap.size:=Bl G;have n8:M.β≠w.heap.size:=Nat.ne_of_lt (Bl H);have a8:M.β<w.heap.size:=Bl H;have na:g≠w.heap.size:=Nat.ne_of_lt (Bl I);have a9:g<w.heap.size:=Bl I;have nb:g≠w.heap.size:=Nat.ne_of_lt (Bl J);have ba:g<w.heap.size:=Bl J;have nc:g≠w.heap.size:=Nat.ne_of_lt (Bl K);have bd:g<w.heap.size:=Bl K;have ce:(0:Int)≤(i:Int):=by omega
 have bu:(i:Int)<(m8:Int):=by omega
 obtain⟨r,hr⟩:∃r,Gj kv vs b.b=r:=⟨_,rfl⟩;rw [hr] at HP Y⊢;obtain⟨l',x⟩:=r;clear h hx hi hv' hox hoi hov hv ho hki hs hok hkt hkw hkf ae af O a4 a3 v hA l ab hr bq;go_enter func288,ntmps288;go_wp2_with fail;go_cut [3,4] (fun u4 u5 wx=>∃wy,wy=wx∧u5= Aa Ab 0∧∃b4 o4,u4= Adm b4∧BM M fl wx o4 { b with b:=l'}∧Bh wx bx 104 #[Adm M.β]∧o4 bx=0∧Bh wx b4 169 #[Aa Ab (x.t:Int),Aa Ab (x.w:Int),Aa Ac (x.n:Int)]∧o4 b4=9∧To Di w o wx o4)
 case first=>
  go_region_held3 (fun w'=>w'.cell? ⟨bx,0,none⟩=some (Adm M.β)∧w'.cell? ⟨bi,0,none⟩=some (Aa Ab (i:Int))∧w'.cell? ⟨bv,0,none⟩=some (.slice A n c)∧w'.cell? ⟨M.β,0,none⟩=some (Adm M.bb)∧w'.cell? ⟨M.β,8,none⟩=some (.slice (some ⟨g,j,none⟩) m8 c8)∧w'.cell? ⟨g,j+i*3,none⟩=some (Aa Ab (kv.t:Int))∧w'.cell? ⟨g,j+i*3+1,none⟩=some (Aa Ab (kv.w:Int))∧w'.cell? ⟨g,j+i*3+2,none⟩=some (Aa Ac (kv.n:Int))) (first|with_reducible exact⟨k,E,F,G,H,I,J,K⟩|with_reducible exact⟨Bj k,Bj E,Bj F,Bj G,Bj H,Bj I,Bj J,Bj K⟩|with_reducible exact⟨Bo _ k,Bo _ E,Bo _ F,Bo _ G,Bo _ H,Bo _ I,Bo _ J,Bo _ K⟩|with_reducible exact⟨Bj (Bo _ k),Bj (Bo _ E),Bj (Bo _ F),Bj (Bo _ G),Bj (Bo _ H),Bj (Bo _ I),Bj (Bo _ J),Bj (Bo _ K)⟩|with_reducible exact⟨P,Q,R,y4,y8,ya,yb,yc⟩|with_reducible exact⟨Bo _ P,Bo _ Q,Bo _ R,Bo _ y4,Bo _ y8,Bo _ ya,Bo _ yb,Bo _ yc⟩|with_reducible exact⟨Eo (Bo _ P) p0,Eo (Bo _ Q) p1,Eo (Bo _ R) p3,Eo (Bo _ y4) p4,Eo (Bo _ y8) p8,Eo (Bo _ ya) pa,Eo (Bo _ yb) pb,Eo (Bo _ yc) pc⟩|with_reducible exact⟨Eo P n0,Eo Q n1,Eo R n3,Eo y4 n4,Eo y8 n8,Eo ya na,Eo yb nb,Eo yc nc⟩) (first|(go_at_call 289;(with_reducible refine HP.o.mono ?_);rintro e f ⟨rfl,o1,q,a⟩;have u:=HM.o.buf_ a q;have P:f.cell? ⟨bx,0,none⟩=some (Adm M.β):=Dd a (Bo _ k) (by rw [Bw D,d.o.1];omega);have Q:f.cell? ⟨bi,0,none⟩=some (Aa Ab (i:Int)):=Dd a (Bo _ E) (by rw [Bw a5];exact d.o.2.1);have R:f.cell? ⟨bv,0,none⟩=some (.slice A n c):=Dd a (Bo _ F) (by rw [Bw a6,d.o.2.2.1];omega);have y4:f.cell? ⟨M.β,0,none⟩=some (Adm M.bb):=Dd a (Bo _ G) (by rw [Bw a7,d.o.2.2.2.1];omega);have y8:f.cell? ⟨M.β,8,none⟩=some (.slice (some ⟨g,j,none⟩) m8 c8):=Dd a (Bo _ H) (by rw [Bw a8,d.o.2.2.2.1];omega);have ya:f.cell? ⟨g,j+i*3,none⟩=some (Aa Ab (kv.t:Int)):=Dd a (Bo _ I) (by rw [Bw a9,d.o.2.2.2.2];omega);have yb:f.cell? ⟨g,j+i*3+1,none⟩=some (Aa Ab (kv.w:Int)):=Dd a (Bo _ J) (by rw [Bw ba,d.o.2.2.2.2];omega);have yc:f.cell? ⟨g,j+i*3+2,none⟩=some (Aa Ac (kv.n:Int)):=Dd a (Bo _ K) (by rw [Bw bd,d.o.2.2.2.2];omega);have C:=aa.o.to_ a (by rw [W.o];omega);obtain ⟨f0,f1,f2⟩:=C.f3;obtain ⟨z0,z1,z2⟩:=C.c3;have X:=Hd (show o1 w.heap.size=9 from(a.ow _ aa.o.lt).trans W.o);have bo:=Hd C;have V:=Hd u;have y:=Hd (T.o.to_ a (by rw [Bw D,d.o.1];omega));have z:=Hd (show o1 bx=0 from(a.ow _ T.o.lt).trans ((Bw D).trans d.o.1));have Z:=Hd (aq.o.trans (a.mono fun _ h=>Iw h));clear q a u C)|(go_at_call 289;(with_reducible refine Y.o.mono ?_);rintro e f ⟨rfl,o1,q,a⟩;have u:=ao.o.buf_ a q;have P:f.cell? ⟨bx,0,none⟩=some (Adm M.β):=Dd a k (by rw [d.o.1];omega);have Q:f.cell? ⟨bi,0,none⟩=some (Aa Ab (i:Int)):=Dd a E (by exact d.o.2.1);have R:f.cell? ⟨bv,0,none⟩=some (.slice A n c):=Dd a F (by rw [d.o.2.2.1];omega);have y4:f.cell? ⟨M.β,0,none⟩=some (Adm M.bb):=Dd a G (by rw [d.o.2.2.2.1];omega);have y8:f.cell? ⟨M.β,8,none⟩=some (.slice (some ⟨g,j,none⟩) m8 c8):=Dd a H (by rw [d.o.2.2.2.1];omega);have ya:f.cell? ⟨g,j+i*3,none⟩=some (Aa Ab (kv.t:Int)):=Dd a I (by rw [d.o.2.2.2.2];omega);have yb:f.cell? ⟨g,j+i*3+1,none⟩=some (Aa Ab (kv.w:Int)):=Dd a J (by rw [d.o.2.2.2.2];omega);have yc:f.cell? ⟨g,j+i*3+2,none⟩=some (Aa Ac (kv.n:Int)):=Dd a K (by rw [d.o.2.2.2.2];omega);have p0:bx≠f.heap.size:=Nat.ne_of_lt (Bl P);have p1:bi≠f.heap.size:=Nat.ne_of_lt (Bl Q);have p3:bv≠f.heap.size:=Nat.ne_of_lt (Bl R);have p4:M.β≠f.heap.size:=Nat.ne_of_lt (Bl y4);have p8:M.β≠f.heap.size:=Nat.ne_of_lt (Bl y8);have pa:g≠f.heap.size:=Nat.ne_of_lt (Bl ya);have pb:g≠f.heap.size:=Nat.ne_of_lt (Bl yb);have pc:g≠f.heap.size:=Nat.ne_of_lt (Bl yc);have V:=Hd u;have y:=Hd (S.o.to_ a (by rw [d.o.1];omega));have z:=Hd (show o1 bx=0 from(a.ow _ S.o.lt).trans d.o.1);have Z:=Hd (a.from_drew.mono fun _ h=>Iw h);clear q a u))
  all_goals
   go_wp2_with fail;go_meet
  all_goals
   first
   |exact⟨_,rfl,rfl,w.heap.size,o1,rfl,V.o.to_ (xG X.o _ _ _) Oj,y.o.to_ (xG X.o _ _ _) (by rw [z.o];decide),z.o,((bo.o.set_ 0 (Aa Ab (x.t:Int))).set_ 1 (Aa Ab (x.w:Int))).set_ 2 (Aa Ac (x.n:Int)),X.o,((Z.o.set_new (p:=⟨w.heap.size,0,none⟩) (Ae _) _).set_new (p:=⟨w.heap.size,1,none⟩) (Ae _) _).set_new (p:=⟨w.heap.size,2,none⟩) (Ae _) _⟩
   |exact⟨_,rfl,rfl,f.heap.size,Bm o1 f.heap.size 9,rfl,V.o.fresh ((Af f.heap.size f).alloc (Ae _) _) 9,y.o.pure ((Af f.heap.size f).alloc (Ae _) _),(Bw y.o.lt).trans z.o,Bh.new _ _ _,Br (Ae _),Z.o.trans (To.fresh Di ((Af f.heap.size f).alloc (Ae _) _) o1 9)⟩
 case rest=>
  obtain⟨w4,rfl,rfl,b4,o4,rfl,aw,av,N,a1,az,a0⟩:=hcut;have bf:=Hd aw;have U:=Hd av;have L:=Hd N;have ar:=Hd a1;have ap:=Hd az;have bl:=Hd a0;clear aw av N a1 az a0 k n0 D E n1 a5 F n3 a6 G n4 a7 H n8 a8 I na a9 J nb ba K nc bd HM HP Y ao aa W aq T S d;have k:w4.cell? ⟨bx,0,none⟩=some (Adm M.β):=U.o.cell 0;go_wp2_with fail;go_at_call 131;refine(Hx bf.o).mono ?_;rintro e w5 ⟨rfl,o5,ax,m⟩;have bg:=Hd ax;have am:=Hd (U.o.to_ m (by rw [L.o];exact Cr));have an:=Hd (show o5 bx=0 from(m.ow _ U.o.lt).trans L.o);have au:=Hd (ar.o.to_ m (by rw [ap.o];exact fun h=>Oj 9 h rfl));have bj:=Hd (show o5 b4=9 from(m.ow _ ar.o.lt).trans ap.o);have bm:=Hd (bl.o.trans m);clear ax m k;have k:w5.cell? ⟨bx,0,none⟩=some (Adm M.β):=am.o.cell 0;obtain ⟨v0,v1,v2⟩:=au.o.c3;go_wp2_with fail;go_region_held3 (fun w'=>w'.cell? ⟨bx,0,none⟩=some (Adm M.β)∧w'.cell? ⟨b4,0,none⟩=some (Aa Ab (x.t:Int))∧w'.cell? ⟨b4,1,none⟩=some (Aa Ab (x.w:Int))∧w'.cell? ⟨b4,2,none⟩=some (Aa Ac (x.n:Int))) (first|with_reducible exact⟨k,v0,v1,v2⟩|with_reducible exact⟨Bj k,Bj v0,Bj v1,Bj v2⟩|with_reducible exact⟨P,Q,y2,R⟩) (first|(go_at_call 203;(with_reducible refine(M4 M fl { b with b:=l'} x _ o5 bg.o.drew HS.o).mono ?_);rintro e w6 ⟨rfl,o6,ay,B⟩;have P:w6.cell? ⟨bx,0,none⟩=some (Adm M.β):=(am.o.to_ B.from_drew (by rw [an.o];exact Cr)).cell 0;have a2:=au.o.to_ B.from_drew (by rw [bj.o];exact fun h=>Oj 9 h rfl);obtain ⟨Q,y2,R⟩:=a2.c3;have bh:=Hd ay;have bn:=Hd (bm.o.trans B.from_drew);clear ay B a2));go_wp2_with fail;go_end0;exact⟨rfl,o6,bh.o,bn.o⟩
theorem aM{ops:Array Oper}{o:Oper}{a:Act}{K:Act→World→Prop}{Q:Exit→Act→World→Prop}{E:Prop}(hgd:o.guard=none)(s x:Operand)
  (ho:o.op= .call { callee:= .builtin .append,args:=#[s,x],argTypes:=#[144,144]})
  (B:Nat) (A:Option Addr) (n c:Nat) (l:List V3) (hs:a.eval s= .slice A n c) (hown:Gf w B A n c l)
  (A2:Option Addr) (m d:Nat) (l2:List V3) (hx:a.eval x= .slice A2 m d) (hr:Ej w A2 m l2)
  (hbytes:n+m≤1099511627776) (hbase:B≤w.heap.size)
  (h:∀A' c' w',Gf w' B A' (n+m) c' (l++l2)→Fr (fun k=>∃ad,A=some ad∧k=ad.block) w w'→(A'.map (·.block)=A.map (·.block)∨A'.map (·.block)=some w.heap.size)→K (a.put o.dst (.slice A' (n+m) c')) w'):
  if Region.wanted o (yielded ops a.tmps)=true then Oper.wp Ad o a w K Q else E:=by
 have t:Region.wanted o (yielded ops a.tmps)=true:=by simp [Region.wanted,hgd]
 rw [if_pos t];obtain⟨i,p,u,b,j⟩:=info_parts Pn;have q:n+m≤maxLen:=by simp only [maxLen];omega
 obtain⟨v,w',g,h2,h3,e⟩:=Iq (P:=Ad) w B 144 o.type 169 i _ 3 24 underlying144 p u b j rfl (by omega) (.slice A n c) n (l.flatMap vc) hown.2 A2 m d (l2.flatMap vc) (by rw [Cd Jf,hr.1]) hr.2 (No P7 l2) q (by omega) hbase;obtain⟨A',c',rfl,f⟩:=Own.mk Jf (by omega) (l:=l++l2) h2 List.flatMap_append.symm;have r:=h A' c' w' f ((Fr.of_grown h3).mono fun i _ hi=>by
  cases A with
  |none=>simp [Value.ownBlock] at hi
  |some ad=>simp [Value.ownBlock] at hi;exact⟨ad,rfl,hi⟩) (by
  rcases e with e|e
  ·left;revert e;cases A' <;>cases A <;>simp [Value.ownBlock]
  ·right;revert e;cases A' <;>simp [Value.ownBlock])
 clear h f h2 h3 e;unfold Oper.wp;simp only [execOp,ho,resolve,invoke,builtin,Sem.run_bind,Sem.run_pure,Result.andThen_ok,List.map_toArray,List.map_cons,List.map_nil,hs,hx,g];exact r
theorem dG{M:Bp}{fl:Int}{W0 W1:World}{vals:List Bv}{A A':Option Addr}{n c c':Nat}{v:Bv}(hb:Bh w M.β 148 #[Adm M.bb,Adm M.sb,Aa Ab 0,Aa Ab fl,Adm M.kb,Adm M.tb,Adm M.lb,.map (some M.mb),.slice A n c,.bool true])(h0:Gf w 0 A n c (vals.map vv))(hof:Of o A 8)(hβ:o M.β=2)(hW:Below w.heap.size w W0)
  (hown:Gf W1 0 A' (n+1) c' (vals.map vv++ [vv v])) (hfr:Fr (fun k=>∃ad,A=some ad∧k=ad.block) W0 W1) (hat:A'.map (·.block)=A.map (·.block)∨A'.map (·.block)=some W0.heap.size):
  Gx M fl (W1.setCell ⟨M.β,8,none⟩ (.slice A' (n+1) c')) (Bm o w.heap.size 8) (vals++ [v])∧To (fun i=>i=2∨i=8) w o (W1.setCell ⟨M.β,8,none⟩ (.slice A' (n+1) c')) (Bm o w.heap.size 8):=by
 have f:∀ad,A=some ad→M.β≠ad.block:=fun ad e h=>by
  have h1:=hof ad e;rw [←h,hβ] at h1;omega
 have d:Bh W1 M.β 148 #[Adm M.bb,Adm M.sb,Aa Ab 0,Aa Ab fl,Adm M.kb,Adm M.tb,Adm M.lb,.map (some M.mb),.slice A n c,.bool true]:=(hb.pure hW).fr hfr (by rintro⟨ad,e,h⟩;exact f ad e h);have a:Of (Bm o w.heap.size 8) A' 8:=by
  intro ad e;subst e;rcases hat with e|e
  ·cases A with
   |none=>cases e
   |some a0=>
    injection e with e
    have e:ad.block=a0.block:=e;rw [e,Bw (h0.addr a0 rfl).2.2];exact hof a0 rfl
  ·injection e with e
   have e:ad.block=W0.heap.size:=e;rw [e,Br hW.size]
 have b:Bm o w.heap.size 8 M.β=2:=by rw [Bw hb.lt];exact hβ
 refine⟨⟨A',n+1,c',d.set_ 8 (.slice A' (n+1) c'),?_,a,b⟩,?_⟩
 ·rw [List.map_append];refine hown.fr (Fr.setCell (S:=fun k=>k=M.β) (Fr.refl _ W1) (fun _=>rfl) _) ?_;intro ad e h;have h1:=a ad e;have h2:ad.block=M.β:=h;rw [h2,b] at h1;omega
 ·have g:To (fun i=>i=2∨i=8) w o W1 (Bm o w.heap.size 8):=by
   refine⟨(Fr.of_below hW _).trans hfr ?_,fun k hk=>Bw hk⟩;rintro k _ ⟨ad,e,rfl⟩;exact .inr (hof ad e)
  exact g.trans (To.of_fr0 (Fr.setCell (S:=fun k=>k=M.β) (Fr.refl _ W1) (p:=⟨M.β,8,none⟩) (fun _=>rfl) _) (by rintro k _ rfl;exact .inl b))
def Bd.table(f:Nat)(list:List UInt8)(ks vs:List Bv)(b:Bd):Bd:=
 match(if Ko f 4=true then Cp b.lists list else none) with
 |some i=>let x:=Gj (b.vals.getD i ⟨0,0,0⟩) vs b.b;{ b with b:=x.1,s:=b.s++ [x.2]}
 |none=>
  let y:=Cw 14 true false ks b.b
  let x:=Gj y.2 vs y.1
  { b with b:=x.1,s:=b.s++ [x.2],vals:=b.vals++ [y.2],lists:=Fj b.lists list b.vals.length}
theorem cS(f:Nat)(keys:List (List UInt8))(start:Nat)(b:Bd):b.endMap f keys start=Bd.table f (Da keys) (K0 (b.s.drop start)) (Q1 (b.s.drop start)) { b with s:=b.s.take start}:=rfl
theorem wD(f:Nat)(list:List UInt8)(ks vs:List Bv)(b:Bd)(g:Option Nat)(q:Bool)(hg:Cp b.lists list=g)(hq:Ko f 4=q):Bd.table f list ks vs b=match(if q=true then g else none) with
 |some i=>let x:=Gj (b.vals.getD i ⟨0,0,0⟩) vs b.b;{ b with b:=x.1,s:=b.s++ [x.2]}
 |none=>
  let y:=Cw 14 true false ks b.b
  let x:=Gj y.2 vs y.1
  { b with b:=x.1,s:=b.s++ [x.2],vals:=b.vals++ [y.2],lists:=Fj b.lists list b.vals.length}:=by
 unfold Bd.table;rw [hg,hq]
structure kU(list:List UInt8)(ks vs:List Bv)(b:Bd):Prop where
 kok:E4 ks b.b
 kel:∀v∈ks,v.t=4
 vok:E4 vs b.b
 vok2:E4 vs (Cw 14 true false ks b.b).1
 kw:Bt ((Cw 14 true false ks b.b).2.w:Int)=true
 kfit:E7 (Cw 14 true false ks b.b).1.length (Cw 14 true false ks b.b).2
 had:∀i,Cp b.lists list=some i→∃kv,b.vals[i]?=some kv∧kv.t=14∧Bt (kv.w:Int)=true∧E7 b.b.length kv
 ll:b.lists.length≤1048575
 vl:b.vals.length≤1048576
 st:b.s.length<65536
theorem wV(h:i=6):Di i:=by subst h;exact⟨by omega,by omega⟩
theorem oQ(h:i=2∨i=8):Di i:=by rcases h with rfl|rfl <;>exact⟨by omega,by omega⟩
structure R1(M:Bp)(A:Option Addr)(n c:Nat)(vs:List Bv)(bx bv bi i:Nat)(w:World)(o:Nat→Nat):Prop where
 x:Bh w bx 104 #[Adm M.β]
 v:Bh w bv 144 #[.slice A n c]
 i:Bh w bi 3 #[Aa Ab (i:Int)]
 ox:o bx=0
 ov:o bv=0
 oi:o bi=9
 iv:Ej w A n (vs.map vv)
 oa:∀ad,A=some ad→ad.block<w.heap.size∧o ad.block=0
section
variable {M:Bp} {A:Option Addr} {n c:Nat} {vs:List Bv} {bx bv bi i:Nat} {w w':World} {o o':Nat→Nat}
theorem R1.to_(h:R1 M A n c vs bx bv bi i w o)(ht:To I w o w' o')(h0:¬I 0)(h9:¬I 9):R1 M A n c vs bx bv bi i w' o':=
 ⟨h.x.to_ ht (by rw [h.ox];exact h0),h.v.to_ ht (by rw [h.ov];exact h0),h.i.to_ ht (by rw [h.oi];exact h9),(ht.ow _ h.x.lt).trans h.ox,(ht.ow _ h.v.lt).trans h.ov,(ht.ow _ h.i.lt).trans h.oi,
  h.iv.fr ht.fr (fun ad e=>by rw [(h.oa ad e).2];exact h0),fun ad e=>⟨As (h.oa ad e).1 ht.size,(ht.ow _ (h.oa ad e).1).trans (h.oa ad e).2⟩⟩
theorem R1.set(h:R1 M A n c vs bx bv bi i w o)(j:Nat):R1 M A n c vs bx bv bi j (w.setCell ⟨bi,0,none⟩ (Aa Ab (j:Int))) o:=by
 have ht:=Kq (w:=w) (p:=⟨bi,0,none⟩) h.oi (Aa Ab (j:Int));exact⟨h.x.to_ ht (by rw [h.ox];decide),h.v.to_ ht (by rw [h.ov];decide),h.i.set_ 0 _,h.ox,h.ov,h.oi,h.iv.fr ht.fr (fun ad e=>by rw [(h.oa ad e).2];decide),fun ad e=>⟨As (h.oa ad e).1 ht.size,(h.oa ad e).2⟩⟩
theorem R1.cells(h:R1 M A n c vs bx bv bi i w o):w.cell? ⟨bx,0,none⟩=some (Adm M.β)∧w.cell? ⟨bv,0,none⟩=some (.slice A n c)∧w.cell? ⟨bi,0,none⟩=some (Aa Ab (i:Int)):=⟨h.x.cell 0,h.v.cell 0,h.i.cell 0⟩
end
theorem xE:¬Di 9:=by rintro⟨h1,h2⟩;omega
theorem nP(M:Bp)(fl:Int)(b:Bd)(list:List UInt8)(AK:Option Addr)(nk ck:Nat)(ks:List Bv)(A:Option Addr)(n c:Nat)(vs:List Bv)(w:World)(o:Nat→Nat)(h:BM M fl w o b)
  (hK:Ej w AK nk (ks.map vv)) (hKo:∀ad,AK=some ad→ad.block<w.heap.size∧o ad.block=0) (hv:Ej w A n (vs.map vv)) (ho:∀ad,A=some ad→ad.block<w.heap.size∧o ad.block=0) (hT:kU list ks vs b):
  Calls Ad 208 #[Adm M.β,.string ⟨list.toArray⟩,.slice AK nk ck,.slice A n c] w (D8 M fl (Bd.table (bits fl) list ks vs b) w o):=by
 obtain⟨g,hg⟩:∃g,Cp b.lists list=g:=⟨_,rfl⟩;obtain⟨q,hq⟩:∃q,Ko (bits fl) 4=q:=⟨_,rfl⟩;have HE:=Hd (wD (bits fl) list ks vs b g q hg hq);have HQ:=Hd hq;obtain⟨gv,cj⟩:∃v,g.getD 0=v:=⟨_,rfl⟩;obtain⟨ci,bn⟩:∃v,g.isSome=v:=⟨_,rfl⟩;have HG:=Hd (show Vk (Cp b.lists list)= .tuple #[Aa Ab (gv:Int),.bool ci] by rw [hg];unfold Vk;rw [cj,bn]);have c7:=Hd (And.intro cj bn);have S:=Hd hT;have c4:=Hd (fun i=>(hg▸hT.had i:g=some i→_));have da:=Hd (show b.lists.length≤1048576 by have:=hT.ll;omega);obtain⟨y,hy⟩:∃y,Cw 14 true false ks b.b=y:=⟨_,rfl⟩;have HY:=Hd hy;obtain⟨yb,d⟩:=y;have hB:Below w.heap.size w ((w.alloc (.cells #[Adm M.β] 104)).alloc (.cells #[.slice A n c] 144)):=Cc w _ _;have az:=Hd (h.fresh hB 0);have bu:=Hd (To.fresh Di hB o 0);have ap:=Hd (And.intro (hK.pure hB) (fun ad e=>⟨As (hKo ad e).1 hB.size,(Bw (hKo ad e).1).trans (hKo ad e).2⟩:∀ad,AK=some ad→ad.block<_∧Bm o w.heap.size 0 ad.block=0));have l:=Hd (show Bh ((w.alloc (.cells #[Adm M.β] 104)).alloc (.cells #[.slice A n c] 144)) w.heap.size 104 #[Adm M.β]∧Bh ((w.alloc (.cells #[Adm M.β] 104)).alloc (.cells #[.slice A n c] 144)) (w.heap.size+1) 144 #[.slice A n c]∧Bm o w.heap.size 0 w.heap.size=0∧Bm o w.heap.size 0 (w.heap.size+1)=0∧Ej ((w.alloc (.cells #[Adm M.β] 104)).alloc (.cells #[.slice A n c] 144)) A n (vs.map vv)∧(∀ad,A=some ad→ad.block<((w.alloc (.cells #[Adm M.β] 104)).alloc (.cells #[.slice A n c] 144)).heap.size∧Bm o w.heap.size 0 ad.block=0) from
  ⟨(Bh.new w 104 #[Adm M.β]).alloc _,Ct w _ 144 #[.slice A n c],Br (Ae _),Br (by omega),hv.pure hB,fun ad e=>⟨As (ho ad e).1 hB.size,(Bw (ho ad e).1).trans (ho ad e).2⟩⟩)
 clear h hK hKo hv ho hT hg hq cj bn hy hB;go_enter func208,ntmps208;go_upto_region 1 with fail
 generalize (w.alloc (.cells #[Adm M.β] 104)).alloc (.cells #[.slice A n c] 144)=w1 at az bu ap l⊢;generalize Bm o w.heap.size 0=o1 at az bu ap l;generalize w.heap.size+1=bv at l⊢;generalize w.heap.size=bx at l⊢;have m:w1.cell? ⟨bx,0,none⟩=some (Adm M.β):=l.o.1.cell 0;obtain⟨_,_,_,_,b6,_⟩:=De az.o.head;go_wp2_with fail;go_at_call 280;refine(Sz 6 M.lb b.lists list _ o1 az.o.lists da.o).mono ?_;rintro e w2 ⟨rfl,hB⟩;rw [HG.o];have b5:=Hd (Nat.le_trans bu.o.size hB.size);have u:=(Af w2.heap.size w2).alloc (Ae _) (.cells #[Aa Ab (gv:Int)] 3);have P:=Ba hB u;have D:=Hd (az.o.fresh P 9);have a5:=Hd (bu.o.trans (To.fresh Di P o1 9));have T:=Hd (And.intro (ap.o.1.pure P) (fun ad e=>⟨As (ap.o.2 ad e).1 P.size,(Bw (ap.o.2 ad e).1).trans (ap.o.2 ad e).2⟩:∀ad,AK=some ad→ad.block<_∧Bm o1 w1.heap.size 9 ad.block=0));have j:=Hd (show R1 M A n c vs bx bv w2.heap.size gv (w2.alloc (.cells #[Aa Ab (gv:Int)] 3)) (Bm o1 w1.heap.size 9) from
  ⟨l.o.1.pure P,l.o.2.1.pure P,Bh.new _ _ _,(Bw l.o.1.lt).trans l.o.2.2.1,(Bw l.o.2.1.lt).trans l.o.2.2.2.1,Br hB.size,l.o.2.2.2.2.1.pure P,fun ad e=>⟨As (l.o.2.2.2.2.2 ad e).1 P.size,(Bw (l.o.2.2.2.2.2 ad e).1).trans (l.o.2.2.2.2.2 ad e).2⟩⟩)
 clear hB u P m b6;go_upto_region 2 with fail
 generalize w2.alloc (.cells #[Aa Ab (gv:Int)] 3)=w3 at D a5 T j⊢;generalize Bm o1 w1.heap.size 9=o3 at D a5 T j;generalize w2.heap.size=bi at j b5⊢;obtain⟨b0,b3,_⟩:=De D.o.head;obtain⟨m,H,z⟩:=j.o.cells;obtain⟨hg,bz⟩:=c7.o;cases g with
 |none=>
  obtain rfl:ci=false:=by rw [←bz];rfl
  have HP:=Hd (show(if q=true then(none:Option Nat) else none)=none by split <;>rfl);clear hg bz;have c5:=Hd j.o;obtain⟨b0,_,_,_,b6,_⟩:=De D.o.head;obtain⟨m,H,z⟩:=j.o.cells;go_wp2_with fail;go_at_call 287;refine(Xo M.bb nk ck AK ks b.b _ o3 D.o.buf T.o.1 (fun ad e=>⟨(T.o.2 ad e).1,by rw [(T.o.2 ad e).2];omega⟩) S.o.kok S.o.kel).mono ?_;rintro e w4 ⟨rfl,o4,a9,Q⟩;have a0:=Hd (D.o.buf_ Q a9);have ay:=Hd (j.o.to_ Q (by omega) (by omega));have cc:=Hd (a5.o.trans (Q.mono fun _ h=>Iw h));clear a9 Q b0 b6 m H z;rw [HY.o] at a0⊢;obtain⟨m,H,z⟩:=ay.o.cells;have u:=(Af w4.heap.size w4).alloc (Ae _) (.cells #[Aa Ab (d.t:Int),Aa Ab (d.w:Int),Aa Ac (d.n:Int)] 169);have af:=Hd (a0.o.fresh u 0);have J:=Hd (ay.o.to_ (To.fresh Di u o4 0) Cr xE);have ah:=Hd (cc.o.trans (To.fresh Di u o4 0));have O:=Hd (Bh.new w4 169 #[Aa Ab (d.t:Int),Aa Ab (d.w:Int),Aa Ac (d.n:Int)]);have L:=Hd (show Bm o4 w4.heap.size 0 w4.heap.size=0 from Br (Ae _));have db:=Hd u;clear u;go_upto_region 4 with fail
  generalize w4.alloc (.cells #[Aa Ab (d.t:Int),Aa Ab (d.w:Int),Aa Ac (d.n:Int)] 169)=w5 at af J ah O⊢;generalize Bm o4 w4.heap.size 0=o5 at af J ah L;generalize w4.heap.size=bk at O L⊢;clear m H z;obtain⟨m,H,z⟩:=J.o.cells;go_wp2_with fail;go_at_call 131;refine(Hx af.o).mono ?_;rintro e w6 ⟨rfl,o6,be,E⟩;have a1:=Hd be;have C:=Hd (J.o.to_ E Cr xE);have cg:=Hd (O.o.to_ E (by rw [L.o];exact Cr));have ag:=Hd (show o6 bk=0 from(E.ow _ O.o.lt).trans L.o);have cd:=Hd (ah.o.trans E);clear be E m H z;obtain⟨m,H,z⟩:=C.o.cells;obtain⟨A8,m8,c8,bl,bp,bq,cl⟩:=a1.o.head;have ao:b.vals.length=m8:=by have:=bp.is.1;simpa using this
  have bo:m8≤1048576:=by have:=S.o.vl;omega
  have y8:w6.cell? ⟨M.β,8,none⟩=some (.slice A8 m8 c8):=bl.cell 8;have fi:w6.frozen? ⟨bi,0,none⟩=false:=C.o.i.frozen 0;have a6:=Hd (cd.o.set_new (p:=⟨bi,0,none⟩) b5.o (Aa Ab (m8:Int)));have ab:=Hd (C.o.set m8);have K:=Hd (a1.o.to_ (Kq (p:=⟨bi,0,none⟩) C.o.oi (Aa Ab (m8:Int))) Oj);have ai:=Hd (cg.o.to_ (Kq (p:=⟨bi,0,none⟩) C.o.oi (Aa Ab (m8:Int))) (by rw [ag.o];decide));go_upto_region 6 with fail
  generalize w6.setCell ⟨bi,0,none⟩ (Aa Ab (m8:Int))=w7 at ab K ai a6⊢;clear bl bp bq cl m H z y8 fi;obtain⟨m,H,z⟩:=ab.o.cells;obtain⟨_,_,_,_,b6,_⟩:=De K.o.head;go_region_held3 (fun w'=>w'.cell? ⟨bx,0,none⟩=some (Adm M.β)∧w'.cell? ⟨M.β,6,none⟩=some (Adm M.lb)∧w'.cell? ⟨bi,0,none⟩=some (Aa Ab (m8:Int))) (first|with_reducible exact⟨m,b6,z⟩|with_reducible exact⟨Bj m,Bj b6,Bj z⟩|with_reducible exact⟨y0,y6,y2⟩) (first|(go_at_call 282;(with_reducible refine(Me 6 M.lb b.lists list m8 _ o6 K.o.drew.lists S.o.ll bo).mono ?_);rintro e B ⟨⟨x,rfl⟩,o8,ba,bg⟩;have f:=bg.from_drew;have aj:=ab.o.to_ f (by omega) (by omega);obtain⟨y0,_,y2⟩:=aj.cells;have ak:=K.o.lists_ f ba;obtain⟨_,_,_,_,y6,_⟩:=De ak.head;have a2:=Hd ak;have ae:=Hd aj;have a8:=Hd (ai.o.to_ f (by rw [ag.o];omega));have b8:=Hd (show o8 bk=0 from(f.ow _ ai.o.lt).trans ag.o);have ce:=Hd (a6.o.trans (f.mono fun _ h=>wV h));clear ba bg f aj ak));clear m H z b6;obtain⟨A9,G,c9,am,R,X,Z⟩:=a2.o.head;obtain rfl:G=m8:=by have:=R.is.1;rw [←ao];simpa using this.symm
  obtain ⟨k0,k1,k2⟩:=a8.o.c3;have y8:B.cell? ⟨M.β,8,none⟩=some (.slice A9 G c9):=am.cell 8;have al:Below B.heap.size B (B.alloc (.cells #[Aa Ab (d.t:Int),Aa Ab (d.w:Int),Aa Ac (d.n:Int)] 169)).drew:=((Af _ _).alloc (Ae _) _).drew;have N:=Hd al;have b7:=Hd (show Ej (B.alloc (.cells #[Aa Ab (d.t:Int),Aa Ab (d.w:Int),Aa Ac (d.n:Int)] 169)).drew (some ⟨B.heap.size,0,none⟩) 1 [vv d] from(Tl B d).pure (Af _ _).drew);have cb:=Hd (R.pure al);have ax:=Hd am;have b9:=Hd R;have r:=Hd X;have U:=Hd Z;have j0:(B.alloc (.cells #[Aa Ab (d.t:Int),Aa Ab (d.w:Int),Aa Ac (d.n:Int)] 169)).cell? ⟨bx,0,none⟩=some (Adm M.β):=C7 _ y0;have j8:(B.alloc (.cells #[Aa Ab (d.t:Int),Aa Ab (d.w:Int),Aa Ac (d.n:Int)] 169)).cell? ⟨M.β,8,none⟩=some (.slice A9 G c9):=C7 _ y8;have cm:(B.alloc (.cells #[Aa Ab (d.t:Int),Aa Ab (d.w:Int),Aa Ac (d.n:Int)] 169)).cell? ⟨bk,0,none⟩=some (Aa Ab (d.t:Int)):=C7 _ k0;have cn:(B.alloc (.cells #[Aa Ab (d.t:Int),Aa Ab (d.w:Int),Aa Ac (d.n:Int)] 169)).cell? ⟨bk,1,none⟩=some (Aa Ab (d.w:Int)):=C7 _ k1;have co:(B.alloc (.cells #[Aa Ab (d.t:Int),Aa Ab (d.w:Int),Aa Ac (d.n:Int)] 169)).cell? ⟨bk,2,none⟩=some (Aa Ac (d.n:Int)):=C7 _ k2;clear am R X Z al;go_wp2_with fail;go_cut [] (fun wx=>∃wy,wy=wx∧∃oA,BM M fl wx oA { b with b:=yb,vals:=b.vals++ [d],lists:=Fj b.lists list G}∧R1 M A n c vs bx bv bi G wx oA∧To Di w o wx oA)
  case first=>
   go_region_law (refine aM rfl (.tmp 65) (.tmp 67) rfl 0 A9 G c9 (b.vals.map vv) rfl cb.o _ 1 1 [vv d] rfl b7.o (by omega) (Nat.zero_le _) ?_;intro AA ca W1 Y F bj;have hh:=dG ax.o b9.o r.o U.o N.o Y F bj;have bm:=(ae.o.x.pure N.o).fr F (by rintro⟨ad,e,h⟩;have h1:=r.o ad e;rw [←h,ae.o.ox] at h1;omega);have an:=(ax.o.pure N.o).fr F (by rintro⟨ad,e,h⟩;have h1:=r.o ad e;rw [←h,U.o] at h1;omega);have z0:W1.cell? ⟨bx,0,none⟩=some (Adm M.β):=bm.cell 0;have z8:W1.cell? ⟨M.β,8,none⟩=some (.slice A9 G c9):=an.cell 8;have f8:W1.frozen? ⟨M.β,8,none⟩=false:=an.frozen 8;have hk:=(a8.o.pure N.o).fr F (by rintro⟨ad,e,h⟩;have h1:=r.o ad e;rw [←h,b8.o] at h1;omega);obtain ⟨z1,z2,z3⟩:=hk.c3;have HH:=Hd hh;clear Y F bj hh bm an hk)
   all_goals
    go_wp2_with fail;go_meet;exact⟨_,rfl,_,a2.o.head_ HH.o.2 HH.o.1,ae.o.to_ HH.o.2 (by omega) (by omega),ce.o.trans (HH.o.2.mono fun _ h=>oQ h)⟩
  case rest=>
   obtain⟨wA,rfl,oA,bf,bd,bh⟩:=hcut;have a3:=Hd bf;have k:=Hd bd;have cf:=Hd bh;have I:=Hd (show(b.vals++ [d])[G]?=some d∧b.s.length<65536∧E4 vs yb∧d.t=14∧Bt (d.w:Int)=true∧E7 yb.length d from
    ⟨by rw [List.getElem?_append_right (by omega),ao,Nat.sub_self];rfl,S.o.st,by have h:=S.o.vok2;rw [HY.o] at h;exact h,by have h:=HY.o;unfold Cw at h;injection h with _ h;rw [←h],by have h:=S.o.kw;rw [HY.o] at h;exact h,by have h:=S.o.kfit;rw [HY.o] at h;exact h⟩)
   clear bf bd bh y0 y2 y6 y8 k0 k1 k2 j0 j8 cm cn co;obtain⟨m,_,_⟩:=k.o.cells;go_wp2_with fail;go_at_call 193;refine(Eg M fl 288 _ _ _ ({ b with b:=yb,vals:=b.vals++ [d],lists:=Fj b.lists list G}).vals _ a3.o.head Tryz.call288 ((Pf M fl ({ b with b:=yb,vals:=b.vals++ [d],lists:=Fj b.lists list G}) d G bx bi bv A n c vs wA _ a3.o k.o.x k.o.i k.o.v k.o.ox (by rw [k.o.oi];decide) k.o.ov k.o.iv k.o.oa I.o.1 I.o.2.1 I.o.2.2.1 I.o.2.2.2.1 I.o.2.2.2.2.1 I.o.2.2.2.2.2).mono fun e w' h=>⟨h.1,h⟩)).mono ?_;rintro e w' ⟨rfl,oz,V,W⟩;have a4:=Hd V;have a7:=Hd (cf.o.trans W);clear V W;go_wp2_with fail;go_end0;refine⟨rfl,oz,?_,a7.o⟩;rw [HE.o];simp only [HP.o,HY.o,ao];exact a4.o
 |some a=>
  obtain rfl:ci=true:=by rw [←bz];rfl
  obtain rfl:gv=a:=by rw [←hg];rfl
  clear hg bz;go_wp2_with fail;go_at_call 281;refine(Yw M.β 4 2 fl q w3 b3 (by omega) rfl HQ.o).mono ?_;rintro e w' ⟨rfl,rfl⟩;cases q with
  |false=>
   have HP:=Hd (show(if false=true then some gv else none)=none from rfl);clear b0 b3 m H z;have c5:=Hd j.o;obtain⟨b0,_,_,_,b6,_⟩:=De D.o.head;obtain⟨m,H,z⟩:=j.o.cells;go_wp2_with fail;go_at_call 287;refine(Xo M.bb nk ck AK ks b.b _ o3 D.o.buf T.o.1 (fun ad e=>⟨(T.o.2 ad e).1,by rw [(T.o.2 ad e).2];omega⟩) S.o.kok S.o.kel).mono ?_;rintro e w4 ⟨rfl,o4,a9,Q⟩;have a0:=Hd (D.o.buf_ Q a9);have ay:=Hd (j.o.to_ Q (by omega) (by omega));have cc:=Hd (a5.o.trans (Q.mono fun _ h=>Iw h));clear a9 Q b0 b6 m H z;rw [HY.o] at a0⊢;obtain⟨m,H,z⟩:=ay.o.cells;have u:=(Af w4.heap.size w4).alloc (Ae _) (.cells #[Aa Ab (d.t:Int),Aa Ab (d.w:Int),Aa Ac (d.n:Int)] 169);have af:=Hd (a0.o.fresh u 0);have J:=Hd (ay.o.to_ (To.fresh Di u o4 0) Cr xE);have ah:=Hd (cc.o.trans (To.fresh Di u o4 0));have O:=Hd (Bh.new w4 169 #[Aa Ab (d.t:Int),Aa Ab (d.w:Int),Aa Ac (d.n:Int)]);have L:=Hd (show Bm o4 w4.heap.size 0 w4.heap.size=0 from Br (Ae _));have db:=Hd u;clear u;go_upto_region 4 with fail
   generalize w4.alloc (.cells #[Aa Ab (d.t:Int),Aa Ab (d.w:Int),Aa Ac (d.n:Int)] 169)=w5 at af J ah O⊢;generalize Bm o4 w4.heap.size 0=o5 at af J ah L;generalize w4.heap.size=bk at O L⊢;clear m H z;obtain⟨m,H,z⟩:=J.o.cells;go_wp2_with fail;go_at_call 131;refine(Hx af.o).mono ?_;rintro e w6 ⟨rfl,o6,be,E⟩;have a1:=Hd be;have C:=Hd (J.o.to_ E Cr xE);have cg:=Hd (O.o.to_ E (by rw [L.o];exact Cr));have ag:=Hd (show o6 bk=0 from(E.ow _ O.o.lt).trans L.o);have cd:=Hd (ah.o.trans E);clear be E m H z;obtain⟨m,H,z⟩:=C.o.cells;obtain⟨A8,m8,c8,bl,bp,bq,cl⟩:=a1.o.head;have ao:b.vals.length=m8:=by have:=bp.is.1;simpa using this
   have bo:m8≤1048576:=by have:=S.o.vl;omega
   have y8:w6.cell? ⟨M.β,8,none⟩=some (.slice A8 m8 c8):=bl.cell 8;have fi:w6.frozen? ⟨bi,0,none⟩=false:=C.o.i.frozen 0;have a6:=Hd (cd.o.set_new (p:=⟨bi,0,none⟩) b5.o (Aa Ab (m8:Int)));have ab:=Hd (C.o.set m8);have K:=Hd (a1.o.to_ (Kq (p:=⟨bi,0,none⟩) C.o.oi (Aa Ab (m8:Int))) Oj);have ai:=Hd (cg.o.to_ (Kq (p:=⟨bi,0,none⟩) C.o.oi (Aa Ab (m8:Int))) (by rw [ag.o];decide));go_upto_region 6 with fail
   generalize w6.setCell ⟨bi,0,none⟩ (Aa Ab (m8:Int))=w7 at ab K ai a6⊢;clear bl bp bq cl m H z y8 fi;obtain⟨m,H,z⟩:=ab.o.cells;obtain⟨_,_,_,_,b6,_⟩:=De K.o.head;go_region_held3 (fun w'=>w'.cell? ⟨bx,0,none⟩=some (Adm M.β)∧w'.cell? ⟨M.β,6,none⟩=some (Adm M.lb)∧w'.cell? ⟨bi,0,none⟩=some (Aa Ab (m8:Int))) (first|with_reducible exact⟨m,b6,z⟩|with_reducible exact⟨Bj m,Bj b6,Bj z⟩|with_reducible exact⟨y0,y6,y2⟩) (first|(go_at_call 282;(with_reducible refine(Me 6 M.lb b.lists list m8 _ o6 K.o.drew.lists S.o.ll bo).mono ?_);rintro e B ⟨⟨x,rfl⟩,o8,ba,bg⟩;have f:=bg.from_drew;have aj:=ab.o.to_ f (by omega) (by omega);obtain⟨y0,_,y2⟩:=aj.cells;have ak:=K.o.lists_ f ba;obtain⟨_,_,_,_,y6,_⟩:=De ak.head;have a2:=Hd ak;have ae:=Hd aj;have a8:=Hd (ai.o.to_ f (by rw [ag.o];omega));have b8:=Hd (show o8 bk=0 from(f.ow _ ai.o.lt).trans ag.o);have ce:=Hd (a6.o.trans (f.mono fun _ h=>wV h));clear ba bg f aj ak));clear m H z b6;obtain⟨A9,G,c9,am,R,X,Z⟩:=a2.o.head;obtain rfl:G=m8:=by have:=R.is.1;rw [←ao];simpa using this.symm
   obtain ⟨k0,k1,k2⟩:=a8.o.c3;have y8:B.cell? ⟨M.β,8,none⟩=some (.slice A9 G c9):=am.cell 8;have al:Below B.heap.size B (B.alloc (.cells #[Aa Ab (d.t:Int),Aa Ab (d.w:Int),Aa Ac (d.n:Int)] 169)).drew:=((Af _ _).alloc (Ae _) _).drew;have N:=Hd al;have b7:=Hd (show Ej (B.alloc (.cells #[Aa Ab (d.t:Int),Aa Ab (d.w:Int),Aa Ac (d.n:Int)] 169)).drew (some ⟨B.heap.size,0,none⟩) 1 [vv d] from(Tl B d).pure (Af _ _).drew);have cb:=Hd (R.pure al);have ax:=Hd am;have b9:=Hd R;have r:=Hd X;have U:=Hd Z;have j0:(B.alloc (.cells #[Aa Ab (d.t:Int),Aa Ab (d.w:Int),Aa Ac (d.n:Int)] 169)).cell? ⟨bx,0,none⟩=some (Adm M.β):=C7 _ y0;have j8:(B.alloc (.cells #[Aa Ab (d.t:Int),Aa Ab (d.w:Int),Aa Ac (d.n:Int)] 169)).cell? ⟨M.β,8,none⟩=some (.slice A9 G c9):=C7 _ y8;have cm:(B.alloc (.cells #[Aa Ab (d.t:Int),Aa Ab (d.w:Int),Aa Ac (d.n:Int)] 169)).cell? ⟨bk,0,none⟩=some (Aa Ab (d.t:Int)):=C7 _ k0;have cn:(B.alloc (.cells #[Aa Ab (d.t:Int),Aa Ab (d.w:Int),Aa Ac (d.n:Int)] 169)).cell? ⟨bk,1,none⟩=some (Aa Ab (d.w:Int)):=C7 _ k1;have co:(B.alloc (.cells #[Aa Ab (d.t:Int),Aa Ab (d.w:Int),Aa Ac (d.n:Int)] 169)).cell? ⟨bk,2,none⟩=some (Aa Ac (d.n:Int)):=C7 _ k2;clear am R X Z al;go_wp2_with fail;go_cut [] (fun wx=>∃wy,wy=wx∧∃oA,BM M fl wx oA { b with b:=yb,vals:=b.vals++ [d],lists:=Fj b.lists list G}∧R1 M A n c vs bx bv bi G wx oA∧To Di w o wx oA)
   case first=>
    go_region_law (refine aM rfl (.tmp 65) (.tmp 67) rfl 0 A9 G c9 (b.vals.map vv) rfl cb.o _ 1 1 [vv d] rfl b7.o (by omega) (Nat.zero_le _) ?_;intro AA ca W1 Y F bj;have hh:=dG ax.o b9.o r.o U.o N.o Y F bj;have bm:=(ae.o.x.pure N.o).fr F (by rintro⟨ad,e,h⟩;have h1:=r.o ad e;rw [←h,ae.o.ox] at h1;omega);have an:=(ax.o.pure N.o).fr F (by rintro⟨ad,e,h⟩;have h1:=r.o ad e;rw [←h,U.o] at h1;omega);have z0:W1.cell? ⟨bx,0,none⟩=some (Adm M.β):=bm.cell 0;have z8:W1.cell? ⟨M.β,8,none⟩=some (.slice A9 G c9):=an.cell 8;have f8:W1.frozen? ⟨M.β,8,none⟩=false:=an.frozen 8;have hk:=(a8.o.pure N.o).fr F (by rintro⟨ad,e,h⟩;have h1:=r.o ad e;rw [←h,b8.o] at h1;omega);obtain ⟨z1,z2,z3⟩:=hk.c3;have HH:=Hd hh;clear Y F bj hh bm an hk)
    all_goals
     go_wp2_with fail;go_meet;exact⟨_,rfl,_,a2.o.head_ HH.o.2 HH.o.1,ae.o.to_ HH.o.2 (by omega) (by omega),ce.o.trans (HH.o.2.mono fun _ h=>oQ h)⟩
   case rest=>
    obtain⟨wA,rfl,oA,bf,bd,bh⟩:=hcut;have a3:=Hd bf;have k:=Hd bd;have cf:=Hd bh;have I:=Hd (show(b.vals++ [d])[G]?=some d∧b.s.length<65536∧E4 vs yb∧d.t=14∧Bt (d.w:Int)=true∧E7 yb.length d from
     ⟨by rw [List.getElem?_append_right (by omega),ao,Nat.sub_self];rfl,S.o.st,by have h:=S.o.vok2;rw [HY.o] at h;exact h,by have h:=HY.o;unfold Cw at h;injection h with _ h;rw [←h],by have h:=S.o.kw;rw [HY.o] at h;exact h,by have h:=S.o.kfit;rw [HY.o] at h;exact h⟩)
    clear bf bd bh y0 y2 y6 y8 k0 k1 k2 j0 j8 cm cn co;obtain⟨m,_,_⟩:=k.o.cells;go_wp2_with fail;go_at_call 193;refine(Eg M fl 288 _ _ _ ({ b with b:=yb,vals:=b.vals++ [d],lists:=Fj b.lists list G}).vals _ a3.o.head Tryz.call288 ((Pf M fl ({ b with b:=yb,vals:=b.vals++ [d],lists:=Fj b.lists list G}) d G bx bi bv A n c vs wA _ a3.o k.o.x k.o.i k.o.v k.o.ox (by rw [k.o.oi];decide) k.o.ov k.o.iv k.o.oa I.o.1 I.o.2.1 I.o.2.2.1 I.o.2.2.2.1 I.o.2.2.2.2.1 I.o.2.2.2.2.2).mono fun e w' h=>⟨h.1,h⟩)).mono ?_;rintro e w' ⟨rfl,oz,V,W⟩;have a4:=Hd V;have a7:=Hd (cf.o.trans W);clear V W;go_wp2_with fail;go_end0;refine⟨rfl,oz,?_,a7.o⟩;rw [HE.o];simp only [HP.o,HY.o,ao];exact a4.o
  |true=>
   obtain⟨au,ar⟩:=c4.o gv rfl;have I:=Hd (show b.vals[gv]?=some au∧b.s.length<65536∧E4 vs b.b∧au.t=14∧Bt (au.w:Int)=true∧E7 b.b.length au from⟨ar.1,S.o.st,S.o.vok,ar.2.1,ar.2.2.1,ar.2.2.2⟩);have HV:=Hd (show b.vals.getD gv ⟨0,0,0⟩=au by rw [List.getD_eq_getElem?_getD,ar.1];rfl);clear ar b0 b3 m H z;obtain⟨m,_,_⟩:=j.o.cells;go_wp2_with fail;go_at_call 193;refine(Eg M fl 288 _ _ _ (b).vals _ D.o.head Tryz.call288 ((Pf M fl (b) au gv bx bi bv A n c vs w3 _ D.o j.o.x j.o.i j.o.v j.o.ox (by rw [j.o.oi];decide) j.o.ov j.o.iv j.o.oa I.o.1 I.o.2.1 I.o.2.2.1 I.o.2.2.2.1 I.o.2.2.2.2.1 I.o.2.2.2.2.2).mono fun e w' h=>⟨h.1,h⟩)).mono ?_;rintro e w' ⟨rfl,oz,V,W⟩;have a4:=Hd V;have a7:=Hd (a5.o.trans W);clear V W;go_wp2_with fail;go_end0;refine⟨rfl,oz,?_,a7.o⟩;rw [HE.o];simp only [↓reduceIte,HV.o];exact a4.o
end
section
open Go.Shelf Go.RowKit Go.Acc
def kB:Go.Shelf.Ren:=⟨fun|166=>207|240=>286|276=>329|n=>n,fun|0=>0|3=>3|4=>4|9=>9|20=>20|5=>5|37=>22|70=>235|72=>237|75=>239|80=>243|164=>346|n=>n,fun|n=>n⟩
theorem sbw:Go.Proofs.Lays.n166 Ad kB:={
 mixed:=by kernel_rfl
 f166:=func207.trans (congrArg some (by kernel_rfl))
 f240:=func286.trans (congrArg some (by kernel_rfl))
 f276:=func329.trans (congrArg some (by kernel_rfl))
 t0:=underlying0
 a0:=isAgg0
 z0:=sizeOf0
 v0:=zeroValue0
 t3:=underlying3
 a3:=isAgg3
 z3:=sizeOf3
 v3:=zeroValue3
 t4:=underlying4
 a4:=isAgg4
 z4:=sizeOf4
 v4:=zeroValue4
 t9:=underlying9
 a9:=isAgg9
 z9:=sizeOf9
 v9:=zeroValue9
 t20:=underlying20
 a20:=isAgg20
 z20:=sizeOf20
 v20:=zeroValue20
 t37:=underlying22
 a37:=isAgg22
 z37:=sizeOf22
 v37:=zeroValue22
 t70:=underlying235
 a70:=isAgg235
 z70:=sizeOf235
 v70:=zeroValue235
 t72:=underlying237
 a72:=isAgg237
 z72:=sizeOf237
 v72:=zeroValue237
 t75:=underlying239
 a75:=isAgg239
 z75:=sizeOf239
 v75:=zeroValue239
 t164:=underlying346
 a164:=isAgg346
 z164:=sizeOf346
 v164:=zeroValue346}
def kA:Go.Shelf.Ren:=⟨fun|169=>209|n=>n,fun|0=>0|3=>3|9=>9|5=>5|37=>22|70=>235|72=>237|127=>310|n=>n,fun|n=>n⟩
theorem sbs:Go.Proofs.Lays.n169 Ad kA:={
 mixed:=by kernel_rfl
 f169:=func209.trans (congrArg some (by kernel_rfl))
 t0:=underlying0
 a0:=isAgg0
 z0:=sizeOf0
 v0:=zeroValue0
 t3:=underlying3
 a3:=isAgg3
 z3:=sizeOf3
 v3:=zeroValue3
 t9:=underlying9
 a9:=isAgg9
 z9:=sizeOf9
 v9:=zeroValue9
 t37:=underlying22
 a37:=isAgg22
 z37:=sizeOf22
 v37:=zeroValue22
 t70:=underlying235
 a70:=isAgg235
 z70:=sizeOf235
 v70:=zeroValue235
 t72:=underlying237
 a72:=isAgg237
 z72:=sizeOf237
 v72:=zeroValue237
 t127:=underlying310
 a127:=isAgg310
 z127:=sizeOf310
 v127:=zeroValue310}
theorem sA:Builder.Extra Ad kB where
 sizeBuilder:=by kernel_rfl
 liesBuilder:=by kernel_rfl
 t5:=underlying5
 a5:=isAgg5
 z5:=sizeOf5
 v5:=zeroValue5
 infoByte:=by kernel_rfl
 cellsByte:=by kernel_rfl
 sizeByte:=by kernel_rfl
 neB5:=by decide
theorem rZ:Builder.Extra Ad kA where
 sizeBuilder:=by kernel_rfl
 liesBuilder:=by kernel_rfl
 t5:=underlying5
 a5:=isAgg5
 z5:=sizeOf5
 v5:=zeroValue5
 infoByte:=by kernel_rfl
 cellsByte:=by kernel_rfl
 sizeByte:=by kernel_rfl
 neB5:=by decide
def iV(w:World)(B b:Nat)(l:List UInt8):Prop:=Go.Lib.IsBuilderF 237 5 B b (Go.Lib.byteCells l) w
theorem sX(B b:Nat)(l s:List UInt8)(w:World)(h:iV w B b l)(hl:l.length+s.length≤1048576)(hB:B≤w.heap.size):
  Calls Ad 207 #[Adm b,.string ⟨s.toArray⟩] w fun e w'=>(∃x,e= .returned x)∧iV w' B b (l++s)∧Below B w w':=by
 refine(Any.Builder_WriteString_k sbw sA B b (Go.Lib.byteCells l) ⟨s.toArray⟩ w h ?_ hB).mono ?_
 ·show _+s.toArray.size≤_;rw [Go.Lib.byteCells_length,List.size_toArray];omega
 ·rintro e w' ⟨rfl,h1,h2,_⟩;refine⟨⟨_,rfl⟩,.inr ?_,h2⟩;have a:Go.Lib.byteCells l++Go.Lib.strCells ⟨s.toArray⟩=Go.Lib.byteCells (l++s):=by
   simp [Go.Lib.byteCells,Go.Lib.strCells]
  rw [←a];exact h1
theorem cA(B b:Nat)(l:List UInt8)(w:World)(h:iV w B b l)(hB:B≤w.heap.size):
  Calls Ad 209 #[Adm b] w fun e w'=>e= .returned (.string ⟨l.toArray⟩)∧Below B w w':=by
 refine(Any.Builder_String_any_k sbs rZ B b l w h hB).mono ?_;rintro e w' ⟨rfl,_,h2,_⟩;exact⟨rfl,h2⟩
theorem Abg(w:World):iV (w.alloc (.cells #[.pointer none,.slice none 0 0] 237)) w.heap.size w.heap.size []:=Go.Lib.IsBuilderF.of (Go.Lib.fresh_isBuilder 237 5 w)
end
section
open Go.Acc
structure Ik(b:Bd):Prop where
 keys:∀s a,Cp b.keys s=some a→b.names.find? (fun x=>x.1==a)=some (a,s)
 lt:∀x∈b.names,x.1<b.b.length
structure Es(b b':Bd):Prop where
 keep:∀a s,b.names.find? (fun x=>x.1==a)=some (a,s)→b'.names.find? (fun x=>x.1==a)=some (a,s)
 ok:Ik b'
theorem Es.trans{a b c:Bd}(h:Es a b)(h':Es b c):Es a c:=⟨fun x s e=>h'.keep x s (h.keep x s e),h'.ok⟩
theorem Es.same{b b':Bd}(h:Ik b)(hk:b'.keys=b.keys)(hn:b'.names=b.names)(hl:b.b.length≤b'.b.length):Es b b':=
 ⟨fun a s e=>by rw [hn];exact e,⟨fun s a e=>by rw [hk] at e;rw [hn];exact h.keys s a e,fun x hx=>by rw [hn] at hx;exact As (h.lt x hx) hl⟩⟩
theorem yU:Ik Bd.new:=⟨fun s a e=>by simp [Bd.new,Cp] at e,fun x hx=>by simp [Bd.new] at hx⟩
theorem Gr.len{b b':Bd}(h:Gr b b'):b.b.length≤b'.b.length:=by
 obtain⟨⟨m,e⟩,_⟩:=h;rw [e,An];omega
theorem Ik.find_lt{b:Bd}(h:Ik b){a:Nat}{s:List UInt8}(e:b.names.find? (fun x=>x.1==a)=some (a,s)):a<b.b.length:=h.lt _ (List.mem_of_find?_eq_some e)
def sZ(names:List (Nat×List UInt8))(s:List UInt8)(v:Bv):Prop:=v.t=4∧names.find? (fun x=>x.1==v.n)=some (v.n,s)
theorem Kp(f:Nat)(s:List UInt8)(b:Bd)(h:Ik b):Es b (b.put f s).1∧sZ (b.put f s).1.names s (b.put f s).2:=by
 unfold Bd.put;split
 ·next a ha=>
  split at ha
  ·exact⟨Es.same h rfl rfl (Ae _),rfl,h.keys s a ha⟩
  ·cases ha
 ·have c:∀a s',b.names.find? (fun x=>x.1==a)=some (a,s')→((b.b.length,s)::b.names).find? (fun x=>x.1==a)=some (a,s'):=by
   intro a s' e;have i:=h.find_lt e;rw [List.find?_cons];have g:(b.b.length==a)=false:=beq_eq_false_iff_ne.mpr (by omega);simp only [g];exact e
  have d:((b.b.length,s)::b.names).find? (fun x=>x.1==b.b.length)=some (b.b.length,s):=by simp
  refine⟨⟨c,⟨fun k a e=>?_,fun x hx=>?_⟩⟩,rfl,d⟩
  ·rcases Ns e with e|⟨rfl,rfl⟩
   ·exact c a k (h.keys k a e)
   ·exact d
  ·simp only [List.mem_cons] at hx;simp only [An,List.length_singleton];rcases hx with rfl|hx
   ·show b.b.length<b.b.length+s.length+1;omega
   ·have:=h.lt x hx;omega
theorem Q8(f:Nat):∀(l:List (List UInt8)) (b:Bd),Ik b→Es b (b.puts f l).1
 | [],_,h=>Es.same h rfl rfl (Ae _)
 |s::r,b,h=>(Kp f s b h).1.trans (Q8 f r _ (Kp f s b h).1.ok)
theorem Tc(t:Nat)(len tags:Bool)(l:List Bv)(b:Bd)(h:Ik b):Es b (b.vec t len tags l):=by
 obtain⟨m,e⟩:=Rj t len tags l b.b;exact Es.same h rfl rfl (by show b.b.length≤(Cw t len tags l b.b).1.length;rw [e,An];omega)
theorem mH(f:Nat){k:Int}(n:Int)(u:Nat)(s:List UInt8)(h1:1≤k)(h2:k≤9)(b:Bd)(hg:Dj b)(h:Ik b):Es b (b.leaf f k n u s):=by
 obtain⟨_,_,d,_⟩:=dT f n u s [] [] h1 h2 b hg;have c:=d.len;by_cases a:k=5
 ·subst a;have e:b.leaf f 5 n u s=b.key f s:=by simp [Bd.leaf]
  rw [e];have h3:=(Kp f s b h).1;exact⟨h3.keep,h3.ok.1,h3.ok.2⟩
 ·refine Es.same h ?_ ?_ c
  ·unfold Bd.leaf;simp only [if_neg a]
   repeat' (split;try rfl)
   all_goals first|rfl|(unfold Bd.str;simp only [];split <;>rfl)
  ·unfold Bd.leaf;simp only [if_neg a]
   repeat' (split;try rfl)
   all_goals first|rfl|(unfold Bd.str;simp only [];split <;>rfl)
theorem lZ(f:Nat)(k:Int)(c:List Tr)(b:Bd)(h:Ik b):Es b (b.flat f k c):=by
 unfold Bd.flat
 repeat' split
 all_goals first
  |exact Tc _ _ _ _ _ h
  |exact(Q8 f _ b h).trans (Tc _ _ _ _ _ (Q8 f _ b h).ok)
theorem Nl(f:Nat):∀(c:List Tr),(∀t∈c,O5 f t)→(∀t∈c,∀b,Dj b→Ik b→Es b (Bd.calls f t b))→∀b,Dj b→Ik b→Es b (Bd.callsL f c b)
 | [],_,_,b,_,h=>by rw [Bd.callsL];exact Es.same h rfl rfl (Ae _)
 |t::r,hd,hc,b,hg,h=>by
  obtain⟨v,d,a,e⟩:=hd t (by simp) b hg;have h1:=hc t (by simp) b hg h;rw [Bd.callsL];exact h1.trans (Nl f r (fun t ht=>hd t (by simp [ht])) (fun t ht=>hc t (by simp [ht])) _ a.2 h1.ok)
theorem Ku(f:Nat):∀(c:List Tr) (ks:List (List UInt8)),ks.length=c.length→(∀t∈c,O5 f t)→(∀t∈c,∀b,Dj b→Ik b→Es b (Bd.calls f t b))→∀b,Dj b→Ik b→
  Es b (Bd.callsM f ks c b)∧∃kvs vs,(Bd.callsM f ks c b).s=b.s++Fa kvs vs∧kvs.length=ks.length∧vs.length=c.length∧∀(i:Nat) s v,ks[i]?=some s→kvs[i]?=some v→sZ (Bd.callsM f ks c b).names s v
 | [],ks,hk,_,_,b,_,h=>by
  obtain rfl:ks=[]:=List.eq_nil_of_length_eq_zero hk;rw [Bd.callsM];exact⟨Es.same h rfl rfl (Ae _),[],[],by simp [Fa],rfl,rfl,fun i s v h=>by simp at h⟩
 |t::r,[],hk,_,_,_,_,_=>by simp at hk
 |t::r,s::ks,hk,hd,hc,b,hg,h=>by
  obtain⟨⟨q,u⟩,w,d⟩:=Yz f s b hg;have m:(b.key f s).s=b.s++ [(b.put f s).2]:=by simp [Bd.key,Bd.push,d]
  have j:Dj (b.key f s):=(Pr f s b hg).elim fun _ h=>h.2.1.2
  obtain⟨e,k⟩:=Kp f s b h;have a:Es b (b.key f s):=⟨e.keep,e.ok.1,e.ok.2⟩;obtain⟨v,n,B,C⟩:=hd t (by simp) (b.key f s) j;have g:=hc t (by simp) (b.key f s) j a.ok;obtain⟨l,kvs,vs,o,z,A,y⟩:=Ku f r ks (by simpa using hk) (fun t ht=>hd t (by simp [ht])) (fun t ht=>hc t (by simp [ht])) (Bd.calls f t (b.key f s)) B.2 g.ok;have p:Bd.callsM f (s::ks) (t::r) b=Bd.callsM f ks r (Bd.calls f t (b.key f s)):=by rw [Bd.callsM];rfl
  rw [p];refine⟨(a.trans g).trans l,(b.put f s).2::kvs,v::vs,by rw [o,n,m];simp [Fa],by simp [z],by simp [A],fun i x v' hx hv=>?_⟩;cases i with
  |zero=>
   simp only [List.getElem?_cons_zero,Option.some.injEq] at hx hv;subst hx hv;exact⟨k.1,(g.trans l).keep _ _ k.2⟩
  |succ i=>
   simp only [List.getElem?_cons_succ] at hx hv;exact y i x v' hx hv
theorem cR(f:Nat)(ks:List (List UInt8))(start:Nat)(b:Bd)(h:Ik b)(hl:b.b.length≤(b.endMap f ks start).b.length):Es b (b.endMap f ks start):=by
 refine Es.same h ?_ ?_ hl
 ·unfold Bd.endMap;simp only [];split <;>rfl
 ·unfold Bd.endMap;simp only [];split <;>rfl
theorem O8(f:Nat)(t:Tr)(h:Ok t):∀b,Dj b→Ik b→Es b (Bd.calls f t b):=by
 induction h with
 |leaf n u s ks c h1 h2=>
  intro b a d;rename_i k;have e:Bd.calls f (.mk k n u s ks c) b=b.leaf f k n u s:=by
   rw [Bd.calls,if_neg (by omega),if_neg (by omega),if_pos h2]
  rw [e];exact mH f n u s h1 h2 b a d
 |flat n u s ks c h1 h2=>
  intro b a d;rename_i k;have e:Bd.calls f (.mk k n u s ks c) b=b.flat f k c:=by
   rw [Bd.calls,if_neg (by omega),if_neg (by omega),if_neg (by omega)]
  rw [e];exact lZ f k c b d
 |vec n u s ks hd ih=>
  intro b a d;rename_i c;have e:Bd.calls f (.mk 10 n u s ks c) b=(Bd.callsL f c b).endVec b.s.length:=by rw [Bd.calls,if_pos rfl]
  rw [e];have h1:=Nl f c (fun t ht=>Ez f t (hd t ht)) ih b a d;have h2:Ik { Bd.callsL f c b with s:=(Bd.callsL f c b).s.take b.s.length}:=⟨h1.ok.1,h1.ok.2⟩;have h3:=Tc 10 true true ((Bd.callsL f c b).s.drop b.s.length) _ h2;exact h1.trans ⟨h3.keep,h3.ok⟩
 |map n u s hl h0 hd ih=>
  intro b a d;rename_i c ks;have e:Bd.calls f (.mk 17 n u s ks c) b=(Bd.callsM f ks c b).endMap f ks b.s.length:=by
   rw [Bd.calls,if_neg (by omega),if_pos rfl]
  obtain⟨g,vs,l,j,o,i,m⟩:=Ji f c ks hl (fun t ht=>Ez f t (hd t ht)) b a;obtain⟨_,_,_,_,p,_⟩:=Wl f ks b.s (Bd.callsM f ks c b) g vs o.2 l (by rw [i.1,j,hl]) h0 i (Q9 j m);have h1:=(Ku f c ks hl (fun t ht=>Ez f t (hd t ht)) ih b a d).1;rw [e];exact h1.trans (cR f ks b.s.length _ h1.ok p.len)
end
end Go.Proofs.YtejpbijeifjdeaaGreat
