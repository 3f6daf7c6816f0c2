/- Parts of the proof. -/
import Derived.Test.YtejpbijeifjdeaaGreatQv14
import Derived.Shelf.Strings.BuilderK
import Derived.Ground.NamesProg
set_option maxHeartbeats 4000000
set_option maxRecDepth 100000
open Go.Value renaming int→Aa
open Go.IntKind renaming i64→Ab,u64→Ac
open Nat renaming le_refl→Ae,lt_of_lt_of_le→Ar
open Go.RowKit.Below renaming refl→Af
open List renaming length_append→Ak
open Go.Proofs.Tryz
open Go.Proofs.Tryz renaming prog→Ad
namespace Go.Proofs.YtejpbijeifjdeaaGreat
variable {x:Nv}{t:Tr}{p I:Nat→Prop}{w:World}{o:Nat→Nat}{i:Nat}
section
open Go.RowKit Go.Acc
mutual
theorem gG:∀(t:Tr) (d:Nat) (x:Nat×Tr),x∈Tr.pre d t→x.1+1≤d+(Tr.pre d t).length
 | .mk k n u s ks l,d,x,h=>by
  rw [Tr.pre] at h⊢;rw [List.length_cons];rcases List.mem_cons.1 h with rfl|h
  ·simp only;omega
  ·have:=cB l (d+1) x h;omega
theorem cB:∀(l:List Tr) (d:Nat) (x:Nat×Tr),x∈Tr.pre.Tr.preL d l→x.1+1≤d+(Tr.pre.Tr.preL d l).length
 | [],d,x,h=>by rw [Tr.pre.Tr.preL] at h;simp at h
 |t::r,d,x,h=>by
  rw [Tr.pre.Tr.preL] at h⊢;rw [Ak];rcases List.mem_append.1 h with h|h
  ·have:=gG t d x h;omega
  ·have:=cB r d x h;omega
end
theorem iU(h:B7 w p x t)(hp:∀k,p k→k<w.heap.size)(hks:∀y∈Tr.pre 0 t,∀s∈y.2.ks,s.length≤1048576)(hm:(Tr.pre 0 t).length≤1048576):
  Calls Ad 73 #[.agg (Ab7 x)] w (Ab5 (Aa Ab (Jm Ji 0 t 0).1) w):=by
 obtain⟨Y,m⟩:=h.ord 0;have c:=m.nodes;have e:∀W,Gn (fun k=>w.heap.size≤k) w W→∀k,p k→¬(w.heap.size≤k):=fun W _ k hk=>by have:=hp k hk;omega
 refine lX x t Y p w (fun i=>match(Tr.pre 0 t)[i]? with|some y=>Hm y.2|none=>false) (fun i=>match(Tr.pre 0 t)[i]? with|some y=>I3 70 71 y.2|none=>0) (Jm Ji 0 t 0).1 m hp (by rw [c.1];omega) ?_ ?_ ?_ ?_
 ·intro y b;obtain⟨i,o,rfl⟩:=List.getElem_of_mem b;obtain⟨j,a,_⟩:=c.2 i _ (List.getElem?_eq_getElem o);have:=gG t 0 _ (List.mem_of_getElem? a);omega
 ·intro i y W b d;obtain⟨j,a,f⟩:=c.2 i y b;rw [a];exact pV (Vu f d (e W d))
 ·intro i y W b d;obtain⟨j,a,f⟩:=c.2 i y b;rw [a];have hr2:=Vu f d (e W d);have g:=hks _ (List.mem_of_getElem? a);obtain⟨q,r,u,v,_⟩:=hr2.fields;cases hr2 with
  | @mk _ ks l vs h1 ha hac hx h2 hb hbc hy' hl hc=>
   exact jU y.2 ks _ W h1 (by omega) g rfl
 ·rw [rQ c.1 ?_,(fK t 0 0).1];intro i y z b n;obtain⟨j,a,f⟩:=c.2 i y b;rw [n] at a;injection a with a
  subst a;simp [n]
theorem mS:Ji.Ok:=⟨by decide,by decide,by decide,by decide,by decide⟩
def Abf(t:Tr):Prop:=(∀y∈Tr.pre 0 t,∀s∈y.2.ks,s.length≤1048576)∧(Tr.pre 0 t).length≤1048576
theorem rS(h:t.cost≤1000000):Abf t:=⟨fun y hy s hs=>by have:=cD t 0 y hy s hs;omega,by have:=cC t 0;omega⟩
def SdW(w:World)(t:Tr)(e:Ending)(w':World):Prop:=
 ∃y:Nv,e= .returned (.tuple #[.agg (Ab7 y),Aa Ab 0])∧B7 w' (fun b=>w.heap.size≤b∧b<w'.heap.size) y (Cs t)∧Below w.heap.size w w'
theorem Qt(h:B7 w p x t)(hp:∀k,p k→k<w.heap.size)(hc:t.cost≤1000000)(he:(Jm Ji 0 t 0).1=0):
  Calls Ad 40 #[.agg (Ab7 x)] w (SdW w t):=by
 have HV:=Hd (Wj mS t 0 0 he);have G:=rS hc;have X:=Hd hc;obtain⟨S,T,U,xs,Q,q,m,R,C,r⟩:=x;have l:=Bq w (.cells (Ab8 S T U xs Q q m R C r) 34) (.cells #[Aa Ab 0,Aa Ab 0,Aa Ac 0,.string ⟨#[]⟩,.slice none 0 0,.slice none 0 0] 34);have P:=Hd ((Bb.new w 34 (Ab8 S T U xs Q q m R C r)).alloc (.cells #[Aa Ab 0,Aa Ab 0,Aa Ac 0,.string ⟨#[]⟩,.slice none 0 0,.slice none 0 0] 34));have O:=Hd (Bb.new_ (w:=w.alloc (.cells (Ab8 S T U xs Q q m R C r) 34)) (g:=w.heap.size+1) (by simp) 34 #[Aa Ab 0,Aa Ab 0,Aa Ac 0,.string ⟨#[]⟩,.slice none 0 0,.slice none 0 0]);have HB:=Hd l;have E:=Hd (iU (h.pure l) (fun k hk=>Ar (hp k hk) l.size) G.1 G.2);rw [he] at E;have HN:=Hd h;clear h hp hc G he l;go_enter func40,ntmps40;go_upto_region 1 with fail
 generalize (w.alloc (.cells (Ab8 S T U xs Q q m R C r) 34)).alloc (.cells #[Aa Ab 0,Aa Ab 0,Aa Ac 0,.string ⟨#[]⟩,.slice none 0 0,.slice none 0 0] 34)=w1 at P O HB E⊢;generalize N:w.heap.size=bt at P O⊢;generalize M:bt+1=br at O⊢;have HT:=Hd (And.intro N M);clear N M;obtain ⟨c0,c1,c2,c3,c4,c5⟩:=P.o.c6;go_wp2_with fail;go_at_call 73;refine E.o.mono ?_;rintro e w2 ⟨rfl,i⟩;have D:=Hd (A6 HB.o i);have H:=Hd (O.o.pure i);have L:=P.o.pure i;clear i c0 c1 c2 c3 c4 c5;obtain ⟨c0,c1,c2,c3,c4,c5⟩:=L.c6;have Y:=Hd (mC HN.o w2 D.o);clear L;go_wp2_with fail;go_at_call 75;refine Y.o.mono ?_;rintro e w3 ⟨y,rfl,F,d⟩;have aw:=Hd F;have V:=Hd (A6 D.o d);have ab:=Hd (H.o.pure d);have J:=Hd (show br<w2.heap.size∧w2.heap.size≤w3.heap.size from⟨H.o.lt,d.size⟩);have ad:=Hd (eY F (fun k hk=>hk.2) HV.o (Nat.le_trans X.o (by decide)) w3 (fun _ _=>rfl) (Ae _));clear F d c0 c1 c2 c3 c4 c5;go_wp2_with fail;go_at_call 74;refine ad.o.mono ?_;rintro e w4 ⟨z,rfl,K,f⟩;have aa:=Hd K;have Z:=Hd f;have hs:=J.o;have W:=Hd (Cf V.o f (fun k hk=>by have h1:=D.o.size;omega));have I:=Hd (ab.o.fr f (fun hk=>by omega));clear K f hs;obtain ⟨r0,r1,r2,r3,r4,r5⟩:=I.o.c6;have c:∀j,w4.frozen? ⟨br,j,none⟩=false:=fun j=>I.o.frozen j
 have f0:=c 0;have f1:=c 1;have f2:=c 2;have f3:=c 3;have f4:=c 4;have f5:=c 5;clear c;go_wp2_with fail;refine bodyPost_ret (v:= .tuple #[.agg (Ab7 z),Aa Ab 0]) (by simp [results,results40,go_sem,r0,r1,r2,r3,r4,r5]) rfl ?_;have hf:=Ij w4 br (Aa Ab z.k) (Aa Ab z.n) (Aa Ac (z.u:Int)) (.string ⟨z.s.toArray⟩) (.slice z.A z.an z.ac) (.slice z.B z.bn z.bc);have hs:=J.o;have ht:=HT.o;have h4:=Z.o.size;have h5:=hf.size;exact⟨z,rfl,(aa.o.keep fun a u hc hp=>Cq hf hc (by rcases hp with hp|hp <;>omega)).mono fun b hb=>by rcases hb with hb|hb <;>exact⟨by omega,by omega⟩,Cf W.o hf (by rintro j rfl;omega)⟩
theorem C7{w':World}{o':Nat→Nat}(h:To I w o w' o'){p:Addr}{v:Value}(hc:w.cell? p=some v)(hI:¬I (o p.block)):w'.cell? p=some v:=
 (h.fr.cell (Bu hc) hI).trans hc
theorem Oj(M:Bp)(fl:Int)(b:Bd)(kv:Bv)(i bx bi bv:Nat)(A:Option Addr)(n c:Nat)(vs:List Bv)(w:World)(o:Nat→Nat)(h:BM M fl w o b)(hx:Bb w bx 104 #[Aca M.β])(hi:Bb w bi 3 #[Aa Ab (i:Int)])(hv':Bb w bv 144 #[.slice A n c])(hox:o bx=0)(hoi:o bi≠1)(hov:o bv=0)
  (hv:Ef w A n (vs.map vv)) (ho:∀ad,A=some ad→ad.block<w.heap.size∧o ad.block=0) (hki:b.vals[i]?=some kv) (hs:b.s.length<65536) (hok:E5 vs b.b) (hkt:kv.t=14) (hkw:Br (kv.w:Int)=true) (hkf:E7 b.b.length kv):
  Calls Ad 288 #[Aca bx,Aca bi,Aca bv] w (D3 M fl { b with b:=(Gh kv vs b.b).1,s:=b.s++ [(Gh kv vs b.b).2]} w o):=by
 obtain⟨A8,m8,c8,ae,af,O,a4⟩:=h.head;have bq:b.vals.length=m8:=by have:=af.is.1;simpa using this
 have bp:i<m8:=by have:=(List.getElem?_eq_some_iff.1 hki).1;omega
 obtain⟨g,j,kv',e8,v,I,J,K⟩:=Ha af.is bp;obtain rfl:kv=kv':=by rw [hki] at v;injection v
 subst e8;have a3:o g=8:=O _ rfl;have hA:=(Af w.heap.size w).alloc (Ae _) (.cells #[Aa Ab 0,Aa Ab 0,Aa Ac 0] 169);have l:=hA.drew;have ab:=h.fresh l 9;have aa:=Hd (show Bb (w.alloc (.cells #[Aa Ab 0,Aa Ab 0,Aa Ac 0] 169)).drew w.heap.size 169 #[Aa Ab 0,Aa Ab 0,Aa Ac 0] from Bb.new _ _ _);have W:=Hd (show Bl o w.heap.size 9 w.heap.size=9 from Bo (Ae _));have aq:=Hd (To.fresh Dg l o 9);have HM:=Hd ab;have HS:=Hd hs;have T:=Hd (hx.pure l);have S:=Hd (hx.pure ((Af w.heap.size w).drew));have d:=Hd (And.intro hox (And.intro hoi (And.intro hov (And.intro a4 a3))));have ao:=Hd h.drew;have Y:=Hd (Yk M.bb n c A vs kv b.b w.drew o h.drew.buf (hv.pure (Af w.heap.size w).drew) (fun ad e=>⟨(ho ad e).1,by rw [(ho ad e).2];omega⟩) hok hkt hkw hkf);have HP:=Hd (Yk M.bb n c A vs kv b.b (w.alloc (.cells #[Aa Ab 0,Aa Ab 0,Aa Ac 0] 169)).drew (Bl o w.heap.size 9) ab.buf (hv.pure l) (fun ad e=>⟨Ar (ho ad e).1 l.size,by rw [Bs (ho ad e).1,(ho ad e).2];omega⟩) hok hkt hkw hkf);have k:w.cell? ⟨bx,0,none⟩=some (Aca M.β):=hx.cell 0;have E:w.cell? ⟨bi,0,none⟩=some (Aa Ab (i:Int)):=hi.cell 0;have F:w.cell? ⟨bv,0,none⟩=some (.slice A n c):=hv'.cell 0;have G:w.cell? ⟨M.β,0,none⟩=some (Aca M.bb):=ae.cell 0;have H:w.cell? ⟨M.β,8,none⟩=some (.slice (some ⟨g,j,none⟩) m8 c8):=ae.cell 8;have n0:bx≠w.heap.size:=Nat.ne_of_lt (Bu k);have D:bx<w.heap.size:=Bu k;have n1:bi≠w.heap.size:=Nat.ne_of_lt (Bu E);have a5:bi<w.heap.size:=Bu E;have n3:bv≠w.heap.size:=Nat.ne_of_lt (Bu F);have a6:bv<w.heap.size:=Bu F;have n4:M.β≠w.heap.size:=Nat.ne_of_lt (Bu G);have a7:M.β<w.heap.size:=Bu G;have n8:M.β≠w.heap.size:=Nat.ne_of_lt (Bu H);have a8:M.β<w.heap.size:=Bu H;have na:g≠w.heap.size:=Nat.ne_of_lt (Bu I);have a9:g<w.heap.size:=Bu I;have nb:g≠w.heap.size:=Nat.ne_of_lt (Bu J);have ba:g<w.heap.size:=Bu J;have nc:g≠w.heap.size:=Nat.ne_of_lt (Bu K);have bd:g<w.heap.size:=Bu K;have ce:(0:Int)≤(i:Int):=by omega
 have bu:(i:Int)<(m8:Int):=by omega
 obtain⟨r,hr⟩:∃r,Gh kv vs b.b=r:=⟨_,rfl⟩;rw [hr] at HP Y⊢;obtain⟨l',x⟩:=r;clear h hx hi hv' hox hoi hov hv ho hki hs hok hkt hkw hkf ae af O a4 a3 v hA l ab hr bq;go_enter func288,ntmps288;go_wp2_with fail;go_cut [3,4] (fun u4 u5 wx=>∃wy,wy=wx∧u5= Aa Ab 0∧∃b4 o4,u4= Aca b4∧BM M fl wx o4 { b with b:=l'}∧Bb wx bx 104 #[Aca M.β]∧o4 bx=0∧Bb wx b4 169 #[Aa Ab (x.t:Int),Aa Ab (x.w:Int),Aa Ac (x.n:Int)]∧o4 b4=9∧To Dg w o wx o4)
 case first=>
  go_region_held3 (fun w'=>w'.cell? ⟨bx,0,none⟩=some (Aca M.β)∧w'.cell? ⟨bi,0,none⟩=some (Aa Ab (i:Int))∧w'.cell? ⟨bv,0,none⟩=some (.slice A n c)∧w'.cell? ⟨M.β,0,none⟩=some (Aca M.bb)∧w'.cell? ⟨M.β,8,none⟩=some (.slice (some ⟨g,j,none⟩) m8 c8)∧w'.cell? ⟨g,j+i*3,none⟩=some (Aa Ab (kv.t:Int))∧w'.cell? ⟨g,j+i*3+1,none⟩=some (Aa Ab (kv.w:Int))∧w'.cell? ⟨g,j+i*3+2,none⟩=some (Aa Ac (kv.n:Int))) (first|with_reducible exact⟨k,E,F,G,H,I,J,K⟩|with_reducible exact⟨Bc k,Bc E,Bc F,Bc G,Bc H,Bc I,Bc J,Bc K⟩|with_reducible exact⟨Bm _ k,Bm _ E,Bm _ F,Bm _ G,Bm _ H,Bm _ I,Bm _ J,Bm _ K⟩|with_reducible exact⟨Bc (Bm _ k),Bc (Bm _ E),Bc (Bm _ F),Bc (Bm _ G),Bc (Bm _ H),Bc (Bm _ I),Bc (Bm _ J),Bc (Bm _ K)⟩|with_reducible exact⟨P,Q,R,y4,y8,ya,yb,yc⟩|with_reducible exact⟨Bm _ P,Bm _ Q,Bm _ R,Bm _ y4,Bm _ y8,Bm _ ya,Bm _ yb,Bm _ yc⟩|with_reducible exact⟨Ek (Bm _ P) p0,Ek (Bm _ Q) p1,Ek (Bm _ R) p3,Ek (Bm _ y4) p4,Ek (Bm _ y8) p8,Ek (Bm _ ya) pa,Ek (Bm _ yb) pb,Ek (Bm _ yc) pc⟩|with_reducible exact⟨Ek P n0,Ek Q n1,Ek R n3,Ek y4 n4,Ek y8 n8,Ek ya na,Ek yb nb,Ek yc nc⟩) (first|(go_at_call 289;(with_reducible refine HP.o.mono ?_);rintro e f ⟨rfl,o1,q,a⟩;have u:=HM.o.buf_ a q;have P:f.cell? ⟨bx,0,none⟩=some (Aca M.β):=C7 a (Bm _ k) (by rw [Bs D,d.o.1];omega);have Q:f.cell? ⟨bi,0,none⟩=some (Aa Ab (i:Int)):=C7 a (Bm _ E) (by rw [Bs a5];exact d.o.2.1);have R:f.cell? ⟨bv,0,none⟩=some (.slice A n c):=C7 a (Bm _ F) (by rw [Bs a6,d.o.2.2.1];omega);have y4:f.cell? ⟨M.β,0,none⟩=some (Aca M.bb):=C7 a (Bm _ G) (by rw [Bs a7,d.o.2.2.2.1];omega);have y8:f.cell? ⟨M.β,8,none⟩=some (.slice (some ⟨g,j,none⟩) m8 c8):=C7 a (Bm _ H) (by rw [Bs a8,d.o.2.2.2.1];omega);have ya:f.cell? ⟨g,j+i*3,none⟩=some (Aa Ab (kv.t:Int)):=C7 a (Bm _ I) (by rw [Bs a9,d.o.2.2.2.2];omega);have yb:f.cell? ⟨g,j+i*3+1,none⟩=some (Aa Ab (kv.w:Int)):=C7 a (Bm _ J) (by rw [Bs ba,d.o.2.2.2.2];omega);have yc:f.cell? ⟨g,j+i*3+2,none⟩=some (Aa Ac (kv.n:Int)):=C7 a (Bm _ K) (by rw [Bs bd,d.o.2.2.2.2];omega);have C:=aa.o.to_ a (by rw [W.o];omega);obtain ⟨f0,f1,f2⟩:=C.f3;obtain ⟨z0,z1,z2⟩:=C.c3;have X:=Hd (show o1 w.heap.size=9 from(a.ow _ aa.o.lt).trans W.o);have bo:=Hd C;have V:=Hd u;have y:=Hd (T.o.to_ a (by rw [Bs D,d.o.1];omega));have z:=Hd (show o1 bx=0 from(a.ow _ T.o.lt).trans ((Bs D).trans d.o.1));have Z:=Hd (aq.o.trans (a.mono fun _ h=>Ip h));clear q a u C)|(go_at_call 289;(with_reducible refine Y.o.mono ?_);rintro e f ⟨rfl,o1,q,a⟩;have u:=ao.o.buf_ a q;have P:f.cell? ⟨bx,0,none⟩=some (Aca M.β):=C7 a k (by rw [d.o.1];omega);have Q:f.cell? ⟨bi,0,none⟩=some (Aa Ab (i:Int)):=C7 a E (by exact d.o.2.1);have R:f.cell? ⟨bv,0,none⟩=some (.slice A n c):=C7 a F (by rw [d.o.2.2.1];omega);have y4:f.cell? ⟨M.β,0,none⟩=some (Aca M.bb):=C7 a G (by rw [d.o.2.2.2.1];omega);have y8:f.cell? ⟨M.β,8,none⟩=some (.slice (some ⟨g,j,none⟩) m8 c8):=C7 a H (by rw [d.o.2.2.2.1];omega);have ya:f.cell? ⟨g,j+i*3,none⟩=some (Aa Ab (kv.t:Int)):=C7 a I (by rw [d.o.2.2.2.2];omega);have yb:f.cell? ⟨g,j+i*3+1,none⟩=some (Aa Ab (kv.w:Int)):=C7 a J (by rw [d.o.2.2.2.2];omega);have yc:f.cell? ⟨g,j+i*3+2,none⟩=some (Aa Ac (kv.n:Int)):=C7 a K (by rw [d.o.2.2.2.2];omega);have p0:bx≠f.heap.size:=Nat.ne_of_lt (Bu P);have p1:bi≠f.heap.size:=Nat.ne_of_lt (Bu Q);have p3:bv≠f.heap.size:=Nat.ne_of_lt (Bu R);have p4:M.β≠f.heap.size:=Nat.ne_of_lt (Bu y4);have p8:M.β≠f.heap.size:=Nat.ne_of_lt (Bu y8);have pa:g≠f.heap.size:=Nat.ne_of_lt (Bu ya);have pb:g≠f.heap.size:=Nat.ne_of_lt (Bu yb);have pc:g≠f.heap.size:=Nat.ne_of_lt (Bu yc);have V:=Hd u;have y:=Hd (S.o.to_ a (by rw [d.o.1];omega));have z:=Hd (show o1 bx=0 from(a.ow _ S.o.lt).trans d.o.1);have Z:=Hd (a.from_drew.mono fun _ h=>Ip h);clear q a u))
  all_goals
   go_wp2_with fail;go_meet
  all_goals
   first
   |exact⟨_,rfl,rfl,w.heap.size,o1,rfl,V.o.to_ (uO X.o _ _ _) Nq,y.o.to_ (uO X.o _ _ _) (by rw [z.o];decide),z.o,((bo.o.set_ 0 (Aa Ab (x.t:Int))).set_ 1 (Aa Ab (x.w:Int))).set_ 2 (Aa Ac (x.n:Int)),X.o,((Z.o.set_new (p:=⟨w.heap.size,0,none⟩) (Ae _) _).set_new (p:=⟨w.heap.size,1,none⟩) (Ae _) _).set_new (p:=⟨w.heap.size,2,none⟩) (Ae _) _⟩
   |exact⟨_,rfl,rfl,f.heap.size,Bl o1 f.heap.size 9,rfl,V.o.fresh ((Af f.heap.size f).alloc (Ae _) _) 9,y.o.pure ((Af f.heap.size f).alloc (Ae _) _),(Bs y.o.lt).trans z.o,Bb.new _ _ _,Bo (Ae _),Z.o.trans (To.fresh Dg ((Af f.heap.size f).alloc (Ae _) _) o1 9)⟩
 case rest=>
  obtain⟨w4,rfl,rfl,b4,o4,rfl,aw,av,N,a1,az,a0⟩:=hcut;have bf:=Hd aw;have U:=Hd av;have L:=Hd N;have ar:=Hd a1;have ap:=Hd az;have bl:=Hd a0;clear aw av N a1 az a0 k n0 D E n1 a5 F n3 a6 G n4 a7 H n8 a8 I na a9 J nb ba K nc bd HM HP Y ao aa W aq T S d;have k:w4.cell? ⟨bx,0,none⟩=some (Aca M.β):=U.o.cell 0;go_wp2_with fail;go_at_call 131;refine(Ho bf.o).mono ?_;rintro e w5 ⟨rfl,o5,ax,m⟩;have bg:=Hd ax;have am:=Hd (U.o.to_ m (by rw [L.o];exact Co));have an:=Hd (show o5 bx=0 from(m.ow _ U.o.lt).trans L.o);have au:=Hd (ar.o.to_ m (by rw [ap.o];exact fun h=>Nq 9 h rfl));have bj:=Hd (show o5 b4=9 from(m.ow _ ar.o.lt).trans ap.o);have bm:=Hd (bl.o.trans m);clear ax m k;have k:w5.cell? ⟨bx,0,none⟩=some (Aca M.β):=am.o.cell 0;obtain ⟨v0,v1,v2⟩:=au.o.c3;go_wp2_with fail;go_region_held3 (fun w'=>w'.cell? ⟨bx,0,none⟩=some (Aca M.β)∧w'.cell? ⟨b4,0,none⟩=some (Aa Ab (x.t:Int))∧w'.cell? ⟨b4,1,none⟩=some (Aa Ab (x.w:Int))∧w'.cell? ⟨b4,2,none⟩=some (Aa Ac (x.n:Int))) (first|with_reducible exact⟨k,v0,v1,v2⟩|with_reducible exact⟨Bc k,Bc v0,Bc v1,Bc v2⟩|with_reducible exact⟨P,Q,y2,R⟩) (first|(go_at_call 203;(with_reducible refine(Mi M fl { b with b:=l'} x _ o5 bg.o.drew HS.o).mono ?_);rintro e w6 ⟨rfl,o6,ay,B⟩;have P:w6.cell? ⟨bx,0,none⟩=some (Aca M.β):=(am.o.to_ B.from_drew (by rw [an.o];exact Co)).cell 0;have a2:=au.o.to_ B.from_drew (by rw [bj.o];exact fun h=>Nq 9 h rfl);obtain ⟨Q,y2,R⟩:=a2.c3;have bh:=Hd ay;have bn:=Hd (bm.o.trans B.from_drew);clear ay B a2));go_wp2_with fail;go_end0;exact⟨rfl,o6,bh.o,bn.o⟩
theorem Yy{ops:Array Oper}{o:Oper}{a:Act}{K:Act→World→Prop}{Q:Exit→Act→World→Prop}{E:Prop}(hgd:o.guard=none)(s x:Operand)
  (ho:o.op= .call { callee:= .builtin .append,args:=#[s,x],argTypes:=#[144,144]})
  (B:Nat) (A:Option Addr) (n c:Nat) (l:List V3) (hs:a.eval s= .slice A n c) (hown:Gd w B A n c l)
  (A2:Option Addr) (m d:Nat) (l2:List V3) (hx:a.eval x= .slice A2 m d) (hr:Ef w A2 m l2)
  (hbytes:n+m≤1099511627776) (hbase:B≤w.heap.size)
  (h:∀A' c' w',Gd w' B A' (n+m) c' (l++l2)→Fr (fun k=>∃ad,A=some ad∧k=ad.block) w w'→(A'.map (·.block)=A.map (·.block)∨A'.map (·.block)=some w.heap.size)→K (a.put o.dst (.slice A' (n+m) c')) w'):
  if Region.wanted o (yielded ops a.tmps)=true then Oper.wp Ad o a w K Q else E:=by
 have t:Region.wanted o (yielded ops a.tmps)=true:=by simp [Region.wanted,hgd]
 rw [if_pos t];obtain⟨i,p,u,b,j⟩:=info_parts Ot;have q:n+m≤maxLen:=by simp only [maxLen];omega
 obtain⟨v,w',g,h2,h3,e⟩:=Ii (P:=Ad) w B 144 o.type 169 i _ 3 24 underlying144 p u b j rfl (by omega) (.slice A n c) n (l.flatMap vc) hown.2 A2 m d (l2.flatMap vc) (by rw [Cd I9,hr.1]) hr.2 (Mw O8 l2) q (by omega) hbase;obtain⟨A',c',rfl,f⟩:=Own.mk I9 (by omega) (l:=l++l2) h2 List.flatMap_append.symm;have r:=h A' c' w' f ((Fr.of_grown h3).mono fun i _ hi=>by
  cases A with
  |none=>simp [Value.ownBlock] at hi
  |some ad=>simp [Value.ownBlock] at hi;exact⟨ad,rfl,hi⟩) (by
  rcases e with e|e
  ·left;revert e;cases A' <;>cases A <;>simp [Value.ownBlock]
  ·right;revert e;cases A' <;>simp [Value.ownBlock])
 clear h f h2 h3 e;unfold Oper.wp;simp only [execOp,ho,resolve,invoke,builtin,Sem.run_bind,Sem.run_pure,Result.andThen_ok,List.map_toArray,List.map_cons,List.map_nil,hs,hx,g];exact r
theorem aI{M:Bp}{fl:Int}{W0 W1:World}{vals:List Bv}{A A':Option Addr}{n c c':Nat}{v:Bv}(hb:Bb w M.β 148 #[Aca M.bb,Aca M.sb,Aa Ab 0,Aa Ab fl,Aca M.kb,Aca M.tb,Aca M.lb,.map (some M.mb),.slice A n c,.bool true])(h0:Gd w 0 A n c (vals.map vv))(hof:Of o A 8)(hβ:o M.β=2)(hW:Below w.heap.size w W0)
  (hown:Gd W1 0 A' (n+1) c' (vals.map vv++ [vv v])) (hfr:Fr (fun k=>∃ad,A=some ad∧k=ad.block) W0 W1) (hat:A'.map (·.block)=A.map (·.block)∨A'.map (·.block)=some W0.heap.size):
  Gv M fl (W1.setCell ⟨M.β,8,none⟩ (.slice A' (n+1) c')) (Bl o w.heap.size 8) (vals++ [v])∧To (fun i=>i=2∨i=8) w o (W1.setCell ⟨M.β,8,none⟩ (.slice A' (n+1) c')) (Bl o w.heap.size 8):=by
 have f:∀ad,A=some ad→M.β≠ad.block:=fun ad e h=>by
  have h1:=hof ad e;rw [←h,hβ] at h1;omega
 have d:Bb W1 M.β 148 #[Aca M.bb,Aca M.sb,Aa Ab 0,Aa Ab fl,Aca M.kb,Aca M.tb,Aca M.lb,.map (some M.mb),.slice A n c,.bool true]:=(hb.pure hW).fr hfr (by rintro⟨ad,e,h⟩;exact f ad e h);have a:Of (Bl o w.heap.size 8) A' 8:=by
  intro ad e;subst e;rcases hat with e|e
  ·cases A with
   |none=>cases e
   |some a0=>
    injection e with e
    have e:ad.block=a0.block:=e;rw [e,Bs (h0.addr a0 rfl).2.2];exact hof a0 rfl
  ·injection e with e
   have e:ad.block=W0.heap.size:=e;rw [e,Bo hW.size]
 have b:Bl o w.heap.size 8 M.β=2:=by rw [Bs hb.lt];exact hβ
 refine⟨⟨A',n+1,c',d.set_ 8 (.slice A' (n+1) c'),?_,a,b⟩,?_⟩
 ·rw [List.map_append];refine hown.fr (Fr.setCell (S:=fun k=>k=M.β) (Fr.refl _ W1) (fun _=>rfl) _) ?_;intro ad e h;have h1:=a ad e;have h2:ad.block=M.β:=h;rw [h2,b] at h1;omega
 ·have g:To (fun i=>i=2∨i=8) w o W1 (Bl o w.heap.size 8):=by
   refine⟨(Fr.of_below hW _).trans hfr ?_,fun k hk=>Bs hk⟩;rintro k _ ⟨ad,e,rfl⟩;exact .inr (hof ad e)
  exact g.trans (To.of_fr0 (Fr.setCell (S:=fun k=>k=M.β) (Fr.refl _ W1) (p:=⟨M.β,8,none⟩) (fun _=>rfl) _) (by rintro k _ rfl;exact .inl b))
def Bd.table(f:Nat)(list:List UInt8)(ks vs:List Bv)(b:Bd):Bd:=
 match(if Kc f 4=true then Cj b.lists list else none) with
 |some i=>let x:=Gh (b.vals.getD i ⟨0,0,0⟩) vs b.b;{ b with b:=x.1,s:=b.s++ [x.2]}
 |none=>
  let y:=Cu 14 true false ks b.b
  let x:=Gh y.2 vs y.1
  { b with b:=x.1,s:=b.s++ [x.2],vals:=b.vals++ [y.2],lists:=Fs b.lists list b.vals.length}
theorem Z9(f:Nat)(keys:List (List UInt8))(start:Nat)(b:Bd):b.endMap f keys start=Bd.table f (C3 keys) (Kp (b.s.drop start)) (P9 (b.s.drop start)) { b with s:=b.s.take start}:=rfl
theorem tS(f:Nat)(list:List UInt8)(ks vs:List Bv)(b:Bd)(g:Option Nat)(q:Bool)(hg:Cj b.lists list=g)(hq:Kc f 4=q):Bd.table f list ks vs b=match(if q=true then g else none) with
 |some i=>let x:=Gh (b.vals.getD i ⟨0,0,0⟩) vs b.b;{ b with b:=x.1,s:=b.s++ [x.2]}
 |none=>
  let y:=Cu 14 true false ks b.b
  let x:=Gh y.2 vs y.1
  { b with b:=x.1,s:=b.s++ [x.2],vals:=b.vals++ [y.2],lists:=Fs b.lists list b.vals.length}:=by
 unfold Bd.table;rw [hg,hq]
structure iG(list:List UInt8)(ks vs:List Bv)(b:Bd):Prop where
 kok:E5 ks b.b
 kel:∀v∈ks,v.t=4
 vok:E5 vs b.b
 vok2:E5 vs (Cu 14 true false ks b.b).1
 kw:Br ((Cu 14 true false ks b.b).2.w:Int)=true
 kfit:E7 (Cu 14 true false ks b.b).1.length (Cu 14 true false ks b.b).2
 had:∀i,Cj b.lists list=some i→∃kv,b.vals[i]?=some kv∧kv.t=14∧Br (kv.w:Int)=true∧E7 b.b.length kv
 ll:b.lists.length≤1048575
 vl:b.vals.length≤1048576
 st:b.s.length<65536
theorem uH(h:i=6):Dg i:=by subst h;exact⟨by omega,by omega⟩
theorem lR(h:i=2∨i=8):Dg i:=by rcases h with rfl|rfl <;>exact⟨by omega,by omega⟩
structure Q0(M:Bp)(A:Option Addr)(n c:Nat)(vs:List Bv)(bx bv bi i:Nat)(w:World)(o:Nat→Nat):Prop where
 x:Bb w bx 104 #[Aca M.β]
 v:Bb w bv 144 #[.slice A n c]
 i:Bb w bi 3 #[Aa Ab (i:Int)]
 ox:o bx=0
 ov:o bv=0
 oi:o bi=9
 iv:Ef w A n (vs.map vv)
 oa:∀ad,A=some ad→ad.block<w.heap.size∧o ad.block=0
section
variable {M:Bp} {A:Option Addr} {n c:Nat} {vs:List Bv} {bx bv bi i:Nat} {w w':World} {o o':Nat→Nat}
theorem Q0.to_(h:Q0 M A n c vs bx bv bi i w o)(ht:To I w o w' o')(h0:¬I 0)(h9:¬I 9):Q0 M A n c vs bx bv bi i w' o':=
 ⟨h.x.to_ ht (by rw [h.ox];exact h0),h.v.to_ ht (by rw [h.ov];exact h0),h.i.to_ ht (by rw [h.oi];exact h9),(ht.ow _ h.x.lt).trans h.ox,(ht.ow _ h.v.lt).trans h.ov,(ht.ow _ h.i.lt).trans h.oi,
  h.iv.fr ht.fr (fun ad e=>by rw [(h.oa ad e).2];exact h0),fun ad e=>⟨Ar (h.oa ad e).1 ht.size,(ht.ow _ (h.oa ad e).1).trans (h.oa ad e).2⟩⟩
theorem Q0.set(h:Q0 M A n c vs bx bv bi i w o)(j:Nat):Q0 M A n c vs bx bv bi j (w.setCell ⟨bi,0,none⟩ (Aa Ab (j:Int))) o:=by
 have ht:=Kf (w:=w) (p:=⟨bi,0,none⟩) h.oi (Aa Ab (j:Int));exact⟨h.x.to_ ht (by rw [h.ox];decide),h.v.to_ ht (by rw [h.ov];decide),h.i.set_ 0 _,h.ox,h.ov,h.oi,h.iv.fr ht.fr (fun ad e=>by rw [(h.oa ad e).2];decide),fun ad e=>⟨Ar (h.oa ad e).1 ht.size,(h.oa ad e).2⟩⟩
theorem Q0.cells(h:Q0 M A n c vs bx bv bi i w o):w.cell? ⟨bx,0,none⟩=some (Aca M.β)∧w.cell? ⟨bv,0,none⟩=some (.slice A n c)∧w.cell? ⟨bi,0,none⟩=some (Aa Ab (i:Int)):=⟨h.x.cell 0,h.v.cell 0,h.i.cell 0⟩
end
theorem uM:¬Dg 9:=by rintro⟨h1,h2⟩;omega
theorem kX(M:Bp)(fl:Int)(b:Bd)(list:List UInt8)(AK:Option Addr)(nk ck:Nat)(ks:List Bv)(A:Option Addr)(n c:Nat)(vs:List Bv)(w:World)(o:Nat→Nat)(h:BM M fl w o b)
  (hK:Ef w AK nk (ks.map vv)) (hKo:∀ad,AK=some ad→ad.block<w.heap.size∧o ad.block=0) (hv:Ef w A n (vs.map vv)) (ho:∀ad,A=some ad→ad.block<w.heap.size∧o ad.block=0) (hT:iG list ks vs b):
  Calls Ad 208 #[Aca M.β,.string ⟨list.toArray⟩,.slice AK nk ck,.slice A n c] w (D3 M fl (Bd.table (bits fl) list ks vs b) w o):=by
 obtain⟨g,hg⟩:∃g,Cj b.lists list=g:=⟨_,rfl⟩;obtain⟨q,hq⟩:∃q,Kc (bits fl) 4=q:=⟨_,rfl⟩;have HE:=Hd (tS (bits fl) list ks vs b g q hg hq);have HQ:=Hd hq;obtain⟨gv,ci⟩:∃v,g.getD 0=v:=⟨_,rfl⟩;obtain⟨ch,bm⟩:∃v,g.isSome=v:=⟨_,rfl⟩;have HG:=Hd (show T4 (Cj b.lists list)= .tuple #[Aa Ab (gv:Int),.bool ch] by rw [hg];unfold T4;rw [ci,bm]);have c6:=Hd (And.intro ci bm);have R:=Hd hT;have c2:=Hd (fun i=>(hg▸hT.had i:g=some i→_));have c7:=Hd (show b.lists.length≤1048576 by have:=hT.ll;omega);obtain⟨y,hy⟩:∃y,Cu 14 true false ks b.b=y:=⟨_,rfl⟩;have HY:=Hd hy;obtain⟨yb,kv⟩:=y;have hB:Below w.heap.size w ((w.alloc (.cells #[Aca M.β] 104)).alloc (.cells #[.slice A n c] 144)):=Bq w _ _;have ay:=Hd (h.fresh hB 0);have bt:=Hd (To.fresh Dg hB o 0);have ao:=Hd (And.intro (hK.pure hB) (fun ad e=>⟨Ar (hKo ad e).1 hB.size,(Bs (hKo ad e).1).trans (hKo ad e).2⟩:∀ad,AK=some ad→ad.block<_∧Bl o w.heap.size 0 ad.block=0));have k:=Hd (show Bb ((w.alloc (.cells #[Aca M.β] 104)).alloc (.cells #[.slice A n c] 144)) w.heap.size 104 #[Aca M.β]∧Bb ((w.alloc (.cells #[Aca M.β] 104)).alloc (.cells #[.slice A n c] 144)) (w.heap.size+1) 144 #[.slice A n c]∧Bl o w.heap.size 0 w.heap.size=0∧Bl o w.heap.size 0 (w.heap.size+1)=0∧Ef ((w.alloc (.cells #[Aca M.β] 104)).alloc (.cells #[.slice A n c] 144)) A n (vs.map vv)∧(∀ad,A=some ad→ad.block<((w.alloc (.cells #[Aca M.β] 104)).alloc (.cells #[.slice A n c] 144)).heap.size∧Bl o w.heap.size 0 ad.block=0) from
  ⟨(Bb.new w 104 #[Aca M.β]).alloc _,Cv w _ 144 #[.slice A n c],Bo (Ae _),Bo (by omega),hv.pure hB,fun ad e=>⟨Ar (ho ad e).1 hB.size,(Bs (ho ad e).1).trans (ho ad e).2⟩⟩)
 clear h hK hKo hv ho hT hg hq ci bm hy hB;go_enter func208,ntmps208;go_upto_region 1 with fail
 generalize (w.alloc (.cells #[Aca M.β] 104)).alloc (.cells #[.slice A n c] 144)=w1 at ay bt ao k⊢;generalize Bl o w.heap.size 0=o1 at ay bt ao k;generalize w.heap.size+1=bv at k⊢;generalize w.heap.size=bx at k⊢;have l:w1.cell? ⟨bx,0,none⟩=some (Aca M.β):=k.o.1.cell 0;obtain⟨_,_,_,_,b6,_⟩:=Dd ay.o.head;go_wp2_with fail;go_at_call 280;refine(Rv 6 M.lb b.lists list _ o1 ay.o.lists c7.o).mono ?_;rintro e w2 ⟨rfl,hB⟩;rw [HG.o];have b4:=Hd (Nat.le_trans bt.o.size hB.size);have r:=(Af w2.heap.size w2).alloc (Ae _) (.cells #[Aa Ab (gv:Int)] 3);have O:=A6 hB r;have C:=Hd (ay.o.fresh O 9);have a4:=Hd (bt.o.trans (To.fresh Dg O o1 9));have S:=Hd (And.intro (ao.o.1.pure O) (fun ad e=>⟨Ar (ao.o.2 ad e).1 O.size,(Bs (ao.o.2 ad e).1).trans (ao.o.2 ad e).2⟩:∀ad,AK=some ad→ad.block<_∧Bl o1 w1.heap.size 9 ad.block=0));have f:=Hd (show Q0 M A n c vs bx bv w2.heap.size gv (w2.alloc (.cells #[Aa Ab (gv:Int)] 3)) (Bl o1 w1.heap.size 9) from
  ⟨k.o.1.pure O,k.o.2.1.pure O,Bb.new _ _ _,(Bs k.o.1.lt).trans k.o.2.2.1,(Bs k.o.2.1.lt).trans k.o.2.2.2.1,Bo hB.size,k.o.2.2.2.2.1.pure O,fun ad e=>⟨Ar (k.o.2.2.2.2.2 ad e).1 O.size,(Bs (k.o.2.2.2.2.2 ad e).1).trans (k.o.2.2.2.2.2 ad e).2⟩⟩)
 clear hB r O l b6;go_upto_region 2 with fail
 generalize w2.alloc (.cells #[Aa Ab (gv:Int)] 3)=w3 at C a4 S f⊢;generalize Bl o1 w1.heap.size 9=o3 at C a4 S f;generalize w2.heap.size=bi at f b4⊢;obtain⟨b0,b3,_⟩:=Dd C.o.head;obtain⟨l,G,u⟩:=f.o.cells;obtain⟨hg,bw⟩:=c6.o;cases g with
 |none=>
  obtain rfl:ch=false:=by rw [←bw];rfl
  have HP:=Hd (show(if q=true then(none:Option Nat) else none)=none by split <;>rfl);clear hg bw;have c4:=Hd f.o;obtain⟨b0,_,_,_,b6,_⟩:=Dd C.o.head;obtain⟨l,G,u⟩:=f.o.cells;go_wp2_with fail;go_at_call 287;refine(Vq M.bb nk ck AK ks b.b _ o3 C.o.buf S.o.1 (fun ad e=>⟨(S.o.2 ad e).1,by rw [(S.o.2 ad e).2];omega⟩) R.o.kok R.o.kel).mono ?_;rintro e Z ⟨rfl,o4,a8,P⟩;have az:=Hd (C.o.buf_ P a8);have ax:=Hd (f.o.to_ P (by omega) (by omega));have cb:=Hd (a4.o.trans (P.mono fun _ h=>Ip h));clear a8 P b0 b6 l G u;rw [HY.o] at az⊢;obtain⟨l,G,u⟩:=ax.o.cells;have r:=(Af Z.heap.size Z).alloc (Ae _) (.cells #[Aa Ab (kv.t:Int),Aa Ab (kv.w:Int),Aa Ac (kv.n:Int)] 169);have ae:=Hd (az.o.fresh r 0);have I:=Hd (ax.o.to_ (To.fresh Dg r o4 0) Co uM);have ag:=Hd (cb.o.trans (To.fresh Dg r o4 0));have N:=Hd (Bb.new Z 169 #[Aa Ab (kv.t:Int),Aa Ab (kv.w:Int),Aa Ac (kv.n:Int)]);have K:=Hd (show Bl o4 Z.heap.size 0 Z.heap.size=0 from Bo (Ae _));have da:=Hd r;clear r;go_upto_region 4 with fail
  generalize Z.alloc (.cells #[Aa Ab (kv.t:Int),Aa Ab (kv.w:Int),Aa Ac (kv.n:Int)] 169)=w5 at ae I ag N⊢;generalize Bl o4 Z.heap.size 0=o5 at ae I ag K;generalize Z.heap.size=bk at N K⊢;clear l G u;obtain⟨l,G,u⟩:=I.o.cells;go_wp2_with fail;go_at_call 131;refine(Ho ae.o).mono ?_;rintro e w6 ⟨rfl,o6,bd,D⟩;have a0:=Hd bd;have B:=Hd (I.o.to_ D Co uM);have cf:=Hd (N.o.to_ D (by rw [K.o];exact Co));have af:=Hd (show o6 bk=0 from(D.ow _ N.o.lt).trans K.o);have cc:=Hd (ag.o.trans D);clear bd D l G u;obtain⟨l,G,u⟩:=B.o.cells;obtain⟨A8,m8,c8,bj,bo,bp,cj⟩:=a0.o.head;have an:b.vals.length=m8:=by have:=bo.is.1;simpa using this
  have bn:m8≤1048576:=by have:=R.o.vl;omega
  have y8:w6.cell? ⟨M.β,8,none⟩=some (.slice A8 m8 c8):=bj.cell 8;have fi:w6.frozen? ⟨bi,0,none⟩=false:=B.o.i.frozen 0;have a5:=Hd (cc.o.set_new (p:=⟨bi,0,none⟩) b4.o (Aa Ab (m8:Int)));have aa:=Hd (B.o.set m8);have J:=Hd (a0.o.to_ (Kf (p:=⟨bi,0,none⟩) B.o.oi (Aa Ab (m8:Int))) Nq);have ah:=Hd (cf.o.to_ (Kf (p:=⟨bi,0,none⟩) B.o.oi (Aa Ab (m8:Int))) (by rw [af.o];decide));go_upto_region 6 with fail
  generalize w6.setCell ⟨bi,0,none⟩ (Aa Ab (m8:Int))=w7 at aa J ah a5⊢;clear bj bo bp cj l G u y8 fi;obtain⟨l,G,u⟩:=aa.o.cells;obtain⟨_,_,_,_,b6,_⟩:=Dd J.o.head;go_region_held3 (fun w'=>w'.cell? ⟨bx,0,none⟩=some (Aca M.β)∧w'.cell? ⟨M.β,6,none⟩=some (Aca M.lb)∧w'.cell? ⟨bi,0,none⟩=some (Aa Ab (m8:Int))) (first|with_reducible exact⟨l,b6,u⟩|with_reducible exact⟨Bc l,Bc b6,Bc u⟩|with_reducible exact⟨y0,y6,y2⟩) (first|(go_at_call 282;(with_reducible refine(Lv 6 M.lb b.lists list m8 _ o6 J.o.drew.lists R.o.ll bn).mono ?_);rintro e z ⟨⟨x,rfl⟩,o8,a9,bf⟩;have d:=bf.from_drew;have ai:=aa.o.to_ d (by omega) (by omega);obtain⟨y0,_,y2⟩:=ai.cells;have aj:=J.o.lists_ d a9;obtain⟨_,_,_,_,y6,_⟩:=Dd aj.head;have a1:=Hd aj;have ab:=Hd ai;have a7:=Hd (ah.o.to_ d (by rw [af.o];omega));have b7:=Hd (show o8 bk=0 from(d.ow _ ah.o.lt).trans af.o);have cd:=Hd (a5.o.trans (d.mono fun _ h=>uH h));clear a9 bf d ai aj));clear l G u b6;obtain⟨A9,F,c9,al,Q,W,Y⟩:=a1.o.head;obtain rfl:F=m8:=by have:=Q.is.1;rw [←an];simpa using this.symm
  obtain ⟨k0,k1,k2⟩:=a7.o.c3;have y8:z.cell? ⟨M.β,8,none⟩=some (.slice A9 F c9):=al.cell 8;have ak:Below z.heap.size z (z.alloc (.cells #[Aa Ab (kv.t:Int),Aa Ab (kv.w:Int),Aa Ac (kv.n:Int)] 169)).drew:=((Af _ _).alloc (Ae _) _).drew;have L:=Hd ak;have b5:=Hd (show Ef (z.alloc (.cells #[Aa Ab (kv.t:Int),Aa Ab (kv.w:Int),Aa Ac (kv.n:Int)] 169)).drew (some ⟨z.heap.size,0,none⟩) 1 [vv kv] from(Sd z kv).pure (Af _ _).drew);have b9:=Hd (Q.pure ak);have aw:=Hd al;have b8:=Hd Q;have m:=Hd W;have T:=Hd Y;have j0:(z.alloc (.cells #[Aa Ab (kv.t:Int),Aa Ab (kv.w:Int),Aa Ac (kv.n:Int)] 169)).cell? ⟨bx,0,none⟩=some (Aca M.β):=C1 _ y0;have j8:(z.alloc (.cells #[Aa Ab (kv.t:Int),Aa Ab (kv.w:Int),Aa Ac (kv.n:Int)] 169)).cell? ⟨M.β,8,none⟩=some (.slice A9 F c9):=C1 _ y8;have cl:(z.alloc (.cells #[Aa Ab (kv.t:Int),Aa Ab (kv.w:Int),Aa Ac (kv.n:Int)] 169)).cell? ⟨bk,0,none⟩=some (Aa Ab (kv.t:Int)):=C1 _ k0;have cm:(z.alloc (.cells #[Aa Ab (kv.t:Int),Aa Ab (kv.w:Int),Aa Ac (kv.n:Int)] 169)).cell? ⟨bk,1,none⟩=some (Aa Ab (kv.w:Int)):=C1 _ k1;have cn:(z.alloc (.cells #[Aa Ab (kv.t:Int),Aa Ab (kv.w:Int),Aa Ac (kv.n:Int)] 169)).cell? ⟨bk,2,none⟩=some (Aa Ac (kv.n:Int)):=C1 _ k2;clear al Q W Y ak;go_wp2_with fail;go_cut [] (fun wx=>∃wy,wy=wx∧∃oA,BM M fl wx oA { b with b:=yb,vals:=b.vals++ [kv],lists:=Fs b.lists list F}∧Q0 M A n c vs bx bv bi F wx oA∧To Dg w o wx oA)
  case first=>
   go_region_law (refine Yy rfl (.tmp 65) (.tmp 67) rfl 0 A9 F c9 (b.vals.map vv) rfl b9.o _ 1 1 [vv kv] rfl b5.o (by omega) (Nat.zero_le _) ?_;intro AA ca W1 X E bh;have hh:=aI aw.o b8.o m.o T.o L.o X E bh;have bl:=(ab.o.x.pure L.o).fr E (by rintro⟨ad,e,h⟩;have h1:=m.o ad e;rw [←h,ab.o.ox] at h1;omega);have am:=(aw.o.pure L.o).fr E (by rintro⟨ad,e,h⟩;have h1:=m.o ad e;rw [←h,T.o] at h1;omega);have z0:W1.cell? ⟨bx,0,none⟩=some (Aca M.β):=bl.cell 0;have z8:W1.cell? ⟨M.β,8,none⟩=some (.slice A9 F c9):=am.cell 8;have f8:W1.frozen? ⟨M.β,8,none⟩=false:=am.frozen 8;have hk:=(a7.o.pure L.o).fr E (by rintro⟨ad,e,h⟩;have h1:=m.o ad e;rw [←h,b7.o] at h1;omega);obtain ⟨z1,z2,z3⟩:=hk.c3;have HH:=Hd hh;clear X E bh hh bl am hk)
   all_goals
    go_wp2_with fail;go_meet;exact⟨_,rfl,_,a1.o.head_ HH.o.2 HH.o.1,ab.o.to_ HH.o.2 (by omega) (by omega),cd.o.trans (HH.o.2.mono fun _ h=>lR h)⟩
  case rest=>
   obtain⟨wA,rfl,oA,be,ba,bg⟩:=hcut;have a2:=Hd be;have j:=Hd ba;have ce:=Hd bg;have H:=Hd (show(b.vals++ [kv])[F]?=some kv∧b.s.length<65536∧E5 vs yb∧kv.t=14∧Br (kv.w:Int)=true∧E7 yb.length kv from
    ⟨by rw [List.getElem?_append_right (by omega),an,Nat.sub_self];rfl,R.o.st,by have h:=R.o.vok2;rw [HY.o] at h;exact h,by have h:=HY.o;unfold Cu at h;injection h with _ h;rw [←h],by have h:=R.o.kw;rw [HY.o] at h;exact h,by have h:=R.o.kfit;rw [HY.o] at h;exact h⟩)
   clear be ba bg y0 y2 y6 y8 k0 k1 k2 j0 j8 cl cm cn;obtain⟨l,_,_⟩:=j.o.cells;go_wp2_with fail;go_at_call 193;refine(Eb M fl 288 _ _ _ ({ b with b:=yb,vals:=b.vals++ [kv],lists:=Fs b.lists list F}).vals _ a2.o.head Tryz.call288 ((Oj M fl ({ b with b:=yb,vals:=b.vals++ [kv],lists:=Fs b.lists list F}) kv F bx bi bv A n c vs wA _ a2.o j.o.x j.o.i j.o.v j.o.ox (by rw [j.o.oi];decide) j.o.ov j.o.iv j.o.oa H.o.1 H.o.2.1 H.o.2.2.1 H.o.2.2.2.1 H.o.2.2.2.2.1 H.o.2.2.2.2.2).mono fun e w' h=>⟨h.1,h⟩)).mono ?_;rintro e w' ⟨rfl,oz,U,V⟩;have a3:=Hd U;have a6:=Hd (ce.o.trans V);clear U V;go_wp2_with fail;go_end0;refine⟨rfl,oz,?_,a6.o⟩;rw [HE.o];simp only [HP.o,HY.o,an];exact a3.o
 |some a=>
  obtain rfl:ch=true:=by rw [←bw];rfl
  obtain rfl:gv=a:=by rw [←hg];rfl
  clear hg bw;go_wp2_with fail;go_at_call 281;refine(Ww M.β 4 2 fl q w3 b3 (by omega) rfl HQ.o).mono ?_;rintro e w' ⟨rfl,rfl⟩;cases q with
  |false=>
   have HP:=Hd (show(if false=true then some gv else none)=none from rfl);clear b0 b3 l G u;have c4:=Hd f.o;obtain⟨b0,_,_,_,b6,_⟩:=Dd C.o.head;obtain⟨l,G,u⟩:=f.o.cells;go_wp2_with fail;go_at_call 287;refine(Vq M.bb nk ck AK ks b.b _ o3 C.o.buf S.o.1 (fun ad e=>⟨(S.o.2 ad e).1,by rw [(S.o.2 ad e).2];omega⟩) R.o.kok R.o.kel).mono ?_;rintro e Z ⟨rfl,o4,a8,P⟩;have az:=Hd (C.o.buf_ P a8);have ax:=Hd (f.o.to_ P (by omega) (by omega));have cb:=Hd (a4.o.trans (P.mono fun _ h=>Ip h));clear a8 P b0 b6 l G u;rw [HY.o] at az⊢;obtain⟨l,G,u⟩:=ax.o.cells;have r:=(Af Z.heap.size Z).alloc (Ae _) (.cells #[Aa Ab (kv.t:Int),Aa Ab (kv.w:Int),Aa Ac (kv.n:Int)] 169);have ae:=Hd (az.o.fresh r 0);have I:=Hd (ax.o.to_ (To.fresh Dg r o4 0) Co uM);have ag:=Hd (cb.o.trans (To.fresh Dg r o4 0));have N:=Hd (Bb.new Z 169 #[Aa Ab (kv.t:Int),Aa Ab (kv.w:Int),Aa Ac (kv.n:Int)]);have K:=Hd (show Bl o4 Z.heap.size 0 Z.heap.size=0 from Bo (Ae _));have da:=Hd r;clear r;go_upto_region 4 with fail
   generalize Z.alloc (.cells #[Aa Ab (kv.t:Int),Aa Ab (kv.w:Int),Aa Ac (kv.n:Int)] 169)=w5 at ae I ag N⊢;generalize Bl o4 Z.heap.size 0=o5 at ae I ag K;generalize Z.heap.size=bk at N K⊢;clear l G u;obtain⟨l,G,u⟩:=I.o.cells;go_wp2_with fail;go_at_call 131;refine(Ho ae.o).mono ?_;rintro e w6 ⟨rfl,o6,bd,D⟩;have a0:=Hd bd;have B:=Hd (I.o.to_ D Co uM);have cf:=Hd (N.o.to_ D (by rw [K.o];exact Co));have af:=Hd (show o6 bk=0 from(D.ow _ N.o.lt).trans K.o);have cc:=Hd (ag.o.trans D);clear bd D l G u;obtain⟨l,G,u⟩:=B.o.cells;obtain⟨A8,m8,c8,bj,bo,bp,cj⟩:=a0.o.head;have an:b.vals.length=m8:=by have:=bo.is.1;simpa using this
   have bn:m8≤1048576:=by have:=R.o.vl;omega
   have y8:w6.cell? ⟨M.β,8,none⟩=some (.slice A8 m8 c8):=bj.cell 8;have fi:w6.frozen? ⟨bi,0,none⟩=false:=B.o.i.frozen 0;have a5:=Hd (cc.o.set_new (p:=⟨bi,0,none⟩) b4.o (Aa Ab (m8:Int)));have aa:=Hd (B.o.set m8);have J:=Hd (a0.o.to_ (Kf (p:=⟨bi,0,none⟩) B.o.oi (Aa Ab (m8:Int))) Nq);have ah:=Hd (cf.o.to_ (Kf (p:=⟨bi,0,none⟩) B.o.oi (Aa Ab (m8:Int))) (by rw [af.o];decide));go_upto_region 6 with fail
   generalize w6.setCell ⟨bi,0,none⟩ (Aa Ab (m8:Int))=w7 at aa J ah a5⊢;clear bj bo bp cj l G u y8 fi;obtain⟨l,G,u⟩:=aa.o.cells;obtain⟨_,_,_,_,b6,_⟩:=Dd J.o.head;go_region_held3 (fun w'=>w'.cell? ⟨bx,0,none⟩=some (Aca M.β)∧w'.cell? ⟨M.β,6,none⟩=some (Aca M.lb)∧w'.cell? ⟨bi,0,none⟩=some (Aa Ab (m8:Int))) (first|with_reducible exact⟨l,b6,u⟩|with_reducible exact⟨Bc l,Bc b6,Bc u⟩|with_reducible exact⟨y0,y6,y2⟩) (first|(go_at_call 282;(with_reducible refine(Lv 6 M.lb b.lists list m8 _ o6 J.o.drew.lists R.o.ll bn).mono ?_);rintro e z ⟨⟨x,rfl⟩,o8,a9,bf⟩;have d:=bf.from_drew;have ai:=aa.o.to_ d (by omega) (by omega);obtain⟨y0,_,y2⟩:=ai.cells;have aj:=J.o.lists_ d a9;obtain⟨_,_,_,_,y6,_⟩:=Dd aj.head;have a1:=Hd aj;have ab:=Hd ai;have a7:=Hd (ah.o.to_ d (by rw [af.o];omega));have b7:=Hd (show o8 bk=0 from(d.ow _ ah.o.lt).trans af.o);have cd:=Hd (a5.o.trans (d.mono fun _ h=>uH h));clear a9 bf d ai aj));clear l G u b6;obtain⟨A9,F,c9,al,Q,W,Y⟩:=a1.o.head;obtain rfl:F=m8:=by have:=Q.is.1;rw [←an];simpa using this.symm
   obtain ⟨k0,k1,k2⟩:=a7.o.c3;have y8:z.cell? ⟨M.β,8,none⟩=some (.slice A9 F c9):=al.cell 8;have ak:Below z.heap.size z (z.alloc (.cells #[Aa Ab (kv.t:Int),Aa Ab (kv.w:Int),Aa Ac (kv.n:Int)] 169)).drew:=((Af _ _).alloc (Ae _) _).drew;have L:=Hd ak;have b5:=Hd (show Ef (z.alloc (.cells #[Aa Ab (kv.t:Int),Aa Ab (kv.w:Int),Aa Ac (kv.n:Int)] 169)).drew (some ⟨z.heap.size,0,none⟩) 1 [vv kv] from(Sd z kv).pure (Af _ _).drew);have b9:=Hd (Q.pure ak);have aw:=Hd al;have b8:=Hd Q;have m:=Hd W;have T:=Hd Y;have j0:(z.alloc (.cells #[Aa Ab (kv.t:Int),Aa Ab (kv.w:Int),Aa Ac (kv.n:Int)] 169)).cell? ⟨bx,0,none⟩=some (Aca M.β):=C1 _ y0;have j8:(z.alloc (.cells #[Aa Ab (kv.t:Int),Aa Ab (kv.w:Int),Aa Ac (kv.n:Int)] 169)).cell? ⟨M.β,8,none⟩=some (.slice A9 F c9):=C1 _ y8;have cl:(z.alloc (.cells #[Aa Ab (kv.t:Int),Aa Ab (kv.w:Int),Aa Ac (kv.n:Int)] 169)).cell? ⟨bk,0,none⟩=some (Aa Ab (kv.t:Int)):=C1 _ k0;have cm:(z.alloc (.cells #[Aa Ab (kv.t:Int),Aa Ab (kv.w:Int),Aa Ac (kv.n:Int)] 169)).cell? ⟨bk,1,none⟩=some (Aa Ab (kv.w:Int)):=C1 _ k1;have cn:(z.alloc (.cells #[Aa Ab (kv.t:Int),Aa Ab (kv.w:Int),Aa Ac (kv.n:Int)] 169)).cell? ⟨bk,2,none⟩=some (Aa Ac (kv.n:Int)):=C1 _ k2;clear al Q W Y ak;go_wp2_with fail;go_cut [] (fun wx=>∃wy,wy=wx∧∃oA,BM M fl wx oA { b with b:=yb,vals:=b.vals++ [kv],lists:=Fs b.lists list F}∧Q0 M A n c vs bx bv bi F wx oA∧To Dg w o wx oA)
   case first=>
    go_region_law (refine Yy rfl (.tmp 65) (.tmp 67) rfl 0 A9 F c9 (b.vals.map vv) rfl b9.o _ 1 1 [vv kv] rfl b5.o (by omega) (Nat.zero_le _) ?_;intro AA ca W1 X E bh;have hh:=aI aw.o b8.o m.o T.o L.o X E bh;have bl:=(ab.o.x.pure L.o).fr E (by rintro⟨ad,e,h⟩;have h1:=m.o ad e;rw [←h,ab.o.ox] at h1;omega);have am:=(aw.o.pure L.o).fr E (by rintro⟨ad,e,h⟩;have h1:=m.o ad e;rw [←h,T.o] at h1;omega);have z0:W1.cell? ⟨bx,0,none⟩=some (Aca M.β):=bl.cell 0;have z8:W1.cell? ⟨M.β,8,none⟩=some (.slice A9 F c9):=am.cell 8;have f8:W1.frozen? ⟨M.β,8,none⟩=false:=am.frozen 8;have hk:=(a7.o.pure L.o).fr E (by rintro⟨ad,e,h⟩;have h1:=m.o ad e;rw [←h,b7.o] at h1;omega);obtain ⟨z1,z2,z3⟩:=hk.c3;have HH:=Hd hh;clear X E bh hh bl am hk)
    all_goals
     go_wp2_with fail;go_meet;exact⟨_,rfl,_,a1.o.head_ HH.o.2 HH.o.1,ab.o.to_ HH.o.2 (by omega) (by omega),cd.o.trans (HH.o.2.mono fun _ h=>lR h)⟩
   case rest=>
    obtain⟨wA,rfl,oA,be,ba,bg⟩:=hcut;have a2:=Hd be;have j:=Hd ba;have ce:=Hd bg;have H:=Hd (show(b.vals++ [kv])[F]?=some kv∧b.s.length<65536∧E5 vs yb∧kv.t=14∧Br (kv.w:Int)=true∧E7 yb.length kv from
     ⟨by rw [List.getElem?_append_right (by omega),an,Nat.sub_self];rfl,R.o.st,by have h:=R.o.vok2;rw [HY.o] at h;exact h,by have h:=HY.o;unfold Cu at h;injection h with _ h;rw [←h],by have h:=R.o.kw;rw [HY.o] at h;exact h,by have h:=R.o.kfit;rw [HY.o] at h;exact h⟩)
    clear be ba bg y0 y2 y6 y8 k0 k1 k2 j0 j8 cl cm cn;obtain⟨l,_,_⟩:=j.o.cells;go_wp2_with fail;go_at_call 193;refine(Eb M fl 288 _ _ _ ({ b with b:=yb,vals:=b.vals++ [kv],lists:=Fs b.lists list F}).vals _ a2.o.head Tryz.call288 ((Oj M fl ({ b with b:=yb,vals:=b.vals++ [kv],lists:=Fs b.lists list F}) kv F bx bi bv A n c vs wA _ a2.o j.o.x j.o.i j.o.v j.o.ox (by rw [j.o.oi];decide) j.o.ov j.o.iv j.o.oa H.o.1 H.o.2.1 H.o.2.2.1 H.o.2.2.2.1 H.o.2.2.2.2.1 H.o.2.2.2.2.2).mono fun e w' h=>⟨h.1,h⟩)).mono ?_;rintro e w' ⟨rfl,oz,U,V⟩;have a3:=Hd U;have a6:=Hd (ce.o.trans V);clear U V;go_wp2_with fail;go_end0;refine⟨rfl,oz,?_,a6.o⟩;rw [HE.o];simp only [HP.o,HY.o,an];exact a3.o
  |true=>
   obtain⟨ar,aq⟩:=c2.o gv rfl;have H:=Hd (show b.vals[gv]?=some ar∧b.s.length<65536∧E5 vs b.b∧ar.t=14∧Br (ar.w:Int)=true∧E7 b.b.length ar from⟨aq.1,R.o.st,R.o.vok,aq.2.1,aq.2.2.1,aq.2.2.2⟩);have HV:=Hd (show b.vals.getD gv ⟨0,0,0⟩=ar by rw [List.getD_eq_getElem?_getD,aq.1];rfl);clear aq b0 b3 l G u;obtain⟨l,_,_⟩:=f.o.cells;go_wp2_with fail;go_at_call 193;refine(Eb M fl 288 _ _ _ (b).vals _ C.o.head Tryz.call288 ((Oj M fl (b) ar gv bx bi bv A n c vs w3 _ C.o f.o.x f.o.i f.o.v f.o.ox (by rw [f.o.oi];decide) f.o.ov f.o.iv f.o.oa H.o.1 H.o.2.1 H.o.2.2.1 H.o.2.2.2.1 H.o.2.2.2.2.1 H.o.2.2.2.2.2).mono fun e w' h=>⟨h.1,h⟩)).mono ?_;rintro e w' ⟨rfl,oz,U,V⟩;have a3:=Hd U;have a6:=Hd (a4.o.trans V);clear U V;go_wp2_with fail;go_end0;refine⟨rfl,oz,?_,a6.o⟩;rw [HE.o];simp only [↓reduceIte,HV.o];exact a3.o
end
section
open Go.Shelf Go.RowKit Go.Acc
def gM:Go.Shelf.Ren:=⟨fun|166=>207|240=>286|276=>329|n=>n,fun|0=>0|3=>3|4=>4|9=>9|20=>20|5=>5|37=>22|70=>235|72=>237|75=>239|80=>243|164=>346|n=>n,fun|n=>n⟩
theorem sbw:Go.Proofs.Lays.n166 Ad gM:={
 mixed:=by kernel_rfl
 f166:=func207.trans (congrArg some (by kernel_rfl))
 f240:=func286.trans (congrArg some (by kernel_rfl))
 f276:=func329.trans (congrArg some (by kernel_rfl))
 t0:=underlying0
 a0:=isAgg0
 z0:=sizeOf0
 v0:=zeroValue0
 t3:=underlying3
 a3:=isAgg3
 z3:=sizeOf3
 v3:=zeroValue3
 t4:=underlying4
 a4:=isAgg4
 z4:=sizeOf4
 v4:=zeroValue4
 t9:=underlying9
 a9:=isAgg9
 z9:=sizeOf9
 v9:=zeroValue9
 t20:=underlying20
 a20:=isAgg20
 z20:=sizeOf20
 v20:=zeroValue20
 t37:=underlying22
 a37:=isAgg22
 z37:=sizeOf22
 v37:=zeroValue22
 t70:=underlying235
 a70:=isAgg235
 z70:=sizeOf235
 v70:=zeroValue235
 t72:=underlying237
 a72:=isAgg237
 z72:=sizeOf237
 v72:=zeroValue237
 t75:=underlying239
 a75:=isAgg239
 z75:=sizeOf239
 v75:=zeroValue239
 t164:=underlying346
 a164:=isAgg346
 z164:=sizeOf346
 v164:=zeroValue346}
def gL:Go.Shelf.Ren:=⟨fun|169=>209|n=>n,fun|0=>0|3=>3|9=>9|5=>5|37=>22|70=>235|72=>237|127=>310|n=>n,fun|n=>n⟩
theorem sbs:Go.Proofs.Lays.n169 Ad gL:={
 mixed:=by kernel_rfl
 f169:=func209.trans (congrArg some (by kernel_rfl))
 t0:=underlying0
 a0:=isAgg0
 z0:=sizeOf0
 v0:=zeroValue0
 t3:=underlying3
 a3:=isAgg3
 z3:=sizeOf3
 v3:=zeroValue3
 t9:=underlying9
 a9:=isAgg9
 z9:=sizeOf9
 v9:=zeroValue9
 t37:=underlying22
 a37:=isAgg22
 z37:=sizeOf22
 v37:=zeroValue22
 t70:=underlying235
 a70:=isAgg235
 z70:=sizeOf235
 v70:=zeroValue235
 t72:=underlying237
 a72:=isAgg237
 z72:=sizeOf237
 v72:=zeroValue237
 t127:=underlying310
 a127:=isAgg310
 z127:=sizeOf310
 v127:=zeroValue310}
theorem pM:Builder.Extra Ad gM where
 sizeBuilder:=by kernel_rfl
 liesBuilder:=by kernel_rfl
 t5:=underlying5
 a5:=isAgg5
 z5:=sizeOf5
 v5:=zeroValue5
 infoByte:=by kernel_rfl
 cellsByte:=by kernel_rfl
 sizeByte:=by kernel_rfl
 neB5:=by decide
theorem pL:Builder.Extra Ad gL where
 sizeBuilder:=by kernel_rfl
 liesBuilder:=by kernel_rfl
 t5:=underlying5
 a5:=isAgg5
 z5:=sizeOf5
 v5:=zeroValue5
 infoByte:=by kernel_rfl
 cellsByte:=by kernel_rfl
 sizeByte:=by kernel_rfl
 neB5:=by decide
def fG(w:World)(B b:Nat)(l:List UInt8):Prop:=Go.Lib.IsBuilderF 237 5 B b (Go.Lib.byteCells l) w
theorem qQ(B b:Nat)(l s:List UInt8)(w:World)(h:fG w B b l)(hl:l.length+s.length≤1048576)(hB:B≤w.heap.size):
  Calls Ad 207 #[Aca b,.string ⟨s.toArray⟩] w fun e w'=>(∃x,e= .returned x)∧fG w' B b (l++s)∧Below B w w':=by
 refine(Any.Builder_WriteString_k sbw pM B b (Go.Lib.byteCells l) ⟨s.toArray⟩ w h ?_ hB).mono ?_
 ·show _+s.toArray.size≤_;rw [Go.Lib.byteCells_length,List.size_toArray];omega
 ·rintro e w' ⟨rfl,h1,h2,_⟩;refine⟨⟨_,rfl⟩,.inr ?_,h2⟩;have a:Go.Lib.byteCells l++Go.Lib.strCells ⟨s.toArray⟩=Go.Lib.byteCells (l++s):=by
   simp [Go.Lib.byteCells,Go.Lib.strCells]
  rw [←a];exact h1
theorem Zv(B b:Nat)(l:List UInt8)(w:World)(h:fG w B b l)(hB:B≤w.heap.size):
  Calls Ad 209 #[Aca b] w fun e w'=>e= .returned (.string ⟨l.toArray⟩)∧Below B w w':=by
 refine(Any.Builder_String_any_k sbs pL B b l w h hB).mono ?_;rintro e w' ⟨rfl,_,h2,_⟩;exact⟨rfl,h2⟩
theorem zZ(w:World):fG (w.alloc (.cells #[.pointer none,.slice none 0 0] 237)) w.heap.size w.heap.size []:=Go.Lib.IsBuilderF.of (Go.Lib.fresh_isBuilder 237 5 w)
end
section
open Go.Acc
structure Ic(b:Bd):Prop where
 keys:∀s a,Cj b.keys s=some a→b.names.find? (fun x=>x.1==a)=some (a,s)
 lt:∀x∈b.names,x.1<b.b.length
structure Er(b b':Bd):Prop where
 keep:∀a s,b.names.find? (fun x=>x.1==a)=some (a,s)→b'.names.find? (fun x=>x.1==a)=some (a,s)
 ok:Ic b'
theorem Er.trans{a b c:Bd}(h:Er a b)(h':Er b c):Er a c:=⟨fun x s e=>h'.keep x s (h.keep x s e),h'.ok⟩
theorem Er.same{b b':Bd}(h:Ic b)(hk:b'.keys=b.keys)(hn:b'.names=b.names)(hl:b.b.length≤b'.b.length):Er b b':=
 ⟨fun a s e=>by rw [hn];exact e,⟨fun s a e=>by rw [hk] at e;rw [hn];exact h.keys s a e,fun x hx=>by rw [hn] at hx;exact Ar (h.lt x hx) hl⟩⟩
theorem wO:Ic Bd.new:=⟨fun s a e=>by simp [Bd.new,Cj] at e,fun x hx=>by simp [Bd.new] at hx⟩
theorem Gq.len{b b':Bd}(h:Gq b b'):b.b.length≤b'.b.length:=by
 obtain⟨⟨m,e⟩,_⟩:=h;rw [e,Ak];omega
theorem Ic.find_lt{b:Bd}(h:Ic b){a:Nat}{s:List UInt8}(e:b.names.find? (fun x=>x.1==a)=some (a,s)):a<b.b.length:=h.lt _ (List.mem_of_find?_eq_some e)
def qS(names:List (Nat×List UInt8))(s:List UInt8)(v:Bv):Prop:=v.t=4∧names.find? (fun x=>x.1==v.n)=some (v.n,s)
theorem Kd(f:Nat)(s:List UInt8)(b:Bd)(h:Ic b):Er b (b.put f s).1∧qS (b.put f s).1.names s (b.put f s).2:=by
 unfold Bd.put;split
 ·next a ha=>
  split at ha
  ·exact⟨Er.same h rfl rfl (Ae _),rfl,h.keys s a ha⟩
  ·cases ha
 ·have c:∀a s',b.names.find? (fun x=>x.1==a)=some (a,s')→((b.b.length,s)::b.names).find? (fun x=>x.1==a)=some (a,s'):=by
   intro a s' e;have i:=h.find_lt e;rw [List.find?_cons];have g:(b.b.length==a)=false:=beq_eq_false_iff_ne.mpr (by omega);simp only [g];exact e
  have d:((b.b.length,s)::b.names).find? (fun x=>x.1==b.b.length)=some (b.b.length,s):=by simp
  refine⟨⟨c,⟨fun k a e=>?_,fun x hx=>?_⟩⟩,rfl,d⟩
  ·rcases Mz e with e|⟨rfl,rfl⟩
   ·exact c a k (h.keys k a e)
   ·exact d
  ·simp only [List.mem_cons] at hx;simp only [Ak,List.length_singleton];rcases hx with rfl|hx
   ·show b.b.length<b.b.length+s.length+1;omega
   ·have:=h.lt x hx;omega
theorem Qf(f:Nat):∀(l:List (List UInt8)) (b:Bd),Ic b→Er b (b.puts f l).1
 | [],_,h=>Er.same h rfl rfl (Ae _)
 |s::r,b,h=>(Kd f s b h).1.trans (Qf f r _ (Kd f s b h).1.ok)
theorem R3(t:Nat)(len tags:Bool)(l:List Bv)(b:Bd)(h:Ic b):Er b (b.vec t len tags l):=by
 obtain⟨m,e⟩:=Qn t len tags l b.b;exact Er.same h rfl rfl (by show b.b.length≤(Cu t len tags l b.b).1.length;rw [e,Ak];omega)
theorem jX(f:Nat){k:Int}(n:Int)(u:Nat)(s:List UInt8)(h1:1≤k)(h2:k≤9)(b:Bd)(hg:Dh b)(h:Ic b):Er b (b.leaf f k n u s):=by
 obtain⟨_,_,d,_⟩:=aV f n u s [] [] h1 h2 b hg;have c:=d.len;by_cases a:k=5
 ·subst a;have e:b.leaf f 5 n u s=b.key f s:=by simp [Bd.leaf]
  rw [e];have h3:=(Kd f s b h).1;exact⟨h3.keep,h3.ok.1,h3.ok.2⟩
 ·refine Er.same h ?_ ?_ c
  ·unfold Bd.leaf;simp only [if_neg a]
   repeat' (split;try rfl)
   all_goals first|rfl|(unfold Bd.str;simp only [];split <;>rfl)
  ·unfold Bd.leaf;simp only [if_neg a]
   repeat' (split;try rfl)
   all_goals first|rfl|(unfold Bd.str;simp only [];split <;>rfl)
theorem jP(f:Nat)(k:Int)(c:List Tr)(b:Bd)(h:Ic b):Er b (b.flat f k c):=by
 unfold Bd.flat
 repeat' split
 all_goals first
  |exact R3 _ _ _ _ _ h
  |exact(Qf f _ b h).trans (R3 _ _ _ _ _ (Qf f _ b h).ok)
theorem Mu(f:Nat):∀(c:List Tr),(∀t∈c,N6 f t)→(∀t∈c,∀b,Dh b→Ic b→Er b (Bd.calls f t b))→∀b,Dh b→Ic b→Er b (Bd.callsL f c b)
 | [],_,_,b,_,h=>by rw [Bd.callsL];exact Er.same h rfl rfl (Ae _)
 |t::r,hd,hc,b,hg,h=>by
  obtain⟨v,d,a,e⟩:=hd t (by simp) b hg;have h1:=hc t (by simp) b hg h;rw [Bd.callsL];exact h1.trans (Mu f r (fun t ht=>hd t (by simp [ht])) (fun t ht=>hc t (by simp [ht])) _ a.2 h1.ok)
theorem Kl(f:Nat):∀(c:List Tr) (ks:List (List UInt8)),ks.length=c.length→(∀t∈c,N6 f t)→(∀t∈c,∀b,Dh b→Ic b→Er b (Bd.calls f t b))→∀b,Dh b→Ic b→
  Er b (Bd.callsM f ks c b)∧∃kvs vs,(Bd.callsM f ks c b).s=b.s++Fc kvs vs∧kvs.length=ks.length∧vs.length=c.length∧∀(i:Nat) s v,ks[i]?=some s→kvs[i]?=some v→qS (Bd.callsM f ks c b).names s v
 | [],ks,hk,_,_,b,_,h=>by
  obtain rfl:ks=[]:=List.eq_nil_of_length_eq_zero hk;rw [Bd.callsM];exact⟨Er.same h rfl rfl (Ae _),[],[],by simp [Fc],rfl,rfl,fun i s v h=>by simp at h⟩
 |t::r,[],hk,_,_,_,_,_=>by simp at hk
 |t::r,s::ks,hk,hd,hc,b,hg,h=>by
  obtain⟨⟨q,u⟩,w,d⟩:=Wz f s b hg;have m:(b.key f s).s=b.s++ [(b.put f s).2]:=by simp [Bd.key,Bd.push,d]
  have j:Dh (b.key f s):=(Ov f s b hg).elim fun _ h=>h.2.1.2
  obtain⟨e,k⟩:=Kd f s b h;have a:Er b (b.key f s):=⟨e.keep,e.ok.1,e.ok.2⟩;obtain⟨v,n,B,C⟩:=hd t (by simp) (b.key f s) j;have g:=hc t (by simp) (b.key f s) j a.ok;obtain⟨l,kvs,vs,o,z,A,y⟩:=Kl f r ks (by simpa using hk) (fun t ht=>hd t (by simp [ht])) (fun t ht=>hc t (by simp [ht])) (Bd.calls f t (b.key f s)) B.2 g.ok;have p:Bd.callsM f (s::ks) (t::r) b=Bd.callsM f ks r (Bd.calls f t (b.key f s)):=by rw [Bd.callsM];rfl
  rw [p];refine⟨(a.trans g).trans l,(b.put f s).2::kvs,v::vs,by rw [o,n,m];simp [Fc],by simp [z],by simp [A],fun i x v' hx hv=>?_⟩;cases i with
  |zero=>
   simp only [List.getElem?_cons_zero,Option.some.injEq] at hx hv;subst hx hv;exact⟨k.1,(g.trans l).keep _ _ k.2⟩
  |succ i=>
   simp only [List.getElem?_cons_succ] at hx hv;exact y i x v' hx hv
theorem Z8(f:Nat)(ks:List (List UInt8))(start:Nat)(b:Bd)(h:Ic b)(hl:b.b.length≤(b.endMap f ks start).b.length):Er b (b.endMap f ks start):=by
 refine Er.same h ?_ ?_ hl
 ·unfold Bd.endMap;simp only [];split <;>rfl
 ·unfold Bd.endMap;simp only [];split <;>rfl
theorem N9(f:Nat)(t:Tr)(h:Ok t):∀b,Dh b→Ic b→Er b (Bd.calls f t b):=by
 induction h with
 |leaf n u s ks c h1 h2=>
  intro b a d;rename_i k;have e:Bd.calls f (.mk k n u s ks c) b=b.leaf f k n u s:=by
   rw [Bd.calls,if_neg (by omega),if_neg (by omega),if_pos h2]
  rw [e];exact jX f n u s h1 h2 b a d
 |flat n u s ks c h1 h2=>
  intro b a d;rename_i k;have e:Bd.calls f (.mk k n u s ks c) b=b.flat f k c:=by
   rw [Bd.calls,if_neg (by omega),if_neg (by omega),if_neg (by omega)]
  rw [e];exact jP f k c b d
 |vec n u s ks hd ih=>
  intro b a d;rename_i c;have e:Bd.calls f (.mk 10 n u s ks c) b=(Bd.callsL f c b).endVec b.s.length:=by rw [Bd.calls,if_pos rfl]
  rw [e];have h1:=Mu f c (fun t ht=>Ey f t (hd t ht)) ih b a d;have h2:Ic { Bd.callsL f c b with s:=(Bd.callsL f c b).s.take b.s.length}:=⟨h1.ok.1,h1.ok.2⟩;have h3:=R3 10 true true ((Bd.callsL f c b).s.drop b.s.length) _ h2;exact h1.trans ⟨h3.keep,h3.ok⟩
 |map n u s hl h0 hd ih=>
  intro b a d;rename_i c ks;have e:Bd.calls f (.mk 17 n u s ks c) b=(Bd.callsM f ks c b).endMap f ks b.s.length:=by
   rw [Bd.calls,if_neg (by omega),if_pos rfl]
  obtain⟨g,vs,l,j,o,i,m⟩:=Jd f c ks hl (fun t ht=>Ey f t (hd t ht)) b a;obtain⟨_,_,_,_,p,_⟩:=U3 f ks b.s (Bd.callsM f ks c b) g vs o.2 l (by rw [i.1,j,hl]) h0 i (Qg j m);have h1:=(Kl f c ks hl (fun t ht=>Ey f t (hd t ht)) ih b a d).1;rw [e];exact h1.trans (Z8 f ks b.s.length _ h1.ok p.len)
end
end Go.Proofs.YtejpbijeifjdeaaGreat
