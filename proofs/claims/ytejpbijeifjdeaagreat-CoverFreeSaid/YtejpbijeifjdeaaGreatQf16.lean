/- Parts of the proof. -/
import Derived.Test.YtejpbijeifjdeaaGreatQf13
import Derived.Shelf.Strings.BuilderK
import Derived.Ground.NamesProg
set_option maxHeartbeats 4000000
set_option maxRecDepth 100000
open Go.Value renaming int→Aa
open Go.IntKind renaming i64→Ab,u64→Ac
open Nat renaming le_refl→Ae,lt_of_lt_of_le→Ax
open Go.RowKit.Below renaming refl→Af
open List renaming getElem?_eq_getElem→Ag,length_append→Ah,getD_eq_getElem?_getD→Be
open Go.Proofs.Tryz
open Go.Proofs.Tryz renaming prog→Ad
namespace Go.Proofs.YtejpbijeifjdeaaGreat
variable {I:Nat→Prop}{w:World}{o:Nat→Nat}{n i:Nat}
section
open Go.RowKit Go.Acc
theorem Dv{w':World}{o':Nat→Nat}(h:To I w o w' o'){p:Addr}{v:Value}(hc:w.cell? p=some v)(hI:¬I (o p.block)):w'.cell? p=some v:=
 (h.fr.cell (B3 hc) hI).trans hc
theorem Pw(M:Bp)(fl:Int)(b:Bd)(kv:Bv)(i bx bi bv:Nat)(A:Option Addr)(n c:Nat)(vs:List Bv)(w:World)(o:Nat→Nat)(h:BM M fl w o b)(hx:Bk w bx 104 #[Afh M.β])(hi:Bk w bi 3 #[Aa Ab (i:Int)])(hv':Bk w bv 144 #[.slice A n c])(hox:o bx=0)(hoi:o bi≠1)(hov:o bv=0)
  (hv:Fh w A n (vs.map vv)) (ho:∀ad,A=some ad→ad.block<w.heap.size∧o ad.block=0) (hki:b.vals[i]?=some kv) (hs:b.s.length<65536) (hok:E5 vs b.b) (hkt:kv.t=14) (hkw:Bz (kv.w:Int)=true) (hkf:Eu b.b.length kv):
  Calls Ad 288 #[Afh bx,Afh bi,Afh bv] w (Dq M fl { b with b:=(Ef kv vs b.b).1,s:=b.s++ [(Ef kv vs b.b).2]} w o):=by
 obtain⟨A8,m8,c8,ae,af,O,a4⟩:=h.head;have bq:b.vals.length=m8:=by have:=af.is.1;simpa using this
 have bp:i<m8:=by have:=(List.getElem?_eq_some_iff.1 hki).1;omega
 obtain⟨g,j,kv',e8,v,I,J,K⟩:=Ia af.is bp;obtain rfl:kv=kv':=by rw [hki] at v;injection v
 subst e8;have a3:o g=8:=O _ rfl;have hA:=(Af w.heap.size w).alloc (Ae _) (.cells #[Aa Ab 0,Aa Ab 0,Aa Ac 0] 169);have l:=hA.drew;have ab:=h.fresh l 9;have aa:=Hd (show Bk (w.alloc (.cells #[Aa Ab 0,Aa Ab 0,Aa Ac 0] 169)).drew w.heap.size 169 #[Aa Ab 0,Aa Ab 0,Aa Ac 0] from Bk.new _ _ _);have W:=Hd (show Br o w.heap.size 9 w.heap.size=9 from Bt (Ae _));have aq:=Hd (To.fresh Dd l o 9);have HM:=Hd ab;have HS:=Hd hs;have T:=Hd (hx.pure l);have S:=Hd (hx.pure ((Af w.heap.size w).drew));have d:=Hd (And.intro hox (And.intro hoi (And.intro hov (And.intro a4 a3))));have ao:=Hd h.drew;have Y:=Hd (Zp M.bb n c A vs kv b.b w.drew o h.drew.buf (hv.pure (Af w.heap.size w).drew) (fun ad e=>⟨(ho ad e).1,by rw [(ho ad e).2];omega⟩) hok hkt hkw hkf);have HP:=Hd (Zp M.bb n c A vs kv b.b (w.alloc (.cells #[Aa Ab 0,Aa Ab 0,Aa Ac 0] 169)).drew (Br o w.heap.size 9) ab.buf (hv.pure l) (fun ad e=>⟨Ax (ho ad e).1 l.size,by rw [B4 (ho ad e).1,(ho ad e).2];omega⟩) hok hkt hkw hkf);have k:w.cell? ⟨bx,0,none⟩=some (Afh M.β):=hx.cell 0;have E:w.cell? ⟨bi,0,none⟩=some (Aa Ab (i:Int)):=hi.cell 0;have F:w.cell? ⟨bv,0,none⟩=some (.slice A n c):=hv'.cell 0;have G:w.cell? ⟨M.β,0,none⟩=some (Afh M.bb):=ae.cell 0;have H:w.cell? ⟨M.β,8,none⟩=some (.slice (some ⟨g,j,none⟩) m8 c8):=ae.cell 8;have n0:bx≠w.heap.size:=Nat.ne_of_lt (B3 k);have D:bx<w.heap.size:=B3 k;have n1:bi≠w.heap.size:=Nat.ne_of_lt (B3 E);have a5:bi<w.heap.size:=B3 E;have n3:bv≠w.heap.size:=Nat.ne_of_lt (B3 F);have a6:bv<w.heap.size:=B3 F;have n4:M.β≠w.heap.size:=Nat.ne_of_lt (B3 G);have a7:M.β<w.heap.size:=B3 G;have n8:M.β≠w.heap.size:=Nat.ne_of_lt (B3 H);have a8:M.β<w.heap.size:=B3 H;have na:g≠w.heap.size:=Nat.ne_of_lt (B3 I);have a9:g<w.heap.size:=B3 I;have nb:g≠w.heap.size:=Nat.ne_of_lt (B3 J);have ba:g<w.heap.size:=B3 J;have nc:g≠w.heap.size:=Nat.ne_of_lt (B3 K);have bd:g<w.heap.size:=B3 K;have ce:(0:Int)≤(i:Int):=by omega
 have bu:(i:Int)<(m8:Int):=by omega
 obtain⟨r,hr⟩:∃r,Ef kv vs b.b=r:=⟨_,rfl⟩;rw [hr] at HP Y⊢;obtain⟨l',x⟩:=r;clear h hx hi hv' hox hoi hov hv ho hki hs hok hkt hkw hkf ae af O a4 a3 v hA l ab hr bq;go_enter func288,ntmps288;go_wp2_with fail;go_cut [3,4] (fun u4 u5 wx=>∃wy,wy=wx∧u5= Aa Ab 0∧∃b4 o4,u4= Afh b4∧BM M fl wx o4 { b with b:=l'}∧Bk wx bx 104 #[Afh M.β]∧o4 bx=0∧Bk wx b4 169 #[Aa Ab (x.t:Int),Aa Ab (x.w:Int),Aa Ac (x.n:Int)]∧o4 b4=9∧To Dd w o wx o4)
 case first=>
  go_region_held3 (fun w'=>w'.cell? ⟨bx,0,none⟩=some (Afh M.β)∧w'.cell? ⟨bi,0,none⟩=some (Aa Ab (i:Int))∧w'.cell? ⟨bv,0,none⟩=some (.slice A n c)∧w'.cell? ⟨M.β,0,none⟩=some (Afh M.bb)∧w'.cell? ⟨M.β,8,none⟩=some (.slice (some ⟨g,j,none⟩) m8 c8)∧w'.cell? ⟨g,j+i*3,none⟩=some (Aa Ab (kv.t:Int))∧w'.cell? ⟨g,j+i*3+1,none⟩=some (Aa Ab (kv.w:Int))∧w'.cell? ⟨g,j+i*3+2,none⟩=some (Aa Ac (kv.n:Int))) (first|with_reducible exact⟨k,E,F,G,H,I,J,K⟩|with_reducible exact⟨Bj k,Bj E,Bj F,Bj G,Bj H,Bj I,Bj J,Bj K⟩|with_reducible exact⟨Bs _ k,Bs _ E,Bs _ F,Bs _ G,Bs _ H,Bs _ I,Bs _ J,Bs _ K⟩|with_reducible exact⟨Bj (Bs _ k),Bj (Bs _ E),Bj (Bs _ F),Bj (Bs _ G),Bj (Bs _ H),Bj (Bs _ I),Bj (Bs _ J),Bj (Bs _ K)⟩|with_reducible exact⟨P,Q,R,y4,y8,ya,yb,yc⟩|with_reducible exact⟨Bs _ P,Bs _ Q,Bs _ R,Bs _ y4,Bs _ y8,Bs _ ya,Bs _ yb,Bs _ yc⟩|with_reducible exact⟨Fo (Bs _ P) p0,Fo (Bs _ Q) p1,Fo (Bs _ R) p3,Fo (Bs _ y4) p4,Fo (Bs _ y8) p8,Fo (Bs _ ya) pa,Fo (Bs _ yb) pb,Fo (Bs _ yc) pc⟩|with_reducible exact⟨Fo P n0,Fo Q n1,Fo R n3,Fo y4 n4,Fo y8 n8,Fo ya na,Fo yb nb,Fo yc nc⟩) (first|(go_at_call 289;(with_reducible refine HP.o.mono ?_);rintro e f ⟨rfl,o1,q,a⟩;have u:=HM.o.buf_ a q;have P:f.cell? ⟨bx,0,none⟩=some (Afh M.β):=Dv a (Bs _ k) (by rw [B4 D,d.o.1];omega);have Q:f.cell? ⟨bi,0,none⟩=some (Aa Ab (i:Int)):=Dv a (Bs _ E) (by rw [B4 a5];exact d.o.2.1);have R:f.cell? ⟨bv,0,none⟩=some (.slice A n c):=Dv a (Bs _ F) (by rw [B4 a6,d.o.2.2.1];omega);have y4:f.cell? ⟨M.β,0,none⟩=some (Afh M.bb):=Dv a (Bs _ G) (by rw [B4 a7,d.o.2.2.2.1];omega);have y8:f.cell? ⟨M.β,8,none⟩=some (.slice (some ⟨g,j,none⟩) m8 c8):=Dv a (Bs _ H) (by rw [B4 a8,d.o.2.2.2.1];omega);have ya:f.cell? ⟨g,j+i*3,none⟩=some (Aa Ab (kv.t:Int)):=Dv a (Bs _ I) (by rw [B4 a9,d.o.2.2.2.2];omega);have yb:f.cell? ⟨g,j+i*3+1,none⟩=some (Aa Ab (kv.w:Int)):=Dv a (Bs _ J) (by rw [B4 ba,d.o.2.2.2.2];omega);have yc:f.cell? ⟨g,j+i*3+2,none⟩=some (Aa Ac (kv.n:Int)):=Dv a (Bs _ K) (by rw [B4 bd,d.o.2.2.2.2];omega);have C:=aa.o.to_ a (by rw [W.o];omega);obtain ⟨f0,f1,f2⟩:=C.f3;obtain ⟨z0,z1,z2⟩:=C.c3;have X:=Hd (show o1 w.heap.size=9 from(a.ow _ aa.o.lt).trans W.o);have bo:=Hd C;have V:=Hd u;have y:=Hd (T.o.to_ a (by rw [B4 D,d.o.1];omega));have z:=Hd (show o1 bx=0 from(a.ow _ T.o.lt).trans ((B4 D).trans d.o.1));have Z:=Hd (aq.o.trans (a.mono fun _ h=>Jj h));clear q a u C)|(go_at_call 289;(with_reducible refine Y.o.mono ?_);rintro e f ⟨rfl,o1,q,a⟩;have u:=ao.o.buf_ a q;have P:f.cell? ⟨bx,0,none⟩=some (Afh M.β):=Dv a k (by rw [d.o.1];omega);have Q:f.cell? ⟨bi,0,none⟩=some (Aa Ab (i:Int)):=Dv a E (by exact d.o.2.1);have R:f.cell? ⟨bv,0,none⟩=some (.slice A n c):=Dv a F (by rw [d.o.2.2.1];omega);have y4:f.cell? ⟨M.β,0,none⟩=some (Afh M.bb):=Dv a G (by rw [d.o.2.2.2.1];omega);have y8:f.cell? ⟨M.β,8,none⟩=some (.slice (some ⟨g,j,none⟩) m8 c8):=Dv a H (by rw [d.o.2.2.2.1];omega);have ya:f.cell? ⟨g,j+i*3,none⟩=some (Aa Ab (kv.t:Int)):=Dv a I (by rw [d.o.2.2.2.2];omega);have yb:f.cell? ⟨g,j+i*3+1,none⟩=some (Aa Ab (kv.w:Int)):=Dv a J (by rw [d.o.2.2.2.2];omega);have yc:f.cell? ⟨g,j+i*3+2,none⟩=some (Aa Ac (kv.n:Int)):=Dv a K (by rw [d.o.2.2.2.2];omega);have p0:bx≠f.heap.size:=Nat.ne_of_lt (B3 P);have p1:bi≠f.heap.size:=Nat.ne_of_lt (B3 Q);have p3:bv≠f.heap.size:=Nat.ne_of_lt (B3 R);have p4:M.β≠f.heap.size:=Nat.ne_of_lt (B3 y4);have p8:M.β≠f.heap.size:=Nat.ne_of_lt (B3 y8);have pa:g≠f.heap.size:=Nat.ne_of_lt (B3 ya);have pb:g≠f.heap.size:=Nat.ne_of_lt (B3 yb);have pc:g≠f.heap.size:=Nat.ne_of_lt (B3 yc);have V:=Hd u;have y:=Hd (S.o.to_ a (by rw [d.o.1];omega));have z:=Hd (show o1 bx=0 from(a.ow _ S.o.lt).trans d.o.1);have Z:=Hd (a.from_drew.mono fun _ h=>Jj h);clear q a u))
  all_goals
   go_wp2_with fail;go_meet
  all_goals
   first
   |exact⟨_,rfl,rfl,w.heap.size,o1,rfl,V.o.to_ (zP X.o _ _ _) O5,y.o.to_ (zP X.o _ _ _) (by rw [z.o];decide),z.o,((bo.o.set_ 0 (Aa Ab (x.t:Int))).set_ 1 (Aa Ab (x.w:Int))).set_ 2 (Aa Ac (x.n:Int)),X.o,((Z.o.set_new (p:=⟨w.heap.size,0,none⟩) (Ae _) _).set_new (p:=⟨w.heap.size,1,none⟩) (Ae _) _).set_new (p:=⟨w.heap.size,2,none⟩) (Ae _) _⟩
   |exact⟨_,rfl,rfl,f.heap.size,Br o1 f.heap.size 9,rfl,V.o.fresh ((Af f.heap.size f).alloc (Ae _) _) 9,y.o.pure ((Af f.heap.size f).alloc (Ae _) _),(B4 y.o.lt).trans z.o,Bk.new _ _ _,Bt (Ae _),Z.o.trans (To.fresh Dd ((Af f.heap.size f).alloc (Ae _) _) o1 9)⟩
 case rest=>
  obtain⟨w4,rfl,rfl,b4,o4,rfl,aw,av,N,a1,az,a0⟩:=hcut;have bf:=Hd aw;have U:=Hd av;have L:=Hd N;have ar:=Hd a1;have ap:=Hd az;have bl:=Hd a0;clear aw av N a1 az a0 k n0 D E n1 a5 F n3 a6 G n4 a7 H n8 a8 I na a9 J nb ba K nc bd HM HP Y ao aa W aq T S d;have k:w4.cell? ⟨bx,0,none⟩=some (Afh M.β):=U.o.cell 0;go_wp2_with fail;go_at_call 131;refine(Iq bf.o).mono ?_;rintro e w5 ⟨rfl,o5,ax,m⟩;have bg:=Hd ax;have am:=Hd (U.o.to_ m (by rw [L.o];exact Cl));have an:=Hd (show o5 bx=0 from(m.ow _ U.o.lt).trans L.o);have au:=Hd (ar.o.to_ m (by rw [ap.o];exact fun h=>O5 9 h rfl));have bj:=Hd (show o5 b4=9 from(m.ow _ ar.o.lt).trans ap.o);have bm:=Hd (bl.o.trans m);clear ax m k;have k:w5.cell? ⟨bx,0,none⟩=some (Afh M.β):=am.o.cell 0;obtain ⟨v0,v1,v2⟩:=au.o.c3;go_wp2_with fail;go_region_held3 (fun w'=>w'.cell? ⟨bx,0,none⟩=some (Afh M.β)∧w'.cell? ⟨b4,0,none⟩=some (Aa Ab (x.t:Int))∧w'.cell? ⟨b4,1,none⟩=some (Aa Ab (x.w:Int))∧w'.cell? ⟨b4,2,none⟩=some (Aa Ac (x.n:Int))) (first|with_reducible exact⟨k,v0,v1,v2⟩|with_reducible exact⟨Bj k,Bj v0,Bj v1,Bj v2⟩|with_reducible exact⟨P,Q,y2,R⟩) (first|(go_at_call 203;(with_reducible refine(Nx M fl { b with b:=l'} x _ o5 bg.o.drew HS.o).mono ?_);rintro e w6 ⟨rfl,o6,ay,B⟩;have P:w6.cell? ⟨bx,0,none⟩=some (Afh M.β):=(am.o.to_ B.from_drew (by rw [an.o];exact Cl)).cell 0;have a2:=au.o.to_ B.from_drew (by rw [bj.o];exact fun h=>O5 9 h rfl);obtain ⟨Q,y2,R⟩:=a2.c3;have bh:=Hd ay;have bn:=Hd (bm.o.trans B.from_drew);clear ay B a2));go_wp2_with fail;go_end0;exact⟨rfl,o6,bh.o,bn.o⟩
theorem Z7{ops:Array Oper}{o:Oper}{a:Act}{K:Act→World→Prop}{Q:Exit→Act→World→Prop}{E:Prop}(hgd:o.guard=none)(s x:Operand)
  (ho:o.op= .call { callee:= .builtin .append,args:=#[s,x],argTypes:=#[144,144]})
  (B:Nat) (A:Option Addr) (n c:Nat) (l:List V3) (hs:a.eval s= .slice A n c) (hown:Gg w B A n c l)
  (A2:Option Addr) (m d:Nat) (l2:List V3) (hx:a.eval x= .slice A2 m d) (hr:Fh w A2 m l2)
  (hbytes:n+m≤1099511627776) (hbase:B≤w.heap.size)
  (h:∀A' c' w',Gg w' B A' (n+m) c' (l++l2)→Fr (fun k=>∃ad,A=some ad∧k=ad.block) w w'→(A'.map (·.block)=A.map (·.block)∨A'.map (·.block)=some w.heap.size)→K (a.put o.dst (.slice A' (n+m) c')) w'):
  if Region.wanted o (yielded ops a.tmps)=true then Oper.wp Ad o a w K Q else E:=by
 have t:Region.wanted o (yielded ops a.tmps)=true:=by simp [Region.wanted,hgd]
 rw [if_pos t];obtain⟨i,p,u,b,j⟩:=info_parts Lr;have q:n+m≤maxLen:=by simp only [maxLen];omega
 obtain⟨v,w',g,h2,h3,e⟩:=No (P:=Ad) w B 144 o.type 169 i _ 3 24 underlying144 p u b j rfl (by omega) (.slice A n c) n (l.flatMap vc) hown.2 A2 m d (l2.flatMap vc) (by rw [Cm Ij,hr.1]) hr.2 (Sv L8 l2) q (by omega) hbase;obtain⟨A',c',rfl,f⟩:=Own.mk Ij (by omega) (l:=l++l2) h2 List.flatMap_append.symm;have r:=h A' c' w' f ((Fr.of_grown h3).mono fun i _ hi=>by
  cases A with
  |none=>simp [Value.ownBlock] at hi
  |some ad=>simp [Value.ownBlock] at hi;exact⟨ad,rfl,hi⟩) (by
  rcases e with e|e
  ·left;revert e;cases A' <;>cases A <;>simp [Value.ownBlock]
  ·right;revert e;cases A' <;>simp [Value.ownBlock])
 clear h f h2 h3 e;unfold Oper.wp;simp only [execOp,ho,resolve,invoke,builtin,Sem.run_bind,Sem.run_pure,Result.andThen_ok,List.map_toArray,List.map_cons,List.map_nil,hs,hx,g];exact r
theorem dO{M:Bp}{fl:Int}{W0 W1:World}{vals:List Bv}{A A':Option Addr}{c c':Nat}{v:Bv}(hb:Bk w M.β 148 #[Afh M.bb,Afh M.sb,Aa Ab 0,Aa Ab fl,Afh M.kb,Afh M.tb,Afh M.lb,.map (some M.mb),.slice A n c,.bool true])(h0:Gg w 0 A n c (vals.map vv))(hof:Of o A 8)(hβ:o M.β=2)(hW:Below w.heap.size w W0)
  (hown:Gg W1 0 A' (n+1) c' (vals.map vv++ [vv v])) (hfr:Fr (fun k=>∃ad,A=some ad∧k=ad.block) W0 W1) (hat:A'.map (·.block)=A.map (·.block)∨A'.map (·.block)=some W0.heap.size):
  Hl M fl (W1.setCell ⟨M.β,8,none⟩ (.slice A' (n+1) c')) (Br o w.heap.size 8) (vals++ [v])∧To (fun i=>i=2∨i=8) w o (W1.setCell ⟨M.β,8,none⟩ (.slice A' (n+1) c')) (Br o w.heap.size 8):=by
 have f:∀ad,A=some ad→M.β≠ad.block:=fun ad e h=>by
  have h1:=hof ad e;rw [←h,hβ] at h1;omega
 have d:Bk W1 M.β 148 #[Afh M.bb,Afh M.sb,Aa Ab 0,Aa Ab fl,Afh M.kb,Afh M.tb,Afh M.lb,.map (some M.mb),.slice A n c,.bool true]:=(hb.pure hW).fr hfr (by rintro⟨ad,e,h⟩;exact f ad e h);have a:Of (Br o w.heap.size 8) A' 8:=by
  intro ad e;subst e;rcases hat with e|e
  ·cases A with
   |none=>cases e
   |some a0=>
    injection e with e
    have e:ad.block=a0.block:=e;rw [e,B4 (h0.addr a0 rfl).2.2];exact hof a0 rfl
  ·injection e with e
   have e:ad.block=W0.heap.size:=e;rw [e,Bt hW.size]
 have b:Br o w.heap.size 8 M.β=2:=by rw [B4 hb.lt];exact hβ
 refine⟨⟨A',n+1,c',d.set_ 8 (.slice A' (n+1) c'),?_,a,b⟩,?_⟩
 ·rw [List.map_append];refine hown.fr (Fr.setCell (S:=fun k=>k=M.β) (Fr.refl _ W1) (fun _=>rfl) _) ?_;intro ad e h;have h1:=a ad e;have h2:ad.block=M.β:=h;rw [h2,b] at h1;omega
 ·have g:To (fun i=>i=2∨i=8) w o W1 (Br o w.heap.size 8):=by
   refine⟨(Fr.of_below hW _).trans hfr ?_,fun k hk=>B4 hk⟩;rintro k _ ⟨ad,e,rfl⟩;exact .inr (hof ad e)
  exact g.trans (To.of_fr0 (Fr.setCell (S:=fun k=>k=M.β) (Fr.refl _ W1) (p:=⟨M.β,8,none⟩) (fun _=>rfl) _) (by rintro k _ rfl;exact .inl b))
def Bd.table(f:Nat)(list:List UInt8)(ks vs:List Bv)(b:Bd):Bd:=
 match(if Fq f 4=true then Cf b.lists list else none) with
 |some i=>let x:=Ef (b.vals.getD i ⟨0,0,0⟩) vs b.b;{ b with b:=x.1,s:=b.s++ [x.2]}
 |none=>
  let y:=Cd 14 true false ks b.b
  let x:=Ef y.2 vs y.1
  { b with b:=x.1,s:=b.s++ [x.2],vals:=b.vals++ [y.2],lists:=Fu b.lists list b.vals.length}
theorem dD(f:Nat)(keys:List (List UInt8))(start:Nat)(b:Bd):b.endMap f keys start=Bd.table f (Dg keys) (Lp (b.s.drop start)) (Re (b.s.drop start)) { b with s:=b.s.take start}:=rfl
theorem yL(f:Nat)(list:List UInt8)(ks vs:List Bv)(b:Bd)(g:Option Nat)(q:Bool)(hg:Cf b.lists list=g)(hq:Fq f 4=q):Bd.table f list ks vs b=match(if q=true then g else none) with
 |some i=>let x:=Ef (b.vals.getD i ⟨0,0,0⟩) vs b.b;{ b with b:=x.1,s:=b.s++ [x.2]}
 |none=>
  let y:=Cd 14 true false ks b.b
  let x:=Ef y.2 vs y.1
  { b with b:=x.1,s:=b.s++ [x.2],vals:=b.vals++ [y.2],lists:=Fu b.lists list b.vals.length}:=by
 unfold Bd.table;rw [hg,hq]
structure lU(list:List UInt8)(ks vs:List Bv)(b:Bd):Prop where
 kok:E5 ks b.b
 kel:∀v∈ks,v.t=4
 vok:E5 vs b.b
 vok2:E5 vs (Cd 14 true false ks b.b).1
 kw:Bz ((Cd 14 true false ks b.b).2.w:Int)=true
 kfit:Eu (Cd 14 true false ks b.b).1.length (Cd 14 true false ks b.b).2
 had:∀i,Cf b.lists list=some i→∃kv,b.vals[i]?=some kv∧kv.t=14∧Bz (kv.w:Int)=true∧Eu b.b.length kv
 ll:b.lists.length≤1048575
 vl:b.vals.length≤1048576
 st:b.s.length<65536
theorem zE(h:i=6):Dd i:=by subst h;exact⟨by omega,by omega⟩
theorem pS(h:i=2∨i=8):Dd i:=by rcases h with rfl|rfl <;>exact⟨by omega,by omega⟩
structure R9(M:Bp)(A:Option Addr)(n c:Nat)(vs:List Bv)(bx bv bi i:Nat)(w:World)(o:Nat→Nat):Prop where
 x:Bk w bx 104 #[Afh M.β]
 v:Bk w bv 144 #[.slice A n c]
 i:Bk w bi 3 #[Aa Ab (i:Int)]
 ox:o bx=0
 ov:o bv=0
 oi:o bi=9
 iv:Fh w A n (vs.map vv)
 oa:∀ad,A=some ad→ad.block<w.heap.size∧o ad.block=0
section
variable {M:Bp} {A:Option Addr} {n c:Nat} {vs:List Bv} {bx bv bi i:Nat} {w w':World} {o o':Nat→Nat}
theorem R9.to_(h:R9 M A n c vs bx bv bi i w o)(ht:To I w o w' o')(h0:¬I 0)(h9:¬I 9):R9 M A n c vs bx bv bi i w' o':=
 ⟨h.x.to_ ht (by rw [h.ox];exact h0),h.v.to_ ht (by rw [h.ov];exact h0),h.i.to_ ht (by rw [h.oi];exact h9),(ht.ow _ h.x.lt).trans h.ox,(ht.ow _ h.v.lt).trans h.ov,(ht.ow _ h.i.lt).trans h.oi,
  h.iv.fr ht.fr (fun ad e=>by rw [(h.oa ad e).2];exact h0),fun ad e=>⟨Ax (h.oa ad e).1 ht.size,(ht.ow _ (h.oa ad e).1).trans (h.oa ad e).2⟩⟩
theorem R9.set(h:R9 M A n c vs bx bv bi i w o)(j:Nat):R9 M A n c vs bx bv bi j (w.setCell ⟨bi,0,none⟩ (Aa Ab (j:Int))) o:=by
 have ht:=Ld (w:=w) (p:=⟨bi,0,none⟩) h.oi (Aa Ab (j:Int));exact⟨h.x.to_ ht (by rw [h.ox];decide),h.v.to_ ht (by rw [h.ov];decide),h.i.set_ 0 _,h.ox,h.ov,h.oi,h.iv.fr ht.fr (fun ad e=>by rw [(h.oa ad e).2];decide),fun ad e=>⟨Ax (h.oa ad e).1 ht.size,(h.oa ad e).2⟩⟩
theorem R9.cells(h:R9 M A n c vs bx bv bi i w o):w.cell? ⟨bx,0,none⟩=some (Afh M.β)∧w.cell? ⟨bv,0,none⟩=some (.slice A n c)∧w.cell? ⟨bi,0,none⟩=some (Aa Ab (i:Int)):=⟨h.x.cell 0,h.v.cell 0,h.i.cell 0⟩
end
theorem zK:¬Dd 9:=by rintro⟨h1,h2⟩;omega
theorem oQ(M:Bp)(fl:Int)(b:Bd)(list:List UInt8)(AK:Option Addr)(nk ck:Nat)(ks:List Bv)(A:Option Addr)(n c:Nat)(vs:List Bv)(w:World)(o:Nat→Nat)(h:BM M fl w o b)
  (hK:Fh w AK nk (ks.map vv)) (hKo:∀ad,AK=some ad→ad.block<w.heap.size∧o ad.block=0) (hv:Fh w A n (vs.map vv)) (ho:∀ad,A=some ad→ad.block<w.heap.size∧o ad.block=0) (hT:lU list ks vs b):
  Calls Ad 208 #[Afh M.β,.string ⟨list.toArray⟩,.slice AK nk ck,.slice A n c] w (Dq M fl (Bd.table (bits fl) list ks vs b) w o):=by
 obtain⟨g,hg⟩:∃g,Cf b.lists list=g:=⟨_,rfl⟩;obtain⟨q,hq⟩:∃q,Fq (bits fl) 4=q:=⟨_,rfl⟩;have HE:=Hd (yL (bits fl) list ks vs b g q hg hq);have HQ:=Hd hq;obtain⟨gv,cj⟩:∃v,g.getD 0=v:=⟨_,rfl⟩;obtain⟨ci,bn⟩:∃v,g.isSome=v:=⟨_,rfl⟩;have HG:=Hd (show Vk (Cf b.lists list)= .tuple #[Aa Ab (gv:Int),.bool ci] by rw [hg];unfold Vk;rw [cj,bn]);have c7:=Hd (And.intro cj bn);have S:=Hd hT;have c4:=Hd (fun i=>(hg▸hT.had i:g=some i→_));have da:=Hd (show b.lists.length≤1048576 by have:=hT.ll;omega);obtain⟨y,hy⟩:∃y,Cd 14 true false ks b.b=y:=⟨_,rfl⟩;have HY:=Hd hy;obtain⟨yb,d⟩:=y;have hB:Below w.heap.size w ((w.alloc (.cells #[Afh M.β] 104)).alloc (.cells #[.slice A n c] 144)):=Bu w _ _;have az:=Hd (h.fresh hB 0);have bu:=Hd (To.fresh Dd hB o 0);have ap:=Hd (And.intro (hK.pure hB) (fun ad e=>⟨Ax (hKo ad e).1 hB.size,(B4 (hKo ad e).1).trans (hKo ad e).2⟩:∀ad,AK=some ad→ad.block<_∧Br o w.heap.size 0 ad.block=0));have l:=Hd (show Bk ((w.alloc (.cells #[Afh M.β] 104)).alloc (.cells #[.slice A n c] 144)) w.heap.size 104 #[Afh M.β]∧Bk ((w.alloc (.cells #[Afh M.β] 104)).alloc (.cells #[.slice A n c] 144)) (w.heap.size+1) 144 #[.slice A n c]∧Br o w.heap.size 0 w.heap.size=0∧Br o w.heap.size 0 (w.heap.size+1)=0∧Fh ((w.alloc (.cells #[Afh M.β] 104)).alloc (.cells #[.slice A n c] 144)) A n (vs.map vv)∧(∀ad,A=some ad→ad.block<((w.alloc (.cells #[Afh M.β] 104)).alloc (.cells #[.slice A n c] 144)).heap.size∧Br o w.heap.size 0 ad.block=0) from
  ⟨(Bk.new w 104 #[Afh M.β]).alloc _,Db w _ 144 #[.slice A n c],Bt (Ae _),Bt (by omega),hv.pure hB,fun ad e=>⟨Ax (ho ad e).1 hB.size,(B4 (ho ad e).1).trans (ho ad e).2⟩⟩)
 clear h hK hKo hv ho hT hg hq cj bn hy hB;go_enter func208,ntmps208;go_upto_region 1 with fail
 generalize (w.alloc (.cells #[Afh M.β] 104)).alloc (.cells #[.slice A n c] 144)=w1 at az bu ap l⊢;generalize Br o w.heap.size 0=o1 at az bu ap l;generalize w.heap.size+1=bv at l⊢;generalize w.heap.size=bx at l⊢;have m:w1.cell? ⟨bx,0,none⟩=some (Afh M.β):=l.o.1.cell 0;obtain⟨_,_,_,_,b6,_⟩:=Dx az.o.head;go_wp2_with fail;go_at_call 280;refine(Tc 6 M.lb b.lists list _ o1 az.o.lists da.o).mono ?_;rintro e w2 ⟨rfl,hB⟩;rw [HG.o];have b5:=Hd (Nat.le_trans bu.o.size hB.size);have u:=(Af w2.heap.size w2).alloc (Ae _) (.cells #[Aa Ab (gv:Int)] 3);have P:=Bi hB u;have D:=Hd (az.o.fresh P 9);have a5:=Hd (bu.o.trans (To.fresh Dd P o1 9));have T:=Hd (And.intro (ap.o.1.pure P) (fun ad e=>⟨Ax (ap.o.2 ad e).1 P.size,(B4 (ap.o.2 ad e).1).trans (ap.o.2 ad e).2⟩:∀ad,AK=some ad→ad.block<_∧Br o1 w1.heap.size 9 ad.block=0));have j:=Hd (show R9 M A n c vs bx bv w2.heap.size gv (w2.alloc (.cells #[Aa Ab (gv:Int)] 3)) (Br o1 w1.heap.size 9) from
  ⟨l.o.1.pure P,l.o.2.1.pure P,Bk.new _ _ _,(B4 l.o.1.lt).trans l.o.2.2.1,(B4 l.o.2.1.lt).trans l.o.2.2.2.1,Bt hB.size,l.o.2.2.2.2.1.pure P,fun ad e=>⟨Ax (l.o.2.2.2.2.2 ad e).1 P.size,(B4 (l.o.2.2.2.2.2 ad e).1).trans (l.o.2.2.2.2.2 ad e).2⟩⟩)
 clear hB u P m b6;go_upto_region 2 with fail
 generalize w2.alloc (.cells #[Aa Ab (gv:Int)] 3)=w3 at D a5 T j⊢;generalize Br o1 w1.heap.size 9=o3 at D a5 T j;generalize w2.heap.size=bi at j b5⊢;obtain⟨b0,b3,_⟩:=Dx D.o.head;obtain⟨m,H,z⟩:=j.o.cells;obtain⟨hg,bz⟩:=c7.o;cases g with
 |none=>
  obtain rfl:ci=false:=by rw [←bz];rfl
  have HP:=Hd (show(if q=true then(none:Option Nat) else none)=none by split <;>rfl);clear hg bz;have c5:=Hd j.o;obtain⟨b0,_,_,_,b6,_⟩:=Dx D.o.head;obtain⟨m,H,z⟩:=j.o.cells;go_wp2_with fail;go_at_call 287;refine(Xd M.bb nk ck AK ks b.b _ o3 D.o.buf T.o.1 (fun ad e=>⟨(T.o.2 ad e).1,by rw [(T.o.2 ad e).2];omega⟩) S.o.kok S.o.kel).mono ?_;rintro e w4 ⟨rfl,o4,a9,Q⟩;have a0:=Hd (D.o.buf_ Q a9);have ay:=Hd (j.o.to_ Q (by omega) (by omega));have cc:=Hd (a5.o.trans (Q.mono fun _ h=>Jj h));clear a9 Q b0 b6 m H z;rw [HY.o] at a0⊢;obtain⟨m,H,z⟩:=ay.o.cells;have u:=(Af w4.heap.size w4).alloc (Ae _) (.cells #[Aa Ab (d.t:Int),Aa Ab (d.w:Int),Aa Ac (d.n:Int)] 169);have af:=Hd (a0.o.fresh u 0);have J:=Hd (ay.o.to_ (To.fresh Dd u o4 0) Cl zK);have ah:=Hd (cc.o.trans (To.fresh Dd u o4 0));have O:=Hd (Bk.new w4 169 #[Aa Ab (d.t:Int),Aa Ab (d.w:Int),Aa Ac (d.n:Int)]);have L:=Hd (show Br o4 w4.heap.size 0 w4.heap.size=0 from Bt (Ae _));have db:=Hd u;clear u;go_upto_region 4 with fail
  generalize w4.alloc (.cells #[Aa Ab (d.t:Int),Aa Ab (d.w:Int),Aa Ac (d.n:Int)] 169)=w5 at af J ah O⊢;generalize Br o4 w4.heap.size 0=o5 at af J ah L;generalize w4.heap.size=bk at O L⊢;clear m H z;obtain⟨m,H,z⟩:=J.o.cells;go_wp2_with fail;go_at_call 131;refine(Iq af.o).mono ?_;rintro e w6 ⟨rfl,o6,be,E⟩;have a1:=Hd be;have C:=Hd (J.o.to_ E Cl zK);have cg:=Hd (O.o.to_ E (by rw [L.o];exact Cl));have ag:=Hd (show o6 bk=0 from(E.ow _ O.o.lt).trans L.o);have cd:=Hd (ah.o.trans E);clear be E m H z;obtain⟨m,H,z⟩:=C.o.cells;obtain⟨A8,m8,c8,bl,bp,bq,cl⟩:=a1.o.head;have ao:b.vals.length=m8:=by have:=bp.is.1;simpa using this
  have bo:m8≤1048576:=by have:=S.o.vl;omega
  have y8:w6.cell? ⟨M.β,8,none⟩=some (.slice A8 m8 c8):=bl.cell 8;have fi:w6.frozen? ⟨bi,0,none⟩=false:=C.o.i.frozen 0;have a6:=Hd (cd.o.set_new (p:=⟨bi,0,none⟩) b5.o (Aa Ab (m8:Int)));have ab:=Hd (C.o.set m8);have K:=Hd (a1.o.to_ (Ld (p:=⟨bi,0,none⟩) C.o.oi (Aa Ab (m8:Int))) O5);have ai:=Hd (cg.o.to_ (Ld (p:=⟨bi,0,none⟩) C.o.oi (Aa Ab (m8:Int))) (by rw [ag.o];decide));go_upto_region 6 with fail
  generalize w6.setCell ⟨bi,0,none⟩ (Aa Ab (m8:Int))=w7 at ab K ai a6⊢;clear bl bp bq cl m H z y8 fi;obtain⟨m,H,z⟩:=ab.o.cells;obtain⟨_,_,_,_,b6,_⟩:=Dx K.o.head;go_region_held3 (fun w'=>w'.cell? ⟨bx,0,none⟩=some (Afh M.β)∧w'.cell? ⟨M.β,6,none⟩=some (Afh M.lb)∧w'.cell? ⟨bi,0,none⟩=some (Aa Ab (m8:Int))) (first|with_reducible exact⟨m,b6,z⟩|with_reducible exact⟨Bj m,Bj b6,Bj z⟩|with_reducible exact⟨y0,y6,y2⟩) (first|(go_at_call 282;(with_reducible refine(Nc 6 M.lb b.lists list m8 _ o6 K.o.drew.lists S.o.ll bo).mono ?_);rintro e B ⟨⟨x,rfl⟩,o8,ba,bg⟩;have f:=bg.from_drew;have aj:=ab.o.to_ f (by omega) (by omega);obtain⟨y0,_,y2⟩:=aj.cells;have ak:=K.o.lists_ f ba;obtain⟨_,_,_,_,y6,_⟩:=Dx ak.head;have a2:=Hd ak;have ae:=Hd aj;have a8:=Hd (ai.o.to_ f (by rw [ag.o];omega));have b8:=Hd (show o8 bk=0 from(f.ow _ ai.o.lt).trans ag.o);have ce:=Hd (a6.o.trans (f.mono fun _ h=>zE h));clear ba bg f aj ak));clear m H z b6;obtain⟨A9,G,c9,am,R,X,Z⟩:=a2.o.head;obtain rfl:G=m8:=by have:=R.is.1;rw [←ao];simpa using this.symm
  obtain ⟨k0,k1,k2⟩:=a8.o.c3;have y8:B.cell? ⟨M.β,8,none⟩=some (.slice A9 G c9):=am.cell 8;have al:Below B.heap.size B (B.alloc (.cells #[Aa Ab (d.t:Int),Aa Ab (d.w:Int),Aa Ac (d.n:Int)] 169)).drew:=((Af _ _).alloc (Ae _) _).drew;have N:=Hd al;have b7:=Hd (show Fh (B.alloc (.cells #[Aa Ab (d.t:Int),Aa Ab (d.w:Int),Aa Ac (d.n:Int)] 169)).drew (some ⟨B.heap.size,0,none⟩) 1 [vv d] from(Mk B d).pure (Af _ _).drew);have cb:=Hd (R.pure al);have ax:=Hd am;have b9:=Hd R;have r:=Hd X;have U:=Hd Z;have j0:(B.alloc (.cells #[Aa Ab (d.t:Int),Aa Ab (d.w:Int),Aa Ac (d.n:Int)] 169)).cell? ⟨bx,0,none⟩=some (Afh M.β):=Dk _ y0;have j8:(B.alloc (.cells #[Aa Ab (d.t:Int),Aa Ab (d.w:Int),Aa Ac (d.n:Int)] 169)).cell? ⟨M.β,8,none⟩=some (.slice A9 G c9):=Dk _ y8;have cm:(B.alloc (.cells #[Aa Ab (d.t:Int),Aa Ab (d.w:Int),Aa Ac (d.n:Int)] 169)).cell? ⟨bk,0,none⟩=some (Aa Ab (d.t:Int)):=Dk _ k0;have cn:(B.alloc (.cells #[Aa Ab (d.t:Int),Aa Ab (d.w:Int),Aa Ac (d.n:Int)] 169)).cell? ⟨bk,1,none⟩=some (Aa Ab (d.w:Int)):=Dk _ k1;have co:(B.alloc (.cells #[Aa Ab (d.t:Int),Aa Ab (d.w:Int),Aa Ac (d.n:Int)] 169)).cell? ⟨bk,2,none⟩=some (Aa Ac (d.n:Int)):=Dk _ k2;clear am R X Z al;go_wp2_with fail;go_cut [] (fun wx=>∃wy,wy=wx∧∃oA,BM M fl wx oA { b with b:=yb,vals:=b.vals++ [d],lists:=Fu b.lists list G}∧R9 M A n c vs bx bv bi G wx oA∧To Dd w o wx oA)
  case first=>
   go_region_law (refine Z7 rfl (.tmp 65) (.tmp 67) rfl 0 A9 G c9 (b.vals.map vv) rfl cb.o _ 1 1 [vv d] rfl b7.o (by omega) (Nat.zero_le _) ?_;intro AA ca W1 Y F bj;have hh:=dO ax.o b9.o r.o U.o N.o Y F bj;have bm:=(ae.o.x.pure N.o).fr F (by rintro⟨ad,e,h⟩;have h1:=r.o ad e;rw [←h,ae.o.ox] at h1;omega);have an:=(ax.o.pure N.o).fr F (by rintro⟨ad,e,h⟩;have h1:=r.o ad e;rw [←h,U.o] at h1;omega);have z0:W1.cell? ⟨bx,0,none⟩=some (Afh M.β):=bm.cell 0;have z8:W1.cell? ⟨M.β,8,none⟩=some (.slice A9 G c9):=an.cell 8;have f8:W1.frozen? ⟨M.β,8,none⟩=false:=an.frozen 8;have hk:=(a8.o.pure N.o).fr F (by rintro⟨ad,e,h⟩;have h1:=r.o ad e;rw [←h,b8.o] at h1;omega);obtain ⟨z1,z2,z3⟩:=hk.c3;have HH:=Hd hh;clear Y F bj hh bm an hk)
   all_goals
    go_wp2_with fail;go_meet;exact⟨_,rfl,_,a2.o.head_ HH.o.2 HH.o.1,ae.o.to_ HH.o.2 (by omega) (by omega),ce.o.trans (HH.o.2.mono fun _ h=>pS h)⟩
  case rest=>
   obtain⟨wA,rfl,oA,bf,bd,bh⟩:=hcut;have a3:=Hd bf;have k:=Hd bd;have cf:=Hd bh;have I:=Hd (show(b.vals++ [d])[G]?=some d∧b.s.length<65536∧E5 vs yb∧d.t=14∧Bz (d.w:Int)=true∧Eu yb.length d from
    ⟨by rw [List.getElem?_append_right (by omega),ao,Nat.sub_self];rfl,S.o.st,by have h:=S.o.vok2;rw [HY.o] at h;exact h,by have h:=HY.o;unfold Cd at h;injection h with _ h;rw [←h],by have h:=S.o.kw;rw [HY.o] at h;exact h,by have h:=S.o.kfit;rw [HY.o] at h;exact h⟩)
   clear bf bd bh y0 y2 y6 y8 k0 k1 k2 j0 j8 cm cn co;obtain⟨m,_,_⟩:=k.o.cells;go_wp2_with fail;go_at_call 193;refine(Ej M fl 288 _ _ _ ({ b with b:=yb,vals:=b.vals++ [d],lists:=Fu b.lists list G}).vals _ a3.o.head Tryz.call288 ((Pw M fl ({ b with b:=yb,vals:=b.vals++ [d],lists:=Fu b.lists list G}) d G bx bi bv A n c vs wA _ a3.o k.o.x k.o.i k.o.v k.o.ox (by rw [k.o.oi];decide) k.o.ov k.o.iv k.o.oa I.o.1 I.o.2.1 I.o.2.2.1 I.o.2.2.2.1 I.o.2.2.2.2.1 I.o.2.2.2.2.2).mono fun e w' h=>⟨h.1,h⟩)).mono ?_;rintro e w' ⟨rfl,oz,V,W⟩;have a4:=Hd V;have a7:=Hd (cf.o.trans W);clear V W;go_wp2_with fail;go_end0;refine⟨rfl,oz,?_,a7.o⟩;rw [HE.o];simp only [HP.o,HY.o,ao];exact a4.o
 |some a=>
  obtain rfl:ci=true:=by rw [←bz];rfl
  obtain rfl:gv=a:=by rw [←hg];rfl
  clear hg bz;go_wp2_with fail;go_at_call 281;refine(Yg M.β 4 2 fl q w3 b3 (by omega) rfl HQ.o).mono ?_;rintro e w' ⟨rfl,rfl⟩;cases q with
  |false=>
   have HP:=Hd (show(if false=true then some gv else none)=none from rfl);clear b0 b3 m H z;have c5:=Hd j.o;obtain⟨b0,_,_,_,b6,_⟩:=Dx D.o.head;obtain⟨m,H,z⟩:=j.o.cells;go_wp2_with fail;go_at_call 287;refine(Xd M.bb nk ck AK ks b.b _ o3 D.o.buf T.o.1 (fun ad e=>⟨(T.o.2 ad e).1,by rw [(T.o.2 ad e).2];omega⟩) S.o.kok S.o.kel).mono ?_;rintro e w4 ⟨rfl,o4,a9,Q⟩;have a0:=Hd (D.o.buf_ Q a9);have ay:=Hd (j.o.to_ Q (by omega) (by omega));have cc:=Hd (a5.o.trans (Q.mono fun _ h=>Jj h));clear a9 Q b0 b6 m H z;rw [HY.o] at a0⊢;obtain⟨m,H,z⟩:=ay.o.cells;have u:=(Af w4.heap.size w4).alloc (Ae _) (.cells #[Aa Ab (d.t:Int),Aa Ab (d.w:Int),Aa Ac (d.n:Int)] 169);have af:=Hd (a0.o.fresh u 0);have J:=Hd (ay.o.to_ (To.fresh Dd u o4 0) Cl zK);have ah:=Hd (cc.o.trans (To.fresh Dd u o4 0));have O:=Hd (Bk.new w4 169 #[Aa Ab (d.t:Int),Aa Ab (d.w:Int),Aa Ac (d.n:Int)]);have L:=Hd (show Br o4 w4.heap.size 0 w4.heap.size=0 from Bt (Ae _));have db:=Hd u;clear u;go_upto_region 4 with fail
   generalize w4.alloc (.cells #[Aa Ab (d.t:Int),Aa Ab (d.w:Int),Aa Ac (d.n:Int)] 169)=w5 at af J ah O⊢;generalize Br o4 w4.heap.size 0=o5 at af J ah L;generalize w4.heap.size=bk at O L⊢;clear m H z;obtain⟨m,H,z⟩:=J.o.cells;go_wp2_with fail;go_at_call 131;refine(Iq af.o).mono ?_;rintro e w6 ⟨rfl,o6,be,E⟩;have a1:=Hd be;have C:=Hd (J.o.to_ E Cl zK);have cg:=Hd (O.o.to_ E (by rw [L.o];exact Cl));have ag:=Hd (show o6 bk=0 from(E.ow _ O.o.lt).trans L.o);have cd:=Hd (ah.o.trans E);clear be E m H z;obtain⟨m,H,z⟩:=C.o.cells;obtain⟨A8,m8,c8,bl,bp,bq,cl⟩:=a1.o.head;have ao:b.vals.length=m8:=by have:=bp.is.1;simpa using this
   have bo:m8≤1048576:=by have:=S.o.vl;omega
   have y8:w6.cell? ⟨M.β,8,none⟩=some (.slice A8 m8 c8):=bl.cell 8;have fi:w6.frozen? ⟨bi,0,none⟩=false:=C.o.i.frozen 0;have a6:=Hd (cd.o.set_new (p:=⟨bi,0,none⟩) b5.o (Aa Ab (m8:Int)));have ab:=Hd (C.o.set m8);have K:=Hd (a1.o.to_ (Ld (p:=⟨bi,0,none⟩) C.o.oi (Aa Ab (m8:Int))) O5);have ai:=Hd (cg.o.to_ (Ld (p:=⟨bi,0,none⟩) C.o.oi (Aa Ab (m8:Int))) (by rw [ag.o];decide));go_upto_region 6 with fail
   generalize w6.setCell ⟨bi,0,none⟩ (Aa Ab (m8:Int))=w7 at ab K ai a6⊢;clear bl bp bq cl m H z y8 fi;obtain⟨m,H,z⟩:=ab.o.cells;obtain⟨_,_,_,_,b6,_⟩:=Dx K.o.head;go_region_held3 (fun w'=>w'.cell? ⟨bx,0,none⟩=some (Afh M.β)∧w'.cell? ⟨M.β,6,none⟩=some (Afh M.lb)∧w'.cell? ⟨bi,0,none⟩=some (Aa Ab (m8:Int))) (first|with_reducible exact⟨m,b6,z⟩|with_reducible exact⟨Bj m,Bj b6,Bj z⟩|with_reducible exact⟨y0,y6,y2⟩) (first|(go_at_call 282;(with_reducible refine(Nc 6 M.lb b.lists list m8 _ o6 K.o.drew.lists S.o.ll bo).mono ?_);rintro e B ⟨⟨x,rfl⟩,o8,ba,bg⟩;have f:=bg.from_drew;have aj:=ab.o.to_ f (by omega) (by omega);obtain⟨y0,_,y2⟩:=aj.cells;have ak:=K.o.lists_ f ba;obtain⟨_,_,_,_,y6,_⟩:=Dx ak.head;have a2:=Hd ak;have ae:=Hd aj;have a8:=Hd (ai.o.to_ f (by rw [ag.o];omega));have b8:=Hd (show o8 bk=0 from(f.ow _ ai.o.lt).trans ag.o);have ce:=Hd (a6.o.trans (f.mono fun _ h=>zE h));clear ba bg f aj ak));clear m H z b6;obtain⟨A9,G,c9,am,R,X,Z⟩:=a2.o.head;obtain rfl:G=m8:=by have:=R.is.1;rw [←ao];simpa using this.symm
   obtain ⟨k0,k1,k2⟩:=a8.o.c3;have y8:B.cell? ⟨M.β,8,none⟩=some (.slice A9 G c9):=am.cell 8;have al:Below B.heap.size B (B.alloc (.cells #[Aa Ab (d.t:Int),Aa Ab (d.w:Int),Aa Ac (d.n:Int)] 169)).drew:=((Af _ _).alloc (Ae _) _).drew;have N:=Hd al;have b7:=Hd (show Fh (B.alloc (.cells #[Aa Ab (d.t:Int),Aa Ab (d.w:Int),Aa Ac (d.n:Int)] 169)).drew (some ⟨B.heap.size,0,none⟩) 1 [vv d] from(Mk B d).pure (Af _ _).drew);have cb:=Hd (R.pure al);have ax:=Hd am;have b9:=Hd R;have r:=Hd X;have U:=Hd Z;have j0:(B.alloc (.cells #[Aa Ab (d.t:Int),Aa Ab (d.w:Int),Aa Ac (d.n:Int)] 169)).cell? ⟨bx,0,none⟩=some (Afh M.β):=Dk _ y0;have j8:(B.alloc (.cells #[Aa Ab (d.t:Int),Aa Ab (d.w:Int),Aa Ac (d.n:Int)] 169)).cell? ⟨M.β,8,none⟩=some (.slice A9 G c9):=Dk _ y8;have cm:(B.alloc (.cells #[Aa Ab (d.t:Int),Aa Ab (d.w:Int),Aa Ac (d.n:Int)] 169)).cell? ⟨bk,0,none⟩=some (Aa Ab (d.t:Int)):=Dk _ k0;have cn:(B.alloc (.cells #[Aa Ab (d.t:Int),Aa Ab (d.w:Int),Aa Ac (d.n:Int)] 169)).cell? ⟨bk,1,none⟩=some (Aa Ab (d.w:Int)):=Dk _ k1;have co:(B.alloc (.cells #[Aa Ab (d.t:Int),Aa Ab (d.w:Int),Aa Ac (d.n:Int)] 169)).cell? ⟨bk,2,none⟩=some (Aa Ac (d.n:Int)):=Dk _ k2;clear am R X Z al;go_wp2_with fail;go_cut [] (fun wx=>∃wy,wy=wx∧∃oA,BM M fl wx oA { b with b:=yb,vals:=b.vals++ [d],lists:=Fu b.lists list G}∧R9 M A n c vs bx bv bi G wx oA∧To Dd w o wx oA)
   case first=>
    go_region_law (refine Z7 rfl (.tmp 65) (.tmp 67) rfl 0 A9 G c9 (b.vals.map vv) rfl cb.o _ 1 1 [vv d] rfl b7.o (by omega) (Nat.zero_le _) ?_;intro AA ca W1 Y F bj;have hh:=dO ax.o b9.o r.o U.o N.o Y F bj;have bm:=(ae.o.x.pure N.o).fr F (by rintro⟨ad,e,h⟩;have h1:=r.o ad e;rw [←h,ae.o.ox] at h1;omega);have an:=(ax.o.pure N.o).fr F (by rintro⟨ad,e,h⟩;have h1:=r.o ad e;rw [←h,U.o] at h1;omega);have z0:W1.cell? ⟨bx,0,none⟩=some (Afh M.β):=bm.cell 0;have z8:W1.cell? ⟨M.β,8,none⟩=some (.slice A9 G c9):=an.cell 8;have f8:W1.frozen? ⟨M.β,8,none⟩=false:=an.frozen 8;have hk:=(a8.o.pure N.o).fr F (by rintro⟨ad,e,h⟩;have h1:=r.o ad e;rw [←h,b8.o] at h1;omega);obtain ⟨z1,z2,z3⟩:=hk.c3;have HH:=Hd hh;clear Y F bj hh bm an hk)
    all_goals
     go_wp2_with fail;go_meet;exact⟨_,rfl,_,a2.o.head_ HH.o.2 HH.o.1,ae.o.to_ HH.o.2 (by omega) (by omega),ce.o.trans (HH.o.2.mono fun _ h=>pS h)⟩
   case rest=>
    obtain⟨wA,rfl,oA,bf,bd,bh⟩:=hcut;have a3:=Hd bf;have k:=Hd bd;have cf:=Hd bh;have I:=Hd (show(b.vals++ [d])[G]?=some d∧b.s.length<65536∧E5 vs yb∧d.t=14∧Bz (d.w:Int)=true∧Eu yb.length d from
     ⟨by rw [List.getElem?_append_right (by omega),ao,Nat.sub_self];rfl,S.o.st,by have h:=S.o.vok2;rw [HY.o] at h;exact h,by have h:=HY.o;unfold Cd at h;injection h with _ h;rw [←h],by have h:=S.o.kw;rw [HY.o] at h;exact h,by have h:=S.o.kfit;rw [HY.o] at h;exact h⟩)
    clear bf bd bh y0 y2 y6 y8 k0 k1 k2 j0 j8 cm cn co;obtain⟨m,_,_⟩:=k.o.cells;go_wp2_with fail;go_at_call 193;refine(Ej M fl 288 _ _ _ ({ b with b:=yb,vals:=b.vals++ [d],lists:=Fu b.lists list G}).vals _ a3.o.head Tryz.call288 ((Pw M fl ({ b with b:=yb,vals:=b.vals++ [d],lists:=Fu b.lists list G}) d G bx bi bv A n c vs wA _ a3.o k.o.x k.o.i k.o.v k.o.ox (by rw [k.o.oi];decide) k.o.ov k.o.iv k.o.oa I.o.1 I.o.2.1 I.o.2.2.1 I.o.2.2.2.1 I.o.2.2.2.2.1 I.o.2.2.2.2.2).mono fun e w' h=>⟨h.1,h⟩)).mono ?_;rintro e w' ⟨rfl,oz,V,W⟩;have a4:=Hd V;have a7:=Hd (cf.o.trans W);clear V W;go_wp2_with fail;go_end0;refine⟨rfl,oz,?_,a7.o⟩;rw [HE.o];simp only [HP.o,HY.o,ao];exact a4.o
  |true=>
   obtain⟨au,ar⟩:=c4.o gv rfl;have I:=Hd (show b.vals[gv]?=some au∧b.s.length<65536∧E5 vs b.b∧au.t=14∧Bz (au.w:Int)=true∧Eu b.b.length au from⟨ar.1,S.o.st,S.o.vok,ar.2.1,ar.2.2.1,ar.2.2.2⟩);have HV:=Hd (show b.vals.getD gv ⟨0,0,0⟩=au by rw [Be,ar.1];rfl);clear ar b0 b3 m H z;obtain⟨m,_,_⟩:=j.o.cells;go_wp2_with fail;go_at_call 193;refine(Ej M fl 288 _ _ _ (b).vals _ D.o.head Tryz.call288 ((Pw M fl (b) au gv bx bi bv A n c vs w3 _ D.o j.o.x j.o.i j.o.v j.o.ox (by rw [j.o.oi];decide) j.o.ov j.o.iv j.o.oa I.o.1 I.o.2.1 I.o.2.2.1 I.o.2.2.2.1 I.o.2.2.2.2.1 I.o.2.2.2.2.2).mono fun e w' h=>⟨h.1,h⟩)).mono ?_;rintro e w' ⟨rfl,oz,V,W⟩;have a4:=Hd V;have a7:=Hd (a5.o.trans W);clear V W;go_wp2_with fail;go_end0;refine⟨rfl,oz,?_,a7.o⟩;rw [HE.o];simp only [↓reduceIte,HV.o];exact a4.o
end
section
open Go.Shelf Go.RowKit Go.Acc
def kX:Go.Shelf.Ren:=⟨fun|166=>207|240=>286|276=>329|n=>n,fun|0=>0|3=>3|4=>4|9=>9|20=>20|5=>5|37=>22|70=>235|72=>237|75=>239|80=>243|164=>346|n=>n,fun|n=>n⟩
theorem sbw:Go.Proofs.Lays.n166 Ad kX:={
 mixed:=by kernel_rfl
 f166:=func207.trans (congrArg some (by kernel_rfl))
 f240:=func286.trans (congrArg some (by kernel_rfl))
 f276:=func329.trans (congrArg some (by kernel_rfl))
 t0:=underlying0
 a0:=isAgg0
 z0:=sizeOf0
 v0:=zeroValue0
 t3:=underlying3
 a3:=isAgg3
 z3:=sizeOf3
 v3:=zeroValue3
 t4:=underlying4
 a4:=isAgg4
 z4:=sizeOf4
 v4:=zeroValue4
 t9:=underlying9
 a9:=isAgg9
 z9:=sizeOf9
 v9:=zeroValue9
 t20:=underlying20
 a20:=isAgg20
 z20:=sizeOf20
 v20:=zeroValue20
 t37:=underlying22
 a37:=isAgg22
 z37:=sizeOf22
 v37:=zeroValue22
 t70:=underlying235
 a70:=isAgg235
 z70:=sizeOf235
 v70:=zeroValue235
 t72:=underlying237
 a72:=isAgg237
 z72:=sizeOf237
 v72:=zeroValue237
 t75:=underlying239
 a75:=isAgg239
 z75:=sizeOf239
 v75:=zeroValue239
 t164:=underlying346
 a164:=isAgg346
 z164:=sizeOf346
 v164:=zeroValue346}
def kW:Go.Shelf.Ren:=⟨fun|169=>209|n=>n,fun|0=>0|3=>3|9=>9|5=>5|37=>22|70=>235|72=>237|127=>310|n=>n,fun|n=>n⟩
theorem sbs:Go.Proofs.Lays.n169 Ad kW:={
 mixed:=by kernel_rfl
 f169:=func209.trans (congrArg some (by kernel_rfl))
 t0:=underlying0
 a0:=isAgg0
 z0:=sizeOf0
 v0:=zeroValue0
 t3:=underlying3
 a3:=isAgg3
 z3:=sizeOf3
 v3:=zeroValue3
 t9:=underlying9
 a9:=isAgg9
 z9:=sizeOf9
 v9:=zeroValue9
 t37:=underlying22
 a37:=isAgg22
 z37:=sizeOf22
 v37:=zeroValue22
 t70:=underlying235
 a70:=isAgg235
 z70:=sizeOf235
 v70:=zeroValue235
 t72:=underlying237
 a72:=isAgg237
 z72:=sizeOf237
 v72:=zeroValue237
 t127:=underlying310
 a127:=isAgg310
 z127:=sizeOf310
 v127:=zeroValue310}
theorem tP:Builder.Extra Ad kX where
 sizeBuilder:=by kernel_rfl
 liesBuilder:=by kernel_rfl
 t5:=underlying5
 a5:=isAgg5
 z5:=sizeOf5
 v5:=zeroValue5
 infoByte:=by kernel_rfl
 cellsByte:=by kernel_rfl
 sizeByte:=by kernel_rfl
 neB5:=by decide
theorem tO:Builder.Extra Ad kW where
 sizeBuilder:=by kernel_rfl
 liesBuilder:=by kernel_rfl
 t5:=underlying5
 a5:=isAgg5
 z5:=sizeOf5
 v5:=zeroValue5
 infoByte:=by kernel_rfl
 cellsByte:=by kernel_rfl
 sizeByte:=by kernel_rfl
 neB5:=by decide
def jI(w:World)(B b:Nat)(l:List UInt8):Prop:=Go.Lib.IsBuilderF 237 5 B b (Go.Lib.byteCells l) w
theorem uO(B b:Nat)(l s:List UInt8)(w:World)(h:jI w B b l)(hl:l.length+s.length≤1048576)(hB:B≤w.heap.size):
  Calls Ad 207 #[Afh b,.string ⟨s.toArray⟩] w fun e w'=>(∃x,e= .returned x)∧jI w' B b (l++s)∧Below B w w':=by
 refine(Any.Builder_WriteString_k sbw tP B b (Go.Lib.byteCells l) ⟨s.toArray⟩ w h ?_ hB).mono ?_
 ·show _+s.toArray.size≤_;rw [Go.Lib.byteCells_length,List.size_toArray];omega
 ·rintro e w' ⟨rfl,h1,h2,_⟩;refine⟨⟨_,rfl⟩,.inr ?_,h2⟩;have a:Go.Lib.byteCells l++Go.Lib.strCells ⟨s.toArray⟩=Go.Lib.byteCells (l++s):=by
   simp [Go.Lib.byteCells,Go.Lib.strCells]
  rw [←a];exact h1
theorem bF(B b:Nat)(l:List UInt8)(w:World)(h:jI w B b l)(hB:B≤w.heap.size):
  Calls Ad 209 #[Afh b] w fun e w'=>e= .returned (.string ⟨l.toArray⟩)∧Below B w w':=by
 refine(Any.Builder_String_any_k sbs tO B b l w h hB).mono ?_;rintro e w' ⟨rfl,_,h2,_⟩;exact⟨rfl,h2⟩
theorem Ado(w:World):jI (w.alloc (.cells #[.pointer none,.slice none 0 0] 237)) w.heap.size w.heap.size []:=Go.Lib.IsBuilderF.of (Go.Lib.fresh_isBuilder 237 5 w)
end
section
open Go.Acc
structure Jd(b:Bd):Prop where
 keys:∀s a,Cf b.keys s=some a→b.names.find? (fun x=>x.1==a)=some (a,s)
 lt:∀x∈b.names,x.1<b.b.length
structure Fv(b b':Bd):Prop where
 keep:∀a s,b.names.find? (fun x=>x.1==a)=some (a,s)→b'.names.find? (fun x=>x.1==a)=some (a,s)
 ok:Jd b'
theorem Fv.trans{a b c:Bd}(h:Fv a b)(h':Fv b c):Fv a c:=⟨fun x s e=>h'.keep x s (h.keep x s e),h'.ok⟩
theorem Fv.same{b b':Bd}(h:Jd b)(hk:b'.keys=b.keys)(hn:b'.names=b.names)(hl:b.b.length≤b'.b.length):Fv b b':=
 ⟨fun a s e=>by rw [hn];exact e,⟨fun s a e=>by rw [hk] at e;rw [hn];exact h.keys s a e,fun x hx=>by rw [hn] at hx;exact Ax (h.lt x hx) hl⟩⟩
theorem Aba:Jd Bd.new:=⟨fun s a e=>by simp [Bd.new,Cf] at e,fun x hx=>by simp [Bd.new] at hx⟩
theorem Hj.len{b b':Bd}(h:Hj b b'):b.b.length≤b'.b.length:=by
 obtain⟨⟨m,e⟩,_⟩:=h;rw [e,Ah];omega
theorem Jd.find_lt{b:Bd}(h:Jd b){a:Nat}{s:List UInt8}(e:b.names.find? (fun x=>x.1==a)=some (a,s)):a<b.b.length:=h.lt _ (List.mem_of_find?_eq_some e)
def uR(names:List (Nat×List UInt8))(s:List UInt8)(v:Bv):Prop:=v.t=4∧names.find? (fun x=>x.1==v.n)=some (v.n,s)
theorem La(f:Nat)(s:List UInt8)(b:Bd)(h:Jd b):Fv b (b.put f s).1∧uR (b.put f s).1.names s (b.put f s).2:=by
 unfold Bd.put;split
 ·next a ha=>
  split at ha
  ·exact⟨Fv.same h rfl rfl (Ae _),rfl,h.keys s a ha⟩
  ·cases ha
 ·have c:∀a s',b.names.find? (fun x=>x.1==a)=some (a,s')→((b.b.length,s)::b.names).find? (fun x=>x.1==a)=some (a,s'):=by
   intro a s' e;have i:=h.find_lt e;rw [List.find?_cons];have g:(b.b.length==a)=false:=beq_eq_false_iff_ne.mpr (by omega);simp only [g];exact e
  have d:((b.b.length,s)::b.names).find? (fun x=>x.1==b.b.length)=some (b.b.length,s):=by simp
  refine⟨⟨c,⟨fun k a e=>?_,fun x hx=>?_⟩⟩,rfl,d⟩
  ·rcases Jw e with e|⟨rfl,rfl⟩
   ·exact c a k (h.keys k a e)
   ·exact d
  ·simp only [List.mem_cons] at hx;simp only [Ah,List.length_singleton];rcases hx with rfl|hx
   ·show b.b.length<b.b.length+s.length+1;omega
   ·have:=h.lt x hx;omega
theorem Rl(f:Nat):∀(l:List (List UInt8)) (b:Bd),Jd b→Fv b (b.puts f l).1
 | [],_,h=>Fv.same h rfl rfl (Ae _)
 |s::r,b,h=>(La f s b h).1.trans (Rl f r _ (La f s b h).1.ok)
theorem Tp(t:Nat)(len tags:Bool)(l:List Bv)(b:Bd)(h:Jd b):Fv b (b.vec t len tags l):=by
 obtain⟨m,e⟩:=Mt t len tags l b.b;exact Fv.same h rfl rfl (by show b.b.length≤(Cd t len tags l b.b).1.length;rw [e,Ah];omega)
theorem nO(f:Nat){k:Int}(n:Int)(u:Nat)(s:List UInt8)(h1:1≤k)(h2:k≤9)(b:Bd)(hg:Dr b)(h:Jd b):Fv b (b.leaf f k n u s):=by
 obtain⟨_,_,d,_⟩:=eG f n u s [] [] h1 h2 b hg;have c:=d.len;by_cases a:k=5
 ·subst a;have e:b.leaf f 5 n u s=b.key f s:=by simp [Bd.leaf]
  rw [e];have h3:=(La f s b h).1;exact⟨h3.keep,h3.ok.1,h3.ok.2⟩
 ·refine Fv.same h ?_ ?_ c
  ·unfold Bd.leaf;simp only [if_neg a]
   repeat' (split;try rfl)
   all_goals first|rfl|(unfold Bd.str;simp only [];split <;>rfl)
  ·unfold Bd.leaf;simp only [if_neg a]
   repeat' (split;try rfl)
   all_goals first|rfl|(unfold Bd.str;simp only [];split <;>rfl)
theorem nG(f:Nat)(k:Int)(c:List Tr)(b:Bd)(h:Jd b):Fv b (b.flat f k c):=by
 unfold Bd.flat
 repeat' split
 all_goals first
  |exact Tp _ _ _ _ _ h
  |exact(Rl f _ b h).trans (Tp _ _ _ _ _ (Rl f _ b h).ok)
theorem N9(f:Nat):∀(c:List Tr),(∀t∈c,Pj f t)→(∀t∈c,∀b,Dr b→Jd b→Fv b (Bd.calls f t b))→∀b,Dr b→Jd b→Fv b (Bd.callsL f c b)
 | [],_,_,b,_,h=>by rw [Bd.callsL];exact Fv.same h rfl rfl (Ae _)
 |t::r,hd,hc,b,hg,h=>by
  obtain⟨v,d,a,e⟩:=hd t (by simp) b hg;have h1:=hc t (by simp) b hg h;rw [Bd.callsL];exact h1.trans (N9 f r (fun t ht=>hd t (by simp [ht])) (fun t ht=>hc t (by simp [ht])) _ a.2 h1.ok)
theorem Ll(f:Nat):∀(c:List Tr) (ks:List (List UInt8)),ks.length=c.length→(∀t∈c,Pj f t)→(∀t∈c,∀b,Dr b→Jd b→Fv b (Bd.calls f t b))→∀b,Dr b→Jd b→
  Fv b (Bd.callsM f ks c b)∧∃kvs vs,(Bd.callsM f ks c b).s=b.s++E6 kvs vs∧kvs.length=ks.length∧vs.length=c.length∧∀(i:Nat) s v,ks[i]?=some s→kvs[i]?=some v→uR (Bd.callsM f ks c b).names s v
 | [],ks,hk,_,_,b,_,h=>by
  obtain rfl:ks=[]:=List.eq_nil_of_length_eq_zero hk;rw [Bd.callsM];exact⟨Fv.same h rfl rfl (Ae _),[],[],by simp [E6],rfl,rfl,fun i s v h=>by simp at h⟩
 |t::r,[],hk,_,_,_,_,_=>by simp at hk
 |t::r,s::ks,hk,hd,hc,b,hg,h=>by
  obtain⟨⟨q,u⟩,w,d⟩:=T9 f s b hg;have m:(b.key f s).s=b.s++ [(b.put f s).2]:=by simp [Bd.key,Bd.push,d]
  have j:Dr (b.key f s):=(P4 f s b hg).elim fun _ h=>h.2.1.2
  obtain⟨e,k⟩:=La f s b h;have a:Fv b (b.key f s):=⟨e.keep,e.ok.1,e.ok.2⟩;obtain⟨v,n,B,C⟩:=hd t (by simp) (b.key f s) j;have g:=hc t (by simp) (b.key f s) j a.ok;obtain⟨l,kvs,vs,o,z,A,y⟩:=Ll f r ks (by simpa using hk) (fun t ht=>hd t (by simp [ht])) (fun t ht=>hc t (by simp [ht])) (Bd.calls f t (b.key f s)) B.2 g.ok;have p:Bd.callsM f (s::ks) (t::r) b=Bd.callsM f ks r (Bd.calls f t (b.key f s)):=by rw [Bd.callsM];rfl
  rw [p];refine⟨(a.trans g).trans l,(b.put f s).2::kvs,v::vs,by rw [o,n,m];simp [E6],by simp [z],by simp [A],fun i x v' hx hv=>?_⟩;cases i with
  |zero=>
   simp only [List.getElem?_cons_zero,Option.some.injEq] at hx hv;subst hx hv;exact⟨k.1,(g.trans l).keep _ _ k.2⟩
  |succ i=>
   simp only [List.getElem?_cons_succ] at hx hv;exact y i x v' hx hv
theorem dC(f:Nat)(ks:List (List UInt8))(start:Nat)(b:Bd)(h:Jd b)(hl:b.b.length≤(b.endMap f ks start).b.length):Fv b (b.endMap f ks start):=by
 refine Fv.same h ?_ ?_ hl
 ·unfold Bd.endMap;simp only [];split <;>rfl
 ·unfold Bd.endMap;simp only [];split <;>rfl
theorem Pn(f:Nat)(t:Tr)(h:Ok t):∀b,Dr b→Jd b→Fv b (Bd.calls f t b):=by
 induction h with
 |leaf n u s ks c h1 h2=>
  intro b a d;rename_i k;have e:Bd.calls f (.mk k n u s ks c) b=b.leaf f k n u s:=by
   rw [Bd.calls,if_neg (by omega),if_neg (by omega),if_pos h2]
  rw [e];exact nO f n u s h1 h2 b a d
 |flat n u s ks c h1 h2=>
  intro b a d;rename_i k;have e:Bd.calls f (.mk k n u s ks c) b=b.flat f k c:=by
   rw [Bd.calls,if_neg (by omega),if_neg (by omega),if_neg (by omega)]
  rw [e];exact nG f k c b d
 |vec n u s ks hd ih=>
  intro b a d;rename_i c;have e:Bd.calls f (.mk 10 n u s ks c) b=(Bd.callsL f c b).endVec b.s.length:=by rw [Bd.calls,if_pos rfl]
  rw [e];have h1:=N9 f c (fun t ht=>F6 f t (hd t ht)) ih b a d;have h2:Jd { Bd.callsL f c b with s:=(Bd.callsL f c b).s.take b.s.length}:=⟨h1.ok.1,h1.ok.2⟩;have h3:=Tp 10 true true ((Bd.callsL f c b).s.drop b.s.length) _ h2;exact h1.trans ⟨h3.keep,h3.ok⟩
 |map n u s hl h0 hd ih=>
  intro b a d;rename_i c ks;have e:Bd.calls f (.mk 17 n u s ks c) b=(Bd.callsM f ks c b).endMap f ks b.s.length:=by
   rw [Bd.calls,if_neg (by omega),if_pos rfl]
  obtain⟨g,vs,l,j,o,i,m⟩:=J4 f c ks hl (fun t ht=>F6 f t (hd t ht)) b a;obtain⟨_,_,_,_,p,_⟩:=Qu f ks b.s (Bd.callsM f ks c b) g vs o.2 l (by rw [i.1,j,hl]) h0 i (Ow j m);have h1:=(Ll f c ks hl (fun t ht=>F6 f t (hd t ht)) ih b a d).1;rw [e];exact h1.trans (dC f ks b.s.length _ h1.ok p.len)
theorem xS{ps:List Nat}(l:List (List UInt8))(hl:l.length=n)(hp:ps.Perm (List.range n))(ha:∀(i j:Nat) (hi:i<ps.length) (hj:j<ps.length),i<j→l.getD ps[i] []<l.getD ps[j] [])(hs:l.Pairwise (· < ·)):ps=List.range n:=by
 have k:∀p∈ps,p<n:=fun p h=>List.mem_range.1 (hp.mem_iff.1 h)
 have g:∀p (h:p<n),l.getD p []=l[p]:=fun p h=>by rw [Be,Ag];rfl
 have h1:ps.Pairwise (· < ·):=by
  rw [List.pairwise_iff_getElem];intro i j hi hj d;have h2:=ha i j hi hj d;have e:=k ps[i] (List.getElem_mem _);have f:=k ps[j] (List.getElem_mem _);rw [g _ e,g _ f] at h2;rcases Nat.lt_trichotomy ps[i] ps[j] with h3|h3|h3
  ·exact h3
  ·rw [getElem_congr_idx (c:=l) h3] at h2;exact absurd h2 (List.lt_irrefl _)
  ·rw [List.pairwise_iff_getElem] at hs;exact absurd h2 (List.lt_asymm (hs _ _ (by omega) (by omega) h3))
 exact hp.eq_of_pairwise (fun a b _ _ h h'=>absurd h (Nat.lt_asymm h')) h1 List.pairwise_lt_range
theorem Qp:∀(ks vs:List Bv) (i:Nat),ks.length=vs.length→(E6 ks vs)[2*i]?=ks[i]?∧(E6 ks vs)[2*i+1]?=vs[i]?
 | [],[],i,_=>⟨by simp [E6],by simp [E6]⟩
 | [],_::_,_,h=>by simp at h
 |_::_,[],_,h=>by simp at h
 |k::r,v::q,0,_=>⟨rfl,rfl⟩
 |k::r,v::q,i+1,h=>by
  obtain⟨h1,h2⟩:=Qp r q i (by simpa using h);have a:2*(i+1)=2*i+1+1:=by omega
  have b:2*(i+1)+1=2*i+1+1+1:=by omega
  rw [b,a];simp only [E6,List.getElem?_cons_succ];exact⟨h1,h2⟩
theorem Qq:∀(ks vs:List Bv),ks.length=vs.length→(E6 ks vs).length=2*ks.length
 | [],[],_=>rfl
 | [],_::_,h=>by simp at h
 |_::_,[],h=>by simp at h
 |k::r,v::q,h=>by
  have:=Qq r q (by simpa using h);simp only [E6,List.length_cons,this];omega
theorem tC(ks vs:List Bv)(h:ks.length=vs.length):(List.range ks.length).map (fun p=>(E6 ks vs).getD (2*p+0) ⟨0,0,0⟩)=ks∧(List.range ks.length).map (fun p=>(E6 ks vs).getD (2*p+1) ⟨0,0,0⟩)=vs:=by
 refine⟨?_,?_⟩
 ·apply List.ext_getElem (by simp);intro i h1 h2;rw [List.getElem_map,List.getElem_range,Be,Nat.add_zero,(Qp ks vs i h).1,Ag h2];rfl
 ·apply List.ext_getElem (by simp [h]);intro i h1 h2;rw [List.getElem_map,List.getElem_range,Be,(Qp ks vs i h).2,Ag h2];rfl
theorem Wv(a b:List (List UInt8)):Dg (a++b)=Dg a++Dg b:=by simp [Dg]
theorem nS(s:List UInt8):Dg [s]=s++ [0]:=by simp [Dg]
theorem Ww:∀(l:List (List UInt8)),(Dg l).length≤Cc l
 | []=>by simp [Dg]
 |s::r=>by
  have:=Ww r;simp only [Dg,List.flatMap_cons,Ah,List.length_singleton,Cc] at this⊢;omega
end
end Go.Proofs.YtejpbijeifjdeaaGreat
