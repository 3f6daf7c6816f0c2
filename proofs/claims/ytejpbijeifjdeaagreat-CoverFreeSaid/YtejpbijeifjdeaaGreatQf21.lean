/- Parts of the proof. -/
import Derived.Test.YtejpbijeifjdeaaGreatQf20
set_option maxHeartbeats 600000
set_option maxRecDepth 100000
open Go.Value renaming int→Aa
open Go.IntKind renaming i64→Ab,u64→Ac
open Nat renaming le_refl→Ae
open Go.RowKit.Below renaming refl→Af
open Go.Proofs.Tryz
open Go.Proofs.Tryz renaming prog→Ad
namespace Go.Proofs.YtejpbijeifjdeaaGreat
open Go.RowKit Go.Acc
variable {t:Int}
theorem oD(z:Int):BitVec.ofInt 64 (IntKind.i64.wrap z)=BitVec.ofInt 64 z:=by
 apply BitVec.eq_of_toNat_eq;rw [BitVec.toNat_ofInt,BitVec.toNat_ofInt]
 congr 1
 show(if(true&&decide (z % 2^64≥2^63))=true then z % 2^64-2^64 else z % 2^64) % _=_;split <;>omega
theorem gW(fl:Int):Go.bits .and .i64 (Go.bits .andNot .i64 fl 4) 4=0:=by
 have h:BitVec.ofInt 64 (Go.bits .andNot .i64 fl 4)=BitVec.ofInt 64 fl&&& ~~~BitVec.ofInt 64 4:=by
  show BitVec.ofInt 64 (IntKind.i64.wrap ((BitVec.ofInt 64 fl&&& ~~~BitVec.ofInt 64 4).toNat:Int))=_;rw [oD,BitVec.ofInt_natCast,BitVec.ofNat_toNat];simp
 show IntKind.i64.wrap ((BitVec.ofInt 64 (Go.bits .andNot .i64 fl 4)&&&BitVec.ofInt 64 4).toNat:Int)=0;rw [h,BitVec.and_assoc,BitVec.and_comm (~~~BitVec.ofInt 64 4)];have:BitVec.ofInt 64 4&&& ~~~BitVec.ofInt 64 4=0#64:=by decide
 rw [this];simp;rfl
theorem wE(fl:Int):(Go.bits .and .i64 fl 1==0)=true→Fq (bits (Go.bits .andNot .i64 fl 4)) 4=false:=fun _=>by
 have h:=eZ (Go.bits .andNot .i64 fl 4) 4 2 (by decide) rfl;rw [show((4:Nat):Int)=4 from rfl,gW] at h;rw [←h];rfl
theorem wG(fl:Int)(h:(Go.bits .and .i64 fl 1==0)=false):Fq (bits fl) 1=true:=by
 have h':=eZ fl 1 0 (by decide) rfl;rw [show((1:Nat):Int)=1 from rfl,h] at h';exact h'.symm
def Acd(w:World)(T:Tr)(fl:Int)(e:Ending)(w':World):Prop:=
 ∃(z:Nv) (A:Option Addr) (n c f:Nat),e= .returned (.tuple #[.agg (Afe z),.slice A n c,.bool true])∧(Fq f 4=true→Fq f 1=true)∧(fl=0→f=0)∧Ck w' (fun b=>b<w'.heap.size) z (By T)∧I5 w' w.heap.size A n c (Ha f (By (By T)))∧Below w.heap.size w w'
theorem uQ(w:World):Ck w (fun b=>b<w.heap.size) ⟨0,0,0,[],none,0,0,none,0,0⟩ (.mk 0 0 0 [] [] []):=by
 refine .mk (x:=⟨0,0,0,[],none,0,0,none,0,0⟩) (vs:=[]) ⟨rfl,?_⟩ (fun ad e=>by cases e) (Ae _) (by decide) ⟨rfl,?_⟩ (fun ad e=>by cases e) (Ae _) (by decide) rfl (fun i v t h=>by simp at h)
 ·intro j u h;simp at h
 ·intro j u h;simp at h
theorem gT:(Gk H0 0 (.mk 0 0 0 [] [] []) 0).1≠0∧R4 (.mk 0 0 0 [] [] []):=by
 refine⟨?_,dH (by decide)⟩;rw [Gk,if_neg (by decide),if_neg (by decide),if_pos (by decide)];decide
theorem yX:∃e:Int,(Gk H0 0 (.mk 0 0 0 [] [] []) 0).1=e∧e≠0:=⟨_,rfl,gT.1⟩
theorem vB(x:Nv)(T:Tr)(fl er:Int)(w:World)(hC:∀W,Below w.heap.size w W→Calls Ad 38 #[.agg (Afe x),Aa Ab 60,Aa Ab 40] W (Tw W T))(hfk:R4 T)(he:(Gk H0 0 T 0).1=er)(hne:er≠0):
  Calls Ad 15 #[.agg (Afe x),Aa Ab fl] w (Afc (.tuple #[.agg #[Aa Ab 0,Aa Ab 0,Aa Ac 0,.string ⟨#[]⟩,.slice none 0 0,.slice none 0 0],.slice none 0 0,.bool false]) w):=by
 have t:=Hd hC;have V:=Hd hfk;have HE:=Hd (And.intro he hne);have aj:(er==0)=false:=beq_eq_false_iff_ne.mpr hne;clear hC hfk he hne;have G:=Bu w (.cells (Afe x) 34) (.cells #[Aa Ab 0,Aa Ab 0,Aa Ac 0,.string ⟨#[]⟩,.slice none 0 0,.slice none 0 0] 34);have N:=Hd ((Bk.new w 34 (Afe x)).alloc (.cells #[Aa Ab 0,Aa Ab 0,Aa Ac 0,.string ⟨#[]⟩,.slice none 0 0,.slice none 0 0] 34));have z:=Hd (Bk.new_ (w:=w.alloc (.cells (Afe x) 34)) (g:=w.heap.size+1) (by simp) 34 #[Aa Ab 0,Aa Ab 0,Aa Ac 0,.string ⟨#[]⟩,.slice none 0 0,.slice none 0 0]);have M:=Hd G;clear G;go_enter func15,ntmps15;go_upto_region 1 with fail
 generalize (w.alloc (.cells (Afe x) 34)).alloc (.cells #[Aa Ab 0,Aa Ab 0,Aa Ac 0,.string ⟨#[]⟩,.slice none 0 0,.slice none 0 0] 34)=w1 at N z M⊢;generalize I:w.heap.size=bt at N z⊢;generalize H:bt+1=br at z⊢;have HT:=Hd (And.intro I H);clear I H;obtain ⟨c0,c1,c2,c3,c4,c5⟩:=N.o.c6;have HC:=Hd (t.o w1 M.o);go_wp2_with fail;go_at_call 38;refine HC.o.mono ?_;rintro e w2 ⟨y,rfl,E,n⟩;have u:=Hd (show Ck w2 (fun b=>b<w2.heap.size) y T from E.mono fun b hb=>hb.2);have s:=Hd (Bi M.o n);have A:=Hd (z.o.pure n);clear E n c0 c1 c2 c3 c4 c5 HC N z M;have C:=Hd (Qg u.o (fun k hk=>hk) V.o HE.o.1 HE.o.2);go_wp2_with fail;go_at_call 40;refine C.o.mono ?_;rintro e w3 ⟨rfl,p⟩;have f:=Hd (Bi s.o p);have B:=Hd (A.o.pure p);clear p C u s A;go_upto_region 2 with fail
 have h:=Hd (f.o.alloc f.o.size (.cells #[Aa Ab 0,Aa Ab 0,Aa Ac 0,.string ⟨#[]⟩,.slice none 0 0,.slice none 0 0] 34));have l:=Hd (B.o.alloc (.cells #[Aa Ab 0,Aa Ab 0,Aa Ac 0,.string ⟨#[]⟩,.slice none 0 0,.slice none 0 0] 34));have d:=Hd (Bk.new w3 34 #[Aa Ab 0,Aa Ab 0,Aa Ac 0,.string ⟨#[]⟩,.slice none 0 0,.slice none 0 0]);generalize w3.alloc (.cells #[Aa Ab 0,Aa Ab 0,Aa Ac 0,.string ⟨#[]⟩,.slice none 0 0,.slice none 0 0] 34)=w4 at h l d⊢;generalize w3.heap.size=bz at d⊢;clear f B;obtain⟨q,hq⟩:∃q,Go.bits .and .i64 fl 1=q:=⟨_,rfl⟩;obtain⟨q2,a1⟩:∃q,Go.bits .andNot .i64 fl 4=q:=⟨_,rfl⟩;obtain⟨ez,J,r⟩:=yX;have D:=Hd (fun F=>vA F (uQ w4) (fun k hk=>hk) gT.2 J r);have a2:(ez==0)=false:=beq_eq_false_iff_ne.mpr r;clear J r;obtain ⟨O,P,Q,R,S,U⟩:=d.o.c6;by_cases K:q=0
 ·subst K;go_wp2_with fail;go_at_call 10;refine(D.o _).mono ?_;rintro e L ⟨rfl,hb⟩;have c:=Hd (l.o.pure hb);have m:=Hd (d.o.pure hb);have i:=Hd (Bi h.o hb);clear hb O P Q R S U;obtain ⟨Y,Z,r2,r3,r4,r5⟩:=c.o.c6;have a:∀j,L.frozen? ⟨br,j,none⟩=false:=fun j=>c.o.frozen j
  have f0:=a 0;have f1:=a 1;have f2:=a 2;have f3:=a 3;have f4:=a 4;have f5:=a 5;clear a;obtain ⟨O,P,Q,R,S,U⟩:=m.o.c6;go_wp2_with fail;refine bodyPost_ret (v:= .tuple #[.agg #[Aa Ab 0,Aa Ab 0,Aa Ac 0,.string ⟨#[]⟩,.slice none 0 0,.slice none 0 0],.slice none 0 0,.bool false]) (by simp [results,results15,go_sem,Y,Z,r2,r3,r4,r5]) rfl ?_;have X:=G6 L br (Aa Ab 0) (Aa Ab 0) (Aa Ac 0) (.string ⟨#[]⟩) (.slice none 0 0) (.slice none 0 0);have ht:=HT.o;exact⟨rfl,Cq i.o X (by rintro j rfl;omega)⟩
 ·have a0:(q==0)=false:=beq_eq_false_iff_ne.mpr K;go_wp2_with fail;go_at_call 10;refine(D.o _).mono ?_;rintro e L ⟨rfl,hb⟩;have c:=Hd (l.o.pure hb);have m:=Hd (d.o.pure hb);have i:=Hd (Bi h.o hb);clear hb O P Q R S U;obtain ⟨Y,Z,r2,r3,r4,r5⟩:=c.o.c6;have a:∀j,L.frozen? ⟨br,j,none⟩=false:=fun j=>c.o.frozen j
  have f0:=a 0;have f1:=a 1;have f2:=a 2;have f3:=a 3;have f4:=a 4;have f5:=a 5;clear a;obtain ⟨O,P,Q,R,S,U⟩:=m.o.c6;go_wp2_with fail;refine bodyPost_ret (v:= .tuple #[.agg #[Aa Ab 0,Aa Ab 0,Aa Ac 0,.string ⟨#[]⟩,.slice none 0 0,.slice none 0 0],.slice none 0 0,.bool false]) (by simp [results,results15,go_sem,Y,Z,r2,r3,r4,r5]) rfl ?_;have X:=G6 L br (Aa Ab 0) (Aa Ab 0) (Aa Ac 0) (.string ⟨#[]⟩) (.slice none 0 0) (.slice none 0 0);have ht:=HT.o;exact⟨rfl,Cq i.o X (by rintro j rfl;omega)⟩
theorem vC(x:Nv)(T:Tr)(fl:Int)(w:World)(hC:∀W,Below w.heap.size w W→Calls Ad 38 #[.agg (Afe x),Aa Ab 60,Aa Ab 40] W (Tw W T))(hN:G0 T)(hc:T.cost≤65000)(he:(Gk H0 0 T 0).1=0):
  Calls Ad 15 #[.agg (Afe x),Aa Ab fl] w (Acd w T fl):=by
 have hv:=Kx Oa T 0 0 he;have Z:=Hd hC;have af:=Hd hN;have X:=Hd (And.intro hc he);have G:=Hd (show(By T).cost≤65000 by rw [M8 T hv];exact hc);have Y:=Hd (vL Oa he);clear hC hN hc he hv;have am:=Bu w (.cells (Afe x) 34) (.cells #[Aa Ab 0,Aa Ab 0,Aa Ac 0,.string ⟨#[]⟩,.slice none 0 0,.slice none 0 0] 34);have HX:=Hd ((Bk.new w 34 (Afe x)).alloc (.cells #[Aa Ab 0,Aa Ab 0,Aa Ac 0,.string ⟨#[]⟩,.slice none 0 0,.slice none 0 0] 34));have HR:=Hd (Bk.new_ (w:=w.alloc (.cells (Afe x) 34)) (g:=w.heap.size+1) (by simp) 34 #[Aa Ab 0,Aa Ab 0,Aa Ac 0,.string ⟨#[]⟩,.slice none 0 0,.slice none 0 0]);have HB:=Hd am;clear am;go_enter func15,ntmps15;go_upto_region 1 with fail
 generalize (w.alloc (.cells (Afe x) 34)).alloc (.cells #[Aa Ab 0,Aa Ab 0,Aa Ac 0,.string ⟨#[]⟩,.slice none 0 0,.slice none 0 0] 34)=w1 at HX HR HB⊢;generalize ap:w.heap.size=bt at HX HR⊢;generalize ao:bt+1=br at HR⊢;have HT:=Hd (And.intro ap ao);clear ap ao;obtain ⟨c0,c1,c2,c3,c4,c5⟩:=HX.o.c6;have HC:=Hd (Z.o w1 HB.o);go_wp2_with fail;go_at_call 38;refine HC.o.mono ?_;rintro e w2 ⟨y,rfl,aj,R⟩;have aa:=Hd (show Ck w2 (fun b=>b<w2.heap.size) y T from aj.mono fun b hb=>hb.2);have V:=Hd (Bi HB.o R);have N:=Hd (HR.o.pure R);clear aj R c0 c1 c2 c3 c4 c5 HC HX HR HB;have ai:=Hd (R1 aa.o (fun k hk=>hk) (Nat.le_trans X.o.1 (by decide)) X.o.2);go_wp2_with fail;go_at_call 40;refine ai.o.mono ?_;rintro e U ⟨z,rfl,ak,S⟩;have H:=Hd (Bi V.o S);have ah:=Hd (N.o.pure S);have a5:=Hd (show br<w2.heap.size from N.o.lt);have ab:=Hd ak;clear S ak ai aa V N;go_upto_region 2 with fail
 have Q:=(Af U.heap.size U).alloc (Ae _) (.cells (Afe z) 34);have p:=Hd (H.o.alloc H.o.size (.cells (Afe z) 34));have t:=Hd (ah.o.alloc (.cells (Afe z) 34));have i:=Hd (Bk.new U 34 (Afe z));have f:=Hd (ab.o.pure Q);have D:=Hd Q.size;generalize U.alloc (.cells (Afe z) 34)=w4 at p t i f D⊢;have E:=Hd (show ∀a,(w2.heap.size≤a∧a<U.heap.size)→a≠br from fun a h=>by have:=a5.o;omega);generalize U.heap.size=bz at i D E f⊢;have ae:=Hd (show Ck w4 (fun b=>b<w4.heap.size) z (By T) from f.o.mono fun b hb=>Nat.lt_of_lt_of_le hb.2 D.o);clear H ah Q ab;obtain⟨q,hq⟩:∃q,Go.bits .and .i64 fl 1=q:=⟨_,rfl⟩;obtain⟨q2,aq⟩:∃q,Go.bits .andNot .i64 fl 4=q:=⟨_,rfl⟩;by_cases l:q=0
 ·have K:=Hd (show Fq (bits q2) 4=true→Fq (bits q2) 1=true by
   have h:=wE fl (by rw [hq,l];rfl);rw [aq] at h;rw [h];intro h;cases h)
  have L:=Hd (show fl=0→bits q2=0 by
   intro h;rw [←aq,h];decide)
  subst l;have J:=Hd (bG q2 ae.o (fun k hk=>hk) (eW af.o) G.o Y.o);obtain ⟨z0,z1,z2,z3,z4,z5⟩:=i.o.c6;go_wp2_with fail;go_at_call 10;refine J.o.mono ?_;intro e w5 hD;obtain⟨A,m,c,rfl,hO,hb⟩:=hD;have r:=Hd hO;have M:=Hd (f.o.pure hb);have C:=Hd (t.o.pure hb);have P:=Hd (i.o.pure hb);have I:=Hd (Bi p.o hb);have O:=Hd hb.size;clear hO hb z0 z1 z2 z3 z4 z5;obtain ⟨r0,r1,r2,r3,r4,r5⟩:=C.o.c6;have d:∀j,w5.frozen? ⟨br,j,none⟩=false:=fun j=>C.o.frozen j
  have f0:=d 0;have f1:=d 1;have f2:=d 2;have f3:=d 3;have f4:=d 4;have f5:=d 5;clear d;obtain ⟨z0,z1,z2,z3,z4,z5⟩:=P.o.c6;go_wp2_with fail;refine bodyPost_ret (v:= .tuple #[.agg (Afe z),.slice A m c,.bool true]) (by simp [results,results15,go_sem,r0,r1,r2,r3,r4,r5]) rfl ?_;have F:=G6 w5 br (Aa Ab z.k) (Aa Ab z.n) (Aa Ac (z.u:Int)) (.string ⟨z.s.toArray⟩) (.slice z.A z.an z.ac) (.slice z.B z.bn z.bc);have ht:=HT.o;have a9:=t.o.lt;have bb:=O.o;have a8:=F.size;have ba:=D.o;have a7:=p.o.size;refine⟨z,A,m,c,bits q2,rfl,K.o,L.o,(M.o.keep fun a u hc hp=>C0 F hc (E.o a.block hp)).mono fun b hb=>by omega,(r.o.fr F (fun ad e hj=>by have:=r.o.addr ad e;omega)).rebase (by omega),Cq I.o F (by rintro j rfl;omega)⟩
 ·have K:=Hd (show Fq (bits fl) 4=true→Fq (bits fl) 1=true from fun _=>wG fl (by rw [hq];exact beq_eq_false_iff_ne.mpr l));have L:=Hd (show fl=0→bits fl=0 by
   intro h;rw [h] at hq;exact absurd hq.symm (by rw [show Go.bits .and .i64 0 1=0 by decide];exact l))
  have b3:(q==0)=false:=beq_eq_false_iff_ne.mpr l;clear l;have J:=Hd (bG fl ae.o (fun k hk=>hk) (eW af.o) G.o Y.o);obtain ⟨z0,z1,z2,z3,z4,z5⟩:=i.o.c6;go_wp2_with fail;go_at_call 10;refine J.o.mono ?_;intro e w5 hD;obtain⟨A,m,c,rfl,hO,hb⟩:=hD;have r:=Hd hO;have M:=Hd (f.o.pure hb);have C:=Hd (t.o.pure hb);have P:=Hd (i.o.pure hb);have I:=Hd (Bi p.o hb);have O:=Hd hb.size;clear hO hb z0 z1 z2 z3 z4 z5;obtain ⟨r0,r1,r2,r3,r4,r5⟩:=C.o.c6;have d:∀j,w5.frozen? ⟨br,j,none⟩=false:=fun j=>C.o.frozen j
  have f0:=d 0;have f1:=d 1;have f2:=d 2;have f3:=d 3;have f4:=d 4;have f5:=d 5;clear d;obtain ⟨z0,z1,z2,z3,z4,z5⟩:=P.o.c6;go_wp2_with fail;refine bodyPost_ret (v:= .tuple #[.agg (Afe z),.slice A m c,.bool true]) (by simp [results,results15,go_sem,r0,r1,r2,r3,r4,r5]) rfl ?_;have F:=G6 w5 br (Aa Ab z.k) (Aa Ab z.n) (Aa Ac (z.u:Int)) (.string ⟨z.s.toArray⟩) (.slice z.A z.an z.ac) (.slice z.B z.bn z.bc);have ht:=HT.o;have a9:=t.o.lt;have bb:=O.o;have a8:=F.size;have ba:=D.o;have a7:=p.o.size;refine⟨z,A,m,c,bits fl,rfl,K.o,L.o,(M.o.keep fun a u hc hp=>C0 F hc (E.o a.block hp)).mono fun b hb=>by omega,(r.o.fr F (fun ad e hj=>by have:=r.o.addr ad e;omega)).rebase (by omega),Cq I.o F (by rintro j rfl;omega)⟩
theorem lA(ht:Lt t=true):∀w,(Instr.index 286 (.agg Ma) (Aa Ab t)).run Ad w= .ok (.agg (Xm t.toNat).toArray) w:=by
 have h:∀n:Fin 37,∀w,(Instr.index 286 (.agg Ma) (Aa Ab ((n.val:Nat):Int))).run Ad w= .ok (.agg (Xm ((n.val:Nat):Int).toNat).toArray) w:=by
  intro n;rcases n with⟨n,a⟩
  have:n=0∨n=1∨n=2∨n=3∨n=4∨n=5∨n=6∨n=7∨n=8∨n=9∨n=10∨n=11∨n=12∨n=13∨n=14∨n=15∨n=16∨n=17∨n=18∨n=19∨n=20∨n=21∨n=22∨n=23∨n=24∨n=25∨n=26∨n=27∨n=28∨n=29∨n=30∨n=31∨n=32∨n=33∨n=34∨n=35∨n=36:=by omega
  rcases this with rfl|rfl|rfl|rfl|rfl|rfl|rfl|rfl|rfl|rfl|rfl|rfl|rfl|rfl|rfl|rfl|rfl|rfl|rfl|rfl|rfl|rfl|rfl|rfl|rfl|rfl|rfl|rfl|rfl|rfl|rfl|rfl|rfl|rfl|rfl|rfl|rfl
  all_goals
   intro w
   kernel_rfl
 exact Lc (p:=fun t=>∀w,(Instr.index 286 (.agg Ma) (Aa Ab t)).run Ad w= .ok (.agg (Xm t.toNat).toArray) w) h ht
def K5(t:Int):Bool:=decide (t=9∨t=10)||Tn t
def Cj(t:Int):Bool:=decide (t=9∨t=10)
def aheadT(t:Int):Nat:=if t=9 then 3 else if 0<Df t then 0 else 1
def tgs(t:Int):Nat:=if Cj t=true then 1 else 0
theorem kZ(ht:Lt t=true):
  (K5 t=false∧Xm t.toNat=[Aa Ab 0,.nilFunc,.nilFunc,Aa Ab 0])∨
  (K5 t=true∧0<Df t∧Df t≤4∧Cj t=false∧aheadT t=0∧Xm t.toNat=[Aa Ab 0,Lq 309,Lq 310,Aa Ab 0])∨
  (K5 t=true∧Df t=0∧(aheadT t=1∨aheadT t=3)∧Xm t.toNat=[Aa Ab (aheadT t:Int),Lq 311,(if Cj t=true then Lq 312 else Lq 310),Aa Ab (tgs t:Int)]):=by
 have a:=Hg.1 ht;have:t=0∨t=1∨t=2∨t=3∨t=4∨t=5∨t=6∨t=7∨t=8∨t=9∨t=10∨t=11∨t=12∨t=13∨t=14∨t=15∨t=16∨t=17∨t=18∨t=19∨t=20∨t=21∨t=22∨t=23∨t=24∨t=25∨t=26∨t=27∨t=28∨t=29∨t=30∨t=31∨t=32∨t=33∨t=34∨t=35∨t=36:=by omega
 clear a ht;rcases this with rfl|rfl|rfl|rfl|rfl|rfl|rfl|rfl|rfl|rfl|rfl|rfl|rfl|rfl|rfl|rfl|rfl|rfl|rfl|rfl|rfl|rfl|rfl|rfl|rfl|rfl|rfl|rfl|rfl|rfl|rfl|rfl|rfl|rfl|rfl|rfl|rfl
 all_goals first
  |exact .inl ⟨by decide,rfl⟩
  |exact .inr (.inl ⟨by decide,by decide,by decide,by decide,by decide,rfl⟩)
  |exact .inr (.inr ⟨by decide,by decide,by decide,rfl⟩)
theorem Uk(A:Option Addr)(n c:Nat)(p q t v a:Int)(M:Nat)(w:World)(hm:Df t=M)(hM:M≤4):
  Calls Ad 309 #[.slice A n c,.agg (Afg p q t v),Aa Ab a] w (Afc (Aa Ac (M:Int)) w):=by
 have b:=Hd ((Af w.heap.size w).alloc (Ae _) (.cells (Afg p q t v) 70));have f:=Hd hm;clear hm;go_enter func309,ntmps309;go_wp2_with fail;go_at_call 272;refine(K2 t _).mono ?_;rw [f.o];rintro e h ⟨rfl,d⟩;replace b:=Hd (Bi b.o d);clear d;have g:IntKind.u64.wrap (M:Int)=M:=De _ (by omega);go_wp2;go_ret;exact⟨rfl,b.o⟩
theorem iU(A:Option Addr)(n c:Nat)(p q t:Int)(v a:Nat)(l:List UInt8)(w:World)(h:Cv w A n l)(hc:n≤c)(hn:n≤1099511627776)(ha:a≤1099511627776)(hv:v≤8):
  Calls Ad 311 #[.slice A n c,.agg (Afg p q t v),Aa Ab a] w (Afc (Aa Ac (loadU l ((a:Int)-v) v:Nat)) w):=by
 have f:=Hd (h.alloc (.cells (Afg p q t v) 70));have b:=Hd ((Af w.heap.size w).alloc (Ae _) (.cells (Afg p q t v) 70));clear h;go_enter func311,ntmps311;go_wp2_with fail;go_at_call 149;refine(K7 A n c ((a:Int)-v) v l _ f.o hc (by omega)).mono ?_;rintro e g ⟨rfl,d⟩;replace b:=Hd (Bi b.o d);clear d;go_wp2;go_ret;exact⟨rfl,b.o⟩
theorem K6(A:Option Addr)(n c:Nat)(p q t:Int)(v a U:Nat)(l:List UInt8)(w:World)(h:Cv w A n l)(hc:n≤c)(hn:n≤1099511627776)(ha:a≤1099511627776)(hv:v≤8)(hU:loadU l ((a:Int)-v) v=U):
  Calls Ad 311 #[.slice A n c,.agg (Afg p q t v),Aa Ab a] w (Afc (Aa Ac (U:Int)) w):=by
 subst hU;exact iU A n c p q t v a l w h hc hn ha hv
end Go.Proofs.YtejpbijeifjdeaaGreat
