/- Parts of the proof. -/
import Derived.Test.YtgbjodnegkbfoaaGreatQa26
set_option maxHeartbeats 600000
set_option maxRecDepth 100000
open Go.Value renaming int→Aa
open Go.IntKind renaming i64→Ab,u64→Ac
open Nat renaming le_refl→Ath
namespace Go.Proofs.YtgbjodnegkbfoaaGreat
open Go.Acc
mutual
def Tr.sz:Tr→Nat
 | .mk _ _ _ _ _ l=>1+Tr.szL l
def Tr.szL:List Tr→Nat
 | []=>0
 |t::r=>t.sz+Tr.szL r
end
mutual
def Tr.high:Tr→Nat
 | .mk _ _ _ _ _ l=>1+Tr.highL l
def Tr.highL:List Tr→Nat
 | []=>0
 |t::r=>max t.high (Tr.highL r)
end
theorem Aa1{ez et:Int}:∀(l had:List (List UInt8)),(∀s∈l,(0:UInt8)∉s)→l.Nodup→(∀s∈l,s∉had)→Ib ez et had l=0
 | [],_,_,_,_=>rfl
 |k::r,had,h1,h2,h3=>by
  have hz:Br k=false:=by
   cases e:Br k with
   |false=>rfl
   |true=>
    obtain⟨x,hx,e⟩:=List.any_eq_true.1 e;have:x=0:=by simpa using e
    subst this;exact absurd hx (h1 k (by simp))
  have hc:had.contains k=false:=by
   cases e:had.contains k with
   |false=>rfl
   |true=>exact absurd (by simpa using e) (h3 k (by simp))
  obtain⟨n1,n2⟩:=List.nodup_cons.1 h2;unfold Ib;rw [if_neg (by rw [hz];decide),if_neg (by rw [hc];decide)];refine Aa1 r (k::had) (fun s hs=>h1 s (by simp [hs])) n2 fun s hs hm=>?_
  rcases List.mem_cons.1 hm with rfl|hm
  ·exact n1 hs
  ·exact h3 s (by simp [hs]) hm
mutual
theorem Aea{e:P6}(he:e.Ok):∀(t:Tr) (d c:Nat),(Fa e d t c).1=0→d+t.high≤64∧c+t.sz≤4096∧(Fa e d t c).2=c+t.sz
 | .mk k n u s ks l,d,c,h=>by
  rw [Fa] at h⊢;by_cases h1:c+1>4096
  ·rw [if_pos h1] at h;exact absurd h he.limit
  rw [if_neg h1] at h⊢;by_cases h2:d≥64
  ·rw [if_pos h2] at h;exact absurd h he.deep
  rw [if_neg h2] at h⊢;by_cases h3:Dv (.mk k n u s ks l)=false
  ·rw [if_pos h3] at h;exact absurd h he.kind
  rw [if_neg h3] at h⊢;by_cases h4:Hc e.key e.twice (.mk k n u s ks l)≠0
  ·rw [if_pos h4] at h;exact absurd h h4
  rw [if_neg h4] at h⊢;obtain⟨a,b,g⟩:=Zx he l (d+1) (c+1) h;rw [Tr.high,Tr.sz,g];refine⟨?_,?_,by omega⟩
  ·cases l with
   |nil=>rw [Tr.highL];omega
   |cons x r=>have:=a (by simp);omega
  ·cases l with
   |nil=>rw [Tr.szL];omega
   |cons x r=>have:=b (by simp);omega
theorem Zx{e:P6}(he:e.Ok):∀(l:List Tr) (d c:Nat),(Kc e d l c).1=0→(l≠ []→d+Tr.highL l≤64)∧(l≠ []→c+Tr.szL l≤4096)∧(Kc e d l c).2=c+Tr.szL l
 | [],_,_,_=>⟨fun h=>absurd rfl h,fun h=>absurd rfl h,rfl⟩
 |x::r,d,c,h=>by
  rw [Kc] at h⊢;by_cases h1:(Fa e d x c).1≠0
  ·rw [if_pos h1] at h;exact absurd h h1
  rw [if_neg h1] at h⊢;obtain⟨a1,a2,a3⟩:=Aea he x d c (Decidable.not_not.1 h1);obtain⟨b1,b2,b3⟩:=Zx he r d _ h;rw [a3] at b2 b3⊢;rw [Tr.highL,Tr.szL];refine⟨fun _=>?_,fun _=>?_,by rw [b3];omega⟩
  ·cases r with
   |nil=>rw [Tr.highL];omega
   |cons y q=>have:=b1 (by simp);omega
  ·cases r with
   |nil=>rw [Tr.szL];omega
   |cons y q=>have:=b2 (by simp);omega
end
mutual
theorem Aij{e:P6}:∀(t:Tr) (d c:Nat),Ff t→d+t.high≤64→c+t.sz≤4096→Fa e d t c=(0,c+t.sz)
 | .mk k n u s ks l,d,c,h,hd,hc=>by
  rw [Tr.high] at hd;rw [Tr.sz] at hc⊢;cases h with
  |mk h1 h2 h3 h4 hl=>
   rw [Fa,if_neg (by omega),if_neg (by omega),if_neg (by rw [h1];decide)];have hk:Hc e.key e.twice (.mk k n u s ks l)=0:=by
    show(if k=5∧Br s=true then e.key else Ib e.key e.twice [] ks)=0;rw [if_neg,Aa1 ks [] h3 h4 (fun _ _ h=>by simp at h)];rintro⟨e5,hz⟩;obtain⟨x,hx,e⟩:=List.any_eq_true.1 hz;have:x=0:=by simpa using e
    subst this;exact h2 e5 hx
   rw [if_neg (by rw [hk];decide),Ad8 l (d+1) (c+1) hl (by omega) (by omega)];rw [Nat.add_assoc]
theorem Ad8{e:P6}:∀(l:List Tr) (d c:Nat),(∀t∈l,Ff t)→d+Tr.highL l≤64→c+Tr.szL l≤4096→Kc e d l c=(0,c+Tr.szL l)
 | [],_,_,_,_,_=>rfl
 |x::r,d,c,h,hd,hc=>by
  rw [Tr.highL] at hd;rw [Tr.szL] at hc⊢;rw [Kc,Aij x d c (h x (by simp)) (by omega) (by omega),if_neg (by simp),Ad8 r d _ (fun y hy=>h y (by simp [hy])) (by omega) (by omega),Nat.add_assoc]
end
theorem An2{a b:List Tr}(h:a.Perm b):Tr.szL a=Tr.szL b:=by
 induction h with
 |nil=>rfl
 |cons x _ ih=>rw [Tr.szL,Tr.szL,ih]
 |swap x y l=>rw [Tr.szL,Tr.szL,Tr.szL,Tr.szL];omega
 |trans _ _ h1 h2=>exact h1.trans h2
theorem Agp{a b:List Tr}(h:a.Perm b):Tr.highL a=Tr.highL b:=by
 induction h with
 |nil=>rfl
 |cons x _ ih=>rw [Tr.highL,Tr.highL,ih]
 |swap x y l=>rw [Tr.highL,Tr.highL,Tr.highL,Tr.highL];omega
 |trans _ _ h1 h2=>exact h1.trans h2
mutual
theorem Afb:∀(t:Tr),Ff t→(Aq t).sz=t.sz∧(Aq t).high=t.high
 | .mk k n u s ks l,h=>by
  cases h with
  |mk h1 h2 h3 h4 hl=>
   have ih:=Acf l hl;have hll:(Bz l).length=l.length:=by rw [Ca,List.length_map]
   simp only [Dv,Bool.and_eq_true,decide_eq_true_eq] at h1;obtain⟨⟨⟨_,glen⟩,_⟩,_⟩:=h1;rw [Aq];by_cases hk:k=17
   ·rw [if_pos hk];have glen:ks.length=l.length:=glen hk;have hp:=D8 (ks.zip (Bz l));have e2:=An2 (hp.map (·.2));have e3:=Agp (hp.map (·.2));rw [List.map_snd_zip (by omega)] at e2 e3;rw [Tr.sz,Tr.sz,Tr.high,Tr.high,e2,e3,ih.1,ih.2];exact⟨rfl,rfl⟩
   ·rw [if_neg hk,Tr.sz,Tr.sz,Tr.high,Tr.high,ih.1,ih.2];exact⟨rfl,rfl⟩
theorem Acf:∀(l:List Tr),(∀t∈l,Ff t)→Tr.szL (Bz l)=Tr.szL l∧Tr.highL (Bz l)=Tr.highL l
 | [],_=>⟨rfl,rfl⟩
 |t::r,h=>by
  have h1:=Afb t (h t (by simp));have h2:=Acf r (fun x hx=>h x (by simp [hx]));rw [Bz,Tr.szL,Tr.szL,Tr.highL,Tr.highL,h1.1,h1.2,h2.1,h2.2];exact⟨rfl,rfl⟩
end
theorem P1{t:Tr}(h:Ff t):Ff (Aq t):=by
 induction h with
 |mk h1 h2 h3 h4 hl ih=>
  rename_i k n u s ks l;have hm:∀t∈Bz l,Ff t:=by
   intro t ht;rw [Ca] at ht;obtain⟨x,hx,rfl⟩:=List.mem_map.1 ht;exact ih x hx
  have hll:(Bz l).length=l.length:=by rw [Ca,List.length_map]
  have h1':=h1;simp only [Dv,Bool.and_eq_true,decide_eq_true_eq] at h1;obtain⟨⟨⟨⟨⟨⟨⟨⟨⟨g1,g2⟩,q1⟩,q2⟩,q3⟩,q4⟩,q5⟩,glen⟩,q6⟩,hp⟩:=h1;rw [Aq];by_cases hk:k=17
  ·rw [if_pos hk];have glen:ks.length=l.length:=glen hk;have hpm:=D8 (ks.zip (Bz l));have e1:=hpm.map (·.1);rw [List.map_fst_zip (by omega)] at e1;refine .mk ?_ h2 (fun x hx=>h3 x (e1.mem_iff.1 hx)) (e1.nodup_iff.2 h4) (fun t ht=>?_)
   ·simp only [Dv,Bool.and_eq_true,decide_eq_true_eq];refine⟨⟨⟨⟨⟨⟨⟨⟨⟨g1,g2⟩,q1⟩,q2⟩,q3⟩,.inl hk⟩,q5⟩,fun _=>?_⟩,fun h=>?_⟩,List.all_eq_true.2 fun x _=>decide_eq_true (.inl ?_)⟩
    ·simp [Tr.ks,Tr.l]
    ·have h:k=15∨k=16:=h;omega
    ·show As k=0;rw [hk];rfl
   ·obtain⟨y,hy,rfl⟩:=List.mem_map.1 ht;exact hm _ (List.of_mem_zip (hpm.mem_iff.1 hy)).2
  ·rw [if_neg hk];refine .mk ?_ h2 h3 h4 hm;simp only [Dv,Bool.and_eq_true,decide_eq_true_eq];refine⟨⟨⟨⟨⟨⟨⟨⟨⟨g1,g2⟩,q1⟩,q2⟩,q3⟩,q4⟩,q5⟩,fun h=>absurd h hk⟩,fun h=>?_⟩,List.all_eq_true.2 fun x hx=>?_⟩
   ·show 2≤(Bz l).length∧(Bz l).length≤4;rw [hll];exact q6 h
   ·have hx:x∈Bz l:=hx;rw [Ca] at hx;obtain⟨y,hy,rfl⟩:=List.mem_map.1 hx;have:=of_decide_eq_true (List.all_eq_true.1 hp y hy);rw [Aca];exact decide_eq_true this
theorem Pn{t:Tr}(h:Fb t):Fb (Aq t):=by
 induction h with
 |mk h1 h2 h ih=>
  rename_i k n u s ks l;have hm:∀t∈Bz l,Fb t:=by
   intro t ht;rw [Ca] at ht;obtain⟨x,hx,rfl⟩:=List.mem_map.1 ht;exact ih x hx
  rw [Aq];split
  ·refine .mk h1 h2 fun t ht=>?_
   obtain⟨y,hy,rfl⟩:=List.mem_map.1 ht;exact hm _ (List.of_mem_zip ((D8 _).mem_iff.1 hy)).2
  ·exact .mk h1 h2 hm
theorem Al7{e:P6}(he:e.Ok){t:Tr}(h:(Fa e 0 t 0).1=0):(Fa e 0 (Aq t) 0).1=0:=by
 have hv:=H0 he t 0 0 h;obtain⟨h1,h2,_⟩:=Aea he t 0 0 h;obtain⟨s1,s2⟩:=Afb t hv;rw [Aij (Aq t) 0 0 (P1 hv) (by omega) (by omega)]
end Go.Proofs.YtgbjodnegkbfoaaGreat
namespace Go.Proofs.YtgbjodnegkbfoaaGreat
open Go.RowKit Go.Acc
theorem Ag4(z:Int):BitVec.ofInt 64 (IntKind.i64.wrap z)=BitVec.ofInt 64 z:=by
 apply BitVec.eq_of_toNat_eq;rw [BitVec.toNat_ofInt,BitVec.toNat_ofInt]
 congr 1
 show(if(true&&decide (z % 2^64≥2^63))=true then z % 2^64-2^64 else z % 2^64) % _=_;split <;>omega
theorem Acx(fl:Int):Go.bits .and .i64 (Go.bits .andNot .i64 fl 4) 4=0:=by
 have h:BitVec.ofInt 64 (Go.bits .andNot .i64 fl 4)=BitVec.ofInt 64 fl&&& ~~~BitVec.ofInt 64 4:=by
  show BitVec.ofInt 64 (IntKind.i64.wrap ((BitVec.ofInt 64 fl&&& ~~~BitVec.ofInt 64 4).toNat:Int))=_;rw [Ag4,BitVec.ofInt_natCast,BitVec.ofNat_toNat];simp
 show IntKind.i64.wrap ((BitVec.ofInt 64 (Go.bits .andNot .i64 fl 4)&&&BitVec.ofInt 64 4).toNat:Int)=0;rw [h,BitVec.and_assoc,BitVec.and_comm (~~~BitVec.ofInt 64 4)];have:BitVec.ofInt 64 4&&& ~~~BitVec.ofInt 64 4=0#64:=by decide
 rw [this];simp;rfl
theorem Amj(fl:Int):(Go.bits .and .i64 fl 1==0)=true→Ek (bits (Go.bits .andNot .i64 fl 4)) 4=false:=fun _=>by
 have h:=Abq (Go.bits .andNot .i64 fl 4) 4 2 (by decide) rfl;rw [show((4:Nat):Int)=4 from rfl,Acx] at h;rw [←h];rfl
theorem Amk(fl:Int)(h:(Go.bits .and .i64 fl 1==0)=false):Ek (bits fl) 1=true:=by
 have h':=Abq fl 1 0 (by decide) rfl;rw [show((1:Nat):Int)=1 from rfl,h] at h';exact h'.symm
def Aq2(w:World)(T:Tr)(fl:Int)(e:Ending)(w':World):Prop:=
 ∃(z:Nv) (A:Option Addr) (n c f:Nat),e= .returned (.tuple #[.agg #[Aa Ab z.k,Aa Ab z.n,Aa Ac (z.u:Int),.string ⟨z.s.toArray⟩,.slice z.A z.an z.ac,.slice z.B z.bn z.bc],.slice A n c,.bool true])∧(Ek f 4=true→Ek f 1=true)∧(fl=0→f=0)∧Bk w' (fun b=>b<w'.heap.size) z (Aq T)∧J8 w' w.heap.size A n c (E0 f (Aq (Aq T)))∧Below w.heap.size w w'
theorem Alp(w:World):Bk w (fun b=>b<w.heap.size) ⟨0,0,0,[],none,0,0,none,0,0⟩ (.mk 0 0 0 [] [] []):=by
 refine .mk (x:=⟨0,0,0,[],none,0,0,none,0,0⟩) (vs:=[]) ⟨rfl,?_⟩ (fun ad e=>by cases e) (Ath _) (by decide) ⟨rfl,?_⟩ (fun ad e=>by cases e) (Ath _) (by decide) rfl (fun i v t h=>by simp at h)
 ·intro j u h;simp at h
 ·intro j u h;simp at h
theorem Acv:(Fa F6 0 (.mk 0 0 0 [] [] []) 0).1≠0∧Ou (.mk 0 0 0 [] [] []):=by
 refine⟨?_,Aao (by decide)⟩;rw [Fa,if_neg (by decide),if_neg (by decide),if_pos (by decide)];decide
theorem Aof:∃e:Int,(Fa F6 0 (.mk 0 0 0 [] [] []) 0).1=e∧e≠0:=⟨_,rfl,Acv.1⟩
theorem Zs(x:Nv)(T:Tr)(fl er:Int)(w:World)(hC:∀W,Below w.heap.size w W→Calls Tryz.prog 13 #[.agg #[Aa Ab x.k,Aa Ab x.n,Aa Ac (x.u:Int),.string ⟨x.s.toArray⟩,.slice x.A x.an x.ac,.slice x.B x.bn x.bc],Aa Ab 60,Aa Ab 40] W (Ng W T))(hfk:Ou T)(he:(Fa F6 0 T 0).1=er)(hne:er≠0):
  Calls Tryz.prog 22 #[.agg #[Aa Ab x.k,Aa Ab x.n,Aa Ac (x.u:Int),.string ⟨x.s.toArray⟩,.slice x.A x.an x.ac,.slice x.B x.bn x.bc],Aa Ab fl] w fun e w'=>e= .returned (.tuple #[.agg #[Aa Ab 0,Aa Ab 0,Aa Ac 0,.string ⟨#[]⟩,.slice none 0 0,.slice none 0 0],.slice none 0 0,.bool false])∧Below w.heap.size w w':=by
 have HCUT:=Hd hC;have HFK:=Hd hfk;have HE:=Hd (And.intro he hne);have hne2:(er==0)=false:=beq_eq_false_iff_ne.mpr hne;clear hC hfk he hne;have hba:=Ba w (.cells #[Aa Ab x.k,Aa Ab x.n,Aa Ac (x.u:Int),.string ⟨x.s.toArray⟩,.slice x.A x.an x.ac,.slice x.B x.bn x.bc] 26) (.cells #[Aa Ab 0,Aa Ab 0,Aa Ac 0,.string ⟨#[]⟩,.slice none 0 0,.slice none 0 0] 26);have HX:=Hd ((Af.new w 26 #[Aa Ab x.k,Aa Ab x.n,Aa Ac (x.u:Int),.string ⟨x.s.toArray⟩,.slice x.A x.an x.ac,.slice x.B x.bn x.bc]).alloc (.cells #[Aa Ab 0,Aa Ab 0,Aa Ac 0,.string ⟨#[]⟩,.slice none 0 0,.slice none 0 0] 26));have HR:=Hd (Af.new_ (w:=w.alloc (.cells #[Aa Ab x.k,Aa Ab x.n,Aa Ac (x.u:Int),.string ⟨x.s.toArray⟩,.slice x.A x.an x.ac,.slice x.B x.bn x.bc] 26)) (g:=w.heap.size+1) (by simp) 26 #[Aa Ab 0,Aa Ab 0,Aa Ac 0,.string ⟨#[]⟩,.slice none 0 0,.slice none 0 0]);have HB:=Hd hba;clear hba;go_enter Tryz.func22,Tryz.ntmps22;go_upto_region 1 with fail
 generalize (w.alloc (.cells #[Aa Ab x.k,Aa Ab x.n,Aa Ac (x.u:Int),.string ⟨x.s.toArray⟩,.slice x.A x.an x.ac,.slice x.B x.bn x.bc] 26)).alloc (.cells #[Aa Ab 0,Aa Ab 0,Aa Ac 0,.string ⟨#[]⟩,.slice none 0 0,.slice none 0 0] 26)=w1 at HX HR HB⊢;generalize hbt:w.heap.size=bt at HX HR⊢;generalize hbr:bt+1=br at HR⊢;have HT:=Hd (And.intro hbt hbr);clear hbt hbr;obtain ⟨c0,c1,c2,c3,c4,c5⟩:=HX.o.c6;have HC:=Hd (HCUT.o w1 HB.o);go_wp2_with fail;go_at_call 13;refine HC.o.mono ?_;rintro e w2 ⟨y,rfl,hN2,hb2⟩;have HN2:=Hd (show Bk w2 (fun b=>b<w2.heap.size) y T from hN2.mono fun b hb=>hb.2);have HB2:=Hd (Ad HB.o hb2);have HR2:=Hd (HR.o.pure hb2);clear hN2 hb2 c0 c1 c2 c3 c4 c5 HC HX HR HB;have HSO:=Hd (Oo HN2.o (fun k hk=>hk) HFK.o HE.o.1 HE.o.2);go_wp2_with fail;go_at_call 37;refine HSO.o.mono ?_;rintro e w3 ⟨rfl,hb3⟩;have HB3:=Hd (Ad HB2.o hb3);have HR3:=Hd (HR2.o.pure hb3);clear hb3 HSO HN2 HB2 HR2;go_upto_region 2 with fail
 have HB4:=Hd (HB3.o.alloc HB3.o.size (.cells #[Aa Ab 0,Aa Ab 0,Aa Ac 0,.string ⟨#[]⟩,.slice none 0 0,.slice none 0 0] 26));have HR4:=Hd (HR3.o.alloc (.cells #[Aa Ab 0,Aa Ab 0,Aa Ac 0,.string ⟨#[]⟩,.slice none 0 0,.slice none 0 0] 26));have HZ4:=Hd (Af.new w3 26 #[Aa Ab 0,Aa Ab 0,Aa Ac 0,.string ⟨#[]⟩,.slice none 0 0,.slice none 0 0]);generalize w3.alloc (.cells #[Aa Ab 0,Aa Ab 0,Aa Ac 0,.string ⟨#[]⟩,.slice none 0 0,.slice none 0 0] 26)=w4 at HB4 HR4 HZ4⊢;generalize w3.heap.size=bz at HZ4⊢;clear HB3 HR3;obtain⟨q,hq⟩:∃q,Go.bits .and .i64 fl 1=q:=⟨_,rfl⟩;obtain⟨q2,hq2⟩:∃q,Go.bits .andNot .i64 fl 4=q:=⟨_,rfl⟩;obtain⟨ez,hez,hzn⟩:=Aof;have HZE:=Hd (fun F=>Al0 F (Alp w4) (fun k hk=>hk) Acv.2 hez hzn);have hz3:(ez==0)=false:=beq_eq_false_iff_ne.mpr hzn;clear hez hzn;obtain ⟨z0,z1,z2,z3,z4,z5⟩:=HZ4.o.c6;by_cases hq0:q=0
 ·subst hq0;go_wp2_with fail;go_at_call 12;refine(HZE.o _).mono ?_;rintro e w5 ⟨rfl,hb⟩;have HR9:=Hd (HR4.o.pure hb);have HZ9:=Hd (HZ4.o.pure hb);have HB5:=Hd (Ad HB4.o hb);clear hb z0 z1 z2 z3 z4 z5;obtain ⟨r0,r1,r2,r3,r4,r5⟩:=HR9.o.c6;have hfz:∀j,w5.frozen? ⟨br,j,none⟩=false:=fun j=>HR9.o.frozen j
  have f0:=hfz 0;have f1:=hfz 1;have f2:=hfz 2;have f3:=hfz 3;have f4:=hfz 4;have f5:=hfz 5;clear hfz;obtain ⟨z0,z1,z2,z3,z4,z5⟩:=HZ9.o.c6;go_wp2_with fail;refine bodyPost_ret (v:= .tuple #[.agg #[Aa Ab 0,Aa Ab 0,Aa Ac 0,.string ⟨#[]⟩,.slice none 0 0,.slice none 0 0],.slice none 0 0,.bool false]) (by simp [results,Tryz.results22,go_sem,r0,r1,r2,r3,r4,r5]) rfl ?_;have hf:=Fx w5 br (Aa Ab 0) (Aa Ab 0) (Aa Ac 0) (.string ⟨#[]⟩) (.slice none 0 0) (.slice none 0 0);have ht:=HT.o;exact⟨rfl,Bs HB5.o hf (by rintro j rfl;omega)⟩
 ·have hq1:(q==0)=false:=beq_eq_false_iff_ne.mpr hq0;go_wp2_with fail;go_at_call 12;refine(HZE.o _).mono ?_;rintro e w5 ⟨rfl,hb⟩;have HR9:=Hd (HR4.o.pure hb);have HZ9:=Hd (HZ4.o.pure hb);have HB5:=Hd (Ad HB4.o hb);clear hb z0 z1 z2 z3 z4 z5;obtain ⟨r0,r1,r2,r3,r4,r5⟩:=HR9.o.c6;have hfz:∀j,w5.frozen? ⟨br,j,none⟩=false:=fun j=>HR9.o.frozen j
  have f0:=hfz 0;have f1:=hfz 1;have f2:=hfz 2;have f3:=hfz 3;have f4:=hfz 4;have f5:=hfz 5;clear hfz;obtain ⟨z0,z1,z2,z3,z4,z5⟩:=HZ9.o.c6;go_wp2_with fail;refine bodyPost_ret (v:= .tuple #[.agg #[Aa Ab 0,Aa Ab 0,Aa Ac 0,.string ⟨#[]⟩,.slice none 0 0,.slice none 0 0],.slice none 0 0,.bool false]) (by simp [results,Tryz.results22,go_sem,r0,r1,r2,r3,r4,r5]) rfl ?_;have hf:=Fx w5 br (Aa Ab 0) (Aa Ab 0) (Aa Ac 0) (.string ⟨#[]⟩) (.slice none 0 0) (.slice none 0 0);have ht:=HT.o;exact⟨rfl,Bs HB5.o hf (by rintro j rfl;omega)⟩
theorem Zt(x:Nv)(T:Tr)(fl:Int)(w:World)(hC:∀W,Below w.heap.size w W→Calls Tryz.prog 13 #[.agg #[Aa Ab x.k,Aa Ab x.n,Aa Ac (x.u:Int),.string ⟨x.s.toArray⟩,.slice x.A x.an x.ac,.slice x.B x.bn x.bc],Aa Ab 60,Aa Ab 40] W (Ng W T))(hN:Fb T)(hc:T.cost≤65000)(he:(Fa F6 0 T 0).1=0):
  Calls Tryz.prog 22 #[.agg #[Aa Ab x.k,Aa Ab x.n,Aa Ac (x.u:Int),.string ⟨x.s.toArray⟩,.slice x.A x.an x.ac,.slice x.B x.bn x.bc],Aa Ab fl] w (Aq2 w T fl):=by
 have hv:=H0 Kg T 0 0 he;have HCUT:=Hd hC;have HNT:=Hd hN;have HCO:=Hd (And.intro hc he);have HCO2:=Hd (show(Aq T).cost≤65000 by rw [Ij T hv];exact hc);have HCS:=Hd (Al7 Kg he);clear hC hN hc he hv;have hba:=Ba w (.cells #[Aa Ab x.k,Aa Ab x.n,Aa Ac (x.u:Int),.string ⟨x.s.toArray⟩,.slice x.A x.an x.ac,.slice x.B x.bn x.bc] 26) (.cells #[Aa Ab 0,Aa Ab 0,Aa Ac 0,.string ⟨#[]⟩,.slice none 0 0,.slice none 0 0] 26);have HX:=Hd ((Af.new w 26 #[Aa Ab x.k,Aa Ab x.n,Aa Ac (x.u:Int),.string ⟨x.s.toArray⟩,.slice x.A x.an x.ac,.slice x.B x.bn x.bc]).alloc (.cells #[Aa Ab 0,Aa Ab 0,Aa Ac 0,.string ⟨#[]⟩,.slice none 0 0,.slice none 0 0] 26));have HR:=Hd (Af.new_ (w:=w.alloc (.cells #[Aa Ab x.k,Aa Ab x.n,Aa Ac (x.u:Int),.string ⟨x.s.toArray⟩,.slice x.A x.an x.ac,.slice x.B x.bn x.bc] 26)) (g:=w.heap.size+1) (by simp) 26 #[Aa Ab 0,Aa Ab 0,Aa Ac 0,.string ⟨#[]⟩,.slice none 0 0,.slice none 0 0]);have HB:=Hd hba;clear hba;go_enter Tryz.func22,Tryz.ntmps22;go_upto_region 1 with fail
 generalize (w.alloc (.cells #[Aa Ab x.k,Aa Ab x.n,Aa Ac (x.u:Int),.string ⟨x.s.toArray⟩,.slice x.A x.an x.ac,.slice x.B x.bn x.bc] 26)).alloc (.cells #[Aa Ab 0,Aa Ab 0,Aa Ac 0,.string ⟨#[]⟩,.slice none 0 0,.slice none 0 0] 26)=w1 at HX HR HB⊢;generalize hbt:w.heap.size=bt at HX HR⊢;generalize hbr:bt+1=br at HR⊢;have HT:=Hd (And.intro hbt hbr);clear hbt hbr;obtain ⟨c0,c1,c2,c3,c4,c5⟩:=HX.o.c6;have HC:=Hd (HCUT.o w1 HB.o);go_wp2_with fail;go_at_call 13;refine HC.o.mono ?_;rintro e w2 ⟨y,rfl,hN2,hb2⟩;have HN2:=Hd (show Bk w2 (fun b=>b<w2.heap.size) y T from hN2.mono fun b hb=>hb.2);have HB2:=Hd (Ad HB.o hb2);have HR2:=Hd (HR.o.pure hb2);clear hN2 hb2 c0 c1 c2 c3 c4 c5 HC HX HR HB;have HSO:=Hd (Qb HN2.o (fun k hk=>hk) (Nat.le_trans HCO.o.1 (by decide)) HCO.o.2);go_wp2_with fail;go_at_call 37;refine HSO.o.mono ?_;rintro e w3 ⟨z,rfl,hN3,hb3⟩;have HB3:=Hd (Ad HB2.o hb3);have HR3:=Hd (HR2.o.pure hb3);have HLO:=Hd (show br<w2.heap.size from HR2.o.lt);have HN3:=Hd hN3;clear hb3 hN3 HSO HN2 HB2 HR2;go_upto_region 2 with fail
 have hal:=(Below.refl w3.heap.size w3).alloc (Ath _) (.cells #[Aa Ab z.k,Aa Ab z.n,Aa Ac (z.u:Int),.string ⟨z.s.toArray⟩,.slice z.A z.an z.ac,.slice z.B z.bn z.bc] 26);have HB4:=Hd (HB3.o.alloc HB3.o.size (.cells #[Aa Ab z.k,Aa Ab z.n,Aa Ac (z.u:Int),.string ⟨z.s.toArray⟩,.slice z.A z.an z.ac,.slice z.B z.bn z.bc] 26));have HR4:=Hd (HR3.o.alloc (.cells #[Aa Ab z.k,Aa Ab z.n,Aa Ac (z.u:Int),.string ⟨z.s.toArray⟩,.slice z.A z.an z.ac,.slice z.B z.bn z.bc] 26));have HZ4:=Hd (Af.new w3 26 #[Aa Ab z.k,Aa Ab z.n,Aa Ac (z.u:Int),.string ⟨z.s.toArray⟩,.slice z.A z.an z.ac,.slice z.B z.bn z.bc]);have HN4':=Hd (HN3.o.pure hal);have HS4:=Hd hal.size;generalize w3.alloc (.cells #[Aa Ab z.k,Aa Ab z.n,Aa Ac (z.u:Int),.string ⟨z.s.toArray⟩,.slice z.A z.an z.ac,.slice z.B z.bn z.bc] 26)=w4 at HB4 HR4 HZ4 HN4' HS4⊢;have HSEP:=Hd (show ∀a,(w2.heap.size≤a∧a<w3.heap.size)→a≠br from fun a h=>by have:=HLO.o;omega);generalize w3.heap.size=bz at HZ4 HS4 HSEP HN4'⊢;have HN4:=Hd (show Bk w4 (fun b=>b<w4.heap.size) z (Aq T) from HN4'.o.mono fun b hb=>Nat.lt_of_lt_of_le hb.2 HS4.o);clear HB3 HR3 hal HN3;obtain⟨q,hq⟩:∃q,Go.bits .and .i64 fl 1=q:=⟨_,rfl⟩;obtain⟨q2,hq2⟩:∃q,Go.bits .andNot .i64 fl 4=q:=⟨_,rfl⟩;by_cases hq0:q=0
 ·have HFL:=Hd (show Ek (bits q2) 4=true→Ek (bits q2) 1=true by
   have h:=Amj fl (by rw [hq,hq0];rfl);rw [hq2] at h;rw [h];intro h;cases h)
  have HFZ:=Hd (show fl=0→bits q2=0 by
   intro h;rw [←hq2,h];decide)
  subst hq0;have HBD:=Hd (Zr q2 HN4.o (fun k hk=>hk) (Pn HNT.o) HCO2.o HCS.o);obtain ⟨z0,z1,z2,z3,z4,z5⟩:=HZ4.o.c6;go_wp2_with fail;go_at_call 12;refine HBD.o.mono ?_;intro e w5 hD;obtain⟨A,m,c,rfl,hO,hb⟩:=hD;have HO5:=Hd hO;have HN5:=Hd (HN4'.o.pure hb);have HR9:=Hd (HR4.o.pure hb);have HZ9:=Hd (HZ4.o.pure hb);have HB5:=Hd (Ad HB4.o hb);have HS5:=Hd hb.size;clear hO hb z0 z1 z2 z3 z4 z5;obtain ⟨r0,r1,r2,r3,r4,r5⟩:=HR9.o.c6;have hfz:∀j,w5.frozen? ⟨br,j,none⟩=false:=fun j=>HR9.o.frozen j
  have f0:=hfz 0;have f1:=hfz 1;have f2:=hfz 2;have f3:=hfz 3;have f4:=hfz 4;have f5:=hfz 5;clear hfz;obtain ⟨z0,z1,z2,z3,z4,z5⟩:=HZ9.o.c6;go_wp2_with fail;refine bodyPost_ret (v:= .tuple #[.agg #[Aa Ab z.k,Aa Ab z.n,Aa Ac (z.u:Int),.string ⟨z.s.toArray⟩,.slice z.A z.an z.ac,.slice z.B z.bn z.bc],.slice A m c,.bool true]) (by simp [results,Tryz.results22,go_sem,r0,r1,r2,r3,r4,r5]) rfl ?_;have hf:=Fx w5 br (Aa Ab z.k) (Aa Ab z.n) (Aa Ac (z.u:Int)) (.string ⟨z.s.toArray⟩) (.slice z.A z.an z.ac) (.slice z.B z.bn z.bc);have ht:=HT.o;have hr4:=HR4.o.lt;have hs5:=HS5.o;have hf5:=hf.size;have hs4:=HS4.o;have hb4:=HB4.o.size;refine⟨z,A,m,c,bits q2,rfl,HFL.o,HFZ.o,(HN5.o.keep fun a u hc hp=>By hf hc (HSEP.o a.block hp)).mono fun b hb=>by omega,(HO5.o.fr hf (fun ad e hj=>by have:=HO5.o.addr ad e;omega)).rebase (by omega),Bs HB5.o hf (by rintro j rfl;omega)⟩
 ·have HFL:=Hd (show Ek (bits fl) 4=true→Ek (bits fl) 1=true from fun _=>Amk fl (by rw [hq];exact beq_eq_false_iff_ne.mpr hq0));have HFZ:=Hd (show fl=0→bits fl=0 by
   intro h;rw [h] at hq;exact absurd hq.symm (by rw [show Go.bits .and .i64 0 1=0 by decide];exact hq0))
  have hq1:(q==0)=false:=beq_eq_false_iff_ne.mpr hq0;clear hq0;have HBD:=Hd (Zr fl HN4.o (fun k hk=>hk) (Pn HNT.o) HCO2.o HCS.o);obtain ⟨z0,z1,z2,z3,z4,z5⟩:=HZ4.o.c6;go_wp2_with fail;go_at_call 12;refine HBD.o.mono ?_;intro e w5 hD;obtain⟨A,m,c,rfl,hO,hb⟩:=hD;have HO5:=Hd hO;have HN5:=Hd (HN4'.o.pure hb);have HR9:=Hd (HR4.o.pure hb);have HZ9:=Hd (HZ4.o.pure hb);have HB5:=Hd (Ad HB4.o hb);have HS5:=Hd hb.size;clear hO hb z0 z1 z2 z3 z4 z5;obtain ⟨r0,r1,r2,r3,r4,r5⟩:=HR9.o.c6;have hfz:∀j,w5.frozen? ⟨br,j,none⟩=false:=fun j=>HR9.o.frozen j
  have f0:=hfz 0;have f1:=hfz 1;have f2:=hfz 2;have f3:=hfz 3;have f4:=hfz 4;have f5:=hfz 5;clear hfz;obtain ⟨z0,z1,z2,z3,z4,z5⟩:=HZ9.o.c6;go_wp2_with fail;refine bodyPost_ret (v:= .tuple #[.agg #[Aa Ab z.k,Aa Ab z.n,Aa Ac (z.u:Int),.string ⟨z.s.toArray⟩,.slice z.A z.an z.ac,.slice z.B z.bn z.bc],.slice A m c,.bool true]) (by simp [results,Tryz.results22,go_sem,r0,r1,r2,r3,r4,r5]) rfl ?_;have hf:=Fx w5 br (Aa Ab z.k) (Aa Ab z.n) (Aa Ac (z.u:Int)) (.string ⟨z.s.toArray⟩) (.slice z.A z.an z.ac) (.slice z.B z.bn z.bc);have ht:=HT.o;have hr4:=HR4.o.lt;have hs5:=HS5.o;have hf5:=hf.size;have hs4:=HS4.o;have hb4:=HB4.o.size;refine⟨z,A,m,c,bits fl,rfl,HFL.o,HFZ.o,(HN5.o.keep fun a u hc hp=>By hf hc (HSEP.o a.block hp)).mono fun b hb=>by omega,(HO5.o.fr hf (fun ad e hj=>by have:=HO5.o.addr ad e;omega)).rebase (by omega),Bs HB5.o hf (by rintro j rfl;omega)⟩
theorem Ae5{t:Int}(ht:Kv t=true):∀w,(Instr.index 313 (.agg Kw) (Aa Ab t)).run Tryz.prog w= .ok (.agg (Vj t.toNat).toArray) w:=by
 have h:∀n:Fin 37,∀w,(Instr.index 313 (.agg Kw) (Aa Ab ((n.val:Nat):Int))).run Tryz.prog w= .ok (.agg (Vj ((n.val:Nat):Int).toNat).toArray) w:=by
  intro n;rcases n with⟨n,hn⟩
  have:n=0∨n=1∨n=2∨n=3∨n=4∨n=5∨n=6∨n=7∨n=8∨n=9∨n=10∨n=11∨n=12∨n=13∨n=14∨n=15∨n=16∨n=17∨n=18∨n=19∨n=20∨n=21∨n=22∨n=23∨n=24∨n=25∨n=26∨n=27∨n=28∨n=29∨n=30∨n=31∨n=32∨n=33∨n=34∨n=35∨n=36:=by omega
  rcases this with rfl|rfl|rfl|rfl|rfl|rfl|rfl|rfl|rfl|rfl|rfl|rfl|rfl|rfl|rfl|rfl|rfl|rfl|rfl|rfl|rfl|rfl|rfl|rfl|rfl|rfl|rfl|rfl|rfl|rfl|rfl|rfl|rfl|rfl|rfl|rfl|rfl
  all_goals
   intro w
   kernel_rfl
 exact K6 (p:=fun t=>∀w,(Instr.index 313 (.agg Kw) (Aa Ab t)).run Tryz.prog w= .ok (.agg (Vj t.toNat).toArray) w) h ht
def Oc(t:Int):Bool:=decide (t=9∨t=10)||Wz t
def Bo(t:Int):Bool:=decide (t=9∨t=10)
def aheadT(t:Int):Nat:=if t=9 then 3 else if 0<Ei t then 0 else 1
def tgs(t:Int):Nat:=if Bo t=true then 1 else 0
theorem Ae4{t:Int}(ht:Kv t=true):
  (Oc t=false∧Vj t.toNat=[Aa Ab 0,.nilFunc,.nilFunc,Aa Ab 0])∨
  (Oc t=true∧0<Ei t∧Ei t≤4∧Bo t=false∧aheadT t=0∧Vj t.toNat=[Aa Ab 0,Ki 339,Ki 340,Aa Ab 0])∨
  (Oc t=true∧Ei t=0∧(aheadT t=1∨aheadT t=3)∧Vj t.toNat=[Aa Ab (aheadT t:Int),Ki 341,(if Bo t=true then Ki 342 else Ki 340),Aa Ab (tgs t:Int)]):=by
 have hb:=F9.1 ht;have:t=0∨t=1∨t=2∨t=3∨t=4∨t=5∨t=6∨t=7∨t=8∨t=9∨t=10∨t=11∨t=12∨t=13∨t=14∨t=15∨t=16∨t=17∨t=18∨t=19∨t=20∨t=21∨t=22∨t=23∨t=24∨t=25∨t=26∨t=27∨t=28∨t=29∨t=30∨t=31∨t=32∨t=33∨t=34∨t=35∨t=36:=by omega
 clear hb ht;rcases this with rfl|rfl|rfl|rfl|rfl|rfl|rfl|rfl|rfl|rfl|rfl|rfl|rfl|rfl|rfl|rfl|rfl|rfl|rfl|rfl|rfl|rfl|rfl|rfl|rfl|rfl|rfl|rfl|rfl|rfl|rfl|rfl|rfl|rfl|rfl|rfl|rfl
 all_goals first
  |exact .inl ⟨by decide,rfl⟩
  |exact .inr (.inl ⟨by decide,by decide,by decide,by decide,by decide,rfl⟩)
  |exact .inr (.inr ⟨by decide,by decide,by decide,rfl⟩)
theorem Sm(A:Option Addr)(n c:Nat)(p q t v a:Int)(M:Nat)(w:World)(hm:Ei t=M)(hM:M≤4):
  Calls Tryz.prog 339 #[.slice A n c,.agg #[Aa Ab p,Aa Ab q,Aa Ab t,Aa Ab v],Aa Ab a] w fun e w'=>e= .returned (Aa Ac (M:Int))∧Below w.heap.size w w':=by
 have HB:=Hd ((Below.refl w.heap.size w).alloc (Ath _) (.cells #[Aa Ab p,Aa Ab q,Aa Ab t,Aa Ab v] 75));have HM:=Hd hm;clear hm;go_enter Tryz.func339,Tryz.ntmps339;go_wp2_with fail;go_at_call 302;refine(Qu t _).mono ?_;rw [HM.o];rintro e w1 ⟨rfl,hb⟩;replace HB:=Hd (Ad HB.o hb);clear hb;have hw:IntKind.u64.wrap (M:Int)=M:=B8 _ (by omega);go_wp2;go_ret;exact⟨rfl,HB.o⟩
theorem Ado(A:Option Addr)(n c:Nat)(p q t:Int)(v a:Nat)(l:List UInt8)(w:World)(h:Cw w A n l)(hc:n≤c)(hn:n≤1099511627776)(ha:a≤1099511627776)(hv:v≤8):
  Calls Tryz.prog 341 #[.slice A n c,.agg #[Aa Ab p,Aa Ab q,Aa Ab t,Aa Ab v],Aa Ab a] w fun e w'=>e= .returned (Aa Ac (loadU l ((a:Int)-v) v:Nat))∧Below w.heap.size w w':=by
 have HL:=Hd (h.alloc (.cells #[Aa Ab p,Aa Ab q,Aa Ab t,Aa Ab v] 75));have HB:=Hd ((Below.refl w.heap.size w).alloc (Ath _) (.cells #[Aa Ab p,Aa Ab q,Aa Ab t,Aa Ab v] 75));clear h;go_enter Tryz.func341,Tryz.ntmps341;go_wp2_with fail;go_at_call 167;refine(Jz A n c ((a:Int)-v) v l _ HL.o hc (by omega)).mono ?_;rintro e w1 ⟨rfl,hb⟩;replace HB:=Hd (Ad HB.o hb);clear hb;go_wp2;go_ret;exact⟨rfl,HB.o⟩
theorem Jy(A:Option Addr)(n c:Nat)(p q t:Int)(v a U:Nat)(l:List UInt8)(w:World)(h:Cw w A n l)(hc:n≤c)(hn:n≤1099511627776)(ha:a≤1099511627776)(hv:v≤8)(hU:loadU l ((a:Int)-v) v=U):
  Calls Tryz.prog 341 #[.slice A n c,.agg #[Aa Ab p,Aa Ab q,Aa Ab t,Aa Ab v],Aa Ab a] w fun e w'=>e= .returned (Aa Ac (U:Int))∧Below w.heap.size w w':=by
 subst hU;exact Ado A n c p q t v a l w h hc hn ha hv
end Go.Proofs.YtgbjodnegkbfoaaGreat
