/- Parts of the proof. -/
import Derived.Test.YtejpbijeifjdeaaGreatQf24
import Derived.ScopeJumps
import Derived.WalkMore
open List renaming getElem?_eq_getElem→Ag,length_append→Ah,replicate→Al,append_assoc→Am,mem_append_left→Ar,length_map→As,mem_append_right→Bf
open Go.Proofs.Tryz
open Go.Proofs.Tryz renaming prog→Ad
namespace Go.Proofs.YtejpbijeifjdeaaGreat
variable {n w u z d f n':Nat}{L s l:List UInt8}{a t y p q k c:Int}{v:Bv}{r:Rq}{ps l' ps' log:List P3}{b b':Bd}
section
open Go.Acc
theorem Mm(h:n=2∨n=3∨n=4):(Df ((10+3*n:Nat):Int)=(n:Int)∧Df ((11+3*n:Nat):Int)=(n:Int))∧(Cj ((10+3*n:Nat):Int)=false∧Cs (E9 ((10+3*n:Nat):Int))=3)∧(Cj ((11+3*n:Nat):Int)=false∧Cs (E9 ((11+3*n:Nat):Int))=4):=by
 rcases h with rfl|rfl|rfl <;>decide
theorem tV{t:Tr}(h:Ft t):(∀c∈(By t).l,Ts c)∧(∀c∈(By t).l,B5 (By t).k=0∨c.k=B5 (By t).k)∧(By t).l.length=t.l.length:=by
 cases h with
 |mk h1 h2 h3 h4 hl=>
  rename_i k n u s ks l;simp only [Ep,Bool.and_eq_true,decide_eq_true_eq] at h1;obtain⟨⟨⟨_,a⟩,_⟩,i⟩:=h1;rw [By];by_cases f:k=17
  ·rw [if_pos f];have g:=Eo (ks.zip (Cp l));have a:ks.length=l.length:=a f;have j:(Cp l).length=l.length:=by rw [Cx,As]
   refine⟨fun c hc=>?_,fun c _=> .inl ?_,?_⟩
   ·obtain⟨y,m,rfl⟩:=List.mem_map.1 hc;have b:=(List.of_mem_zip (g.mem_iff.1 m)).2;rw [Cx] at b;obtain⟨z,d,e⟩:=List.mem_map.1 b;rw [←e];exact O1 (hl z d)
   ·show B5 k=0;rw [f];rfl
   ·show(List.map (·.2) (Lz (ks.zip (Cp l)))).length=l.length;rw [As,g.length_eq,List.length_zip];omega
  ·rw [if_neg f];refine⟨fun c hc=>?_,fun c hc=>?_,?_⟩
   ·have hc:c∈Cp l:=hc;rw [Cx] at hc;obtain⟨z,d,e⟩:=List.mem_map.1 hc;rw [←e];exact O1 (hl z d)
   ·have hc:c∈Cp l:=hc;rw [Cx] at hc;obtain⟨z,d,e⟩:=List.mem_map.1 hc;rw [←e,fX];exact of_decide_eq_true (List.all_eq_true.1 i z d)
   ·show(Cp l).length=l.length;rw [Cx,As]
end
section
open Go.RowKit Go.Acc
theorem Aen{n:Int}(hw:Bz (w:Int)=true)(h:bWidthI n≤w)(h64: -9223372036854775808≤n∧n≤9223372036854775807):sx w (bits n % 2^(8*w))=n:=by
 unfold sx bits;unfold bWidthI at h;rcases D4 hw with rfl|rfl|rfl|rfl
 ·split at h
  ·split <;>simp at* <;>omega
  ·exfalso;(repeat' split at h) <;>omega
 ·split at h
  ·split <;>simp at* <;>omega
  ·split at h
   ·split <;>simp at* <;>omega
   ·exfalso;(repeat' split at h) <;>omega
 ·split at h
  ·split <;>simp at* <;>omega
  ·split at h
   ·split <;>simp at* <;>omega
   ·split at h
    ·split <;>simp at* <;>omega
    ·omega
 ·split <;>simp at* <;>omega
theorem eN(hw:Bz (w:Int)=true)(h:bWidth u≤w)(hu:u<18446744073709551616):u % 2^(8*w)=u:=by
 refine Nat.mod_eq_of_lt ?_;exact Ev hw hu h
end
section
open Go.Acc
theorem Aap(ht:O9 t=true)(hi:Bq t=true)(hm:Co L.length a w t w=0):D8 L a w t w=0∧Gu L a w t w=a∧G7 L a w t w=w:=by
 have hp:D8 L a w t w=0:=by
  unfold D8;rw [if_neg (by rw [hm];decide),if_neg (by rw [ht];decide),if_pos hi]
 refine⟨hp,?_,?_⟩
 ·unfold Gu;rw [if_pos hp,if_pos hi]
 ·unfold G7;rw [if_pos hp,if_pos hi]
structure Cn(L:List UInt8)(z w:Nat)(v:Bv):Prop where
 sw:Bz (w:Int)=true
 at_:At L z (Bn w (Da w z v))
 el:aS w z v
theorem Cn.le(h:Cn L z w v):z+w≤L.length:=by
 have:=h.at_.le
 rwa [Bo] at this
theorem Cn.may(h:Cn L z w v)(ht:Cb t=true)(hy:Bz y=true):Co L.length (z:Int) (w:Int) t y=0:=by
 have:=h.le;exact Fg.2 ⟨Du.2 ⟨ht,h.sw,hy⟩,Eh.2 ⟨by omega,by omega,by omega⟩⟩
theorem Cn.load(h:Cn L z w v)(hi:inl v.t=false):loadU L (z:Int) (w:Int)=z-v.n∧v.n≤z:=by
 obtain⟨h1,h2⟩:=h.el.2 hi;refine⟨?_,h1⟩;rw [h.at_.load h.sw,Hr];have e:Da w z v=z-v.n:=by unfold Da;rw [if_neg (by rw [hi];decide)]
 rw [e,Nat.mod_eq_of_lt h2]
theorem Cn.leads(h:Cn L z w v)(hi:inl v.t=false)(hl:Cb (v.t:Int)=true)(hv:Bz (v.w:Int)=true):Lh L 0 v (z:Int) (w:Int):=by
 have hm:=h.may hl hv;obtain⟨h1,h2⟩:=h.load hi;have hu:¬(z:Int)<(loadU L (z:Int) (w:Int):Int):=by rw [h1];omega
 have hi':Bq (v.t:Int)=false:=hi;exact⟨hm,Uc hm hi' hu,by rw [gH hm hi' hu,h1];omega⟩
theorem Cn.num(h:Cn L z w v)(hi:inl v.t=true):loadU L (z:Int) (w:Int)=v.n % 2^(8*w)∧v.w≤w:=by
 refine⟨?_,h.el.1 hi⟩;rw [h.at_.load h.sw,Hr];have e:Da w z v=v.n % 2^(8*w):=by unfold Da;rw [if_pos hi]
 rw [e,Nat.mod_mod]
theorem cU{b:List UInt8}(hw:Bz (w:Int)=true)(hb:b.length<2^32)(hf:Dt v b.length 0 w=true):Cn (Di b v w) (Bm w b).length w v:=by
 obtain⟨a1,a2,a3⟩:=Hu hw b;refine⟨hw,(At.last _ _).app _,?_⟩;have h8:=Nt b hw;have e:=X8 (y:=v) (a:=b.length) (i:=0) (w:=w) hw (by rw [Nat.zero_mul,Nat.add_zero,←a1];omega) hf
 rwa [Nat.zero_mul,Nat.add_zero,←a1] at e
theorem Fk.slot{vs:List Bv}(h:Fk L 0 vs v){i:Nat}{y:Bv}(hy:vs[i]?=some y):Cn L (v.n+i*v.w) v.w y:=by
 obtain⟨h1,h2⟩:=h.el i y hy;rw [Nat.zero_add] at h1;exact⟨h.w,h1,h2⟩
end
section
open Go.RowKit Go.Acc
theorem Cn.goes(h:Cn L z w v)(hi:inl v.t=false)(hl:Cb t=true)(hy:Bz y=true)(ht:Bq t=false):Ch L (z:Int) (w:Int) t y=0∧Cg L (z:Int) (w:Int) t y=(v.n:Int):=by
 have hm:=h.may hl hy;obtain⟨h1,h2⟩:=h.load hi;have hu:¬(z:Int)<(loadU L (z:Int) (w:Int):Int):=by rw [h1];omega
 exact⟨Uc hm ht hu,by rw [gH hm ht hu,h1];omega⟩
structure lT(L:List UInt8)(p q t v k n:Int)(u:Nat):Prop where
 plc:D8 L p q t v=0
 int:k=3∨k=8→wN L p q t v=n∧wM L p q t v=0
 uint:k=4∨k=9→oW L p q t v=u∧oV L p q t v=0
 truth:k=2→tN L p q t v=decide (n=1)
theorem zN{v x:Int}(hp:D8 L p q t v=0)(hA:Gu L p q t v=a)(hW:G7 L p q t v=x):Z4 L p q t v=zM L t a x∧scU L p q t v=Up L t a x:=by
 unfold Z4 scU;rw [hp,hA,hW];simp
theorem rR{v n:Int}(hp:D8 L p q t v=0)(hN:Z4 L p q t v=decide (n<0))(hU:scU L p q t v=n.natAbs)(hn: -9223372036854775808≤n∧n≤9223372036854775807):wN L p q t v=n∧wM L p q t v=0:=by
 refine⟨?_,?_⟩
 ·unfold wN;rw [hN,hU];by_cases h0:n<0
  ·rw [if_pos (decide_eq_true h0)];omega
  ·rw [if_neg (by simpa using h0),if_neg (by unfold aP;simp;omega)];omega
 ·unfold wM;rw [if_neg (by rw [hp];decide),hN,hU];by_cases h0:n<0
  ·rw [if_pos (decide_eq_true h0)]
  ·rw [if_neg (by simpa using h0),if_neg (by unfold aP;simp;omega)]
theorem lK{v:Int}(hp:D8 L p q t v=0)(hN:Z4 L p q t v=false)(hU:scU L p q t v=u):oW L p q t v=u∧oV L p q t v=0:=by
 refine⟨?_,?_⟩
 ·unfold oW;rw [hN,hU];rfl
 ·unfold oV;rw [if_neg (by rw [hp];decide),hN];rfl
theorem Q4{n:Int}(hw:Bz (w:Int)=true)(hb:bWidthI n≤w)(hn: -9223372036854775808≤n∧n≤9223372036854775807)(hl:loadU L a w=bits n % 2^(8*w))(h0:0≤a)(h1:a+w≤L.length):I9 L a w=n:=by
 unfold I9;rw [if_pos ⟨hw,h0,h1⟩,hl,show(w:Int).toNat=w from rfl];exact Aen hw hb hn
theorem xC{n:Int}(h:Cn L z w v)(hv:(k=1∧v=⟨0,1,0⟩)∨(k=2∧v=Dh n)∨(k=3∧v=C5 n)∨(k=4∧v=C9 u))(hn: -9223372036854775808≤n∧n≤9223372036854775807)(hu:u<18446744073709551616):
  Co L.length z w v.t w=0∧Bq (v.t:Int)=true∧Cs (v.t:Int)=k∧lT L z w v.t w k n u:=by
 have a:inl v.t=true:=by rcases hv with⟨_,rfl⟩|⟨_,rfl⟩|⟨_,rfl⟩|⟨_,rfl⟩ <;>first|rfl|decide
 have o:Cb (v.t:Int)=true:=Ls a;have g:=h.may (t:=v.t) o h.sw;obtain⟨b,l,m⟩:=Aap (rP a) a g;obtain⟨i,d⟩:=zN b l m;obtain⟨c,e⟩:=h.num a;have p:=h.le;refine⟨g,a,?_,b,fun hk=>?_,fun hk=>?_,fun hk=>?_⟩
 ·rcases hv with⟨rfl,rfl⟩|⟨rfl,rfl⟩|⟨rfl,rfl⟩|⟨rfl,rfl⟩
  ·exact(by decide:Cs ((0:Nat):Int)=1)
  ·exact(by decide:Cs ((26:Nat):Int)=2)
  ·exact(by decide:Cs ((1:Nat):Int)=3)
  ·exact(by decide:Cs ((2:Nat):Int)=4)
 ·obtain rfl:v=C5 n:=by
   rcases hv with⟨rfl,_⟩|⟨rfl,_⟩|⟨_,h⟩|⟨rfl,_⟩
   ·omega
   ·omega
   ·exact h
   ·omega
  have f:=Q4 h.sw e hn c (by omega) (by omega);refine rR b ?_ ?_ hn
  ·rw [i];unfold zM;rw [f];simp [C5]
  ·rw [d];unfold Up;rw [f];rfl
 ·obtain rfl:v=C9 u:=by
   rcases hv with⟨rfl,_⟩|⟨rfl,_⟩|⟨rfl,_⟩|⟨_,h⟩
   ·omega
   ·omega
   ·omega
   ·exact h
  refine lK b ?_ ?_
  ·rw [i];rfl
  ·rw [d];show Up L 2 (z:Int) (w:Int)=u;unfold Up;rw [if_neg (by decide),if_neg (by decide),if_neg (by decide),c];exact eN h.sw e hu
 ·obtain rfl:v=Dh n:=by
   rcases hv with⟨rfl,_⟩|⟨_,h⟩|⟨rfl,_⟩|⟨rfl,_⟩
   ·omega
   ·exact h
   ·omega
   ·omega
  have j:loadU L (z:Int) (w:Int)=if n=1 then 1 else 0:=by
   rw [c];show(if n=1 then 1 else 0) % 2^(8*w)=_;rcases C8.1 h.sw with rfl|rfl|rfl|rfl <;>(split <;>rfl)
  unfold tN;rw [d];show((Up L 26 (z:Int) (w:Int):Int) != 0)=_;unfold Up;rw [if_neg (by decide),if_pos rfl,j];by_cases h1:n=1
  ·rw [if_pos h1];simp [h1]
  ·rw [if_neg h1];simp [h1]
theorem V2{n:Int}(h:Cn L z w v)(hv:(k=8∧Gi L 6 (bWidthI n) (bits n) v)∨(k=9∧Gi L 7 (bWidth u) u v))(hn: -9223372036854775808≤n∧n≤9223372036854775807)(hu:u<18446744073709551616):
  Co L.length z w v.t v.w=0∧Bq (v.t:Int)=false∧Cs (v.t:Int)=k∧Ch L z w v.t v.w=0∧Cg L z w v.t v.w=v.n∧lT L z w v.t v.w k n u:=by
 obtain⟨x,y,f,o,c,F,ht⟩:∃x y:Nat,Bz (x:Int)=true∧v.w=x∧At L v.n (Bn x (y % 2^(8*x)))∧v.n % x=0∧((k=8∧v.t=6∧x=bWidthI n∧y=bits n)∨(k=9∧v.t=7∧x=bWidth u∧y=u)):=by
  rcases hv with⟨rfl,h1,h2,h3,j⟩|⟨rfl,h1,h2,h3,j⟩
  ·exact⟨_,_,Hv n,h2,h3,j,.inl ⟨rfl,h1,rfl,rfl⟩⟩
  ·exact⟨_,_,Dy u,h2,h3,j,.inr ⟨rfl,h1,rfl,rfl⟩⟩
 have l:(v.t=6∨v.t=7):=by rcases ht with⟨_,h,_⟩|⟨_,h,_⟩ <;>omega
 have a:inl v.t=false:=by rcases l with e|e <;>rw [e] <;>decide
 have r:Cb (v.t:Int)=true:=by rcases l with e|e <;>rw [e] <;>decide
 have G:O9 (v.t:Int)=true:=by rcases l with e|e <;>rw [e] <;>decide
 rw [o];have s:=h.may (t:=v.t) (y:=x) r f;obtain⟨p,i⟩:=h.goes a r f a;have m:=c.le;rw [Bo] at m;have d:loadU L (v.n:Int) (x:Int)=y % 2^(8*x):=by rw [c.load f,Hr,Nat.mod_mod]
 have b:D8 L z w v.t x=0:=by
  unfold D8;rw [if_neg (by rw [s];decide),if_neg (by rw [G];decide),if_neg (by rw [show Bq (v.t:Int)=false from a];decide),if_neg (by rw [p];decide),i,if_neg (by omega),if_neg (by rw [Eh.2 ⟨by omega,by omega,by omega⟩];decide)]
 have D:Gu L z w v.t x=v.n:=by unfold Gu;rw [if_pos b,if_neg (by rw [show Bq (v.t:Int)=false from a];decide),i]
 have E:G7 L z w v.t x=x:=by unfold G7;rw [if_pos b,if_neg (by rw [show Bq (v.t:Int)=false from a];decide)]
 obtain⟨A,B⟩:=zN b D E;refine⟨s,a,?_,p,i,b,fun hk=>?_,fun hk=>?_,fun hk=>?_⟩
 ·rcases ht with⟨rfl,e,_⟩|⟨rfl,e,_⟩ <;>rw [e] <;>decide
 ·rcases ht with⟨_,e,C,g⟩|⟨rfl,_⟩
  ·have q:=Q4 (n:=n) f (by omega) hn (by rw [d,g]) (by omega) (by omega);refine rR b ?_ ?_ hn
   ·rw [A];unfold zM;rw [q,e];simp
   ·rw [B];unfold Up;rw [q,e];rfl
  ·omega
 ·rcases ht with⟨rfl,_⟩|⟨_,e,C,g⟩
  ·omega
  ·refine lK b ?_ ?_
   ·rw [A,e];rfl
   ·rw [B,e];show Up L 7 (v.n:Int) (x:Int)=u;unfold Up;rw [if_neg (by decide),if_neg (by decide),if_neg (by decide),d,g];exact eN f (by omega) hu
 ·rcases ht with⟨rfl,_⟩|⟨rfl,_⟩ <;>omega
structure X2(L:List UInt8)(p q t v k:Int)(s:List UInt8)(a:Nat):Prop where
 may:Co L.length p q t v=0
 ty:(k=5∧t=4)∨(k=6∧t=5)∨(k=7∧t=25)
 tg:Ch L p q t v=0∧Cg L p q t v=a
 fnd:∀ts,G3 ts t=true→D7 L p q t v ts=0∧Fc L p q t v ts=s∧Dj L p q t v ts=a
theorem Qx(h:Cn L z w v)(hk:Gc L s v)(h0:(0:UInt8)∉s)(hy:Bz y=true):X2 L z w 4 y 5 s v.n:=by
 obtain⟨f,_,g⟩:=hk;have e:inl v.t=false:=by rw [f];decide
 have d:=h.may (t:=4) (by decide) hy;obtain⟨c,a⟩:=h.goes e (t:=4) (by decide) hy (by decide);obtain⟨i,j⟩:=Aaw g h0;have b:∀ts,G3 ts 4=true→D7 L z w 4 y ts=0:=by
  intro ts ht;unfold D7;rw [if_neg (by rw [d];decide),if_neg (by rw [ht];decide),if_neg (by rw [c];decide),if_pos rfl,a];exact i
 refine⟨d,.inl ⟨rfl,rfl⟩,⟨c,a⟩,fun ts ht=>⟨b ts ht,?_,?_⟩⟩
 ·unfold Fc;rw [if_pos (b ts ht),if_pos rfl,a];exact j
 ·unfold Dj;rw [if_pos (b ts ht),a]
theorem Tk(h:Cn L z w v)(hk:(k=6∧D3 L 5 s [0] v)∨(k=7∧D3 L 25 s [] v))(hL:L.length<2^32):X2 L z w v.t v.w k s v.n:=by
 obtain⟨zs,j,T,E,a,b,c,d,f,i,g⟩:∃(zs:List UInt8) (j T:Nat),zs=Al j 0∧v.t=T∧v.w=bWidth s.length∧∃c,v.n=c+v.w∧At L c (Bn v.w s.length++s++zs)∧c % v.w=0∧((k=6∧T=5∧j=1)∨(k=7∧T=25∧j=0)):=by
  rcases hk with⟨e,a,b,c,d,f,i⟩|⟨e,a,b,c,d,f,i⟩
  ·exact⟨[0],1,5,rfl,a,b,c,d,f,i,.inl ⟨e,rfl,rfl⟩⟩
  ·exact⟨[],0,25,rfl,a,b,c,d,f,i,.inr ⟨e,rfl,rfl⟩⟩
 have q:Bz (v.w:Int)=true:=by rw [b];exact Dy _
 have x:inl v.t=false:=by rw [a];rcases g with⟨_,rfl,_⟩|⟨_,rfl,_⟩ <;>decide
 have y:Cb (v.t:Int)=true:=by rw [a];rcases g with⟨_,rfl,_⟩|⟨_,rfl,_⟩ <;>decide
 have A:=h.may (t:=v.t) y q;obtain⟨r,l⟩:=h.goes x y q x;have o:=f.le;simp only [Ah,Bo] at o;have p:s.length<2^(8*v.w):=by rw [b];exact Ev (Dy _) (by omega) (Nat.le_refl _)
 obtain⟨B,C⟩:=Aaf q i f p E;have u:¬((v.t:Int)=4):=by rw [a];rcases g with⟨_,rfl,_⟩|⟨_,rfl,_⟩ <;>decide
 have D:(if(v.t:Int)=5 then 1 else 0)=j:=by rw [a];rcases g with⟨_,rfl,rfl⟩|⟨_,rfl,rfl⟩ <;>rfl
 have m:∀ts,G3 ts v.t=true→D7 L z w v.t v.w ts=0:=by
  intro ts ht;unfold D7;rw [if_neg (by rw [A];decide),if_neg (by rw [ht];decide),if_neg (by rw [r];decide),if_neg u,l,D,d];exact B
 refine⟨A,?_,⟨r,l⟩,fun ts ht=>⟨m ts ht,?_,?_⟩⟩
 ·rw [a];rcases g with⟨e,rfl,_⟩|⟨e,rfl,_⟩
  ·exact .inr (.inl ⟨e,rfl⟩)
  ·exact .inr (.inr ⟨e,rfl⟩)
 ·unfold Fc;rw [if_pos (m ts ht),if_neg u,l,d];exact C
 ·unfold Dj;rw [if_pos (m ts ht),l]
def Prp(y:Bv):Prop:=y=⟨0,1,0⟩∨(∃n,y=Dh n)∨(∃n:Int,(-9223372036854775808≤n∧n≤9223372036854775807)∧y=C5 n)∨(∃u,u<18446744073709551616∧y=C9 u)∨inl y.t=false
def Ji(T:Int)(vs:List Bv):Prop:=∀y∈vs,Prp y∧Cb (y.t:Int)=true∧Bz (y.w:Int)=true∧(Cj T=false→E9 T=(y.t:Int))
structure Vz(L:List UInt8)(P:Int→Int→Int→Int→Prop):Prop where
 key:∀{z w:Nat} {v:Bv} {s:List UInt8} {y:Int},Cn L z w v→Gc L s v→(0:UInt8)∉s→Bz y=true→P z w 4 y
 text:∀{z w:Nat} {v:Bv} {s:List UInt8},Cn L z w v→(D3 L 5 s [0] v∨D3 L 25 s [] v)→P z w v.t v.w
 num:∀{z w:Nat} {v:Bv} {n:Int} {u:Nat},Cn L z w v→(Gi L 6 (bWidthI n) (bits n) v∨Gi L 7 (bWidth u) u v)→(-9223372036854775808≤n∧n≤9223372036854775807)→u<18446744073709551616→P z w v.t v.w
 vec:∀{z w:Nat} {v:Bv} {len tags:Bool} {vs:List Bv},Cn L z w v→Lh L 0 v z w→Fk L 0 vs v→Dc L v.t len tags vs v→(v.t:Int)≠9→aheadT (v.t:Int)=(if len=true then 1 else 0)→Ji v.t vs→P z w v.t v.w
 map:∀{z w:Nat} {v kv:Bv} {vs kvs:List Bv},Cn L z w v→Lh L 0 v z w→Fk L 0 vs v→Dc L 14 true false kvs kv→G5 L kv vs v→(v.t:Int)=9→Ji v.t vs→P z w v.t v.w
theorem Vz.any(L:List UInt8):Vz L fun _ _ _ _=>True:=⟨fun _ _ _ _=>trivial,fun _ _=>trivial,fun _ _ _ _=>trivial,fun _ _ _ _ _ _ _=>trivial,fun _ _ _ _ _ _ _=>trivial⟩
inductive J8(L:List UInt8)(P:Int→Int→Int→Int→Prop):Int→Int→Int→Int→Tr→Prop
 |inl {p q t v k n:Int} {u:Nat} (s ks c) (hm:Co L.length p q t v=0) (hi:Bq t=true) (hk:Cs t=k) (h4:1≤k∧k≤4) (hv:lT L p q t v k n u):J8 L P p q t v (.mk k n u s ks c)
 |txt {p q t v k:Int} {s:List UInt8} {a:Nat} (n u ks c) (hr:X2 L p q t v k s a) (hP:P p q t v):J8 L P p q t v (.mk k n u s ks c)
 |num {p q t v k n:Int} {u:Nat} (s ks c) (hm:Co L.length p q t v=0) (hi:Bq t=false) (hk:Cs t=k) (h8:k=8∨k=9) (htg:Ch L p q t v=0) (hv:lT L p q t v k n u) (hP:P p q t v):J8 L P p q t v (.mk k n u s ks c)
 |list {p q t v k:Int} {c:List Tr} (n u s ks) (hm:Co L.length p q t v=0) (hi:Bq t=false) (hk:Cs t=k) (h10:10≤k∧k≤16) (htg:Ch L p q t v=0) (hl:C2 L p q t v=0∧lsLen L p q t v=c.length) (hP:P p q t v)
   (ha:∀i:Nat,i<c.length→F5 L p q t v i=0) (he:∀(i:Nat) x,c[i]?=some x→J8 L P (Ka L p q t v i) (Kb L p q t v i) (Kv L p q t v i) (Kw L p q t v i) x):J8 L P p q t v (.mk k n u s ks c)
 |map {p q v:Int} {c:List Tr} {ks:List (List UInt8)} (n u s) (hm:Co L.length p q 9 v=0) (htg:Ch L p q 9 v=0) (hl:C2 L p q 9 v=0∧lsLen L p q 9 v=c.length) (hks:ks.length=c.length) (hy:Ib L p q 9 v=0) (ho:opE L p q 9 v=0)
   (hkl:Nq L p q 9 v=14∧Ch L (Gm L p q 9 v) (Gn L p q 9 v) 14 (Gw L p q 9 v)=0∧C2 L (Gm L p q 9 v) (Gn L p q 9 v) 14 (Gw L p q 9 v)=0∧lsLen L (Gm L p q 9 v) (Gn L p q 9 v) 14 (Gw L p q 9 v)=c.length) (hP:P p q 9 v∧P (Gm L p q 9 v) (Gn L p q 9 v) 14 (Gw L p q 9 v))
   (hke:∀(i:Nat) s,ks[i]?=some s→F5 L (Gm L p q 9 v) (Gn L p q 9 v) 14 (Gw L p q 9 v) i=0∧∃a,X2 L (Ka L (Gm L p q 9 v) (Gn L p q 9 v) 14 (Gw L p q 9 v) i) (Kb L (Gm L p q 9 v) (Gn L p q 9 v) 14 (Gw L p q 9 v) i) (Kv L (Gm L p q 9 v) (Gn L p q 9 v) 14 (Gw L p q 9 v) i) (Kw L (Gm L p q 9 v) (Gn L p q 9 v) 14 (Gw L p q 9 v) i) 5 s a∧P (Ka L (Gm L p q 9 v) (Gn L p q 9 v) 14 (Gw L p q 9 v) i) (Kb L (Gm L p q 9 v) (Gn L p q 9 v) 14 (Gw L p q 9 v) i) (Kv L (Gm L p q 9 v) (Gn L p q 9 v) 14 (Gw L p q 9 v) i) (Kw L (Gm L p q 9 v) (Gn L p q 9 v) 14 (Gw L p q 9 v) i))
   (ha:∀i:Nat,i<c.length→F5 L p q 9 v i=0) (he:∀(i:Nat) x,c[i]?=some x→J8 L P (Ka L p q 9 v i) (Kb L p q 9 v i) (Kv L p q 9 v i) (Kw L p q 9 v i) x):J8 L P p q 9 v (.mk 17 n u s ks c)
mutual
def Tr.cnt:Tr→Nat
 | .mk k _ _ _ ks l=>(if k=17 then 2+ks.length else 1)+Tr.cntL l
def Tr.cntL:List Tr→Nat
 | []=>0
 |t::r=>t.cnt+Tr.cntL r
end
theorem Gz(s:Bw)(a b c:Int):(s.tell a b c).left=s.left:=by unfold Bw.tell;split <;>rfl
theorem Qh(r:Rq)(s:Bw):(C7 r s).left=s.left-1:=by unfold C7;rw [Gz];rfl
def R3(n:Nat)(s:Bw)(x:Bw×Int):Prop:=x.2=0∧s.left-n≤x.1.left∧x.1.left≤s.left
def Qj(go:Rq→Bw→Bw×Int)(d:Nat)(n:Nat)(r:Rq):Prop:=∀s:Bw,(n:Int)≤s.left→s.left.toNat<d→R3 n s (go r s)
theorem M7(ht:Ch L r.p r.q r.t r.v=0)(hi:Bq r.t=false)(h:∀s:Bw,(n:Int)≤s.left→s.left.toNat<d→R3 n s (Ee L (Ct L d) r s)):Qj (Ct L (d+1)) (d+1) (n+1) r:=by
 intro s h1 h2;unfold Ct;rw [if_neg (by omega),if_neg (by rw [hi];decide)];by_cases b:F7 L r∈s.had
 ·rw [if_pos (.inr b),ht];refine⟨rfl,?_,?_⟩
  ·show s.left-_≤(C7 r s).left;rw [Qh];omega
  ·show(C7 r s).left≤_;rw [Qh];omega
 ·rw [if_neg (by rw [ht];intro h;rcases h with h|h;exact h rfl;exact b h)];have a:((C7 r s).see (F7 L r)).left=s.left-1:=Qh r s;obtain⟨c,e,f⟩:=h ((C7 r s).see (F7 L r)) (by rw [a];omega) (by rw [a];omega);rw [a] at e f;exact⟨c,by omega,by omega⟩
theorem bQ{v:Int}{a:Nat}(h:X2 L p q t v k s a)(d:Nat):Qj (Ct L (d+1)) (d+1) 1 ⟨p,q,t,v⟩:=by
 have ht:t=4∨t=5∨t=25:=by rcases h.ty with⟨_,h⟩|⟨_,h⟩|⟨_,h⟩ <;>omega
 have c:Bq t=false:=by rcases ht with rfl|rfl|rfl <;>decide
 have b:G3 [4,5,25] t=true:=by rcases ht with rfl|rfl|rfl <;>decide
 refine M7 (n:=0) (r:=⟨p,q,t,v⟩) h.tg.1 c (fun st h1 h2=>?_);unfold Ee Ey;rw [if_pos b,if_neg (by rw [(h.fnd _ b).1];decide)];split
 ·exact⟨rfl,by show _≤(Bw.tell _ _ _ _).left;rw [Gz];omega,by show(Bw.tell _ _ _ _).left≤_;rw [Gz];omega⟩
 ·split
  ·exact⟨rfl,by show _≤(Bw.tell _ _ _ _).left;rw [Gz,Gz];omega,by show(Bw.tell _ _ _ _).left≤_;rw [Gz,Gz];omega⟩
  ·exact⟨rfl,by show _≤(Bw.tell _ _ _ _).left;rw [Gz,Gz];omega,by show(Bw.tell _ _ _ _).left≤_;rw [Gz,Gz];omega⟩
theorem Ae6(L:List UInt8)(r:Rq)(i:Nat)(s:Bw):(F8 L r i s).left=s.left:=by unfold F8;split;rw [Gz];rfl
theorem Wi{N:Nat}{L:List UInt8}{go:Rq→Bw→Bw×Int}{r:Rq}{d:Nat}(f:Nat→Nat)(hE:∀i:Nat,i<N→F5 L r.p r.q r.t r.v i=0∧Qj go d (f i) (Ga L r i)):∀(k i:Nat) (s:Bw),i+k≤N→(((List.range' i k).map f).sum:Int)≤s.left→s.left.toNat<d→R3 ((List.range' i k).map f).sum s (D0 L go r k i s)
 |0,i,s,_,_,_=>⟨rfl,by simp [D0],by simp [D0]⟩
 |k+1,i,s,h1,h2,h3=>by
  obtain⟨a,b⟩:=hE i (by omega);rw [List.range'_succ,List.map_cons,List.sum_cons] at h2⊢;have ht:=Ae6 L r i s;obtain⟨c,e,g⟩:=b (F8 L r i s) (by rw [ht];omega) (by rw [ht];omega);rw [ht] at e g;unfold D0;rw [if_neg (by rw [a];decide),if_neg (by rw [c];decide)];obtain⟨h,j,l⟩:=Wi f hE k (i+1) (go (Ga L r i) (F8 L r i s)).1 (by omega) (by omega) (by omega);exact⟨h,by omega,by omega⟩
def He(a b c:Int):List P3:=if a<b then [(a,b,c)] else []
theorem Kq(s:Bw)(a b c:Int):(s.tell a b c).o=s.o++He a b c:=by
 unfold Bw.tell He;split
 ·rfl
 ·simp
def Hq(r:Rq):List P3:=He r.p (r.p+r.q) (Er r.t)
def J0(l:List UInt8)(r:Rq):List P3:=
 if G3 [4,5,25] r.t=true then
  (if r.t=4 then He (Dj l r.p r.q r.t r.v [4,5,25]) (Dj l r.p r.q r.t r.v [4,5,25]+(Fc l r.p r.q r.t r.v [4,5,25]).length+1) 9
  else if r.t=5 then He (Dj l r.p r.q r.t r.v [4,5,25]-r.v) (Dj l r.p r.q r.t r.v [4,5,25]) 6++He (Dj l r.p r.q r.t r.v [4,5,25]) (Dj l r.p r.q r.t r.v [4,5,25]+(Fc l r.p r.q r.t r.v [4,5,25]).length+1) 10
  else He (Dj l r.p r.q r.t r.v [4,5,25]-r.v) (Dj l r.p r.q r.t r.v [4,5,25]) 6++He (Dj l r.p r.q r.t r.v [4,5,25]) (Dj l r.p r.q r.t r.v [4,5,25]+(Fc l r.p r.q r.t r.v [4,5,25]).length) 11)
 else if r.t=6∨r.t=7 then He (Gu l r.p r.q r.t r.v) (Gu l r.p r.q r.t r.v+G7 l r.p r.q r.t r.v) (if r.t=6 then 12 else 13)
 else(if r.t=9 then He (lsFrom l r.p r.q r.t r.v+r.v) (lsFrom l r.p r.q r.t r.v+2*r.v) 7 else [])++(if lsFrom l r.p r.q r.t r.v<lsAt l r.p r.q r.t r.v then He ((lsAt l r.p r.q r.t r.v:Int)-r.v) (lsAt l r.p r.q r.t r.v) 6 else [])++
  (if Cj r.t=true then(List.range (lsLen l r.p r.q r.t r.v)).flatMap fun i=>He ((lsAt l r.p r.q r.t r.v:Int)+lsLen l r.p r.q r.t r.v*r.v+(i:Nat)) ((lsAt l r.p r.q r.t r.v:Int)+lsLen l r.p r.q r.t r.v*r.v+(i:Nat)+1) 8 else [])
def Gy(l:List UInt8)(r:Rq):List Rq:=
 if G3 [4,5,25] r.t=true∨r.t=6∨r.t=7 then [] else(if r.t=9 then [En l r] else [])++(List.range (lsLen l r.p r.q r.t r.v)).map fun i=>Ga l r i
inductive Ds(l:List UInt8):Rq→P3→Prop
 |own {r:Rq} {x:P3} (hi:Bq r.t=false) (h:x∈J0 l r):Ds l r x
 |slot {r c:Rq} {x:P3} (hi:Bq r.t=false) (hc:c∈Gy l r) (h:x∈Hq c):Ds l r x
 |deep {r c:Rq} {x:P3} (hi:Bq r.t=false) (hc:c∈Gy l r) (h:Ds l c x):Ds l r x
def O3(l:List UInt8)(s:Bw)(c:Rq):Prop:=(∀x∈Hq c,x∈s.o)∧(Bq c.t=true∨(Bq c.t=false∧Ch l c.p c.q c.t c.v=0∧F7 l c∈s.had))
def aL(l:List UInt8)(s:Bw)(y:P3):Prop:=∃r,F7 l r=y∧Ch l r.p r.q r.t r.v=0∧Bq r.t=false∧(∀x∈J0 l r,x∈s.o)∧∀c∈Gy l r,O3 l s c
structure Tv(l:List UInt8)(U:P3→Prop)(s s':Bw):Prop where
 sub:∀y∈s.had,y∈s'.had
 osub:∀x∈s.o,x∈s'.o
 new:∀y∈s'.had,y∈s.had∨aL l s' y
 up:∀x∈s'.o,x∈s.o∨U x
 cnt:(nslot s'.o:Int)+s'.left≤nslot s.o+s.left
 nn:0≤s.left→0≤s'.left
section
variable {l:List UInt8} {U V:P3→Prop} {s s' s'':Bw}
theorem O3.mono{c:Rq}(h:O3 l s c)(hs:∀y∈s.had,y∈s'.had)(ho:∀x∈s.o,x∈s'.o):O3 l s' c:=⟨fun x hx=>ho x (h.1 x hx),h.2.imp id fun h=>⟨h.1,h.2.1,hs _ h.2.2⟩⟩
theorem aL.mono{y:P3}(h:aL l s y)(hs:∀y∈s.had,y∈s'.had)(ho:∀x∈s.o,x∈s'.o):aL l s' y:=by
 obtain⟨r,h1,h2,h3,h4,h5⟩:=h;exact⟨r,h1,h2,h3,fun x hx=>ho x (h4 x hx),fun c hc=>(h5 c hc).mono hs ho⟩
theorem Tv.trans(h:Tv l U s s')(k:Tv l U s' s''):Tv l U s s'':=⟨fun y hy=>k.sub y (h.sub y hy),fun x hx=>k.osub x (h.osub x hx),fun y hy=>by
 rcases k.new y hy with h1|h1
 ·exact(h.new y h1).imp id fun h2=>h2.mono k.sub k.osub
 ·exact .inr h1,fun x hx=>by
 rcases k.up x hx with h1|h1
 ·exact h.up x h1
 ·exact .inr h1,Int.le_trans k.cnt h.cnt,fun h0=>k.nn (h.nn h0)⟩
theorem Tv.wide(h:Tv l U s s')(hU:∀x,U x→V x):Tv l V s s':=⟨h.sub,h.osub,h.new,fun x hx=>(h.up x hx).imp id (hU x),h.cnt,h.nn⟩
theorem Tv.refl(s:Bw):Tv l U s s:=⟨fun _ h=>h,fun _ h=>h,fun _ h=> .inl h,fun _ h=> .inl h,Int.le_refl _,fun h=>h⟩
theorem xB{b:Int}(hc:5<c):nslot (He a b c)=0:=by
 unfold He nslot;split
 ·rw [List.countP_cons_of_neg (by simp;omega)];rfl
 ·rfl
theorem Mr(s:Bw){b:Int}(hc:5<c)(hU:∀x∈He a b c,U x):Tv l U s (s.tell a b c):=by
 refine⟨fun y hy=>by rw [Kp];exact hy,fun x hx=>by rw [Kq];exact Ar _ hx,fun y hy=>by rw [Kp] at hy;exact .inl hy,fun x hx=>?_,?_,fun h=>by rw [Iz];exact h⟩
 ·rw [Kq] at hx;exact(List.mem_append.1 hx).imp id (hU x)
 ·rw [Kq,Iz,Fp,xB hc];simp
theorem Mp(s:Bw)(a b c:Int):∀x∈He a b c,x∈(s.tell a b c).o:=fun x hx=>by rw [Kq];exact Bf _ hx
end
theorem uG{U:P3→Prop}(s:Bw){b a' b' c':Int}(hc:5<c)(hc':5<c')(hU:∀x∈He a b c++He a' b' c',U x):Tv l U s ((s.tell a b c).tell a' b' c')∧∀x∈He a b c++He a' b' c',x∈((s.tell a b c).tell a' b' c').o:=by
 have e:=Mr (l:=l) s hc fun x hx=>hU x (Ar _ hx)
 have d:=Mr (l:=l) (s.tell a b c) hc' fun x hx=>hU x (Bf _ hx)
 exact⟨e.trans d,fun x hx=>(List.mem_append.1 hx).elim (fun hx=>d.osub x (Mp s _ _ _ x hx)) (Mp _ _ _ _ x)⟩
def lW(l:List UInt8)(go:Rq→Bw→Bw×Int):Prop:=∀r s,(go r s).2=0→Tv l (fun x=>x∈Hq r∨(Bq r.t=false∧Ds l r x)) s (go r s).1∧O3 l (go r s).1 r
section
variable {l:List UInt8} {go:Rq→Bw→Bw×Int} (r:Rq)
theorem dB(hg:lW l go)(U:P3→Prop)(n0:Nat)(hT:Cj r.t=true→∀i:Nat,i<n0→∀x∈He ((lsAt l r.p r.q r.t r.v:Int)+lsLen l r.p r.q r.t r.v*r.v+(i:Nat)) ((lsAt l r.p r.q r.t r.v:Int)+lsLen l r.p r.q r.t r.v*r.v+(i:Nat)+1) 8,U x)
  (hK:∀i:Nat,i<n0→∀x,x∈Hq (Ga l r i)∨(Bq (Ga l r i).t=false∧Ds l (Ga l r i) x)→U x):∀(n i:Nat) (s:Bw),i+n≤n0→(D0 l go r n i s).2=0→
  Tv l U s (D0 l go r n i s).1∧∀j:Nat,i≤j→j<i+n→O3 l (D0 l go r n i s).1 (Ga l r j)∧(Cj r.t=true→∀x∈He ((lsAt l r.p r.q r.t r.v:Int)+lsLen l r.p r.q r.t r.v*r.v+(j:Nat)) ((lsAt l r.p r.q r.t r.v:Int)+lsLen l r.p r.q r.t r.v*r.v+(j:Nat)+1) 8,x∈(D0 l go r n i s).1.o)
 |0,_,s,_,_=>⟨Tv.refl s,fun j h1 h2=>by omega⟩
 |n+1,i,s,hin,h0=>by
  have b:Tv l U s (F8 l r i s)∧(Cj r.t=true→∀x∈He ((lsAt l r.p r.q r.t r.v:Int)+lsLen l r.p r.q r.t r.v*r.v+(i:Nat)) ((lsAt l r.p r.q r.t r.v:Int)+lsLen l r.p r.q r.t r.v*r.v+(i:Nat)+1) 8,x∈(F8 l r i s).o):=by
   unfold F8;split
   ·rename_i ht;exact⟨Mr s (by decide) (hT ht i (by omega)),fun _=>Mp s _ _ _⟩
   ·rename_i ht;exact⟨Tv.refl s,fun h=>absurd h ht⟩
  by_cases d:F5 l r.p r.q r.t r.v i=0
  ·by_cases a:(go (Ga l r i) (F8 l r i s)).2=0
   ·obtain⟨f,g⟩:=hg (Ga l r i) _ a;unfold D0 at h0⊢;rw [if_neg (by rw [d];decide),if_neg (by rw [a];decide)] at h0⊢;obtain⟨c,k⟩:=dB hg U n0 hT hK n (i+1) _ (by omega) h0;have e:=f.wide (hK i (by omega));refine⟨(b.1.trans e).trans c,fun j h1 h2=>?_⟩;by_cases m:j=i
    ·subst m;exact⟨g.mono c.sub c.osub,fun ht x hx=>c.osub x (e.osub x (b.2 ht x hx))⟩
    ·exact k j (by omega) (by omega)
   ·unfold D0 at h0;rw [if_neg (by rw [d];decide),if_pos a] at h0;exact absurd h0 a
  ·unfold D0 at h0;rw [if_pos d] at h0;exact absurd h0 d
theorem Aai(hg:lW l go)(hi:Bq r.t=false)(s:Bw)(h0:(Ee l go r s).2=0):Tv l (Ds l r) s (Ee l go r s).1∧(∀x∈J0 l r,x∈(Ee l go r s).1.o)∧∀c∈Gy l r,O3 l (Ee l go r s).1 c:=by
 have a:∀x∈J0 l r,Ds l r x:=fun x hx=> .own hi hx
 unfold Ee at h0⊢;unfold J0 at a⊢;by_cases h1:G3 [4,5,25] r.t=true
 ·rw [if_pos h1] at h0 a;have w:Gy l r=[]:=by unfold Gy;rw [if_pos (.inl h1)]
  rw [if_pos h1,if_pos h1,w];by_cases hf:D7 l r.p r.q r.t r.v [4,5,25]=0
  ·unfold Ey;rw [if_neg (by rw [hf];decide)];by_cases n:r.t=4
   ·rw [if_pos n] at a;rw [if_pos n,if_pos n];exact⟨Mr s (by decide) a,Mp s _ _ _,fun c hc=>by simp at hc⟩
   rw [if_neg n] at a;rw [if_neg n,if_neg n];by_cases u:r.t=5
   ·rw [if_pos u] at a;rw [if_pos u,if_pos u];obtain⟨j,f⟩:=uG (l:=l) s (by decide) (by decide) a;exact⟨j,f,fun c hc=>by simp at hc⟩
   rw [if_neg u] at a;rw [if_neg u,if_neg u];obtain⟨j,f⟩:=uG (l:=l) s (by decide) (by decide) a;exact⟨j,f,fun c hc=>by simp at hc⟩
  ·unfold Ey at h0;rw [if_pos hf] at h0;exact absurd h0 hf
 rw [if_neg h1] at h0 a;rw [if_neg h1,if_neg h1];by_cases h2:r.t=6∨r.t=7
 ·rw [if_pos h2] at h0 a;have w:Gy l r=[]:=by unfold Gy;rw [if_pos (.inr h2)]
  rw [if_pos h2,if_pos h2,w];by_cases hf:D8 l r.p r.q r.t r.v=0
  ·unfold E7;rw [if_pos hf];exact⟨Mr s (by split <;>decide) a,Mp s _ _ _,fun c hc=>by simp at hc⟩
  ·unfold E7 at h0;rw [if_neg hf] at h0;exact absurd h0 hf
 rw [if_neg h2] at h0 a;rw [if_neg h2,if_neg h2];have b:∀c∈Gy l r,∀x,x∈Hq c∨(Bq c.t=false∧Ds l c x)→Ds l r x:=fun c hc x hx=>hx.elim (fun h=> .slot hi hc h) (fun h=> .deep hi hc h.2)
 have w:Gy l r=(if r.t=9 then [En l r] else [])++(List.range (lsLen l r.p r.q r.t r.v)).map fun i=>Ga l r i:=by
  unfold Gy;rw [if_neg (by rintro(h|h);exact h1 h;exact h2 h)]
 rw [w] at b⊢;by_cases A:C2 l r.p r.q r.t r.v=0
 ·by_cases d:(Em l go r s).2=0
  ·have k:Tv l (Ds l r) s (Em l go r s).1∧(r.t=9→O3 l (Em l go r s).1 (En l r)∧∀x∈He (lsFrom l r.p r.q r.t r.v+r.v) (lsFrom l r.p r.q r.t r.v+2*r.v) 7,x∈(Em l go r s).1.o):=by
    unfold Em at d⊢;split
    ·rename_i h9;rw [if_pos h9] at d b a;by_cases hf:Ib l r.p r.q r.t r.v=0
     ·by_cases e:(go (En l r) s).2=0
      ·obtain⟨j,f⟩:=hg (En l r) s e;unfold Hz;rw [if_neg (by rw [hf];decide),if_neg (by rw [e];decide)];have y:=j.wide (b (En l r) (Ar _ (List.mem_singleton.2 rfl)));have m:=Mr (l:=l) (U:=Ds l r) (go (En l r) s).1 (by decide) fun x hx=>a x (Ar _ (Ar _ hx))
       exact⟨y.trans m,fun _=>⟨f.mono m.sub m.osub,Mp _ _ _ _⟩⟩
      ·unfold Hz at d;rw [if_neg (by rw [hf];decide),if_pos e] at d;exact absurd d e
     ·unfold Hz at d;rw [if_pos hf] at d;exact absurd d hf
    ·rename_i h9;exact⟨Tv.refl s,fun h=>absurd h h9⟩
   obtain⟨j,f⟩:=k;have g:Tv l (Ds l r) (Em l go r s).1 (Jk l r (Em l go r s).1)∧(lsFrom l r.p r.q r.t r.v<lsAt l r.p r.q r.t r.v→∀x∈He ((lsAt l r.p r.q r.t r.v:Int)-r.v) (lsAt l r.p r.q r.t r.v) 6,x∈(Jk l r (Em l go r s).1).o):=by
    unfold Jk;split
    ·rename_i hf;rw [if_pos hf] at a;exact⟨Mr _ (by decide) fun x hx=>a x (Ar _ (Bf _ hx)),fun _=>Mp _ _ _ _⟩
    ·rename_i hf;exact⟨Tv.refl _,fun h=>absurd h hf⟩
   unfold Gl at h0⊢;rw [if_neg (by rw [A];decide),if_neg (by rw [d];decide)] at h0⊢;obtain⟨y,m⟩:=dB r hg (Ds l r) (lsLen l r.p r.q r.t r.v) (fun ht i hi x hx=>a x (Bf _ (by rw [if_pos ht];exact List.mem_flatMap.2 ⟨i,List.mem_range.2 hi,hx⟩)))
    (fun i hi x hx=>b (Ga l r i) (Bf _ (List.mem_map.2 ⟨i,List.mem_range.2 hi,rfl⟩)) x hx) _ 0 _ (by omega) h0
   have z:=g.1.trans y;refine⟨j.trans z,fun x hx=>?_,fun c hc=>?_⟩
   ·rcases List.mem_append.1 hx with hx|hx
    ·rcases List.mem_append.1 hx with hx|hx
     ·split at hx
      ·rename_i h9;exact z.osub x ((f h9).2 x hx)
      ·simp at hx
     ·split at hx
      ·rename_i hf;exact y.osub x (g.2 hf x hx)
      ·simp at hx
    ·split at hx
     ·rename_i ht;obtain⟨i,hi,hx⟩:=List.mem_flatMap.1 hx;have hi:=List.mem_range.1 hi;exact(m i (Nat.zero_le _) (by omega)).2 ht x hx
     ·simp at hx
   ·rcases List.mem_append.1 hc with hc|hc
    ·split at hc
     ·rename_i h9;rw [List.mem_singleton.1 hc];exact(f h9).1.mono z.sub z.osub
     ·simp at hc
    ·obtain⟨i,hi,rfl⟩:=List.mem_map.1 hc;have hi:=List.mem_range.1 hi;exact(m i (Nat.zero_le _) (by omega)).1
  ·unfold Gl at h0;rw [if_neg (by rw [A];decide),if_pos d] at h0;exact absurd h0 d
 ·unfold Gl at h0;rw [if_pos A] at h0;exact absurd h0 A
end
theorem yE(r:Rq)(s:Bw)(hl:¬s.left<1)(U:P3→Prop)(hU:∀x∈Hq r,U x):Tv l U s (C7 r s)∧∀x∈Hq r,x∈(C7 r s).o:=by
 have e:(C7 r s).o=s.o++Hq r:=by
  unfold C7;rw [Kq];rfl
 have a:(C7 r s).had=s.had:=by
  unfold C7;rw [Kp];rfl
 have b:(C7 r s).left=s.left-1:=Qh r s;refine⟨⟨fun y hy=>by rw [a];exact hy,fun x hx=>by rw [e];exact Ar _ hx,fun y hy=>by rw [a] at hy;exact .inl hy,fun x hx=>?_,?_,fun _=>by rw [b];omega⟩,fun x hx=>by rw [e];exact Bf _ hx⟩
 ·rw [e] at hx;exact(List.mem_append.1 hx).imp id (hU x)
 ·rw [e,b,Fp];have:nslot (Hq r)≤1:=by
   unfold Hq He nslot;split
   ·exact Nat.le_trans List.countP_le_length (by simp)
   ·simp
  omega
theorem X4(l:List UInt8):∀d,lW l (Ct l d)
 |0=>fun _ _ h=>by cases h
 |d+1=>fun r s h0=>by
  unfold Ct at h0⊢;by_cases h1:s.left<1
  ·rw [if_pos h1] at h0;cases h0
  obtain⟨c,j⟩:=yE (l:=l) r s h1 (fun x=>x∈Hq r∨(Bq r.t=false∧Ds l r x)) (fun x hx=> .inl hx);rw [if_neg h1] at h0⊢;by_cases h2:Bq r.t=true
  ·rw [if_pos h2];exact⟨c,j,.inl h2⟩
  rw [if_neg h2] at h0⊢;have e:Bq r.t=false:=by simpa using h2
  have k:(C7 r s).had=s.had:=by
   unfold C7;rw [Kp];rfl
  by_cases h3:Ch l r.p r.q r.t r.v≠0∨F7 l r∈s.had
  ·rw [if_pos h3] at h0⊢;simp only at h0;refine⟨c,j,.inr ⟨e,h0,?_⟩⟩;rw [k];exact h3.resolve_left fun h=>h h0
  ·rw [if_neg h3] at h0⊢;obtain⟨a,m,n⟩:=Aai r (X4 l d) e _ h0;have f:Ch l r.p r.q r.t r.v=0:=Decidable.of_not_not fun h=>h3 (.inl h)
   have i:((C7 r s).see (F7 l r)).had=s.had++ [F7 l r]:=by
    unfold Bw.see;simp only [k]
   refine⟨⟨fun y hy=>a.sub y (by rw [i];exact Ar _ hy),fun x hx=>a.osub x (c.osub x hx),fun y hy=>?_,fun x hx=>?_,Int.le_trans a.cnt c.cnt,fun h=>a.nn (c.nn h)⟩,fun x hx=>a.osub x (j x hx),.inr ⟨e,f,a.sub _ (by rw [i];exact Bf _ (List.mem_singleton.2 rfl))⟩⟩
   ·rcases a.new y hy with b|b
    ·rw [i] at b;rcases List.mem_append.1 b with g|g
     ·exact .inl g
     ·exact .inr ⟨r,(List.mem_singleton.1 g).symm,f,e,m,n⟩
    ·exact .inr b
   ·rcases a.up x hx with b|b
    ·exact c.up x b
    ·exact .inr (.inr ⟨e,b⟩)
theorem gE{v:Int}(h:Ch l p q t v=0):Co l.length p q t v=0:=by
 unfold Ch at h;split at h
 ·assumption
 ·exact h
theorem Sm{r':Rq}(h:Ch l r.p r.q r.t r.v=0)(h':Ch l r'.p r'.q r'.t r'.v=0)(hi:Bq r.t=false)(e:F7 l r=F7 l r'):J0 l r=J0 l r'∧Gy l r=Gy l r':=by
 obtain⟨p,q,t,v⟩:=r;obtain⟨a,b,E,F⟩:=r';unfold F7 at e;simp only [Prod.mk.injEq] at e h h';obtain⟨e,rfl,rfl⟩:=e;have hi:Bq t=false:=hi;have j:=gE h;have c:=gE h';have z:K8 l p q t v=K8 l a b t v:=by unfold K8;rw [e]
 have f:C2 l p q t v=C2 l a b t v:=by unfold C2;rw [j,c,h,h',e,z]
 have o:lsFrom l p q t v=lsFrom l a b t v:=by unfold lsFrom;rw [f,e]
 have s:lsAt l p q t v=lsAt l a b t v:=by unfold lsAt;rw [f,e]
 have g:lsLen l p q t v=lsLen l a b t v:=by unfold lsLen;rw [f,z]
 have A:D7 l p q t v [4,5,25]=D7 l a b t v [4,5,25]:=by unfold D7;rw [j,c,h,h',e]
 have u:Dj l p q t v [4,5,25]=Dj l a b t v [4,5,25]:=by unfold Dj;rw [A,e]
 have w:Fc l p q t v [4,5,25]=Fc l a b t v [4,5,25]:=by unfold Fc;rw [A,e]
 have B:D8 l p q t v=D8 l a b t v:=by unfold D8;rw [j,c,h,h',e]
 have x:Gu l p q t v=Gu l a b t v:=by unfold Gu;rw [B,e];simp only [hi];rfl
 have y:G7 l p q t v=G7 l a b t v:=by unfold G7;rw [B];simp only [hi,Bool.false_eq_true,if_false]
 have C:kyU l p q t v=kyU l a b t v:=by unfold kyU;rw [o]
 have D:Ib l p q t v=Ib l a b t v:=by unfold Ib;rw [j,c,f,C]
 have d:∀i,Np l p q t v i=Np l a b t v i:=fun i=>by unfold Np;rw [s,g]
 have k:∀i,F5 l p q t v i=F5 l a b t v i:=fun i=>by unfold F5;rw [f,g,d]
 have m:En l ⟨p,q,t,v⟩=En l ⟨a,b,t,v⟩:=by unfold En Gm Gn Nq Gw;simp only [D,o,C]
 have n:∀i,Ga l ⟨p,q,t,v⟩ i=Ga l ⟨a,b,t,v⟩ i:=fun i=>by unfold Ga Ka Kb Kv Kw;simp only [k,s,d]
 refine⟨?_,?_⟩
 ·unfold J0;simp only [o,s,g,u,w,x,y]
 ·unfold Gy;simp only [g,m,n]
theorem vN{s:Bw}(hs:s.had=[])(h0:(Ct l d r s).2=0):∀x,x∈(Ct l d r s).1.o↔x∈s.o∨x∈Hq r∨(Bq r.t=false∧Ds l r x):=by
 obtain⟨a,i⟩:=X4 l d r s h0;generalize hs':(Ct l d r s).1=s' at a i;have g:∀{r x},Ds l r x→Ch l r.p r.q r.t r.v=0→F7 l r∈s'.had→x∈s'.o:=by
  intro r x h
  induction h with
  | @own r x hi h=>
   intro ht e;rcases a.new _ e with h1|⟨n,h1,h2,h3,j,f⟩
   ·rw [hs] at h1;simp at h1
   ·exact j x ((Sm h2 ht h3 h1).1▸h)
  | @slot r c x hi hc h=>
   intro ht e;rcases a.new _ e with h1|⟨n,h1,h2,h3,j,f⟩
   ·rw [hs] at h1;simp at h1
   ·exact(f c ((Sm h2 ht h3 h1).2▸hc)).1 x h
  | @deep r c x hi hc h ih=>
   intro ht e;rcases a.new _ e with h1|⟨n,h1,h2,h3,j,f⟩
   ·rw [hs] at h1;simp at h1
   ·rcases(f c ((Sm h2 ht h3 h1).2▸hc)).2 with b|⟨_,k,m⟩
    ·cases h with
     |own hi' _=>rw [b] at hi';cases hi'
     |slot hi' _ _=>rw [b] at hi';cases hi'
     |deep hi' _ _=>rw [b] at hi';cases hi'
    ·exact ih k m
 intro x;constructor
 ·exact a.up x
 ·rintro(h|h|⟨hi,h⟩)
  ·exact a.osub x h
  ·exact i.1 x h
  ·rcases i.2 with b|⟨_,k,m⟩
   ·rw [b] at hi;cases hi
   ·exact g h k m
end
section
open Go.Acc
def Nl(s:List UInt8)(v:Bv):P3:=((v.n:Int),((v.n+s.length+1:Nat):Int),9)
def Hp:List (List UInt8)→List Bv→List P3
 |s::r,v::q=>Nl s v::Hp r q
 |_,_=>[]
def Jc(t:Nat)(s:List UInt8)(v:Bv):List P3:=
 (((v.n-v.w:Nat):Int),(v.n:Int),(6:Int))::(if t=5 then [((v.n:Int),((v.n+s.length+1:Nat):Int),(10:Int))] else if s=[] then [] else [((v.n:Int),((v.n+s.length:Nat):Int),(11:Int))])
def Rc(v:Bv)(c:Int):P3:=((v.n:Int),((v.n+v.w:Nat):Int),c)
inductive Rp(l:List UInt8):Bv→Tr→List P3→Prop
 |null (n u s ks c):Rp l ⟨0,1,0⟩ (.mk 1 n u s ks c) []
 |truth (n u s ks c):Rp l (Dh n) (.mk 2 n u s ks c) []
 |int (n u s ks c):Rp l (C5 n) (.mk 3 n u s ks c) []
 |uint (n u s ks c):Rp l (C9 u) (.mk 4 n u s ks c) []
 |key {v:Bv} {s:List UInt8} (n u ks c) (h:Gc l s v):Rp l v (.mk 5 n u s ks c) [Nl s v]
 |str {v:Bv} {s:List UInt8} (n u ks c) (h:D3 l 5 s [0] v):Rp l v (.mk 6 n u s ks c) (Jc 5 s v)
 |blob {v:Bv} {s:List UInt8} (n u ks c) (h:D3 l 25 s [] v):Rp l v (.mk 7 n u s ks c) (Jc 25 s v)
 |indInt {v:Bv} {n:Int} (u s ks c) (h:Gi l 6 (bWidthI n) (bits n) v):Rp l v (.mk 8 n u s ks c) [Rc v 12]
 |indUint {v:Bv} {u:Nat} (n s ks c) (h:Gi l 7 (bWidth u) u v):Rp l v (.mk 9 n u s ks c) [Rc v 13]
 |ints {v:Bv} {c:List Tr} (n u s ks) (h:Dc l 11 true false (c.map fun t=>C5 t.n) v):Rp l v (.mk 11 n u s ks c) (Gh true false (c.map fun t=>C5 t.n) v)
 |uints {v:Bv} {c:List Tr} (n u s ks) (h:Dc l 12 true false (c.map fun t=>C9 t.u) v):Rp l v (.mk 12 n u s ks c) (Gh true false (c.map fun t=>C9 t.u) v)
 |bools {v:Bv} {c:List Tr} (n u s ks) (h:Dc l 36 true false (c.map fun t=>Dh t.n) v):Rp l v (.mk 14 n u s ks c) (Gh true false (c.map fun t=>Dh t.n) v)
 |keys {v:Bv} {c:List Tr} {vs:List Bv} (n u s ks) (hk:Dp l (c.map Tr.s) vs) (h:Dc l 14 true false vs v):Rp l v (.mk 13 n u s ks c) (Hp (c.map Tr.s) vs++Gh true false vs v)
 |fixInts {v:Bv} {c:List Tr} (n u s ks) (h:Dc l (10+3*c.length) false false (c.map fun t=>C5 t.n) v):Rp l v (.mk 15 n u s ks c) (Gh false false (c.map fun t=>C5 t.n) v)
 |fixUints {v:Bv} {c:List Tr} (n u s ks) (h:Dc l (11+3*c.length) false false (c.map fun t=>C9 t.u) v):Rp l v (.mk 16 n u s ks c) (Gh false false (c.map fun t=>C9 t.u) v)
 |vec {v:Bv} {c:List Tr} {vs:List Bv} {pss:List (List P3)} (n u s ks) (hl:vs.length=c.length) (hp:pss.length=c.length) (hr:∀(i:Nat) x t ps,vs[i]?=some x→c[i]?=some t→pss[i]?=some ps→Rp l x t ps) (h:Dc l 10 true true vs v):
   Rp l v (.mk 10 n u s ks c) (pss.flatten++Gh true true vs v)
 |map {v kv:Bv} {c:List Tr} {ks:List (List UInt8)} {kvs vs:List Bv} {pss:List (List P3)} (n u s) (hk:Dp l ks kvs) (hv:Dc l 14 true false kvs kv) (hl:vs.length=c.length) (hp:pss.length=c.length)
   (hr:∀(i:Nat) x t ps,vs[i]?=some x→c[i]?=some t→pss[i]?=some ps→Rp l x t ps) (h:G5 l kv vs v):Rp l v (.mk 17 n u s ks c) (Hp ks kvs++pss.flatten++Gh true false kvs kv++Nn vs v)
theorem Rp.app{t:Tr}(h:Rp l v t ps)(x:List UInt8):Rp (l++x) v t ps:=by
 induction h with
 |null=>exact .null _ _ _ _ _
 |truth=>exact .truth _ _ _ _ _
 |int=>exact .int _ _ _ _ _
 |uint=>exact .uint _ _ _ _ _
 |key _ _ _ _ h=>exact .key _ _ _ _ (h.app x)
 |str _ _ _ _ h=>exact .str _ _ _ _ (h.app x)
 |blob _ _ _ _ h=>exact .blob _ _ _ _ (h.app x)
 |indInt _ _ _ _ h=>exact .indInt _ _ _ _ (h.app x)
 |indUint _ _ _ _ h=>exact .indUint _ _ _ _ (h.app x)
 |ints _ _ _ _ h=>exact .ints _ _ _ _ (h.app x)
 |uints _ _ _ _ h=>exact .uints _ _ _ _ (h.app x)
 |bools _ _ _ _ h=>exact .bools _ _ _ _ (h.app x)
 |keys _ _ _ _ hk h=>exact .keys _ _ _ _ (hk.app x) (h.app x)
 |fixInts _ _ _ _ h=>exact .fixInts _ _ _ _ (h.app x)
 |fixUints _ _ _ _ h=>exact .fixUints _ _ _ _ (h.app x)
 |vec _ _ _ _ hl hp _ h ih=>exact .vec _ _ _ _ hl hp ih (h.app x)
 |map _ _ _ hk hv hl hp _ h ih=>exact .map _ _ _ (hk.app x) (hv.app x) hl hp ih (h.app x)
theorem Rp.rep{t:Tr}(h:Rp l v t ps):E4 l v t:=by
 induction h with
 |null=>exact .null _ _ _ _ _
 |truth=>exact .truth _ _ _ _ _
 |int=>exact .int _ _ _ _ _
 |uint=>exact .uint _ _ _ _ _
 |key _ _ _ _ h=>exact .key _ _ _ _ h
 |str _ _ _ _ h=>exact .str _ _ _ _ h
 |blob _ _ _ _ h=>exact .blob _ _ _ _ h
 |indInt _ _ _ _ h=>exact .indInt _ _ _ _ h
 |indUint _ _ _ _ h=>exact .indUint _ _ _ _ h
 |ints _ _ _ _ h=>exact .ints _ _ _ _ h
 |uints _ _ _ _ h=>exact .uints _ _ _ _ h
 |bools _ _ _ _ h=>exact .bools _ _ _ _ h
 |keys _ _ _ _ hk h=>exact .keys _ _ _ _ hk h
 |fixInts _ _ _ _ h=>exact .fixInts _ _ _ _ h
 |fixUints _ _ _ _ h=>exact .fixUints _ _ _ _ h
 |vec _ _ _ _ hl hp _ h ih=>exact .vec _ _ _ _ hl (fun i x t hx ht=>ih i x t _ hx ht (Ag (by rw [hp];exact(List.getElem?_eq_some_iff.1 ht).1))) h
 |map _ _ _ hk hv hl hp _ h ih=>exact .map _ _ _ hk hv hl (fun i x t hx ht=>ih i x t _ hx ht (Ag (by rw [hp];exact(List.getElem?_eq_some_iff.1 ht).1))) h
structure Gx(f:Nat)(b:Bd)(log:List P3):Prop where
 tile:F9 b.b log
 good:Dr b
 keys:∀s a,Cf b.keys s=some a→Nl s ⟨4,1,a⟩∈log
 texts:∀s a,Cf b.texts s=some a→∀x∈Jc 5 s ⟨5,bWidth s.length,a⟩,x∈log
 lists:∀ks:List (List UInt8),(∀s∈ks,(0:UInt8)∉s)→∀i,Cf b.lists (Dg ks)=some i→∃kv kvs,b.vals[i]?=some kv∧Dp b.b ks kvs∧Dc b.b 14 true false kvs kv∧(∀x∈Hp ks kvs++Gh true false kvs kv,x∈log)∧
  (Fq f 1=true→∀(j:Nat) s v,ks[j]?=some s→kvs[j]?=some v→Cf b.keys s=some v.n)
theorem rK(f:Nat):Gx f Bd.new []:=⟨.nil,Oh,fun _ _ h=>by simp [Bd.new,Cf] at h,fun _ _ h=>by simp [Bd.new,Cf] at h,fun _ _ _ h=>by simp [Bd.new,Cf] at h⟩
structure Fw(f:Nat)(b:Bd)(log:List P3)(b':Bd)(log' ps:List P3)(n:Nat):Prop where
 app:∃m,b'.b=b.b++m
 goodq:Gx f b' log'
 mem:∀x,x∈log'↔x∈log∨x∈ps
 keys:∀s a,Cf b.keys s=some a→Cf b'.keys s=some a
 cnt:f=0→nslot log'=nslot log+n
theorem Fw.trans{a c:Bd}{l l'':List P3}(h:Fw f a l b l' ps n)(h':Fw f b l' c l'' ps' n'):Fw f a l c l'' (ps++ps') (n+n'):=by
 obtain⟨⟨m,e⟩,_,m1,k1,c1⟩:=h;obtain⟨⟨m',e'⟩,g,m2,k2,c2⟩:=h';refine⟨⟨m++m',by rw [e',e,Am]⟩,g,fun x=>?_,fun s a e=>k2 s a (k1 s a e),fun hf=>?_⟩
 ·rw [m2,m1,List.mem_append,or_assoc]
 ·rw [c2 hf,c1 hf,Nat.add_assoc]
theorem Fw.rp{a:Bd}{l:List P3}(h:Fw f a l b l' ps n){t:Tr}{qs:List P3}(r:Rp a.b v t qs):Rp b.b v t qs:=by
 obtain⟨m,e⟩:=h.app;rw [e];exact r.app m
theorem Fw.sub{a:Bd}{l:List P3}(h:Fw f a l b l' ps n)(hp:∀x,x∈l∨x∈ps'↔x∈l∨x∈ps)(hn:n'=n):Fw f a l b l' ps' n':=⟨h.app,h.goodq,fun x=>by rw [h.mem,hp],h.keys,by rw [hn];exact h.cnt⟩
theorem Gx.app{log':List P3}(h:Gx f b log)(ht:F9 b'.b log')(hs:∀x∈log,x∈log')(x:List UInt8)(hb:b'.b=b.b++x)(hk:b'.keys=b.keys)(htx:b'.texts=b.texts)(hl:b'.lists=b.lists)(hv:b'.vals=b.vals):Gx f b' log':=by
 refine⟨ht,h.good.app x hb hk htx hl hv,fun s a e=>?_,fun s a e y hy=>?_,fun ks h0 i e=>?_⟩
 ·rw [hk] at e;exact hs _ (h.keys s a e)
 ·rw [htx] at e;exact hs _ (h.texts s a e y hy)
 ·rw [hl] at e;obtain⟨j,c,h1,h2,h3,d,g⟩:=h.lists ks h0 i e;rw [hb,hv,hk];exact⟨j,c,h1,h2.app x,h3.app x,fun y hy=>hs _ (d y hy),g⟩
theorem Ti(h:Gx f b log)(ht:F9 b'.b (log++ps))(x:List UInt8)(hb:b'.b=b.b++x)(hk:b'.keys=b.keys)(htx:b'.texts=b.texts)(hl:b'.lists=b.lists)(hv:b'.vals=b.vals):Fw f b log b' (log++ps) ps (nslot ps):=
 ⟨⟨x,hb⟩,h.app ht (fun _ hx=>Ar _ hx) x hb hk htx hl hv,fun _=>List.mem_append,fun s a e=>by rw [hk];exact e,fun _=>Fp _ _⟩
theorem J6(h:Gx f b log)(v:Bv):Fw f b log (b.push v) log [] 0:=
 ⟨⟨[],by simp [Bd.push]⟩,h.app h.tile (fun _ hx=>hx) [] (by simp [Bd.push]) rfl rfl rfl rfl,fun _=>by simp,fun _ _ e=>e,fun _=>rfl⟩
theorem Zf{l:List (List UInt8×Nat)}{k:List UInt8}{a c:Nat}(h:Cf l s=some c):Cf (Fu l k a) s=some c:=by
 unfold Fu;split
 ·exact h
 ·unfold Cf at h⊢;rw [List.find?_append];cases e:l.find? (fun x=>x.1==s) with
  |none=>rw [e] at h;cases h
  |some y=>rw [e] at h;exact h
theorem wK{l:List (List UInt8×Nat)}{k:List UInt8}{a:Nat}(h:Cf l k=none):Cf (Fu l k a) k=some a:=by
 unfold Fu;rw [if_neg (by rw [h];decide)];unfold Cf at h⊢;rw [List.find?_append];cases e:l.find? (fun x=>x.1==k) with
 |none=>simp
 |some y=>rw [e] at h;cases h
theorem zL(f:Nat)(s:List UInt8)(b:Bd)(h:Gx f b log):∃log',Fw f b log (b.put f s).1 log' [Nl s (b.put f s).2] 0∧Gc (b.put f s).1.b s (b.put f s).2∧(b.put f s).1.s=b.s∧(Fq f 1=true→Cf (b.put f s).1.keys s=some (b.put f s).2.n):=by
 obtain⟨⟨r,l⟩,c,d⟩:=T9 f s b h.good;revert r l c d;unfold Bd.put;split
 ·next a ha=>
  intro _ _ c d;split at ha
  ·have p:=h.keys s a ha;exact⟨log,⟨⟨[],by simp⟩,h,fun x=>⟨.inl,fun hx=>hx.elim id fun hx=>(List.mem_singleton.1 hx)▸p⟩,fun _ _ e=>e,fun _=>rfl⟩,c,d,fun _=>ha⟩
  ·cases ha
 ·next ha=>
  intro _ l c d;have ht:F9 (b.b++s++ [0]) (log++ [Nl s ⟨4,1,b.b.length⟩]):=by
   have:=h.tile.part (s++ [0]) (by simp) 9;rw [Ah,←Am] at this;exact this
  refine⟨log++ [Nl s ⟨4,1,b.b.length⟩],⟨⟨s++ [0],by simp⟩,⟨ht,l,fun k a e=>?_,fun k a e y hy=>?_,fun ks h0 i e=>?_⟩,fun _=>List.mem_append,fun k a e=>Zf e,fun _=>?_⟩,c,d,fun h1=>?_⟩
  ·rcases Jw e with e|⟨rfl,rfl⟩
   ·exact Ar _ (h.keys k a e)
   ·exact Bf _ (List.mem_singleton.2 rfl)
  ·exact Ar _ (h.texts k a e y hy)
  ·obtain⟨q,g,h1,h2,h3,m,o⟩:=h.lists ks h0 i e;have h2:=h2.app (s++ [0]);have h3:=h3.app (s++ [0]);rw [←Am] at h2 h3;exact⟨q,g,h1,h2,h3,fun y hy=>Ar _ (m y hy),fun hf j x v hx hv=>Zf (o hf j x v hx hv)⟩
  ·rw [Fp];rfl
  ·rw [if_pos h1] at ha;exact wK ha
theorem zH(f:Nat)(s:List UInt8)(b:Bd)(h:Gx f b log):∃v log',(b.key f s).s=b.s++ [v]∧Fw f b log (b.key f s) log' [Nl s v] 0∧Gc (b.key f s).b s v∧(Fq f 1=true→Cf (b.key f s).keys s=some v.n):=by
 obtain⟨log',h1,h2,h3,h4⟩:=zL f s b h;refine⟨(b.put f s).2,log',by simp [Bd.key,Bd.push,h3],?_,h2,h4⟩;have:=h1.trans (J6 h1.goodq (b.put f s).2);exact this
theorem tI(f:Nat):∀(ks:List (List UInt8)) (b:Bd) (log:List P3),Gx f b log→∃log',Fw f b log (b.puts f ks).1 log' (Hp ks (b.puts f ks).2) 0∧Dp (b.puts f ks).1.b ks (b.puts f ks).2∧(b.puts f ks).1.s=b.s
 | [],b,log,h=>⟨log,⟨⟨[],by simp [Bd.puts]⟩,h,fun _=>by simp [Hp],fun _ _ e=>e,fun _=>rfl⟩,⟨rfl,fun i s v h=>by simp at h⟩,rfl⟩
 |s::r,b,log,h=>by
  obtain⟨j,a,_,c,_⟩:=zL f s b h;obtain⟨k,l,_,d⟩:=tI f r (b.put f s).1 j a.goodq;obtain⟨_,g,_⟩:=Rk f (s::r) b h.good;have m:=a.trans l;exact⟨k,m,g,d.trans c⟩
theorem Ru(f t:Nat)(len tags:Bool)(l:List Bv)(b:Bd)(h:Gx f b log)(hf:∀x∈l,Eu b.b.length x):∃v log',(b.vec t len tags l).s=b.s++ [v]∧Fw f b log (b.vec t len tags l) log' (Gh len tags l v) l.length∧Dc (b.vec t len tags l).b t len tags l v:=by
 obtain⟨v,e,_,g⟩:=Lg t len tags l b h.good hf;have d:v=(Cd t len tags l b.b).2:=by
  have:b.s++ [(Cd t len tags l b.b).2]=b.s++ [v]:=e;exact(List.cons.inj (List.append_cancel_left this)).1.symm
 subst d;obtain⟨m,c⟩:=Mt t len tags l b.b;have a:=Ti (b':=b.vec t len tags l) h (gJ h.tile t len tags hf) m c rfl rfl rfl rfl;rw [Zt] at a;exact⟨_,_,rfl,a,g⟩
theorem Z9{b:List UInt8}(h:F9 b log)(t:Nat)(s z:List UInt8)(hz:(t=5∧z=[0])∨(t=25∧z=[]))(v:Bv)(hv:v=⟨t,bWidth s.length,(Bm (bWidth s.length) b++Bn (bWidth s.length) s.length).length⟩):
  F9 (Bm (bWidth s.length) b++Bn (bWidth s.length) s.length++s++z) (log++Jc t s v):=by
 subst hv;have h0:0<bWidth s.length:=by rcases M6 s.length with h|h|h|h <;>omega
 have d:F9 (Bm (bWidth s.length) b) log:=h.pad _;have h1:=d.part _ (Oo h0 (u:=s.length)) 6;have e:(Bm (bWidth s.length) b++Bn (bWidth s.length) s.length).length=(Bm (bWidth s.length) b).length+bWidth s.length:=by rw [Ah,Bo]
 have c:(Bm (bWidth s.length) b).length+bWidth s.length-bWidth s.length=(Bm (bWidth s.length) b).length:=by omega
 rw [Bo] at h1;unfold Jc;simp only [e,c];rcases hz with⟨rfl,rfl⟩|⟨rfl,rfl⟩
 ·have h2:=h1.part (s++ [0]) (by simp) 10;rw [if_pos rfl];simp only [e,Ah,List.length_cons,List.length_nil,Am,List.cons_append,List.nil_append,Nat.zero_add,←Nat.add_assoc] at h2⊢;exact h2
 ·rw [if_neg (by decide),List.append_nil];by_cases a:s=[]
  ·subst a;rw [if_pos rfl,List.append_nil];exact h1
  ·have h2:=h1.part s a 11;rw [e,Am log] at h2;rw [if_neg a];exact h2
theorem Xe(t:Nat)(s:List UInt8)(v:Bv):nslot (Jc t s v)=0:=by
 unfold Jc;split
 ·rfl
 ·split <;>rfl
theorem Acl(f:Nat)(s:List UInt8)(b:Bd)(h:Gx f b log):∃v log',(b.blob s).s=b.s++ [v]∧Fw f b log (b.blob s) log' (Jc 25 s v) 0∧D3 (b.blob s).b 25 s [] v:=by
 obtain⟨v,a,_,g⟩:=bD s b h.good;have d:v=⟨25,bWidth s.length,(Bm (bWidth s.length) b.b++Bn (bWidth s.length) s.length).length⟩:=by
  have:b.s++ [(⟨25,bWidth s.length,(Bm (bWidth s.length) b.b++Bn (bWidth s.length) s.length).length⟩:Bv)]=b.s++ [v]:=a;exact(List.cons.inj (List.append_cancel_left this)).1.symm
 have e:(b.blob s).b=b.b++(Al (Kn (bWidth s.length) b.b.length) 0++(Bn (bWidth s.length) s.length++s)):=by simp only [Bd.blob,Bm,Am]
 have ht:=Z9 h.tile 25 s [] (.inr ⟨rfl,rfl⟩) v d;rw [List.append_nil] at ht;have c:=Ti (b':=b.blob s) h ht _ e rfl rfl rfl rfl;rw [Xe] at c;exact⟨v,_,a,c,g⟩
theorem Aem(f:Nat)(s:List UInt8)(b:Bd)(h:Gx f b log):∃v log',(b.str f s).s=b.s++ [v]∧Fw f b log (b.str f s) log' (Jc 5 s v) 0∧D3 (b.str f s).b 5 s [0] v:=by
 obtain⟨d,c,⟨t,n⟩,g⟩:=lD f s b h.good;revert t n c g;unfold Bd.str;simp only [];split
 ·next a ha=>
  intro c g _ _;split at ha
  ·have l:d=⟨5,bWidth s.length,a⟩:=by
    have:b.s++ [(⟨5,bWidth s.length,a⟩:Bv)]=b.s++ [d]:=c;exact(List.cons.inj (List.append_cancel_left this)).1.symm
   subst l;have q:=h.texts s a ha;exact⟨_,log,c,(J6 h _).sub (fun x=>⟨fun hx=> .inl (hx.elim id (q x)),fun hx=>hx.imp id fun hx=>by simp at hx⟩) rfl,g⟩
  ·cases ha
 ·intro c g _ n;have l:d=⟨5,bWidth s.length,(Bm (bWidth s.length) b.b++Bn (bWidth s.length) s.length).length⟩:=by
   have:b.s++ [(⟨5,bWidth s.length,(Bm (bWidth s.length) b.b++Bn (bWidth s.length) s.length).length⟩:Bv)]=b.s++ [d]:=c;exact(List.cons.inj (List.append_cancel_left this)).1.symm
  have e:Bm (bWidth s.length) b.b++Bn (bWidth s.length) s.length++s++ [0]=b.b++(Al (Kn (bWidth s.length) b.b.length) 0++(Bn (bWidth s.length) s.length++(s++ [0]))):=by simp only [Bm,Am]
  have ht:=Z9 h.tile 5 s [0] (.inl ⟨rfl,rfl⟩) d l;refine⟨d,log++Jc 5 s d,c,⟨⟨_,e⟩,⟨ht,n,fun k a i=>Ar _ (h.keys k a i),fun k a i y hy=>?_,fun ks h0 i j=>?_⟩,fun _=>List.mem_append,fun _ _ i=>i,fun _=>by rw [Fp,Xe]⟩,g⟩
  ·rcases Jw i with i|⟨rfl,rfl⟩
   ·exact Ar _ (h.texts k a i y hy)
   ·rw [←l] at hy;exact Bf _ hy
  ·obtain⟨r,m,h1,h2,h3,o,p⟩:=h.lists ks h0 i j;exact⟨r,m,h1,e▸h2.app _,e▸h3.app _,fun y hy=>Ar _ (o y hy),p⟩
theorem jL(f t w n:Nat)(c:Int)(hc:5<c)(b:Bd)(h:Gx f b log)(hw:w=1∨w=2∨w=4∨w=8):∃v log',(b.apart t w n).s=b.s++ [v]∧Fw f b log (b.apart t w n) log' [Rc v c] 0∧Gi (b.apart t w n).b t w n v:=by
 have e:(b.apart t w n).b=b.b++(Al (Kn w b.b.length) 0++Bn w (n % 2^(8*w))):=by simp only [Bd.apart,Bm,Am]
 have ht:F9 (b.apart t w n).b (log++ [Rc ⟨t,w,(Bm w b.b).length⟩ c]):=by
  have d:F9 (Bm w b.b) log:=h.tile.pad _;have:=d.part (Bn w (n % 2^(8*w))) (Oo (by omega)) c;rw [Bo] at this;exact this
 have a:=Ti (b':=b.apart t w n) h ht _ e rfl rfl rfl rfl;have g:nslot [Rc ⟨t,w,(Bm w b.b).length⟩ c]=0:=by
  unfold nslot;rw [List.countP_cons_of_neg (by show ¬decide (c≤5)=true;rw [decide_eq_true_eq];omega)];rfl
 rw [g] at a;exact⟨_,_,rfl,a,rfl,rfl,At.last _ _,Sb hw _⟩
end
end Go.Proofs.YtejpbijeifjdeaaGreat
