/- Parts of the proof. -/
import Derived.Test.YtgbjodnegkbfoaaGreatQa33
set_option maxHeartbeats 2000000
set_option maxRecDepth 100000
open Go.Value renaming int→Aa
open Go.IntKind renaming i64→Ab
open List renaming getElem?_eq_getElem→Ati,mem_of_getElem?→Atu
namespace Go.Proofs.YtgbjodnegkbfoaaGreat
open Go.RowKit Go.Acc
theorem J5{l:List UInt8}{r:Rq}{x:P3}:Ct l r x↔An r.t=false∧(x∈Iv l r∨∃c∈Fs l r,x∈Gj c∨Ct l c x):=by
 constructor
 ·intro h;cases h with
  |own hi h=>exact⟨hi,.inl h⟩
  |slot hi hc h=>exact⟨hi,.inr ⟨_,hc,.inl h⟩⟩
  |deep hi hc h=>exact⟨hi,.inr ⟨_,hc,.inr h⟩⟩
 ·rintro⟨hi,h|⟨c,hc,h|h⟩⟩
  ·exact .own hi h
  ·exact .slot hi hc h
  ·exact .deep hi hc h
theorem Yr{l:List UInt8}{r:Rq}{x:P3}(h:An r.t=true):¬Ct l r x:=by
 intro hu;have:=(J5.1 hu).1;rw [h] at this;cases this
theorem Gy{a b:Int}(h:a<b)(c:Int):F7 a b c=[(a,b,c)]:=by unfold F7;rw [if_pos h]
theorem X3(w:Nat):∀(vs:List Bv) (a:Nat) (x:P3),x∈Hz w a vs↔∃(i:Nat) (y:Bv),vs[i]?=some y∧x=(((a+i*w:Nat):Int),((a+i*w+w:Nat):Int),E6 y.t)
 | [],a,x=>by simp [Hz]
 |v::r,a,x=>by
  rw [Hz,List.mem_cons,X3 w r (a+w) x];constructor
  ·rintro(h|⟨i,y,hy,h⟩)
   ·exact⟨0,v,rfl,by rw [h,Nat.zero_mul,Nat.add_zero]⟩
   ·refine⟨i+1,y,by simpa using hy,?_⟩;rw [h,show a+w+i*w=a+(i+1)*w by rw [Nat.succ_mul];omega]
  ·rintro⟨i,y,hy,h⟩;cases i with
   |zero=>
    left;have e:v=y:=by simpa using hy
    rw [h,←e,Nat.zero_mul,Nat.add_zero]
   |succ i=>
    right;refine⟨i,y,by simpa using hy,?_⟩;rw [h,show a+w+i*w=a+(i+1)*w by rw [Nat.succ_mul];omega]
theorem Abn:∀(n a:Nat) (x:P3),x∈G8 a n↔∃i:Nat,i<n∧x=(((a+i:Nat):Int),((a+i+1:Nat):Int),8)
 |0,a,x=>by simp [G8]
 |n+1,a,x=>by
  rw [G8,List.mem_cons,Abn n (a+1) x];constructor
  ·rintro(h|⟨i,hi,h⟩)
   ·exact⟨0,by omega,h⟩
   ·refine⟨i+1,by omega,?_⟩;rw [h,show a+1+i=a+(i+1) by omega]
  ·rintro⟨i,hi,h⟩;cases i with
   |zero=>exact .inl h
   |succ i=>
    right;refine⟨i,by omega,?_⟩;rw [h,show a+1+i=a+(i+1) by omega]
theorem X2:∀(ks:List (List UInt8)) (kvs:List Bv) (x:P3),x∈Hs ks kvs↔∃(i:Nat) (s:List UInt8) (v:Bv),ks[i]?=some s∧kvs[i]?=some v∧x=Mz s v
 | [],_,x=>by simp [Hs]
 |s::r,[],x=>by simp [Hs]
 |s::r,v::q,x=>by
  rw [Hs,List.mem_cons,X2 r q x];constructor
  ·rintro(h|⟨i,s',v',h1,h2,h3⟩)
   ·exact⟨0,s,v,rfl,rfl,h⟩
   ·exact⟨i+1,s',v',by simpa using h1,by simpa using h2,h3⟩
  ·rintro⟨i,s',v',h1,h2,h3⟩;cases i with
   |zero=>
    left;have e1:s=s':=by simpa using h1
    have e2:v=v':=by simpa using h2
    rw [h3,e1,e2]
   |succ i=>exact .inr ⟨i,s',v',by simpa using h1,by simpa using h2,h3⟩
theorem Abl{pss:List (List P3)}{x:P3}:x∈pss.flatten↔∃(i:Nat) (ps:List P3),pss[i]?=some ps∧x∈ps:=by
 rw [List.mem_flatten];constructor
 ·rintro⟨ps,hp,hx⟩;obtain⟨i,hi,e⟩:=List.mem_iff_getElem.1 hp;exact⟨i,ps,by rw [Ati hi,e],hx⟩
 ·rintro⟨i,ps,hp,hx⟩;exact⟨ps,Atu hp,hx⟩
theorem Q7{L s:List UInt8}{z w:Nat}{v:Bv}(h:Ci L z w v)(hk:G3 L s v)(h0:(0:UInt8)∉s){y:Int}(hy:Av y=true)(x:P3):Ct L ⟨z,w,4,y⟩ x↔x=Mz s v:=by
 obtain⟨_,_,_,hf⟩:=Pa h hk h0 hy;obtain⟨_,f2,f3⟩:=hf [4,5,25] (by decide);have hown:Iv L ⟨z,w,4,y⟩=[Mz s v]:=by
  have e:Iv L ⟨z,w,4,y⟩=F7 (Cm L z w 4 y [4,5,25]) (Cm L z w 4 y [4,5,25]+(D5 L z w 4 y [4,5,25]).length+1) 9:=rfl;rw [e,f2,f3,Gy (by omega)];unfold Mz;norm_cast
 have hkid:Fs L ⟨z,w,4,y⟩=[]:=rfl;rw [J5,hown,hkid];constructor
 ·rintro⟨_,h|⟨c,hc,_⟩⟩
  ·exact List.mem_singleton.1 h
  ·simp at hc
 ·intro e;exact⟨(by decide:An 4=false),.inl (List.mem_singleton.2 e)⟩
theorem Vl{L s:List UInt8}{z w:Nat}{v:Bv}{t:Nat}(h:Ci L z w v)(hk:(t=5∧Em L 5 s [0] v)∨(t=25∧Em L 25 s [] v))(hL:L.length<2^32)(x:P3):Ct L ⟨z,w,v.t,v.w⟩ x↔x∈I5 t s v:=by
 obtain⟨ht,hw,hn⟩:v.t=t∧v.w=bWidth s.length∧v.w≤v.n:=by
  rcases hk with⟨rfl,a,b,c,d,_⟩|⟨rfl,a,b,c,d,_⟩ <;>exact⟨a,b,by omega⟩
 have hT:(v.t:Int)=5∨(v.t:Int)=25:=by rcases hk with⟨e,_⟩|⟨e,_⟩ <;>omega
 obtain⟨_,_,_,hf⟩:=Rs (k:=if t=5 then 6 else 7) h (by
  rcases hk with⟨e,hk⟩|⟨e,hk⟩
  ·exact .inl ⟨if_pos e,hk⟩
  ·exact .inr ⟨if_neg (by omega),hk⟩) hL
 obtain⟨_,f2,f3⟩:=hf [4,5,25] (by rcases hT with e|e <;>rw [e] <;>decide);have h0:0<v.w:=by rw [hw];rcases Ll s.length with h|h|h|h <;>omega
 have e1:((v.n:Int)-(v.w:Int))=((v.n-v.w:Nat):Int):=by omega
 have hown:Iv L ⟨z,w,v.t,v.w⟩=I5 t s v:=by
  unfold Iv I5;simp only [];rw [if_pos (by rcases hT with e|e <;>rw [e] <;>decide),if_neg (by rcases hT with e|e <;>rw [e] <;>decide),f2,f3,Gy (by omega),e1];by_cases h5:t=5
  ·rw [if_pos (by omega),if_pos h5,Gy (by omega)];simp
  ·rw [if_neg (by omega),if_neg h5];by_cases hs:s=[]
   ·rw [if_pos hs,hs];unfold F7;rw [if_neg (by simp)];simp
   ·have:0<s.length:=List.length_pos_iff.2 hs;rw [if_neg hs,Gy (by omega)];simp
 rw [J5,hown];unfold Fs;rw [if_pos (.inl (by show Fw [4,5,25] (v.t:Int)=true;rcases hT with e|e <;>rw [e] <;>decide))];constructor
 ·rintro⟨_,h|⟨c,hc,_⟩⟩
  ·exact h
  ·simp at hc
 ·intro e;exact⟨by show An (v.t:Int)=false;rcases hT with e|e <;>rw [e] <;>decide,.inl e⟩
theorem X9{L:List UInt8}{z w:Nat}{v:Bv}{n:Nat}{t:Nat}{a:Nat}(h:Ci L z w v)(ha:Av (a:Int)=true)(hk:(t=6∨t=7)∧G6 L t a n v)(x:P3):Ct L ⟨z,w,v.t,v.w⟩ x↔x∈ [Rg v (if t=6 then 12 else 13)]:=by
 obtain⟨hT,h1,h2,h3,h4⟩:=hk;have hT':(v.t:Int)=6∨(v.t:Int)=7:=by rw [h1];omega
 have hi:inl v.t=false:=by rcases hT' with e|e <;>(show An (v.t:Int)=false;rw [e];decide)
 have hl:Be (v.t:Int)=true:=by rcases hT' with e|e <;>rw [e] <;>decide
 have hs':Nl (v.t:Int)=true:=by rcases hT' with e|e <;>rw [e] <;>decide
 have hm:=h.may (t:=v.t) (y:=a) hl ha;obtain⟨g1,g2⟩:=h.goes hi hl ha hi;have hle:=h3.le;rw [Aj] at hle;have h0:0<a:=by rcases Cc.1 ha with h|h|h|h <;>omega
 have hp:Dd L z w v.t a=0:=by
  unfold Dd;rw [if_neg (by rw [hm];decide),if_neg (by rw [hs'];decide),if_neg (by rw [show An (v.t:Int)=false from hi];decide),if_neg (by rw [g1];decide),g2,if_neg (by omega),if_neg (by rw [Dn.2 ⟨by omega,by omega,by omega⟩];decide)]
 have hA:Fm L z w v.t a=v.n:=by unfold Fm;rw [if_pos hp,if_neg (by rw [show An (v.t:Int)=false from hi];decide),g2]
 have hW:Fy L z w v.t a=a:=by unfold Fy;rw [if_pos hp,if_neg (by rw [show An (v.t:Int)=false from hi];decide)]
 have hown:Iv L ⟨z,w,v.t,v.w⟩=[Rg v (if t=6 then 12 else 13)]:=by
  unfold Iv Rg;simp only [];rw [if_neg (by rcases hT' with e|e <;>rw [e] <;>decide),if_pos hT',h2,hA,hW,Gy (by omega)];have:(if(v.t:Int)=6 then(12:Int) else 13)=if t=6 then 12 else 13:=by
   by_cases h6:t=6
   ·rw [if_pos (by omega),if_pos h6]
   ·rw [if_neg (by omega),if_neg h6]
  rw [this];norm_cast
 have hkid:Fs L ⟨z,w,v.t,v.w⟩=[]:=by
  unfold Fs;rw [if_pos (show Fw [4,5,25] (v.t:Int)=true∨(v.t:Int)=6∨(v.t:Int)=7 from .inr hT')]
 rw [J5,hown,hkid];constructor
 ·rintro⟨_,h|⟨c,hc,_⟩⟩
  ·exact h
  ·simp at hc
 ·intro e;exact⟨hi,.inl e⟩
theorem Xz{L:List UInt8}{z w:Nat}{v:Bv}{vs:List Bv}(li:G4 L 0 vs v)(ld:J7 L 0 v z w)(he:Nc v.t vs)(hn:aheadT (v.t:Int)*v.w≤v.n)(x:P3):
  Ct L ⟨z,w,v.t,v.w⟩ x↔(x∈(if(v.t:Int)=9 then F7 ((v.n-3*v.w:Nat)+v.w) ((v.n-3*v.w:Nat)+2*v.w) 7++Gj (C9 L ⟨z,w,v.t,v.w⟩) else []))∨((v.t:Int)=9∧Ct L (C9 L ⟨z,w,v.t,v.w⟩) x)∨(0<aheadT (v.t:Int)∧x=(((v.n-v.w:Nat):Int),(v.n:Int),6))∨x∈Hz v.w v.n vs∨
   (Bo (v.t:Int)=true∧x∈G8 (v.n+vs.length*v.w) vs.length)∨∃(i:Nat) (y:Bv),vs[i]?=some y∧Ct L ⟨((v.n+i*v.w:Nat):Int),(v.w:Int),(y.t:Int),(if Bo (v.t:Int)=true then(ownW v.w y:Int) else(v.w:Int))⟩ x:=by
 obtain⟨e1,e2,e3⟩:=Mf li ld;rw [Nat.zero_add] at e3;have h0:0<v.w:=by rcases Cc.1 li.w with h|h|h|h <;>omega
 have hF:lsFrom L z w (v.t:Int) (v.w:Int)=v.n-aheadT (v.t:Int)*v.w:=by
  unfold lsFrom;rw [if_pos e1,ld.tg,Nat.zero_add];rfl
 have hA:∀(i:Nat) y,vs[i]?=some y→Ed L ⟨z,w,v.t,v.w⟩ i=⟨((v.n+i*v.w:Nat):Int),(v.w:Int),(y.t:Int),(if Bo (v.t:Int)=true then(ownW v.w y:Int) else(v.w:Int))⟩:=by
  intro i y hy;obtain⟨p1,p2,p3,p4⟩:=he y (Atu hy);obtain⟨a1,a2,a3,a4,a5⟩:=Abh li ld hy (fun _=>⟨p2,p3⟩);rw [Nat.zero_add] at a2;have ht:(if Bo (v.t:Int)=true then(y.t:Int) else F4 (v.t:Int))=(y.t:Int):=by
   split
   ·rfl
   ·rename_i hh;exact p4 (by simpa using hh)
  unfold Ed;simp only [];rw [a2,a3,a4,a5,ht]
 have hl25:Fw [4,5,25] (v.t:Int)=false∧¬((v.t:Int)=6∨(v.t:Int)=7):=by
  have hty:=li.typ;constructor
  ·cases e:Fw [4,5,25] (v.t:Int) with
   |false=>rfl
   |true=>
    exfalso;have:v.t=4∨v.t=5∨v.t=25:=by simpa [Fw] using e
    rcases this with e|e|e <;>(rw [e] at hty;exact absurd hty (by decide))
  ·rintro(e|e) <;>(rw [e] at hty;exact absurd hty (by decide))
 have hi:An (v.t:Int)=false:=by
  cases e:An (v.t:Int) with
  |false=>rfl
  |true=>
   have hty:=li.typ;exfalso;revert hty;have hle:=Gv (Mw e);revert e;refine K6 (p:=fun t=>An t=true→Oc t=true→False) ?_ hle;decide
 have hkid:∀c,c∈Fs L ⟨z,w,v.t,v.w⟩↔((v.t:Int)=9∧c=C9 L ⟨z,w,v.t,v.w⟩)∨∃(i:Nat) (y:Bv),vs[i]?=some y∧c=⟨((v.n+i*v.w:Nat):Int),(v.w:Int),(y.t:Int),(if Bo (v.t:Int)=true then(ownW v.w y:Int) else(v.w:Int))⟩:=by
  intro c;unfold Fs;simp only [];rw [if_neg (by rintro(h|h);rw [hl25.1] at h;cases h;exact hl25.2 h),List.mem_append,e2];refine or_congr ?_ ?_
  ·split
   ·rename_i h9;rw [List.mem_singleton];exact⟨fun h=>⟨h9,h⟩,fun h=>h.2⟩
   ·rename_i h9;simp [h9]
  ·rw [List.mem_map];constructor
   ·rintro⟨i,hi,rfl⟩;have hi:=List.mem_range.1 hi;have hy:vs[i]?=some vs[i]:=Ati hi;exact⟨i,vs[i],hy,hA i _ hy⟩
   ·rintro⟨i,y,hy,rfl⟩;exact⟨i,List.mem_range.2 (List.getElem?_eq_some_iff.1 hy).1,hA i y hy⟩
 have hown:x∈Iv L ⟨z,w,v.t,v.w⟩↔(x∈(if(v.t:Int)=9 then F7 ((v.n-3*v.w:Nat)+v.w) ((v.n-3*v.w:Nat)+2*v.w) 7 else []))∨(0<aheadT (v.t:Int)∧x=(((v.n-v.w:Nat):Int),(v.n:Int),6))∨(Bo (v.t:Int)=true∧x∈G8 (v.n+vs.length*v.w) vs.length):=by
  unfold Iv;simp only [];rw [if_neg (by rw [hl25.1];decide),if_neg hl25.2,List.mem_append,List.mem_append,or_assoc,e2,e3,hF];refine or_congr ?_ (or_congr ?_ ?_)
  ·split
   ·rename_i h9;have:aheadT (v.t:Int)=3:=by rw [h9];decide
    rw [this]
   ·exact Iff.rfl
  ·by_cases ha:0<aheadT (v.t:Int)
   ·have:0<aheadT (v.t:Int)*v.w:=Nat.mul_pos ha h0;have h1:v.w≤aheadT (v.t:Int)*v.w:=Nat.le_mul_of_pos_left _ ha;rw [if_pos (by omega),Gy (by omega),List.mem_singleton,show(v.n:Int)-(v.w:Int)=((v.n-v.w:Nat):Int) by omega];exact⟨fun h=>⟨ha,h⟩,fun h=>h.2⟩
   ·have:aheadT (v.t:Int)=0:=by omega
    rw [if_neg (by rw [this,Nat.zero_mul];omega),this];simp
  ·split
   ·rename_i ht;rw [List.mem_flatMap,Abn];have hc:∀i:Nat,(v.n:Int)+(vs.length:Int)*(v.w:Int)+(i:Int)=((v.n+vs.length*v.w+i:Nat):Int):=fun i=>by
     rw [Int.natCast_add,Int.natCast_add,Int.natCast_mul]
    constructor
    ·rintro⟨i,hi,hx⟩;rw [hc,Gy (by omega),List.mem_singleton] at hx;exact⟨ht,i,List.mem_range.1 hi,hx⟩
    ·rintro⟨_,i,hi,hx⟩;refine⟨i,List.mem_range.2 hi,?_⟩;rw [hc,Gy (by omega),List.mem_singleton];exact hx
   ·rename_i ht;simp [ht]
 rw [J5,hown];have hsl:∀(i:Nat) (y:Bv) (k:Int),Gj ⟨((v.n+i*v.w:Nat):Int),(v.w:Int),(y.t:Int),k⟩=[(((v.n+i*v.w:Nat):Int),((v.n+i*v.w+v.w:Nat):Int),E6 y.t)]:=by
  intro i y k;unfold Gj;simp only [];rw [Gy (by omega)];norm_cast
 rw [X3];constructor
 ·rintro⟨_,(h|h|h)|⟨c,hc,h⟩⟩
  ·left;by_cases h9:(v.t:Int)=9
   ·rw [if_pos h9] at h⊢;exact List.mem_append_left _ h
   ·rw [if_neg h9] at h⊢;exact h
  ·exact .inr (.inr (.inl h))
  ·exact .inr (.inr (.inr (.inr (.inl h))))
  ·rcases(hkid c).1 hc with⟨h9,rfl⟩|⟨i,y,hy,rfl⟩
   ·rcases h with h|h
    ·left;rw [if_pos h9];exact List.mem_append_right _ h
    ·exact .inr (.inl ⟨h9,h⟩)
   ·rcases h with h|h
    ·rw [hsl,List.mem_singleton] at h;exact .inr (.inr (.inr (.inl ⟨i,y,hy,h⟩)))
    ·exact .inr (.inr (.inr (.inr (.inr ⟨i,y,hy,h⟩))))
 ·intro h;refine⟨hi,?_⟩;rcases h with h|⟨h9,h⟩|h|⟨i,y,hy,h⟩|h|⟨i,y,hy,h⟩
  ·split at h
   ·rename_i h9;rcases List.mem_append.1 h with h|h
    ·exact .inl (.inl (by rw [if_pos h9];exact h))
    ·exact .inr ⟨_,(hkid _).2 (.inl ⟨h9,rfl⟩),.inl h⟩
   ·simp at h
  ·exact .inr ⟨_,(hkid _).2 (.inl ⟨h9,rfl⟩),.inr h⟩
  ·exact .inl (.inr (.inl h))
  ·exact .inr ⟨_,(hkid _).2 (.inr ⟨i,y,hy,rfl⟩),.inl (by rw [hsl,h];exact List.mem_singleton.2 rfl)⟩
  ·exact .inl (.inr (.inr h))
  ·exact .inr ⟨_,(hkid _).2 (.inr ⟨i,y,hy,rfl⟩),.inr h⟩
theorem Gq{L:List UInt8}{z w:Nat}{v:Bv}{vs:List Bv}{len:Bool}(li:G4 L 0 vs v)(ld:J7 L 0 v z w)(he:Nc v.t vs)(h9:(v.t:Int)≠9)(ha:aheadT (v.t:Int)=if len=true then 1 else 0)(hn:len=true→v.w≤v.n)(x:P3):
  Ct L ⟨z,w,v.t,v.w⟩ x↔x∈Hv len (Bo (v.t:Int)) vs v∨∃(i:Nat) (y:Bv),vs[i]?=some y∧Ct L ⟨((v.n+i*v.w:Nat):Int),(v.w:Int),(y.t:Int),(if Bo (v.t:Int)=true then(ownW v.w y:Int) else(v.w:Int))⟩ x:=by
 rw [Xz li ld he (by rw [ha];cases len with|true=>simpa using hn rfl|false=>simp)]
 rw [if_neg h9];unfold Hv;rw [List.mem_append,List.mem_append];have h1:(0<aheadT (v.t:Int)∧x=(((v.n-v.w:Nat):Int),(v.n:Int),(6:Int)))↔x∈(if len=true then [(((v.n-v.w:Nat):Int),(v.n:Int),(6:Int))] else []):=by
  rw [ha];cases len <;>simp
 have h2:(Bo (v.t:Int)=true∧x∈G8 (v.n+vs.length*v.w) vs.length)↔x∈(if Bo (v.t:Int)=true then G8 (v.n+vs.length*v.w) vs.length else []):=by
  split
  ·rename_i h;simp [h]
  ·rename_i h;simp [h]
 rw [h1,h2];constructor
 ·rintro(h|⟨h,_⟩|h|h|h|h)
  ·simp at h
  ·exact absurd h h9
  ·exact .inl (.inl (.inl h))
  ·exact .inl (.inl (.inr h))
  ·exact .inl (.inr h)
  ·exact .inr h
 ·rintro(((h|h)|h)|h)
  ·exact .inr (.inr (.inl h))
  ·exact .inr (.inr (.inr (.inl h)))
  ·exact .inr (.inr (.inr (.inr (.inl h))))
  ·exact .inr (.inr (.inr (.inr (.inr h))))
theorem Lc{L:List UInt8}{t:Nat}{tags:Bool}{vs:List Bv}{v:Bv}(h:Cd L t true tags vs v)(hL:L.length<2^32):v.w≤v.n:=by
 obtain⟨c,hc,_⟩:=(h.facts hL []).len rfl;omega
theorem Aj8{L:List UInt8}{z w:Nat}{v kv:Bv}{vs kvs:List Bv}(hL:L.length<2^32)(ld:J7 L 0 v z w)(li:G4 L 0 vs v)(hv:Cd L 14 true false kvs kv)(h:F2 L kv vs v)(h9:(v.t:Int)=9)(he:Nc v.t vs)(x:P3):
  ∃cc,Ci L cc v.w kv∧(Ct L ⟨z,w,v.t,v.w⟩ x↔Ct L ⟨(cc:Int),(v.w:Int),14,(kv.w:Int)⟩ x∨x∈N2 vs v∨∃(i:Nat) (y:Bv),vs[i]?=some y∧Ct L ⟨((v.n+i*v.w:Nat):Int),(v.w:Int),(y.t:Int),(ownW v.w y:Int)⟩ x):=by
 obtain⟨cc,hc,hF,hK,hsl⟩:=Ap0 hL ld li hv h h9;have ha:aheadT (v.t:Int)=3:=by rw [h9];decide
 have ht:Bo (v.t:Int)=true:=by rw [h9];decide
 have h0:0<v.w:=by rcases Cc.1 li.w with h|h|h|h <;>omega
 refine⟨cc,hsl,?_⟩;rw [Xz li ld he (by rw [ha];omega),if_pos h9,hK,ha];simp only [ht,if_true];have e1:v.n-3*v.w=cc:=by omega
 have e2:v.n-2*v.w=cc+v.w:=by omega
 have e3:v.n-v.w=cc+2*v.w:=by omega
 unfold N2 Gj;rw [e1,e2,e3,Gy (by omega),Gy (by simp only;omega)];simp only [List.mem_append,List.mem_cons,List.not_mem_nil,or_false,true_and,h9];have f1:((cc:Int)+(v.w:Int))=((cc+v.w:Nat):Int):=by omega
 have f2:((cc:Int)+2*(v.w:Int))=((cc+2*v.w:Nat):Int):=by omega
 have f3:E6 14=5:=by decide
 rw [f1,f2,f3];constructor
 ·rintro((h|h)|h|⟨_,h⟩|h|h|h)
  ·exact .inr (.inl (.inl (.inl (.inr (.inl h)))))
  ·exact .inr (.inl (.inl (.inl (.inl h))))
  ·exact .inl h
  ·exact .inr (.inl (.inl (.inl (.inr (.inr h)))))
  ·exact .inr (.inl (.inl (.inr h)))
  ·exact .inr (.inl (.inr h))
  ·exact .inr (.inr h)
 ·rintro(h|(((h|h|h)|h)|h)|h)
  ·exact .inr (.inl h)
  ·exact .inl (.inr h)
  ·exact .inl (.inl h)
  ·exact .inr (.inr (.inl ⟨by decide,h⟩))
  ·exact .inr (.inr (.inr (.inl h)))
  ·exact .inr (.inr (.inr (.inr (.inl h))))
  ·exact .inr (.inr (.inr (.inr (.inr h))))
theorem Mv{L:List UInt8}{v:Bv}{c:List Tr}{f:Tr→Bv}{g:Bv→Int}(hf:∀x,inl (f x).t=true)(x:P3):¬ ∃(i:Nat) (y:Bv),(c.map f)[i]?=some y∧Ct L ⟨((v.n+i*v.w:Nat):Int),(v.w:Int),(y.t:Int),g y⟩ x:=by
 rintro⟨i,y,hy,h⟩;rw [List.getElem?_map] at hy;cases e:c[i]? with
 |none=>rw [e] at hy;cases hy
 |some t=>
  rw [e] at hy;injection hy with hy
  have:=hf t;rw [hy] at this;exact Yr (show An (y.t:Int)=true from this) h
theorem Uy{L:List UInt8}{v:Bv}{ks:List (List UInt8)}{kvs:List Bv}(li:G4 L 0 kvs v)(hk:De L ks kvs)(h0:∀s∈ks,(0:UInt8)∉s)(x:P3):
  (∃(i:Nat) (y:Bv),kvs[i]?=some y∧Ct L ⟨((v.n+i*v.w:Nat):Int),(v.w:Int),(y.t:Int),(v.w:Int)⟩ x)↔x∈Hs ks kvs:=by
 rw [X2];constructor
 ·rintro⟨i,y,hy,h⟩;have hi:i<ks.length:=by rw [←hk.1];exact(List.getElem?_eq_some_iff.1 hy).1
  have hs:ks[i]?=some ks[i]:=Ati hi;have hK:=hk.2 i _ y hs hy;rw [hK.1] at h;exact⟨i,_,y,hs,hy,(Q7 (li.slot hy) hK (h0 _ (List.getElem_mem _)) li.w x).1 h⟩
 ·rintro⟨i,s,y,hs,hy,h⟩;have hK:=hk.2 i s y hs hy;refine⟨i,y,hy,?_⟩;rw [hK.1];exact(Q7 (li.slot hy) hK (h0 s (Atu hs)) li.w x).2 h
theorem Aob{L:List UInt8}{v:Bv}{t:Tr}{ps:List P3}(hr:Rp L v t ps)(hL:L.length<2^32):H9 t→∀z w,Ci L z w v→∀x,Ct L ⟨z,w,v.t,ownW w v⟩ x↔x∈ps:=by
 have none_:∀{v:Bv} {z w:Nat} {x:P3},inl v.t=true→(Ct L ⟨z,w,v.t,ownW w v⟩ x↔x∈([]:List P3)):=fun h=>⟨fun hu=>absurd hu (Yr h),fun hx=>by simp at hx⟩
 have offW:∀{v:Bv} {w:Nat},inl v.t=false→ownW w v=v.w:=fun h=>by unfold ownW;rw [if_neg (by rw [h];decide)]
 induction hr with
 |null=>intro _ z w _ x;exact none_ (by decide)
 |truth=>intro _ z w _ x;exact none_ (show inl 26=true by decide)
 |int=>intro _ z w _ x;exact none_ (show inl 1=true by decide)
 |uint=>intro _ z w _ x;exact none_ (show inl 2=true by decide)
 | @key v s n u ks c h=>
  intro hok z w hs x;have hi:inl v.t=false:=by rw [h.1];decide
  rw [offW hi,List.mem_singleton,h.1];exact Q7 hs h ((Bt hok).2.1 rfl) (by rw [h.2.1];decide) x
 | @str v s n u ks c h=>
  intro hok z w hs x;have hi:inl v.t=false:=by rw [h.1];decide
  rw [offW hi];exact Vl hs (.inl ⟨rfl,h⟩) hL x
 | @blob v s n u ks c h=>
  intro hok z w hs x;have hi:inl v.t=false:=by rw [h.1];decide
  rw [offW hi];exact Vl hs (.inr ⟨rfl,h⟩) hL x
 | @indInt v n u s ks c h=>
  intro hok z w hs x;have hi:inl v.t=false:=by rw [h.1];decide
  rw [offW hi];exact X9 hs (Hp n) ⟨.inl rfl,h⟩ x
 | @indUint v u n s ks c h=>
  intro hok z w hs x;have hi:inl v.t=false:=by rw [h.1];decide
  rw [offW hi];exact X9 hs (E3 u) ⟨.inr rfl,h⟩ x
 | @ints v c n u s ks h=>
  intro hok z w hs x;obtain⟨ht,hw⟩:=h.width;have hl:=F0 h hL [] rfl (.inr ⟨.inl rfl,rfl⟩);simp only [List.nil_append,List.length_nil] at hl;have hi:inl v.t=false:=by rw [ht];decide
  have htg:Bo (v.t:Int)=false:=by rw [ht];decide
  rw [offW hi,Gq (len:=true) hl (hs.leads hi (by rw [ht];decide) hw) (H6 (K:=3) (tf:=1) (C2 hok (K:=3) (by decide) (by decide)) (by rw [ht];decide) (fun _=>rfl) (fun _=> .inr (.inr (.inl ⟨rfl,rfl⟩)))) (by rw [ht];decide) (by rw [ht];decide) (fun _=>Lc h hL),htg];simp only [Bool.false_eq_true,if_false];exact or_iff_left (Mv (g:=fun _=>(v.w:Int)) (fun _=>(by decide:inl 1=true)) x)
 | @uints v c n u s ks h=>
  intro hok z w hs x;obtain⟨ht,hw⟩:=h.width;have hl:=F0 h hL [] rfl (.inr ⟨.inr (.inl rfl),rfl⟩);simp only [List.nil_append,List.length_nil] at hl;have hi:inl v.t=false:=by rw [ht];decide
  have htg:Bo (v.t:Int)=false:=by rw [ht];decide
  rw [offW hi,Gq (len:=true) hl (hs.leads hi (by rw [ht];decide) hw) (H6 (K:=4) (tf:=2) (C2 hok (K:=4) (by decide) (by decide)) (by rw [ht];decide) (fun _=>rfl) (fun _=> .inr (.inr (.inr ⟨rfl,rfl⟩)))) (by rw [ht];decide) (by rw [ht];decide) (fun _=>Lc h hL),htg];simp only [Bool.false_eq_true,if_false];exact or_iff_left (Mv (g:=fun _=>(v.w:Int)) (fun _=>(by decide:inl 2=true)) x)
 | @bools v c n u s ks h=>
  intro hok z w hs x;obtain⟨ht,hw⟩:=h.width;have hl:=F0 h hL [] rfl (.inr ⟨.inr (.inr (.inr rfl)),rfl⟩);simp only [List.nil_append,List.length_nil] at hl;have hi:inl v.t=false:=by rw [ht];decide
  have htg:Bo (v.t:Int)=false:=by rw [ht];decide
  rw [offW hi,Gq (len:=true) hl (hs.leads hi (by rw [ht];decide) hw) (H6 (K:=2) (tf:=26) (C2 hok (K:=2) (by decide) (by decide)) (by rw [ht];decide) (fun _=>rfl) (fun _=> .inr (.inl ⟨rfl,rfl⟩))) (by rw [ht];decide) (by rw [ht];decide) (fun _=>Lc h hL),htg];simp only [Bool.false_eq_true,if_false];exact or_iff_left (Mv (g:=fun _=>(v.w:Int)) (fun _=>(by decide:inl 26=true)) x)
 | @keys v c vs n u s ks hk h=>
  intro hok z w hs x;obtain⟨ht,hw⟩:=h.width;have hl:=F0 h hL [] rfl (.inr ⟨.inr (.inr (.inl rfl)),rfl⟩);simp only [List.nil_append,List.length_nil] at hl;have hi:inl v.t=false:=by rw [ht];decide
  have htg:Bo (v.t:Int)=false:=by rw [ht];decide
  rw [offW hi,Gq (len:=true) hl (hs.leads hi (by rw [ht];decide) hw) (O5 hk (by rw [ht];decide)) (by rw [ht];decide) (by rw [ht];decide) (fun _=>Lc h hL),htg,List.mem_append];simp only [Bool.false_eq_true,if_false];rw [Uy hl hk (fun s hs=>by
   obtain⟨y,hy,rfl⟩:=List.mem_map.1 hs;obtain⟨h1,h2⟩:=C2 hok (K:=5) (by decide) (by decide) y hy;obtain⟨yk,yn,yu,ys,yks,yl⟩:=y;exact(Bt h2).2.1 h1) x,or_comm]
 | @fixInts v c n u s ks h=>
  intro hok z w hs x;obtain⟨ht,hw⟩:=h.width;have hn:=(Bt hok).2.2.2.1 (.inl rfl);obtain⟨⟨m1,_⟩,⟨m3,m4⟩,_⟩:=Pk hn;have hl:=O7 h hL [] rfl (by rcases hn with h|h|h <;>rw [h] <;>simp) (by rw [List.length_map];exact m1);simp only [List.nil_append,List.length_nil] at hl;have hi:inl v.t=false:=by rw [ht];rcases hn with h|h|h <;>rw [h] <;>decide
  have hg:Be (v.t:Int)=true:=by rw [ht];rcases hn with h|h|h <;>rw [h] <;>decide
  have htg:Bo (v.t:Int)=false:=by rw [ht];exact m3
  rw [offW hi,Gq (len:=false) hl (hs.leads hi hg hw) (H6 (K:=3) (tf:=1) (C2 hok (K:=3) (by decide) (by decide)) (by rw [ht];rcases hn with h|h|h <;>rw [h] <;>decide) (fun _=>rfl) (fun _=> .inr (.inr (.inl ⟨rfl,rfl⟩)))) (by rw [ht];rcases hn with h|h|h <;>rw [h] <;>decide) (by rw [ht];rcases hn with h|h|h <;>rw [h] <;>decide) (fun e=>by cases e),htg];simp only [Bool.false_eq_true,if_false];exact or_iff_left (Mv (g:=fun _=>(v.w:Int)) (fun _=>(by decide:inl 1=true)) x)
 | @fixUints v c n u s ks h=>
  intro hok z w hs x;obtain⟨ht,hw⟩:=h.width;have hn:=(Bt hok).2.2.2.1 (.inr rfl);obtain⟨⟨_,m1⟩,_,⟨m3,m4⟩⟩:=Pk hn;have hl:=O7 h hL [] rfl (by rcases hn with h|h|h <;>rw [h] <;>simp) (by rw [List.length_map];exact m1);simp only [List.nil_append,List.length_nil] at hl;have hi:inl v.t=false:=by rw [ht];rcases hn with h|h|h <;>rw [h] <;>decide
  have hg:Be (v.t:Int)=true:=by rw [ht];rcases hn with h|h|h <;>rw [h] <;>decide
  have htg:Bo (v.t:Int)=false:=by rw [ht];exact m3
  rw [offW hi,Gq (len:=false) hl (hs.leads hi hg hw) (H6 (K:=4) (tf:=2) (C2 hok (K:=4) (by decide) (by decide)) (by rw [ht];rcases hn with h|h|h <;>rw [h] <;>decide) (fun _=>rfl) (fun _=> .inr (.inr (.inr ⟨rfl,rfl⟩)))) (by rw [ht];rcases hn with h|h|h <;>rw [h] <;>decide) (by rw [ht];rcases hn with h|h|h <;>rw [h] <;>decide) (fun e=>by cases e),htg];simp only [Bool.false_eq_true,if_false];exact or_iff_left (Mv (g:=fun _=>(v.w:Int)) (fun _=>(by decide:inl 2=true)) x)
 | @vec v c vs pss n u s ks hl hp hr h ih=>
  intro hok z w hs x;obtain⟨ht,hw⟩:=h.width;have hli:=F0 h hL [] rfl (.inl ⟨rfl,rfl⟩);simp only [List.nil_append,List.length_nil] at hli;have hi:inl v.t=false:=by rw [ht];decide
  have htag:Bo (v.t:Int)=true:=by rw [ht];decide
  have hrep:∀(i:Nat) x t,vs[i]?=some x→c[i]?=some t→Ee L x t:=fun i x t hx hc=>(hr i x t _ hx hc (Ati (by rw [hp];exact(List.getElem?_eq_some_iff.1 hc).1))).rep
  rw [offW hi,Gq (len:=true) hli (hs.leads hi (by rw [ht];decide) hw) (R0 hl hrep (fun x hx=>((Bt hok).1 x hx).1) htag) (by rw [ht];decide) (by rw [ht];decide) (fun _=>Lc h hL),htag,List.mem_append,Abl];simp only [if_true];rw [or_comm];refine or_congr_left ⟨fun⟨i,y,hy,hu⟩=>?_,fun⟨i,ps,hps,hx⟩=>?_⟩
  ·have hc:c[i]?=some (c[i]'(by rw [←hl];exact(List.getElem?_eq_some_iff.1 hy).1)):=Ati _;have hq:pss[i]?=some (pss[i]'(by rw [hp,←hl];exact(List.getElem?_eq_some_iff.1 hy).1)):=Ati _;exact⟨i,_,hq,(ih i y _ _ hy hc hq ((Bt hok).1 _ (List.getElem_mem _)).1 _ _ (hli.slot hy) x).1 hu⟩
  ·have hlt:=(List.getElem?_eq_some_iff.1 hps).1;have hc:c[i]?=some (c[i]'(by rw [←hp];exact hlt)):=Ati _;have hy:vs[i]?=some (vs[i]'(by rw [hl,←hp];exact hlt)):=Ati _;exact⟨i,_,hy,(ih i _ _ _ hy hc hps ((Bt hok).1 _ (List.getElem_mem _)).1 _ _ (hli.slot hy) x).2 hx⟩
 | @map v kv c ks kvs vs pss n u s hk hv hl hp hr h ih=>
  intro hok z w hs x;obtain⟨ht,hw⟩:=h.width;obtain⟨hkt,hkw⟩:=hv.width;have hki:inl kv.t=false:=by rw [hkt];decide
  have hLi:=Abk h hki hL [] rfl;have hK:=F0 hv hL [] rfl (.inr ⟨.inr (.inr (.inl rfl)),rfl⟩);simp only [List.nil_append,List.length_nil] at hLi hK;have hi:inl v.t=false:=by rw [ht];decide
  have htag:Bo (v.t:Int)=true:=by rw [ht];decide
  have hld:=hs.leads hi (by rw [ht];decide) hw;have h9:(v.t:Int)=9:=by rw [ht];rfl
  have hrep:∀(i:Nat) x t,vs[i]?=some x→c[i]?=some t→Ee L x t:=fun i x t hx hc=>(hr i x t _ hx hc (Ati (by rw [hp];exact(List.getElem?_eq_some_iff.1 hc).1))).rep
  obtain⟨cc,hsk,hu⟩:=Aj8 hL hld hLi hv h h9 (R0 hl hrep (fun x hx=>((Bt hok).1 x hx).1) htag) x;have e14:(kv.t:Int)=14:=by rw [hkt];rfl
  have hktg:Bo (kv.t:Int)=false:=by rw [hkt];decide
  have hkk:=Gq (len:=true) hK (hsk.leads hki (by rw [hkt];decide) hkw) (O5 hk (by rw [hkt];decide)) (by rw [hkt];decide) (by rw [hkt];decide) (fun _=>Lc hv hL) x;rw [hktg,e14] at hkk;simp only [Bool.false_eq_true,if_false] at hkk;rw [offW hi,hu,hkk,Uy hK hk (Bt hok).2.2.1 x];simp only [List.mem_append,Abl];have hfl:(∃(i:Nat) (y:Bv),vs[i]?=some y∧Ct L ⟨((v.n+i*v.w:Nat):Int),(v.w:Int),(y.t:Int),(ownW v.w y:Int)⟩ x)↔∃(i:Nat) (ps:List P3),pss[i]?=some ps∧x∈ps:=by
   refine⟨fun⟨i,y,hy,hu⟩=>?_,fun⟨i,ps,hps,hx⟩=>?_⟩
   ·have hc:c[i]?=some (c[i]'(by rw [←hl];exact(List.getElem?_eq_some_iff.1 hy).1)):=Ati _;have hq:pss[i]?=some (pss[i]'(by rw [hp,←hl];exact(List.getElem?_eq_some_iff.1 hy).1)):=Ati _;exact⟨i,_,hq,(ih i y _ _ hy hc hq ((Bt hok).1 _ (List.getElem_mem _)).1 _ _ (hLi.slot hy) x).1 hu⟩
   ·have hlt:=(List.getElem?_eq_some_iff.1 hps).1;have hc:c[i]?=some (c[i]'(by rw [←hp];exact hlt)):=Ati _;have hy:vs[i]?=some (vs[i]'(by rw [hl,←hp];exact hlt)):=Ati _;exact⟨i,_,hy,(ih i _ _ _ hy hc hps ((Bt hok).1 _ (List.getElem_mem _)).1 _ _ (hLi.slot hy) x).2 hx⟩
  rw [hfl];constructor
  ·rintro((h|h)|h|h)
   ·exact .inl (.inr h)
   ·exact .inl (.inl (.inl h))
   ·exact .inr h
   ·exact .inl (.inl (.inr h))
  ·rintro(((h|h)|h)|h)
   ·exact .inl (.inr h)
   ·exact .inr (.inr h)
   ·exact .inl (.inl h)
   ·exact .inr (.inl h)
theorem Ag8{l:List UInt8}{p q t v:Int}(h:Dd l p q t v=0):0≤Fm l p q t v∧Fm l p q t v≤l.length∧0≤Fy l p q t v∧Fy l p q t v≤8:=by
 unfold Fm Fy;rw [if_pos h,if_pos h];rcases Rj l p q t v with⟨hm,e⟩|⟨hm,_⟩
 ·rw [e] at h;exact absurd h hm
 obtain⟨h1,h2⟩:=D7.1 hm;have h2:=Dn.1 h2;have hq:=Ck.1 (Cv.1 h1).2.1;have hv:=Ck.1 (Cv.1 h1).2.2;by_cases hi:An t=true
 ·rw [if_pos hi,if_pos hi];omega
 ·rw [if_neg hi,if_neg hi];have ht:0≤Bg l p q t v∧Bg l p q t v≤l.length:=by
   by_cases g:Bh l p q t v=0
   ·exact Vm g
   ·unfold Bg;rw [if_neg g];omega
  omega
theorem Qs(E:Ie)(g:Option Nat)(s:Ao)(p q t v:Int)(w:World)(h:E9 E g s w)(hs:s.o.length≤1000000000):
  Calls Tryz.prog 106 #[.pointer (some ⟨E.bw,0,none⟩),.agg #[Aa Ab p,Aa Ab q,Aa Ab t,Aa Ab v]] w (T3 E g w (C6 E.l ⟨p,q,t,v⟩ s)):=by
 have HC:=Hd (h.alloc (.cells #[Aa Ab p,Aa Ab q,Aa Ab t,Aa Ab v] 75));have HX:=Hd (h.lone 75 #[Aa Ab p,Aa Ab q,Aa Ab t,Aa Ab v]);have HB:=Hd ((Dw.refl E g w).alloc (.cells #[Aa Ab p,Aa Ab q,Aa Ab t,Aa Ab v] 75));obtain⟨a,ha⟩:∃a,Fm E.l p q t v=a:=⟨_,rfl⟩;obtain⟨m,hm⟩:∃m,Fy E.l p q t v=m:=⟨_,rfl⟩;obtain⟨er,he⟩:∃a,Dd E.l p q t v=a:=⟨_,rfl⟩;have HAA:=Hd ha;have HMM:=Hd hm;have HEE:=Hd he;have hcc:=h.ok.hc;have hnn:=h.ok.hn;have hlen:=h.len;clear h ha hm he;obtain⟨c0,c1,c2,c3⟩:=HC.o.cells;have x0:=Az HX.o.1;have x1:=Ax HX.o.1;have x2:=Aw HX.o.1;have x3:=A6 HX.o.1;go_enter Tryz.func106,Tryz.ntmps106;go_wp2_with fail;go_region_held3 (fun w'=>w'.cell? ⟨E.bw,0,none⟩=some (.slice E.A E.n E.c)∧w'.cell? ⟨E.bw,3,none⟩=some (.func (.func 60) #[] #[.pointer (some ⟨E.bl,0,none⟩)])∧(w'.cell? ⟨w.heap.size,0,none⟩=some (Aa Ab p)∧w'.cell? ⟨w.heap.size,1,none⟩=some (Aa Ab q)∧w'.cell? ⟨w.heap.size,2,none⟩=some (Aa Ab t)∧w'.cell? ⟨w.heap.size,3,none⟩=some (Aa Ab v))) (first|with_reducible exact⟨c0,c3,x0,x1,x2,x3⟩|with_reducible exact⟨Ay c0,Ay c3,Ay x0,Ay x1,Ay x2,Ay x3⟩) (first|(go_at_call 188;(with_reducible refine(Aru E.A E.n E.c p q t v E.l a m er _ HC.o.drew.b hcc (by omega) HAA.o HMM.o HEE.o).mono ?_);rintro e w1 ⟨rfl,hb1⟩;replace HB:=Hd (HB.o.drew.below hb1);replace HC:=Hd (HC.o.drew.pure hb1);replace HX:=Hd (HX.o.drew.pure hb1);clear c0 c1 c2 c3 x0 x1 x2 x3;clear hb1;obtain⟨c0,c1,c2,c3⟩:=HC.o.cells;have x0:=Az HX.o.1;have x1:=Ax HX.o.1;have x2:=Aw HX.o.1;have x3:=A6 HX.o.1));by_cases he:er=0
 ·subst he;obtain⟨b0,b1,b2,b3⟩:=Ag8 HEE.o;rw [HAA.o] at b0 b1;rw [HMM.o] at b2 b3;by_cases h6:t=6
  ·subst h6;go_wp2_with (go_at_call 60;(with_reducible refine(Gl a (a+m) 12 HC.o (by omega)).mono ?_);rintro e w2 ⟨rfl,g2,hC2,hT2⟩;replace HB:=Hd (HB.o.trans hT2);replace HX:=Hd (HX.o.to hT2);replace HC:=Hd hC2;clear c0 c1 c2 c3 x0 x1 x2 x3;clear hC2 hT2;obtain⟨c0,c1,c2,c3⟩:=HC.o.cells;have x0:=Az HX.o.1;have x1:=Ax HX.o.1;have x2:=Aw HX.o.1;have x3:=A6 HX.o.1);go_ret;have e:C6 E.l ⟨p,q,6,v⟩ s=(s.tell a (a+m) 12,0):=by
    unfold C6;rw [HEE.o,HAA.o,HMM.o];rfl
   rw [e];exact⟨rfl,_,HC.o,HB.o⟩
  ·have e6:(t==6)=false:=beq_eq_false_iff_ne.mpr h6;go_wp2_with (go_at_call 60;(with_reducible refine(Gl a (a+m) 13 HC.o (by omega)).mono ?_);rintro e w2 ⟨rfl,g2,hC2,hT2⟩;replace HB:=Hd (HB.o.trans hT2);replace HX:=Hd (HX.o.to hT2);replace HC:=Hd hC2;clear c0 c1 c2 c3 x0 x1 x2 x3;clear hC2 hT2;obtain⟨c0,c1,c2,c3⟩:=HC.o.cells;have x0:=Az HX.o.1;have x1:=Ax HX.o.1;have x2:=Aw HX.o.1;have x3:=A6 HX.o.1);go_ret;have e:C6 E.l ⟨p,q,t,v⟩ s=(s.tell a (a+m) 13,0):=by
    unfold C6;rw [HEE.o,HAA.o,HMM.o];simp [h6]
   rw [e];exact⟨rfl,_,HC.o,HB.o⟩
 ·have hne:(er==0)=false:=beq_eq_false_iff_ne.mpr he;have e:C6 E.l ⟨p,q,t,v⟩ s=(s,er):=by
   unfold C6;rw [HEE.o,if_neg he]
  have HR:=Hd e;clear e he;go_wp2_with fail
  all_goals
   go_ret;rw [HR.o];exact⟨rfl,_,HC.o,HB.o⟩
def Nw(n:Nat)(r:Rq):Prop:=0≤r.p∧1≤r.q∧r.q≤8∧r.p+r.q≤n
theorem U8{n:Nat}{p q t v:Int}(h:Bm n p q t v=0):Nw n ⟨p,q,t,v⟩∧1≤v∧v≤8:=by
 obtain⟨h1,h2⟩:=D7.1 h;have h2:=Dn.1 h2;have hq:=Ck.1 (Cv.1 h1).2.1;have hv:=Ck.1 (Cv.1 h1).2.2;refine⟨⟨h2.1,?_,?_,h2.2.2⟩,?_,?_⟩ <;>(first|omega|(simp only;omega))
theorem Aj5{l:List UInt8}{p q t v:Int}(h:Bw l p q t v=0):Bm l.length p q t v=0:=by
 rcases Pg l p q t v with⟨g,e⟩|⟨g,_⟩
 ·rw [e] at h;exact absurd h g
 ·exact g
theorem Apu{l:List UInt8}{p q t v:Int}(h:Bw l p q t v=0):lsFrom l p q t v+aheadT t*v.toNat=lsAt l p q t v:=by
 unfold lsFrom lsAt;rw [if_pos h,if_pos h];rcases Pg l p q t v with⟨_,e⟩|⟨_,⟨_,e⟩|⟨_,⟨_,e⟩|⟨_,⟨_,e⟩|⟨_,_,e⟩|⟨_,_,_,e⟩|⟨_,h5,_,_⟩⟩⟩⟩
 ·rw [e] at h;exact absurd h (by assumption)
 ·rw [e] at h;cases h
 ·rw [e] at h;exact absurd h (by assumption)
 ·rw [e] at h;cases h
 ·rw [e] at h;cases h
 ·rw [e] at h;cases h
 ·omega
theorem Og{l:List UInt8}{p q t v:Int}(h:Bw l p q t v=0):1≤v∧v≤8∧lsFrom l p q t v+aheadT t*v.toNat=lsAt l p q t v∧lsAt l p q t v+lsLen l p q t v*(v.toNat+tgs t)≤l.length:=
 ⟨(U8 (Aj5 h)).2.1,(U8 (Aj5 h)).2.2,Apu h,(Zd h).2.2.2.1⟩
theorem Aop{l:List UInt8}{p q t v:Int}(h:Gu l p q t v=0):t=9∧Bw l p q t v=0∧Nw l.length (C9 l ⟨p,q,t,v⟩)∧(lsFrom l p q t v:Int)+3*v≤l.length∧1≤v∧v≤8:=by
 rcases Aa7 l p q t v with⟨g,e⟩|⟨_,⟨_,e⟩|⟨ht,⟨g,e⟩|⟨hl,_⟩⟩⟩
 ·rw [e] at h;exact absurd h g
 ·rw [e] at h;cases h
 ·rw [e] at h;exact absurd h g
 obtain⟨h1,h2,h3,h4⟩:=Og hl;have ha:aheadT t=3:=by rw [ht];rfl
 rw [ha] at h3;have h5:(lsFrom l p q t v:Int)+3*v≤l.length:=by omega
 refine⟨ht,hl,?_,h5,h1,h2⟩;unfold Nw C9 Fi Fj;simp only [if_pos h];omega
theorem E9.newer{E:Ie}{g:Option Nat}{s:Ao}{w:World}(h:E9 E g s w){k:Nat}(hk:w.heap.size≤k):E.Free g k:=by
 have:=h.sz;have:=h.ok.l2;have:=h.ok.m2;have:=h.ok.w2;refine⟨by omega,by omega,by omega,fun e=>?_⟩;have:=(h.O.row _ e).2;omega
def Vw(E:Ie)(go:Rq→Ao→Ao×Int)(d:Nat):Prop:=∀(g:Option Nat) (s:Ao) (p q t v:Int) (w:World),E9 E g s w→s.left.toNat<d→s.size≤900000000→Nw E.l.length ⟨p,q,t,v⟩→
 Calls Tryz.prog 61 #[.pointer (some ⟨E.bw,0,none⟩),.agg #[Aa Ab p,Aa Ab q,Aa Ab t,Aa Ab v]] w (T3 E g w (go ⟨p,q,t,v⟩ s))
theorem G1(s:Ao):s.o.length≤s.size:=by unfold Ao.size;omega
theorem Ac9(E:Ie)(go:Rq→Ao→Ao×Int)(d:Nat)(hgo:Vw E go d)(hgoes:Qf go)(g:Option Nat)(s:Ao)(p q t v f:Int)(w:World)(h:E9 E g s w)(hd:s.left.toNat<d)(hs:s.size≤900000000)(hf:(lsFrom E.l p q t v:Int)=f):
  Calls Tryz.prog 189 #[.pointer (some ⟨E.bw,0,none⟩),.agg #[Aa Ab p,Aa Ab q,Aa Ab t,Aa Ab v],Aa Ab f] w (T3 E g w (Fc E.l go ⟨p,q,t,v⟩ s)):=by
 have HC:=Hd (h.alloc (.cells #[Aa Ab p,Aa Ab q,Aa Ab t,Aa Ab v] 75));have HX:=Hd (h.lone 75 #[Aa Ab p,Aa Ab q,Aa Ab t,Aa Ab v]);have HB:=Hd ((Dw.refl E g w).alloc (.cells #[Aa Ab p,Aa Ab q,Aa Ab t,Aa Ab v] 75));have HGO:=Hd hgo;have HGS:=Hd hgoes;obtain⟨kp,hk1⟩:∃a,Fi E.l p q t v=a:=⟨_,rfl⟩;obtain⟨kq,hk2⟩:∃a,Fj E.l p q t v=a:=⟨_,rfl⟩;obtain⟨kt,hk3⟩:∃a,Lx E.l p q t v=a:=⟨_,rfl⟩;obtain⟨kv,hk4⟩:∃a,Fp E.l p q t v=a:=⟨_,rfl⟩;obtain⟨er,he⟩:∃a,Gu E.l p q t v=a:=⟨_,rfl⟩;have HP:=Hd hk1;have HQQ:=Hd hk2;have HT:=Hd hk3;have HV:=Hd hk4;have HEE:=Hd he;have HF:=Hd hf;have hcc:=h.ok.hc;have hnn:=h.ok.hn;have hlen:=h.len;clear h hk1 hk2 hk3 hk4 he hf hgo hgoes;go_enter Tryz.func189,Tryz.ntmps189;go_upto_region 1 with fail
 generalize w.alloc (.cells #[Aa Ab p,Aa Ab q,Aa Ab t,Aa Ab v] 75)=w1 at HC HX HB⊢;go_cut [7,8] (fun u7 u8 wx=>∃wy,wy=wx∧u8= Aa Ab er∧∃k,u7= .pointer (some ⟨k,0,none⟩)∧Af wx k 75 #[Aa Ab kp,Aa Ab kq,Aa Ab kt,Aa Ab kv]∧w1.heap.size≤k∧Below w1.heap.size w1 wx)
 case first=>
  have HQ:=Hd (Below.refl w1.heap.size w1);have HL:=Hd HC.o.b;have HW:=Hd HC.o.W;have HR:=Hd HX.o.1;have hn1:E.bw≠w1.heap.size:=by have:=HW.o.lt;omega
  have hn2:w.heap.size≠w1.heap.size:=by have:=HR.o.lt;omega
  clear HX HB HC;have c0:_=some (Value.slice E.A E.n E.c):=HW.o.cell 0;have x0:=Az HR.o;have x1:=Ax HR.o;have x2:=Aw HR.o;have x3:=A6 HR.o;go_region_held3 (fun w'=>w'.cell? ⟨E.bw,0,none⟩=some (.slice E.A E.n E.c)∧(w'.cell? ⟨w.heap.size,0,none⟩=some (Aa Ab p)∧w'.cell? ⟨w.heap.size,1,none⟩=some (Aa Ab q)∧w'.cell? ⟨w.heap.size,2,none⟩=some (Aa Ab t)∧w'.cell? ⟨w.heap.size,3,none⟩=some (Aa Ab v))) ((with_reducible refine⟨?_,?_,?_,?_,?_⟩) <;>(repeat (first|with_reducible assumption|with_reducible refine B4 ?_|with_reducible refine Iu _ ?_|with_reducible refine Ag0 ?_ ?_)))
   (first|(go_at_call 93;(first|(with_reducible refine(Aas E.A E.n E.c p q t v kp kq kt kv er E.l _ (HL.o.pure HQ.o.drew) hcc (by omega) HP.o HQQ.o HT.o HV.o HEE.o).mono ?_)|(with_reducible refine(Aas E.A E.n E.c p q t v kp kq kt kv er E.l _ (HL.o.pure (HQ.o.alloc HQ.o.size _).drew) hcc (by omega) HP.o HQQ.o HT.o HV.o HEE.o).mono ?_));rintro e w3 ⟨rfl,hb⟩;(first|(with_reducible replace HQ:=Hd (Ad HQ.o.drew hb))|((with_reducible have HK:=Hd ((Af.new w1 75 #[Aa Ab 0,Aa Ab 0,Aa Ab 0,Aa Ab 0]).drew.pure hb));(with_reducible replace HQ:=Hd (Ad (HQ.o.alloc HQ.o.size _).drew hb));have q0:=Az HK.o;have q1:=Ax HK.o;have q2:=Aw HK.o;have q3:=A6 HK.o;have p0:=HK.o.frozen 0;have p1:=HK.o.frozen 1;have p2:=HK.o.frozen 2;have p3:=HK.o.frozen 3));replace HW:=Hd (HW.o.pure HQ.o);replace HR:=Hd (HR.o.pure HQ.o);clear c0 x0 x1 x2 x3;have c0:_=some (Value.slice E.A E.n E.c):=HW.o.cell 0;have x0:=Az HR.o;have x1:=Ax HR.o;have x2:=Aw HR.o;have x3:=A6 HR.o;have hn3:E.bw≠w3.heap.size:=(by have:=HW.o.lt;omega);have hn4:w.heap.size≠w3.heap.size:=(by have:=HR.o.lt;omega);clear hb))
  all_goals
   go_wp2_with fail;go_meet
   first
    |with_reducible exact⟨_,rfl,rfl,_,rfl,Af.new _ _ _,HQ.o.size,HQ.o.alloc HQ.o.size _⟩
    |exact⟨_,rfl,rfl,_,rfl,(((HK.o.set_ 0 _).set_ 1 _).set_ 2 _).set_ 3 _,Nat.le_refl _,Dj _ HQ.o (Nat.le_refl _) _ _ _ _⟩
 case rest=>
 obtain⟨w3,rfl,rfl,k,rfl,hK,hk,hb⟩:=hcut;have HK:=Hd (show Ig E g w3 k 75 #[Aa Ab kp,Aa Ab kq,Aa Ab kt,Aa Ab kv] from⟨hK,HC.o.newer hk⟩);replace HC:=Hd (HC.o.pure hb);replace HX:=Hd (HX.o.pure hb);replace HB:=Hd (HB.o.below hb);clear hK hk hb;by_cases he:er=0
 ·subst he;obtain⟨ht,hl,hok,hle,hv1,hv8⟩:=Aop HEE.o;subst ht;have k0:=Az HK.o.1;have k1:=Ax HK.o.1;have k2:=Aw HK.o.1;have k3:=A6 HK.o.1;have HOK:=Hd (show Nw E.l.length ⟨kp,kq,kt,kv⟩ by have:=hok;unfold C9 at this;rw [HP.o,HQQ.o,HT.o,HV.o] at this;exact this);have hek:C9 E.l ⟨p,q,9,v⟩=⟨kp,kq,kt,kv⟩:=by unfold C9;rw [HP.o,HQQ.o,HT.o,HV.o]
  have hun:Fc E.l go ⟨p,q,9,v⟩ s=if(go ⟨kp,kq,kt,kv⟩ s).2≠0 then go ⟨kp,kq,kt,kv⟩ s else((go ⟨kp,kq,kt,kv⟩ s).1.tell (f+v) (f+2*v) 7,0):=by
   unfold Fc;rw [HEE.o,if_neg (by decide),hek,HF.o]
  obtain⟨y,hy⟩:∃y,go ⟨kp,kq,kt,kv⟩ s=y:=⟨_,rfl⟩;rw [hy] at hun;have hys:y.1.o.length≤900000000:=by
   have h1:=(HGS.o ⟨kp,kq,kt,kv⟩ s).1.2;rw [hy] at h1;have:=G1 y.1;omega
  have HY:=Hd hy;have HUN:=Hd hun;have hf0:0≤f:=by have:=HF.o;omega
  have hf1:f≤4294967296:=by have:=HF.o;omega
  have hcomes:=HGO.o g s kp kq kt kv w3 HC.o hd hs HOK.o;rw [hy] at hcomes;have HCM:=Hd hcomes;clear hok hek hun hy hcomes hl hle;go_wp2_with fail;go_at_call 61;refine HCM.o.mono ?_;rintro e w4 ⟨rfl,g4,hC4,hT4⟩;replace HB:=Hd (HB.o.trans hT4);replace HX:=Hd (HX.o.to hT4);replace HC:=Hd hC4;clear HK hC4 hT4 HCM k0 k1 k2 k3;by_cases hy0:y.2=0
  ·have h1:=HUN.o;rw [hy0,if_neg (by decide)] at h1;rw [hy0];replace HUN:=Hd h1;clear h1 hy0;obtain⟨c0,c1,c2,c3⟩:=HC.o.cells;have x0:=Az HX.o.1;have x1:=Ax HX.o.1;have x2:=Aw HX.o.1;have x3:=A6 HX.o.1;have w1:IntKind.i64.wrap (f+v)=f+v:=IntWalk.i64_in _ (by omega);have w2:IntKind.i64.wrap (2*v)=2*v:=IntWalk.i64_in _ (by omega);have w3:IntKind.i64.wrap (f+2*v)=f+2*v:=IntWalk.i64_in _ (by omega);go_wp2_with fail;go_region_held3 (fun w'=>w'.cell? ⟨E.bw,0,none⟩=some (.slice E.A E.n E.c)∧w'.cell? ⟨E.bw,3,none⟩=some (.func (.func 60) #[] #[.pointer (some ⟨E.bl,0,none⟩)])∧(w'.cell? ⟨w.heap.size,0,none⟩=some (Aa Ab p)∧w'.cell? ⟨w.heap.size,1,none⟩=some (Aa Ab q)∧w'.cell? ⟨w.heap.size,2,none⟩=some (Aa Ab 9)∧w'.cell? ⟨w.heap.size,3,none⟩=some (Aa Ab v))) (first|with_reducible exact⟨c0,c3,x0,x1,x2,x3⟩|with_reducible exact⟨Ay c0,Ay c3,Ay x0,Ay x1,Ay x2,Ay x3⟩) (first|(go_at_call 60;(with_reducible refine(Gl (f+v) (f+2*v) 7 HC.o.drew (by omega)).mono ?_);rintro e w2 ⟨rfl,g2,hC2,hT2⟩;replace HB:=Hd (HB.o.drew.trans hT2);replace HX:=Hd (HX.o.drew.to hT2);replace HC:=Hd hC2;clear c0 c1 c2 c3 x0 x1 x2 x3;clear hC2 hT2;obtain⟨c0,c1,c2,c3⟩:=HC.o.cells;have x0:=Az HX.o.1;have x1:=Ax HX.o.1;have x2:=Aw HX.o.1;have x3:=A6 HX.o.1));go_wp2_with fail;go_ret;rw [HUN.o];exact⟨rfl,_,HC.o,HB.o⟩
  ·have hne:(y.2==0)=false:=beq_eq_false_iff_ne.mpr hy0;have h1:=HUN.o;rw [if_pos hy0] at h1;replace HUN:=Hd h1;clear h1 hy0;go_wp2_with fail;go_ret;rw [HUN.o];exact⟨rfl,_,HC.o,HB.o⟩
 ·have hne:(er==0)=false:=beq_eq_false_iff_ne.mpr he;have e:Fc E.l go ⟨p,q,t,v⟩ s=(s,er):=by
   unfold Fc;rw [HEE.o,if_pos he]
  have HRR:=Hd e;clear e he;go_wp2_with fail
  all_goals
   go_ret;rw [HRR.o];exact⟨rfl,_,HC.o,HB.o⟩
end Go.Proofs.YtgbjodnegkbfoaaGreat
