/- Parts of the proof. -/
import Derived.Test.YtejpbijeifjdeaaGreatQf02
set_option maxHeartbeats 1000000
set_option maxRecDepth 100000
open Nat renaming le_refl→Ae
open Go.RowKit.Below renaming refl→Af
open List renaming length_append→Ah,replicate→Al,append_assoc→Am,length_map→As,length_cons→Au,length_nil→Aw,length_take→Az,nil_append→A6,getD_eq_getElem?_getD→Be,getElem?_eq_none→Bg
open UInt8 renaming ofNat→An
open Go.Proofs.Tryz
open Go.Proofs.Tryz renaming prog→Ad
namespace Go.Proofs.YtejpbijeifjdeaaGreat
variable {n w a ahead i b:Nat}{p q t v:Int}{l x:List UInt8}{k:Option Bv}{vs:List Bv}{len tags:Bool}{w0:World}{e:Ending}{o:Nat→Nat}{A:Option Addr}
section
open Go.Acc
theorem cM:∀(s s' x x':List UInt8),(0:UInt8)∉s→(0:UInt8)∉s'→s++0::x=s'++0::x'→s=s'∧x=x'
 | [],[],_,_,_,_,h=>⟨rfl,by simpa using h⟩
 | [],c::s',_,_,_,h',h=>by
  simp only [A6,List.cons_append,List.cons.injEq] at h;exact absurd (by simp [←h.1]) h'
 |c::s,[],_,_,h',_,h=>by
  simp only [A6,List.cons_append,List.cons.injEq] at h;exact absurd (by simp [h.1]) h'
 |c::s,d::s',x,x',h0,h0',h=>by
  simp only [List.cons_append,List.cons.injEq] at h;obtain⟨a,b⟩:=cM s s' x x' (fun hm=>h0 (by simp [hm])) (fun hm=>h0' (by simp [hm])) h.2;exact⟨by rw [h.1,a],b⟩
theorem Q1:∀(a b:List (List UInt8)),(∀s∈a,(0:UInt8)∉s)→(∀s∈b,(0:UInt8)∉s)→Dg a=Dg b→a=b
 | [],[],_,_,_=>rfl
 | [],s::r,_,_,h=>by simp [Dg] at h
 |s::r,[],_,_,h=>by simp [Dg] at h
 |s::r,t::q,ha,hb,h=>by
  have e:s++0::Dg r=t++0::Dg q:=by simpa [Dg] using h
  obtain⟨c,d⟩:=cM s t _ _ (ha s (by simp)) (hb t (by simp)) e;rw [c,Q1 r q (fun s hs=>ha s (by simp [hs])) (fun s hs=>hb s (by simp [hs])) d]
theorem Qu(f:Nat)(ks:List (List UInt8))(st:List Bv)(b:Bd)(kvs vs:List Bv)(h:Dr b)(hs:b.s=st++E6 kvs vs)(hl:kvs.length=vs.length)(h0:∀x∈ks,(0:UInt8)∉x)(hk:Dp b.b ks kvs)(hf:∀x∈vs,Eu b.b.length x):
  ∃v kv kvs',(b.endMap f ks st.length).s=st++ [v]∧Hj b (b.endMap f ks st.length)∧Dp (b.endMap f ks st.length).b ks kvs'∧Dc (b.endMap f ks st.length).b 14 true false kvs' kv∧G5 (b.endMap f ks st.length).b kv vs v:=by
 obtain⟨h1,h2⟩:=I7 kvs vs hl;have A:b.s.drop st.length=E6 kvs vs:=by rw [hs];simp
 have ht:b.s.take st.length=st:=by rw [hs];simp
 unfold Bd.endMap;simp only [A,ht,h1,h2];have c:(ks.flatMap fun s=>s++ [0])=Dg ks:=rfl;rw [c];split
 ·next i hi=>
  split at hi
  ·obtain⟨kv,kvs',k,C,u⟩:=h.lists ks h0 i hi;have d:b.vals.getD i ⟨0,0,0⟩=kv:=by rw [Be,k];rfl
   obtain⟨m,l⟩:=Q9 kv vs b.b;refine⟨(Ef kv vs b.b).2,kv,kvs',?_,⟨⟨m,?_⟩,?_⟩,?_,?_,?_⟩
   ·rw [d]
   ·rw [d];exact l
   ·exact h.app m (by rw [d];exact l) rfl rfl rfl rfl
   ·rw [d,l];exact C.app m
   ·rw [d,l];exact u.app m
   ·rw [d];exact⟨b.b,[],by simp,rfl,u.fit,hf⟩
  ·cases hi
 ·obtain⟨t,k⟩:=Mt 14 true false kvs b.b;obtain⟨p,q⟩:=Q9 (Cd 14 true false kvs b.b).2 vs (Cd 14 true false kvs b.b).1;have e:(Ef (Cd 14 true false kvs b.b).2 vs (Cd 14 true false kvs b.b).1).1=b.b++(t++p):=by rw [q,k,Am]
  have r:Dc (Ef (Cd 14 true false kvs b.b).2 vs (Cd 14 true false kvs b.b).1).1 14 true false kvs (Cd 14 true false kvs b.b).2:=⟨b.b,p,q,rfl,hk.fit⟩;have n:Eu (Cd 14 true false kvs b.b).1.length (Cd 14 true false kvs b.b).2:=by
   have:=Rt 14 true false kvs b.b []
   rwa [List.append_nil] at this
  have o:∀x∈vs,Eu (Cd 14 true false kvs b.b).1.length x:=fun x hx=>(hf x hx).mono (by rw [k];simp)
  refine⟨_,(Cd 14 true false kvs b.b).2,kvs,rfl,⟨⟨t++p,e⟩,⟨fun s a i=>?_,fun s a i=>?_,fun ks' h0' i j=>?_,fun s i j=>?_⟩⟩,?_,r,⟨(Cd 14 true false kvs b.b).1,[],by simp,rfl,n,o⟩⟩
  ·exact e▸(h.keys s a i).app _
  ·exact e▸(h.texts s a i).app _
  ·rcases Jw j with j|⟨B,rfl⟩
   ·obtain⟨kv,kvs',w,y,z⟩:=h.lists ks' h0' i j;refine⟨kv,kvs',?_,e▸y.app _,e▸z.app _⟩;have g:=h.vals _ i j;exact(List.getElem?_append_left g).trans w
   ·have:=Q1 ks' ks h0' h0 B;subst this;refine⟨_,kvs,?_,e▸hk.app _,r⟩;simp
  ·rcases Jw j with j|⟨_,rfl⟩
   ·have g:=h.vals _ i j;simp only [Ah,List.length_singleton];omega
   ·simp
  ·exact e▸hk.app _
theorem F6(f:Nat)(t:Tr)(h:Ok t):Pj f t:=by
 induction h with
 |leaf n u s ks c h1 h2=>
  intro b a;rename_i k;have e:Bd.calls f (.mk k n u s ks c) b=b.leaf f k n u s:=by
   rw [Bd.calls,if_neg (by omega),if_neg (by omega),if_pos h2]
  rw [e];exact eG f n u s ks c h1 h2 b a
 |flat n u s ks c h1 h2=>
  intro b a;rename_i k;have e:Bd.calls f (.mk k n u s ks c) b=b.flat f k c:=by
   rw [Bd.calls,if_neg (by omega),if_neg (by omega),if_neg (by omega)]
  rw [e];exact wH f n u s ks c h1 h2 b a
 |vec n u s ks _ ih=>
  intro b a;rename_i c _;obtain⟨vs,l,d,j,g⟩:=Lk f c ih b a;have e:Bd.calls f (.mk 10 n u s ks c) b=(Bd.callsL f c b).endVec b.s.length:=by rw [Bd.calls,if_pos rfl]
  have A:(Bd.callsL f c b).s.drop b.s.length=vs:=by rw [l];simp
  have ht:(Bd.callsL f c b).s.take b.s.length=b.s:=by rw [l];simp
  rw [e,Bd.endVec,A,ht];have p:Dr { Bd.callsL f c b with s:=b.s}:=j.2.app [] (by simp) rfl rfl rfl rfl;obtain⟨v,o,m,q⟩:=Lg 10 true true vs { Bd.callsL f c b with s:=b.s} p (Ow d g)
  have z:Hj (Bd.callsL f c b) (Bd.vec 10 true true vs { Bd.callsL f c b with s:=b.s}):=m;exact⟨v,o,j.trans z,.vec _ _ _ _ d (fun i x t hx ht=>z.rep (g i x t hx ht)) q⟩
 |map n u s hl h0 _ ih=>
  intro b a;rename_i c ks _;obtain⟨r,vs,l,d,j,w,g⟩:=J4 f c ks hl ih b a;have e:Bd.calls f (.mk 17 n u s ks c) b=(Bd.callsM f ks c b).endMap f ks b.s.length:=by
   rw [Bd.calls,if_neg (by omega),if_pos rfl]
  rw [e];obtain⟨v,D,y,o,m,q,C,B⟩:=Qu f ks b.s (Bd.callsM f ks c b) r vs j.2 l (by rw [w.1,d,hl]) h0 w (Ow d g);exact⟨v,o,j.trans m,.map _ _ _ q C d (fun i x t hx ht=>m.rep (g i x t hx ht)) B⟩
theorem pX(f:Nat)(t:Tr)(h:Ok t):∃v,(Bd.calls f t Bd.new).s=[v]∧E4 (Bd.calls f t Bd.new).b v t:=by
 obtain⟨v,e,_,r⟩:=F6 f t h Bd.new Oh;exact⟨v,e,r⟩
end
section
open Go.RowKit Go.Acc
def H8(n:Nat)(a m:Int):Bool:=decide (0≤a∧0≤m∧a+m≤n)
theorem Eh{a m:Int}:H8 n a m=true↔0≤a∧0≤m∧a+m≤n:=by simp [H8]
def Ju(q t v:Int):Bool:=Cb t&&Bz q&&Bz v
def Co(n:Nat)(p q t v:Int):Int:=if Ju q t v=true then(if H8 n p q=true then 0 else 6) else 2
theorem Fg:Co n p q t v=0↔Ju q t v=true∧H8 n p q=true:=by
 unfold Co;cases Ju q t v <;>cases H8 n p q <;>simp
theorem Du:Ju q t v=true↔Cb t=true∧Bz q=true∧Bz v=true:=by
 simp [Ju,and_assoc]
def Ch(l:List UInt8)(p q t v:Int):Int:=
 if Co l.length p q t v=0 then(if Bq t=true then 60 else if p<(loadU l p q:Int) then 211 else 0) else Co l.length p q t v
def Cg(l:List UInt8)(p q t v:Int):Int:=if Ch l p q t v=0 then p-loadU l p q else 0
theorem wY(h:Co l.length p q t v=0):Cy l.length p q=0:=by
 obtain⟨h1,h2⟩:=Fg.1 h;have h1:=Du.1 h1;have h2:=Eh.1 h2;unfold Cy;rw [if_pos h1.2.1,if_pos ⟨h2.1,h2.2.2⟩]
theorem O2(h:Co l.length p q t v≠0):Ch l p q t v=Co l.length p q t v:=if_neg h
theorem Ab0(h:Co l.length p q t v≠0):Cg l p q t v=0:=by
 unfold Cg;rw [O2 h,if_neg h]
theorem gF(h:Co l.length p q t v=0)(hi:Bq t=true):Ch l p q t v=60:=by
 unfold Ch;rw [if_pos h,if_pos hi]
theorem Abz(h:Co l.length p q t v=0)(hi:Bq t=true):Cg l p q t v=0:=by
 unfold Cg;rw [gF h hi];rfl
theorem gG(h:Co l.length p q t v=0)(hi:Bq t=false)(hu:p<(loadU l p q:Int)):Ch l p q t v=211:=by
 unfold Ch;rw [if_pos h,if_neg (by simp [hi]),if_pos hu]
theorem Ab1(h:Co l.length p q t v=0)(hi:Bq t=false)(hu:p<(loadU l p q:Int)):Cg l p q t v=0:=by
 unfold Cg;rw [gG h hi hu];rfl
theorem Uc(h:Co l.length p q t v=0)(hi:Bq t=false)(hu:¬p<(loadU l p q:Int)):Ch l p q t v=0:=by
 unfold Ch;rw [if_pos h,if_neg (by simp [hi]),if_neg hu]
theorem gH(h:Co l.length p q t v=0)(hi:Bq t=false)(hu:¬p<(loadU l p q:Int)):Cg l p q t v=p-loadU l p q:=by
 unfold Cg;rw [Uc h hi hu];rfl
def Gf(l:List UInt8):Int:=
 if l.length<3∨Bz ((l.getD (l.length-1) 0).toNat:Int)=false then 210
 else if Iv (l.getD (l.length-2) 0)≠0 then Iv (l.getD (l.length-2) 0)
 else if(l.length:Int)-2-(l.getD (l.length-1) 0).toNat<0∨((l.length:Int)-2-(l.getD (l.length-1) 0).toNat) % (l.getD (l.length-1) 0).toNat≠0 then 210 else 0
def Fx(l:List UInt8):Int×Int×Int×Int:=
 if Gf l=0 then((l.length:Int)-2-(l.getD (l.length-1) 0).toNat,(l.getD (l.length-1) 0).toNat,Ng (l.getD (l.length-2) 0),Nh (l.getD (l.length-2) 0)) else(0,0,0,0)
end
section
open Go.Acc
theorem Pa(f:Nat→Bool)(h:f 8=true):(leastW f=1∨leastW f=2∨leastW f=4∨leastW f=8)∧f (leastW f)=true:=by
 unfold leastW;by_cases h1:f 1=true
 ·rw [if_pos h1];exact⟨Or.inl rfl,h1⟩
 ·by_cases h2:f 2=true
  ·rw [if_neg h1,if_pos h2];exact⟨Or.inr (Or.inl rfl),h2⟩
  ·by_cases a:f 4=true
   ·rw [if_neg h1,if_neg h2,if_pos a];exact⟨Or.inr (Or.inr (Or.inl rfl)),a⟩
   ·rw [if_neg h1,if_neg h2,if_neg a,if_pos h];exact⟨Or.inr (Or.inr (Or.inr rfl)),h⟩
theorem C8:Bz w=true↔w=1∨w=2∨w=4∨w=8:=by
 simp only [Bz,decide_eq_true_eq];omega
theorem Su{v:Bv}(h:Eu a v)(i:Nat):Dt v a i 8=true:=by
 unfold Dt;cases e:inl v.t with
 |true=>simp [h.1 e]
 |false=>simp [h.2 e,G1]
theorem dJ{a:Nat}:∀(vs:List Bv) (i:Nat),(∀x∈vs,Eu a x)→Es a 8 i vs=true
 | [],_,_=>rfl
 |v::r,i,h=>by
  rw [Es,Su (h v (by simp)),dJ r (i+1) (fun x hx=>h x (by simp [hx]))];rfl
theorem K3(hk:∀x,k=some x→Eu a x)(h:∀x∈vs,Eu a x):Bz (C3 a ahead k vs)=true:=by
 refine C8.2 (Pa _ ?_).1;rw [J9,dJ vs ahead h];cases k with
 |none=>simp [dI,G1]
 |some x=>simp [dI,G1,Su (hk x rfl)]
theorem Dc.width{t:Nat}{v:Bv}(h:Dc l t len tags vs v):v.t=t∧Bz v.w=true:=by
 obtain⟨b,m,_,rfl,hf⟩:=h;exact⟨rfl,show Bz ((C3 b.length (if len=true then 1 else 0) none vs:Nat):Int)=true from K3 (k:=none) (fun _ e=>by cases e) hf⟩
theorem G5.width{k:Bv}{v:Bv}(h:G5 l k vs v):v.t=9∧Bz v.w=true:=by
 obtain⟨b,m,_,rfl,hk,hf⟩:=h;exact⟨rfl,show Bz ((C3 b.length 3 (some k) vs:Nat):Int)=true from K3 (k:=some k) (fun x e=>by injection e with e;exact e▸hk) hf⟩
theorem Dy(u:Nat):Bz (bWidth u)=true:=C8.2 (by unfold bWidth;(repeat' split) <;>simp)
theorem Hv(n:Int):Bz (bWidthI n)=true:=C8.2 (by unfold bWidthI;(repeat' split) <;>simp)
def Ts(t:Tr):Prop:=t.k=15∨t.k=16→t.l.length=2∨t.l.length=3∨t.l.length=4
theorem E4.legal{v:Bv}{t:Tr}(h:E4 l v t)(hx:Ts t):Cb v.t=true∧Bz v.w=true∧Cs v.t=t.k:=by
 cases h with
 |null=>exact⟨by decide,by decide,show Cs 0=1 by decide⟩
 |truth n u s ks c=>exact⟨show Cb 26=true by decide,show Bz 1=true by decide,show Cs 26=2 by decide⟩
 |int n u s ks c=>exact⟨show Cb 1=true by decide,Hv n,show Cs 1=3 by decide⟩
 |uint n u s ks c=>exact⟨show Cb 2=true by decide,Dy u,show Cs 2=4 by decide⟩
 |key _ _ _ _ h=>rw [h.1,h.2.1];exact⟨by decide,by decide,show Cs 4=5 by decide⟩
 |str _ _ _ _ h=>rw [h.1,h.2.1];exact⟨by decide,Dy _,show Cs 5=6 by decide⟩
 |blob _ _ _ _ h=>rw [h.1,h.2.1];exact⟨by decide,Dy _,show Cs 25=7 by decide⟩
 |indInt _ _ _ _ h=>rw [h.1,h.2.1];exact⟨by decide,Hv _,show Cs 6=8 by decide⟩
 |indUint _ _ _ _ h=>rw [h.1,h.2.1];exact⟨by decide,Dy _,show Cs 7=9 by decide⟩
 |ints _ _ _ _ h=>rw [h.width.1];exact⟨by decide,h.width.2,show Cs 11=11 by decide⟩
 |uints _ _ _ _ h=>rw [h.width.1];exact⟨by decide,h.width.2,show Cs 12=12 by decide⟩
 |bools _ _ _ _ h=>rw [h.width.1];exact⟨by decide,h.width.2,show Cs 36=14 by decide⟩
 |keys _ _ _ _ _ h=>rw [h.width.1];exact⟨by decide,h.width.2,show Cs 14=13 by decide⟩
 |vec _ _ _ _ _ _ h=>rw [h.width.1];exact⟨by decide,h.width.2,show Cs 10=10 by decide⟩
 |map _ _ _ _ _ _ _ h=>rw [h.width.1];exact⟨by decide,h.width.2,show Cs 9=17 by decide⟩
 |fixInts _ _ _ _ h=>
  rename_i c n u s ks;have hx:c.length=2∨c.length=3∨c.length=4:=hx (Or.inl rfl);have a:=h.width.2;rw [h.width.1];rcases hx with e|e|e <;>rw [e]
  ·exact⟨by decide,a,show Cs 16=15 by decide⟩
  ·exact⟨by decide,a,show Cs 19=15 by decide⟩
  ·exact⟨by decide,a,show Cs 22=15 by decide⟩
 |fixUints _ _ _ _ h=>
  rename_i c n u s ks;have hx:c.length=2∨c.length=3∨c.length=4:=hx (Or.inr rfl);have a:=h.width.2;rw [h.width.1];rcases hx with e|e|e <;>rw [e]
  ·exact⟨by decide,a,show Cs 17=16 by decide⟩
  ·exact⟨by decide,a,show Cs 20=16 by decide⟩
  ·exact⟨by decide,a,show Cs 23=16 by decide⟩
theorem Xo(t w:Nat)(ht:Cb t=true)(hw:Bz w=true):Ng (An (4*t+bCode w))=t∧Nh (An (4*t+bCode w))=w∧Iv (An (4*t+bCode w))=0:=by
 have c:=Hg.1 (Ic ht);have e:bCode w<4:=by unfold bCode;(repeat' split) <;>omega
 have b:(An (4*t+bCode w)).toNat=4*t+bCode w:=by
  rw [UInt8.toNat_ofNat'];omega
 have a:(((An (4*t+bCode w)).toNat:Nat):Int)/4=t:=by rw [b];omega
 have d:(An (4*t+bCode w)).toNat % 4=bCode w:=by rw [b];omega
 refine⟨by rw [Ng,a,if_pos ht],?_,by rw [Iv,a,if_pos ht]⟩;rw [Nh,a,if_pos ht,d];rcases C8.1 hw with rfl|rfl|rfl|rfl <;>rfl
theorem Hu(hw:Bz w=true)(b:List UInt8):(Bm w b).length=upN b.length w∧(Bm w b).length % w=0∧b.length≤(Bm w b).length:=by
 simp only [Bm,Ah,List.length_replicate,Kn,upN];rcases C8.1 hw with rfl|rfl|rfl|rfl <;>omega
theorem Ev{u:Nat}(hw:Bz w=true)(hu:u<2^64)(h:bWidth u≤w):u<2^(8*w):=by
 unfold bWidth at h;rcases C8.1 hw with rfl|rfl|rfl|rfl <;>(repeat' split at h) <;>omega
def Di(b:List UInt8)(v:Bv)(w:Nat):List UInt8:=Bm w b++Bn w (Da w (Bm w b).length v)++ [Dl w v,An w]
theorem wP(y:List UInt8)(a b:UInt8):(y++ [a,b]).length=y.length+2∧(y++ [a,b]).getD ((y++ [a,b]).length-1) 0=b∧(y++ [a,b]).getD ((y++ [a,b]).length-2) 0=a:=by
 refine⟨by simp,?_,?_⟩
 ·rw [Be,List.getElem?_append_right (by simp)];simp
 ·rw [Be,List.getElem?_append_right (by simp)];simp
def ownW(w:Nat)(v:Bv):Nat:=if inl v.t=true then w else v.w
theorem xW{b:List UInt8}{v:Bv}(hx:x.length % 8=0)(hw:Bz w=true)(ht:Cb v.t=true)(hv:Bz v.w=true):
  Gf (x++Di b v w)=0∧Fx (x++Di b v w)=(((x.length+(Bm w b).length:Nat):Int),(w:Int),(v.t:Int),(ownW w v:Int)):=by
 obtain⟨y,g⟩:∃y,x++(Bm w b++Bn w (Da w (Bm w b).length v))=y:=⟨_,rfl⟩;have f:x++Di b v w=y++ [Dl w v,An w]:=by rw [←g,Di];simp only [Am]
 have c:y.length=x.length+(Bm w b).length+w:=by rw [←g];simp only [Ah,Bo];omega
 obtain⟨h1,h2,h3⟩:=wP y (Dl w v) (An w);obtain⟨_,k,_⟩:=Hu hw b;have d:Bz (ownW w v)=true:=by unfold ownW;split <;>assumption
 obtain⟨h,i,j⟩:=Xo v.t (ownW w v) ht d;have ht:Dl w v=An (4*v.t+bCode (ownW w v)):=rfl;rw [←ht] at h i j;have a:(An w).toNat=w:=by
  rw [UInt8.toNat_ofNat'];rcases C8.1 hw with rfl|rfl|rfl|rfl <;>rfl
 have e:Gf (x++Di b v w)=0:=by
  rw [f];unfold Gf;rw [h2,h3,a,j,if_neg,if_neg (by simp),if_neg]
  ·rw [h1,c];rcases C8.1 hw with rfl|rfl|rfl|rfl <;>omega
  ·rw [h1,c,hw];rcases C8.1 hw with rfl|rfl|rfl|rfl <;>simp <;>omega
 refine⟨e,?_⟩;unfold Fx;rw [if_pos e,f,h2,h3,a,h,i,h1,c];simp only [Prod.mk.injEq,and_true];omega
theorem Uz(x b:List UInt8)(v:Bv)(w:Nat):(x++Di b v w).length=x.length+(Bm w b).length+w+2:=by
 simp only [Di,Ah,Bo,Au,Aw];omega
theorem Od{v:Bv}(hi:inl v.t=false)(h:Dt v a i w=true):v.n≤a∧bWidth (upN a w+i*w-v.n)≤w:=by
 unfold Dt at h;rw [if_neg (by simp [hi])] at h;exact of_decide_eq_true h
theorem Oc{a w:Nat}:∀(vs:List Bv) (i j:Nat) (y:Bv),Es a w i vs=true→vs[j]?=some y→Dt y a (i+j) w=true
 | [],_,_,_,_,h=>by simp at h
 |v::r,i,0,y,hf,h=>by
  rw [Es,Bool.and_eq_true] at hf;have e:v=y:=by simpa using h
  subst e;exact hf.1
 |v::r,i,j+1,y,hf,h=>by
  rw [Es,Bool.and_eq_true] at hf;have:=Oc r (i+1) j y hf.2 (by simpa using h)
  rwa [show i+1+j=i+(j+1) by omega] at this
def aS(w p:Nat)(y:Bv):Prop:=(inl y.t=true→y.w≤w)∧(inl y.t=false→y.n≤p∧p-y.n<2^(8*w))
theorem X8{y:Bv}(hw:Bz w=true)(hs:upN a w+i*w<2^40)(h:Dt y a i w=true):aS w (upN a w+i*w) y:=by
 refine⟨fun e=>?_,fun e=>?_⟩
 ·unfold Dt at h;rw [if_pos e] at h;exact of_decide_eq_true h
 ·obtain⟨h1,h2⟩:=Od e h;have hup:a≤upN a w:=by
   unfold upN;rcases C8.1 hw with rfl|rfl|rfl|rfl <;>omega
  exact⟨by omega,Ev hw (by omega) h2⟩
theorem O7(hk:∀x,k=some x→Eu a x)(h:∀x∈vs,Eu a x):
  (ahead=0∨bWidth vs.length≤C3 a ahead k vs)∧(∀x,k=some x→Dt x a 0 (C3 a ahead k vs)=true)∧Es a (C3 a ahead k vs) ahead vs=true:=by
 have c:J9 a ahead k vs 8=true:=by
  rw [J9,dJ vs ahead h];cases k with
  |none=>simp [dI,G1]
  |some x=>simp [dI,G1,Su (hk x rfl)]
 have b:J9 a ahead k vs (C3 a ahead k vs)=true:=(Pa _ c).2;rw [J9,Bool.and_eq_true,Bool.and_eq_true,Bool.or_eq_true,decide_eq_true_eq,decide_eq_true_eq] at b;refine⟨b.1.1,fun x e=>?_,b.2⟩;subst e;exact b.1.2
structure Ad8(L:List UInt8)(s:Nat)(len tags:Bool)(vs:List Bv)(v:Bv):Prop where
 w:Bz v.w=true
 len:len=true→∃c,v.n=c+v.w∧At L (s+c) (Bn v.w vs.length)∧vs.length<2^(8*v.w)
 el:∀(i:Nat) y,vs[i]?=some y→At L (s+(v.n+i*v.w)) (Bn v.w (Da v.w (v.n+i*v.w) y))∧aS v.w (v.n+i*v.w) y
 tags:tags=true→At L (s+(v.n+vs.length*v.w)) (vs.map (Dl v.w))
 le:s+(v.n+vs.length*v.w)≤L.length
theorem Dc.facts{t:Nat}{v:Bv}(h:Dc l t len tags vs v)(hb:l.length<2^32)(x:List UInt8):Ad8 (x++l) x.length len tags vs v:=by
 have f:=h.width.2;obtain⟨b,m,rfl,rfl,hf⟩:=h;obtain⟨j,_,o⟩:=O7 (a:=b.length) (ahead:=if len=true then 1 else 0) (k:=none) (fun _ e=>by cases e) hf;have hw:Bz ((C3 b.length (if len=true then 1 else 0) none vs:Nat):Int)=true:=f;clear f;obtain⟨w,n⟩:∃w,C3 b.length (if len=true then 1 else 0) none vs=w:=⟨_,rfl⟩;obtain⟨c,g⟩:∃c,Bm w b++(if len=true then Bn w vs.length else [])=c:=⟨_,rfl⟩;simp only [Cd,n,g] at hb hw j o⊢;obtain⟨s,B,C⟩:=Hu hw b;obtain⟨q,e,r⟩:=Fa w vs c;have d:c.length=upN b.length w+(if len=true then 1 else 0)*w:=by
  rw [←g,Ah,s];cases len <;>simp [Bo]
 have p:c.length+w*vs.length≤(Cu w c vs++(if tags=true then vs.map (Dl w) else [])++m).length:=by
  rw [e];simp only [Ah,r];omega
 have A:vs.length≤w*vs.length:=Nat.le_mul_of_pos_left _ (by rcases C8.1 hw with rfl|rfl|rfl|rfl <;>omega);refine⟨hw,fun hl=>?_,fun i y hy=>?_,fun ht=>?_,?_⟩
 ·subst hl;simp only [if_true] at g d j;refine⟨(Bm w b).length,by simp only [d];omega,?_,Ev hw (by omega) (j.resolve_left (by omega))⟩;refine At.ahead ?_ x;refine At.app ?_ m;refine At.app ?_ _;rw [e,←g];exact(At.last _ _).app q
 ·have D:i<vs.length:=by
   rw [←Nat.not_le];intro z;rw [Bg z] at hy;cases hy
  have u:i*w≤w*vs.length:=by rw [Nat.mul_comm];exact Nat.mul_le_mul_left _ (by omega)
  refine⟨At.ahead (((Sq w vs c i y hy).app _).app m) x,?_⟩;have h1:=Oc vs _ i y o hy;have h2:upN b.length w+((if len=true then 1 else 0)+i)*w=c.length+i*w:=by rw [d,Nat.add_mul,Nat.add_assoc]
  have h3:=X8 hw (by rw [h2];omega) h1;rw [h2] at h3;exact h3
 ·subst ht;refine At.ahead ?_ x;refine At.app ?_ m;have:(Cu w c vs).length=c.length+vs.length*w:=by rw [e,Ah,r,Nat.mul_comm]
  rw [←this];exact At.last _ _
 ·show x.length+(c.length+vs.length*w)≤_;rw [Ah,Nat.mul_comm vs.length];omega
structure Ad7(L:List UInt8)(s:Nat)(k:Bv)(vs:List Bv)(v:Bv):Prop where
 w:Bz v.w=true
 head:∃c,v.n=c+3*v.w∧At L (s+c) (Bn v.w (c-k.n))∧k.n≤c∧c-k.n<2^(8*v.w)∧At L (s+(c+v.w)) (Bn v.w k.w)∧At L (s+(c+2*v.w)) (Bn v.w vs.length)∧vs.length<2^(8*v.w)
 el:∀(i:Nat) y,vs[i]?=some y→At L (s+(v.n+i*v.w)) (Bn v.w (Da v.w (v.n+i*v.w) y))∧aS v.w (v.n+i*v.w) y
 tags:At L (s+(v.n+vs.length*v.w)) (vs.map (Dl v.w))
 le:s+(v.n+vs.length*v.w)≤L.length
theorem G5.facts{k:Bv}{v:Bv}(h:G5 l k vs v)(hk0:inl k.t=false)(hb:l.length<2^32)(x:List UInt8):Ad7 (x++l) x.length k vs v:=by
 have j:=h.width.2;obtain⟨b,m,rfl,rfl,H,F⟩:=h;obtain⟨s,o,u⟩:=O7 (a:=b.length) (ahead:=3) (k:=some k) (fun x e=>by injection e with e;exact e▸H) F;have o:=o k rfl;have d:Bz ((C3 b.length 3 (some k) vs:Nat):Int)=true:=j;clear j;obtain⟨w,r⟩:∃w,C3 b.length 3 (some k) vs=w:=⟨_,rfl⟩;obtain⟨a,A⟩:∃a,Bm w b=a:=⟨_,rfl⟩;obtain⟨c,f⟩:∃c,a++Bn w (a.length-k.n)++Bn w k.w++Bn w vs.length=c:=⟨_,rfl⟩;simp only [Ef,r,A,f] at hb d s o u⊢;obtain⟨p,D,E⟩:=Hu d b;rw [A] at p D E;obtain⟨q,e,C⟩:=Fa w vs c;have g:c.length=a.length+3*w:=by
  rw [←f];simp only [Ah,Bo];omega
 have B:c.length+w*vs.length≤(Cu w c vs++vs.map (Dl w)++m).length:=by
  rw [e];simp only [Ah,C];omega
 have J:vs.length≤w*vs.length:=Nat.le_mul_of_pos_left _ (by rcases C8.1 d with rfl|rfl|rfl|rfl <;>omega);obtain⟨K,z⟩:=Od hk0 o;rw [Nat.zero_mul,Nat.add_zero,←p] at z;refine⟨d,⟨a.length,g,?_,by omega,Ev d (by omega) z,?_,?_,Ev d (by omega) (s.resolve_left (by omega))⟩,fun i y hy=>?_,?_,?_⟩
 ·refine At.ahead (At.app (At.app ?_ _) m) x;rw [e,←f];exact(((At.last a _).app _).app _).app q
 ·refine At.ahead (At.app (At.app ?_ _) m) x;rw [e,←f];have:=At.last (a++Bn w (a.length-k.n)) (Bn w k.w);rw [Ah,Bo] at this;exact(this.app _).app q
 ·refine At.ahead (At.app (At.app ?_ _) m) x;rw [e,←f];have:=At.last (a++Bn w (a.length-k.n)++Bn w k.w) (Bn w vs.length);rw [Ah,Ah,Bo,Bo,show a.length+w+w=a.length+2*w by omega] at this;exact this.app q
 ·have L:i<vs.length:=by
   rw [←Nat.not_le];intro I;rw [Bg I] at hy;cases hy
  have G:i*w≤w*vs.length:=by rw [Nat.mul_comm];exact Nat.mul_le_mul_left _ (by omega)
  refine⟨At.ahead (((Sq w vs c i y hy).app _).app m) x,?_⟩;have h1:=Oc vs _ i y u hy;have h2:upN b.length w+(3+i)*w=c.length+i*w:=by rw [g,Nat.add_mul,p,Nat.add_assoc]
  have h3:=X8 d (by rw [h2];omega) h1;rw [h2] at h3;exact h3
 ·refine At.ahead (At.app ?_ m) x;have:(Cu w c vs).length=c.length+vs.length*w:=by rw [e,Ah,C,Nat.mul_comm]
  rw [←this];exact At.last _ _
 ·show x.length+(c.length+vs.length*w)≤_;rw [Ah,Nat.mul_comm vs.length];omega
def B5(k:Int):Int:=if k=10∨k=17 then 0 else if k=11∨k=15 then 3 else if k=12∨k=16 then 4 else if k=13 then 5 else if k=14 then 2 else -1
def Ep(t:Tr):Bool:=
 decide (1≤t.k∧t.k≤17)&&decide (t.k=2∨t.k=3∨t.k=8∨t.n=0)&&decide (t.k=4∨t.k=9∨t.u=0)&&decide (t.k=5∨t.k=6∨t.k=7∨t.s=[])&&decide (t.k=17∨t.ks=[])&&decide (t.k=2→t.n=0∨t.n=1)&&decide (t.k=17→t.ks.length=t.l.length)&&decide (t.k=15∨t.k=16→2≤t.l.length∧t.l.length≤4)&&t.l.all fun x=>decide (B5 t.k=0∨x.k=B5 t.k)
def Ci(s:List UInt8):Bool:=s.any fun c=>c==0
def Jl(ez et:Int):List (List UInt8)→List (List UInt8)→Int
 |_,[]=>0
 |had,k::r=>if Ci k=true then ez else if had.contains k=true then et else Jl ez et (k::had) r
def It(ez et:Int)(t:Tr):Int:=if t.k=5∧Ci t.s=true then ez else Jl ez et [] t.ks
structure Rw where
 limit:Int
 deep:Int
 kind:Int
 key:Int
 twice:Int
mutual
def Gk(e:Rw)(d:Nat):Tr→Nat→Int×Nat
 | .mk k n u s ks l,c=>
  if c+1>4096 then(e.limit,c+1)
  else if d≥64 then(e.deep,c+1)
  else if Ep (.mk k n u s ks l)=false then(e.kind,c+1)
  else if It e.key e.twice (.mk k n u s ks l)≠0 then(It e.key e.twice (.mk k n u s ks l),c+1)
  else Lm e (d+1) l (c+1)
def Lm(e:Rw)(d:Nat):List Tr→Nat→Int×Nat
 | [],c=>(0,c)
 |t::r,c=>if(Gk e d t c).1≠0 then Gk e d t c else Lm e d r (Gk e d t c).2
end
theorem Nw{s:List UInt8}(h:Ci s=false):(0:UInt8)∉s:=by
 intro hm;have:Ci s=true:=List.any_eq_true.2 ⟨0,hm,by simp⟩;rw [h] at this;cases this
theorem dW{ez et:Int}(hz:ez≠0)(ht:et≠0):∀(l had:List (List UInt8)),Jl ez et had l=0→(∀s∈l,(0:UInt8)∉s)∧l.Nodup∧∀s∈l,s∉had
 | [],_,_=>⟨fun s h=>by simp at h,List.nodup_nil,fun s h=>by simp at h⟩
 |k::r,had,h=>by
  unfold Jl at h;by_cases h1:Ci k=true
  ·rw [if_pos h1] at h;exact absurd h hz
  ·by_cases h2:had.contains k=true
   ·rw [if_neg h1,if_pos h2] at h;exact absurd h ht
   ·rw [if_neg h1,if_neg h2] at h;obtain⟨a,b,c⟩:=dW hz ht r (k::had) h;have d:k∉had:=fun hm=>h2 (by simpa using hm)
    refine⟨fun s hs=>?_,List.nodup_cons.2 ⟨fun hm=>c k hm (by simp),b⟩,fun s hs=>?_⟩
    ·rcases List.mem_cons.1 hs with rfl|hs
     ·exact Nw (by simpa using h1)
     ·exact a s hs
    ·rcases List.mem_cons.1 hs with rfl|hs
     ·exact d
     ·exact fun hm=>c s hs (by simp [hm])
inductive Ft:Tr→Prop
 |mk {k n:Int} {u:Nat} {s:List UInt8} {ks:List (List UInt8)} {l:List Tr} (h1:Ep (.mk k n u s ks l)=true) (h2:k=5→(0:UInt8)∉s) (h3:∀x∈ks,(0:UInt8)∉x) (h4:ks.Nodup) (h:∀t∈l,Ft t):Ft (.mk k n u s ks l)
structure Rw.Ok(e:Rw):Prop where
 limit:e.limit≠0
 deep:e.deep≠0
 kind:e.kind≠0
 key:e.key≠0
 twice:e.twice≠0
mutual
theorem Kx{e:Rw}(he:e.Ok):∀(t:Tr) (d c:Nat),(Gk e d t c).1=0→Ft t
 | .mk k n u s ks l,d,c,h=>by
  rw [Gk] at h;by_cases h1:c+1>4096
  ·rw [if_pos h1] at h;exact absurd h he.limit
  rw [if_neg h1] at h;by_cases h2:d≥64
  ·rw [if_pos h2] at h;exact absurd h he.deep
  rw [if_neg h2] at h;by_cases h3:Ep (.mk k n u s ks l)=false
  ·rw [if_pos h3] at h;exact absurd h he.kind
  rw [if_neg h3] at h;by_cases f:It e.key e.twice (.mk k n u s ks l)≠0
  ·rw [if_pos f] at h;exact absurd h f
  rw [if_neg f] at h;have f:It e.key e.twice (.mk k n u s ks l)=0:=Decidable.not_not.1 f;have f:(if k=5∧Ci s=true then e.key else Jl e.key e.twice [] ks)=0:=f;by_cases g:k=5∧Ci s=true
  ·rw [if_pos g] at f;exact absurd f he.key
  rw [if_neg g] at f;obtain⟨a,b,_⟩:=dW he.key he.twice ks [] f;exact .mk (by simpa using h3) (fun hk=>Nw (by cases hz:Ci s with|false=>rfl|true=>exact absurd ⟨hk,hz⟩ g)) a b (bL he l (d+1) (c+1) h)
theorem bL{e:Rw}(he:e.Ok):∀(l:List Tr) (d c:Nat),(Lm e d l c).1=0→∀t∈l,Ft t
 | [],_,_,_,t,ht=>by simp at ht
 |x::r,d,c,h,t,ht=>by
  rw [Lm] at h;by_cases h1:(Gk e d x c).1≠0
  ·rw [if_pos h1] at h;exact absurd h h1
  rw [if_neg h1] at h;have h1:(Gk e d x c).1=0:=Decidable.not_not.1 h1;rcases List.mem_cons.1 ht with e1|hr
  ·rw [e1];exact Kx he x d c h1
  ·exact bL he r d _ h t hr
end
def Pr(x:List UInt8×Tr):List (List UInt8×Tr)→List (List UInt8×Tr)
 | []=>[x]
 |y::r=>if x.1<y.1 then x::y::r else y::Pr x r
def Lz(l:List (List UInt8×Tr)):List (List UInt8×Tr):=l.foldr Pr []
mutual
def By:Tr→Tr
 | .mk k n u s ks l=>if k=17 then .mk k n u s ((Lz (ks.zip (Cp l))).map (·.1)) ((Lz (ks.zip (Cp l))).map (·.2)) else .mk k n u s ks (Cp l)
def Cp:List Tr→List Tr
 | []=>[]
 |t::r=>By t::Cp r
end
theorem Cx:∀(l:List Tr),Cp l=l.map By
 | []=>rfl
 |t::r=>by rw [Cp,Cx r];rfl
theorem Sz(x:List UInt8×Tr):∀(l:List (List UInt8×Tr)),(Pr x l).Perm (x::l)
 | []=>List.Perm.refl _
 |y::r=>by
  rw [Pr];split
  ·exact List.Perm.refl _
  ·exact((Sz x r).cons y).trans (List.Perm.swap x y r)
theorem Eo:∀(l:List (List UInt8×Tr)),(Lz l).Perm l
 | []=>List.Perm.refl _
 |x::r=>(Sz x _).trans ((Eo r).cons x)
theorem Xt{t:Tr}(h:Ft t):Ok (By t):=by
 induction h with
 |mk h1 h2 h3 h4 hl ih=>
  rename_i k n u s ks l;have g:∀t∈Cp l,Ok t:=by
   intro t ht;rw [Cx] at ht;obtain⟨x,hx,rfl⟩:=List.mem_map.1 ht;exact ih x hx
  simp only [Ep,Bool.and_eq_true,decide_eq_true_eq] at h1;obtain⟨⟨⟨⟨⟨⟨⟨⟨⟨a,e⟩,_⟩,_⟩,_⟩,_⟩,_⟩,f⟩,_⟩,_⟩:=h1;have a:1≤k:=a;have e:k≤17:=e;rw [By];by_cases c:k=17
  ·rw [if_pos c];subst c;have i:=Eo (ks.zip (Cp l));refine .map n u s (by simp) (fun x hx=>?_) (fun t ht=>?_)
   ·obtain⟨y,d,rfl⟩:=List.mem_map.1 hx;exact h3 _ (List.of_mem_zip (i.mem_iff.1 d)).1
   ·obtain⟨y,d,rfl⟩:=List.mem_map.1 ht;exact g _ (List.of_mem_zip (i.mem_iff.1 d)).2
  ·rw [if_neg c];by_cases b:k=10
   ·subst b;exact .vec n u s ks g
   ·by_cases j:k≤9
    ·exact .leaf n u s ks _ a j
    ·exact .flat n u s ks _ (by omega) (by omega)
theorem Adb{a b:List UInt8}(h:¬a<b)(hne:a≠b):b<a:=by
 rcases List.le_total a b with h1|h1
 ·exact absurd (List.le_antisymm h1 (List.not_lt.1 h)) hne
 ·exact Decidable.byContradiction fun h2=>hne (List.le_antisymm (List.not_lt.1 h2) h1)
theorem jZ(x:List UInt8×Tr):∀(l:List (List UInt8×Tr)),l.Pairwise (fun a b=>a.1<b.1)→(∀y∈l,x.1≠y.1)→(Pr x l).Pairwise (fun a b=>a.1<b.1)
 | [],_,_=>by simp [Pr]
 |y::r,h,hne=>by
  obtain⟨h1,h2⟩:=List.pairwise_cons.1 h;rw [Pr];by_cases c:x.1<y.1
  ·rw [if_pos c];refine List.pairwise_cons.2 ⟨fun z hz=>?_,h⟩;rcases List.mem_cons.1 hz with rfl|hz
   ·exact c
   ·exact List.lt_trans c (h1 z hz)
  ·rw [if_neg c];refine List.pairwise_cons.2 ⟨fun z hz=>?_,jZ x r h2 (fun z hz=>hne z (by simp [hz]))⟩;rcases List.mem_cons.1 ((Sz x r).mem_iff.1 hz) with rfl|hz
   ·exact Adb c (hne y (by simp))
   ·exact h1 z hz
theorem O0:∀(l:List (List UInt8×Tr)),(l.map (·.1)).Nodup→(Lz l).Pairwise (fun a b=>a.1<b.1)
 | [],_=>List.Pairwise.nil
 |x::r,h=>by
  rw [List.map_cons,List.nodup_cons] at h;refine jZ x _ (O0 r h.2) (fun y hy e=>h.1 ?_);exact List.mem_map.2 ⟨y,(Eo r).mem_iff.1 hy,e.symm⟩
theorem fX(t:Tr):(By t).k=t.k:=by
 obtain⟨k,n,u,s,ks,l⟩:=t;rw [By];split <;>rfl
theorem O1{t:Tr}(h:Ft t):Ts (By t):=by
 cases h with
 |mk h1 h2 h3 h4 h=>
  rename_i k n u s ks l;intro hk;rw [fX] at hk;have hk:k=15∨k=16:=hk;simp only [Ep,Bool.and_eq_true,decide_eq_true_eq] at h1;have hl:k=15∨k=16→2≤l.length∧l.length≤4:=h1.1.2;have hl:=hl hk;rw [By,if_neg (by omega)];show(Cp l).length=2∨(Cp l).length=3∨(Cp l).length=4;rw [Cx,As];omega
def Cc:List (List UInt8)→Nat
 | []=>0
 |s::r=>s.length+20+Cc r
mutual
def Tr.cost:Tr→Nat
 | .mk _ _ _ s ks l=>64+s.length+Cc ks+Tr.costL l
def Tr.costL:List Tr→Nat
 | []=>0
 |t::r=>40+Tr.cost t+Tr.costL r
end
def Bd.size(b:Bd):Nat:=b.b.length+b.s.length+b.keys.length+b.texts.length+b.lists.length+b.names.length+b.vals.length
theorem kI(n:Nat)(hw:w≤8):Kn w n≤7:=by
 unfold Kn;rcases Nat.eq_zero_or_pos w with rfl|h
 ·simp
 ·have:=Nat.mod_lt (w-n % w) h;omega
theorem D2(b:List UInt8)(hw:w≤8):(Bm w b).length≤b.length+7:=by
 have:=kI b.length hw;simp [Bm];omega
theorem Wh(vs:List Bv)(l:List UInt8)(hw:w≤8):(Cu w l vs).length≤l.length+8*vs.length:=by
 obtain⟨m,e,h⟩:=Fa w vs l;have:=Nat.mul_le_mul_right vs.length hw;rw [e,Ah];omega
theorem Qm(t:Nat)(len tags:Bool)(l:List Bv)(b:List UInt8):(Cd t len tags l b).1.length≤b.length+15+9*l.length:=by
 have a:C3 b.length (if len=true then 1 else 0) none l≤8:=M9 _;have h1:=D2 b a;unfold Cd;simp only [Ah];have h2:=Wh l (Bm (C3 b.length (if len=true then 1 else 0) none l) b++(if len=true then Bn (C3 b.length (if len=true then 1 else 0) none l) l.length else [])) a;have h3:(if len=true then Bn (C3 b.length (if len=true then 1 else 0) none l) l.length else []).length≤8:=by
  split
  ·rw [Bo];exact M9 _
  ·simp
 have c:(if tags=true then l.map (Dl (C3 b.length (if len=true then 1 else 0) none l)) else []).length≤l.length:=by
  split <;>simp
 rw [Ah] at h2;omega
theorem eR(k:Bv)(l:List Bv)(b:List UInt8):(Ef k l b).1.length≤b.length+31+9*l.length:=by
 have h8:C3 b.length 3 (some k) l≤8:=M9 _;have h1:=D2 b h8;unfold Ef;simp only [Ah,As];generalize hw:C3 b.length 3 (some k) l=w at*;have h2:=Wh l (Bm w b++Bn w ((Bm w b).length-k.n)++Bn w k.w++Bn w l.length) h8;simp only [Ah,Bo] at h2;omega
theorem Rj(l:List (List UInt8×Nat))(k:List UInt8)(a:Nat):(Fu l k a).length≤l.length+1:=by
 unfold Fu;split <;>simp
theorem fK(f:Nat)(s:List UInt8)(b:Bd):(b.put f s).1.size≤b.size+s.length+3∧(b.put f s).1.s=b.s:=by
 unfold Bd.put;have h:=Rj b.keys s b.b.length;cases(if Fq f 1=true then Cf b.keys s else none) with
 |some a=>exact⟨by simp;omega,rfl⟩
 |none=>exact⟨by simp [Bd.size];omega,rfl⟩
theorem Va(f:Nat)(s:List UInt8)(b:Bd):(b.key f s).size≤b.size+s.length+4:=by
 have h:=(fK f s b).1;simp only [Bd.key,Bd.push,Bd.size,Ah,Au,Aw] at h⊢;omega
theorem Zz(f:Nat):∀(l:List Tr) (b:Bd),(b.puts f (l.map Tr.s)).1.size+90*l.length≤b.size+Tr.costL l
 | [],b=>by simp [Bd.puts,Tr.costL]
 | .mk k n u s ks c::r,b=>by
  have h1:=(fK f s b).1;have h2:=Zz f r (b.put f s).1;simp only [List.map_cons,Bd.puts,Tr.costL,Tr.cost,Tr.s,Au];omega
theorem fL(f:Nat):∀(l:List (List UInt8)) (b:Bd),(b.puts f l).2.length=l.length
 | [],b=>by simp [Bd.puts]
 |s::r,b=>by simp [Bd.puts,fL f r]
theorem gQ(t:Nat)(len tags:Bool)(l:List Bv)(b:Bd):(b.vec t len tags l).size≤b.size+16+9*l.length:=by
 have h:=Qm t len tags l b.b;simp only [Bd.vec,Bd.size,Ah,Au,Aw];omega
theorem Kz(l:List Tr):40*l.length≤Tr.costL l:=by
 induction l with
 |nil=>simp
 |cons t r ih=>simp only [Tr.costL,Au];omega
theorem yF(f:Nat)(s:List UInt8)(b:Bd):(b.str f s).size≤b.size+s.length+20:=by
 have c:bWidth s.length≤8:=G1 _;have h1:=D2 b.b c;unfold Bd.str;cases(if Fq f 2=true then Cf b.texts s else none) with
 |some a=>simp [Bd.push,Bd.size];omega
 |none=>
  have h:=Rj b.texts s (Bm (bWidth s.length) b.b++Bn (bWidth s.length) s.length).length;simp only [Bd.size,Ah,Bo,Au,Aw] at h⊢;omega
theorem pU(s:List UInt8)(b:Bd):(b.blob s).size≤b.size+s.length+20:=by
 have h8:bWidth s.length≤8:=G1 _;have h1:=D2 b.b h8;unfold Bd.blob;simp only [Bd.size,Ah,Bo,Au,Aw];omega
theorem V1(t w n:Nat)(b:Bd)(hw:w≤8):(b.apart t w n).size≤b.size+20:=by
 have h1:=D2 b.b hw;unfold Bd.apart;simp only [Bd.size,Ah,Bo,Au,Aw];omega
theorem tF(b:Bd)(v:Bv):(b.push v).size=b.size+1:=by
 simp [Bd.push,Bd.size];omega
theorem sC(f:Nat)(k n:Int)(u:Nat)(s:List UInt8)(b:Bd):(b.leaf f k n u s).size≤b.size+64+s.length:=by
 have h1:=Va f s b;have h2:=yF f s b;have h3:=pU s b;have h4:=V1 6 (bWidthI n) (bits n) b (Qn _);have h5:=V1 7 (bWidth u) u b (G1 _);unfold Bd.leaf
 (repeat' split) <;>(try rw [tF]) <;>omega
theorem rF(f:Nat)(k:Int)(l:List Tr)(b:Bd):(b.flat f k l).size≤b.size+64+Tr.costL l:=by
 have d:=Kz l;have e:=Zz f l b;have c:=fL f (l.map Tr.s) b;rw [As] at c;have a:∀(t:Nat) (len tags:Bool) (x:List Bv),x.length=l.length→(b.vec t len tags x).size≤b.size+64+Tr.costL l:=by
  intro t len tags x g;have:=gQ t len tags x b;omega
 unfold Bd.flat;split
 ·exact a _ _ _ _ (by simp)
 split
 ·exact a _ _ _ _ (by simp)
 split
 ·exact a _ _ _ _ (by simp)
 split
 ·
  have h:=gQ 14 true false (b.puts f (l.map Tr.s)).2 (b.puts f (l.map Tr.s)).1;show(Bd.vec 14 true false (b.puts f (l.map Tr.s)).2 (b.puts f (l.map Tr.s)).1).size≤_;omega
 split
 ·exact a _ _ _ _ (by simp)
 ·exact a _ _ _ _ (by simp)
theorem iM(start:Nat)(b:Bd)(n:Nat)(h:(b.s.drop start).length=n):(b.endVec start).size≤b.size+16+9*n:=by
 have h1:=Qm 10 true true (b.s.drop start) b.b;have h3:(b.s.take start).length≤b.s.length:=by rw [Az];omega
 simp only [Bd.endVec,Bd.vec,Bd.size,Ah,Au,Aw];omega
theorem Mv(f:Nat):∀(c:List Tr),(∀t∈c,Pj f t)→(∀t∈c,∀b,Dr b→(Bd.calls f t b).size≤b.size+t.cost)→∀b,Dr b→(Bd.callsL f c b).size+40*c.length≤b.size+Tr.costL c
 | [],_,_,b,h=>by simp [Bd.callsL,Tr.costL]
 |t::r,hd,hc,b,h=>by
  obtain⟨v,d,a,e⟩:=hd t (by simp) b h;have h1:=hc t (by simp) b h;have h2:=Mv f r (fun t ht=>hd t (by simp [ht])) (fun t ht=>hc t (by simp [ht])) (Bd.calls f t b) a.2;simp only [Bd.callsL,Tr.costL,Au];omega
theorem Mw(f:Nat):∀(c:List Tr) (ks:List (List UInt8)),ks.length=c.length→(∀t∈c,Pj f t)→(∀t∈c,∀b,Dr b→(Bd.calls f t b).size≤b.size+t.cost)→∀b,Dr b→(Bd.callsM f ks c b).size+50*c.length≤b.size+Cc ks+Tr.costL c
 | [],ks,hk,_,_,b,h=>by simp [Bd.callsM,Tr.costL]
 |t::r,[],hk,_,_,_,_=>by simp at hk
 |t::r,s::ks,hk,hd,hc,b,h=>by
  obtain⟨k,g,a,j⟩:=P4 f s b h;have h0:=Va f s b;obtain⟨v,i,e,l⟩:=hd t (by simp) (b.key f s) a.2;have h1:=hc t (by simp) (b.key f s) a.2;have h2:=Mw f r ks (by simpa using hk) (fun t ht=>hd t (by simp [ht])) (fun t ht=>hc t (by simp [ht])) (Bd.calls f t (b.key f s)) e.2;have d:Bd.callsM f (s::ks) (t::r) b=Bd.callsM f ks r (Bd.calls f t (b.key f s)):=by rw [Bd.callsM];rfl
  rw [d];simp only [Tr.costL,Au,Cc];omega
theorem iL(f:Nat)(ks:List (List UInt8))(start:Nat)(b:Bd)(n:Nat)(h1:(Lp (b.s.drop start)).length=n)(h2:(Re (b.s.drop start)).length=n):
  (b.endMap f ks start).size≤b.size+50+18*n:=by
 have h3:(b.s.take start).length≤b.s.length:=by rw [Az];omega
 unfold Bd.endMap;simp only [];cases(if Fq f 4=true then Cf b.lists (ks.flatMap fun s=>s++ [0]) else none) with
 |some i=>
  have h:=eR (b.vals.getD i ⟨0,0,0⟩) (Re (b.s.drop start)) b.b;simp only [Bd.size,Ah,Au,Aw] at h⊢;omega
 |none=>
  have a:=Qm 14 true false (Lp (b.s.drop start)) b.b;have h:=eR (Cd 14 true false (Lp (b.s.drop start)) b.b).2 (Re (b.s.drop start)) (Cd 14 true false (Lp (b.s.drop start)) b.b).1;have c:=Rj b.lists (ks.flatMap fun s=>s++ [0]) b.vals.length;simp only [Bd.size,Ah,Au,Aw] at h⊢;omega
theorem J5(f:Nat)(t:Tr)(h:Ok t):∀b,Dr b→(Bd.calls f t b).size≤b.size+t.cost:=by
 induction h with
 |leaf n u s ks c h1 h2=>
  intro b a;rename_i k;have e:Bd.calls f (.mk k n u s ks c) b=b.leaf f k n u s:=by
   rw [Bd.calls,if_neg (by omega),if_neg (by omega),if_pos h2]
  rw [e,Tr.cost];have:=sC f k n u s b;omega
 |flat n u s ks c h1 h2=>
  intro b a;rename_i k;have e:Bd.calls f (.mk k n u s ks c) b=b.flat f k c:=by
   rw [Bd.calls,if_neg (by omega),if_neg (by omega),if_neg (by omega)]
  rw [e,Tr.cost];have:=rF f k c b;omega
 |vec n u s ks hd ih=>
  intro b a;rename_i c;obtain⟨vs,j,i,q,p⟩:=Lk f c (fun t ht=>F6 f t (hd t ht)) b a;have h1:=Mv f c (fun t ht=>F6 f t (hd t ht)) ih b a;have e:Bd.calls f (.mk 10 n u s ks c) b=(Bd.callsL f c b).endVec b.s.length:=by rw [Bd.calls,if_pos rfl]
  have g:(Bd.callsL f c b).s.drop b.s.length=vs:=by rw [j];simp
  have h2:=iM b.s.length (Bd.callsL f c b) c.length (by rw [g,i]);rw [e,Tr.cost];omega
 |map n u s hl h0 hd ih=>
  intro b a;rename_i c ks;obtain⟨d,vs,j,i,q,l,p⟩:=J4 f c ks hl (fun t ht=>F6 f t (hd t ht)) b a;have h1:=Mw f c ks hl (fun t ht=>F6 f t (hd t ht)) ih b a;have e:Bd.calls f (.mk 17 n u s ks c) b=(Bd.callsM f ks c b).endMap f ks b.s.length:=by
   rw [Bd.calls,if_neg (by omega),if_pos rfl]
  have g:(Bd.callsM f ks c b).s.drop b.s.length=E6 d vs:=by rw [j];simp
  obtain⟨m,o⟩:=I7 d vs (by rw [l.1,i,hl]);have h2:=iL f ks b.s.length (Bd.callsM f ks c b) c.length (by rw [g,m,l.1,hl]) (by rw [g,o,i]);rw [e,Tr.cost];omega
end
end Go.Proofs.YtejpbijeifjdeaaGreat
namespace Go.Acc
open Go.RowKit
variable {N i k:Nat}{S:Nat→Prop}{p:Addr}{u:Value}
structure To(I:Nat→Prop)(w:World)(o:Nat→Nat)(w':World)(o':Nat→Nat):Prop where
 fr:Fr (fun k=>I (o k)) w w'
 ow:∀k,k<w.heap.size→o' k=o k
section
variable {I J:Nat→Prop} {w w' w'':World} {o o' o'':Nat→Nat}
theorem To.refl(I:Nat→Prop)(w:World)(o:Nat→Nat):To I w o w o:=⟨Fr.refl _ _,fun _ _=>rfl⟩
theorem To.pure(I:Nat→Prop)(h:Below w.heap.size w w')(o:Nat→Nat):To I w o w' o:=⟨Fr.of_below h _,fun _ _=>rfl⟩
def Br(o:Nat→Nat)(N i:Nat):Nat→Nat:=fun k=>if k<N then o k else i
theorem B4(h:k<N):Br o N i k=o k:=if_pos h
theorem Bt(h:N≤k):Br o N i k=i:=if_neg (by omega)
theorem To.fresh(I:Nat→Prop)(h:Below w.heap.size w w')(o:Nat→Nat)(i:Nat):To I w o w' (Br o w.heap.size i):=⟨Fr.of_below h _,fun _ hk=>B4 hk⟩
theorem To.of_fr(h:Fr S w w')(hS:∀k,k<w.heap.size→S k→I (o k))(i:Nat):To I w o w' (Br o w.heap.size i):=⟨h.mono hS,fun _ hk=>B4 hk⟩
theorem To.of_fr0(h:Fr S w w')(hS:∀k,k<w.heap.size→S k→I (o k)):To I w o w' o:=⟨h.mono hS,fun _ _=>rfl⟩
theorem To.trans(h:To I w o w' o')(k:To I w' o' w'' o''):To I w o w'' o'':=
 ⟨h.fr.trans k.fr fun i hi hI=>by rw [h.ow i hi] at hI;exact hI,fun i hi=>(k.ow i (Nat.lt_of_lt_of_le hi h.fr.size)).trans (h.ow i hi)⟩
theorem To.mono(h:To I w o w' o')(hJ:∀i,I i→J i):To J w o w' o':=⟨h.fr.mono fun _ _ hi=>hJ _ hi,h.ow⟩
theorem To.size(h:To I w o w' o'):w.heap.size≤w'.heap.size:=h.fr.size
theorem To.below(h:To I w o w' o')(hI:∀k,k<w.heap.size→¬I (o k)):Below w.heap.size w w':=h.fr.below hI
theorem To.keep(h:To I w o w' o')(hk:k<w.heap.size)(hI:¬I (o k)):w'.heap[k]?=w.heap[k]?:=h.fr.block k hk hI
theorem Bk.to_{g:Nat}{t:TypeId}{cs:Array Value}(hb:Bk w g t cs)(h:To I w o w' o')(hI:¬I (o g)):Bk w' g t cs:=hb.fr h.fr hI
def Of(o:Nat→Nat)(A:Option Addr)(i:Nat):Prop:=∀ad,A=some ad→o ad.block=i
theorem Of.none_(i:Nat):Of o none i:=fun _ h=>by cases h
variable {α:Type} {f:α→List Value} {sz n c B i:Nat} {e:TypeId} {A:Option Addr} {l:List α}
theorem Of.to_(h:Of o A i)(ho:Own f sz e w B A n c l)(ht:To I w o w' o'):Of o' A i:=fun ad hA=>by
 rw [ht.ow _ (ho.addr ad hA).2.2];exact h ad hA
theorem Own.to_(ho:Own f sz e w B A n c l)(h:Of o A i)(ht:To I w o w' o')(hI:¬I i):Own f sz e w' B A n c l:=
 ho.fr ht.fr fun ad hA=>by rw [h ad hA];exact hI
theorem Is.to_(ho:Is f w A n l)(h:Of o A i)(ht:To I w o w' o')(hI:¬I i):Is f w' A n l:=
 ho.fr ht.fr fun ad hA=>by rw [h ad hA];exact hI
theorem Of.grown{A':Option Addr}(h:Of o A i)(ho:Own f sz e w B A n c l)(hN:w.heap.size≤N)(hat:A'.map (·.block)=A.map (·.block)∨A'.map (·.block)=some N)(hw:N=w.heap.size):Of (Br o w.heap.size i) A' i:=by
 intro b hA;subst hA hw;rcases hat with e|e
 ·cases hA:A with
  |none=>subst hA;simp at e
  |some a=>
   subst hA;simp at e;rw [e,B4 (ho.addr a rfl).2.2];exact h a rfl
 ·simp at e;rw [e,Bt (Ae _)]
theorem To.cell(h:To I w o w' o')(hc:w.cell? p=some u)(hI:¬I (o p.block)):w'.cell? p=some u:=C0 h.fr hc hI
theorem Bj(h:w.cell? p=some u):w.drew.cell? p=some u:=h
theorem D9(n:Nat)(h:w.cell? p=some u):(w.drewN n).cell? p=some u:=h
theorem Bs(b:Obj)(h:w.cell? p=some u):(w.alloc b).cell? p=some u:=Bl ((Af _ _).alloc (Ae _) b) h
theorem To.from_drew(h:To I w.drew o w' o'):To I w o w' o':=⟨(Fr.refl _ w).drew.trans h.fr fun _ _ h=>h,h.ow⟩
theorem To.from_pure{I:Nat→Prop}(hb:Below w.heap.size w w')(h:To I w' o w'' o''):To I w o w'' o'':=(To.pure I hb o).trans h
end
end Go.Acc
namespace Go.Proofs.YtejpbijeifjdeaaGreat
open Go.RowKit Go.Acc
variable {n w a ahead i b:Nat}{p q t v:Int}{l x:List UInt8}{k:Option Bv}{vs:List Bv}{len tags:Bool}{w0:World}{e:Ending}{o:Nat→Nat}{A:Option Addr}
def Dm(w:World)(o:Nat→Nat)(b:Nat)(l:List UInt8):Prop:=
 ∃A n c,Bk w b 212 #[.bool true,.slice A n c,.int .i64 1048576,.int .i64 0]∧I5 w 0 A n c l∧Of o A 1∧o b=1
def Ec(w:World)(o:Nat→Nat)(b:Nat)(l:List UInt8)(e:Ending)(w':World):Prop:=
 e= .returned (.tuple #[])∧∃o',Dm w' o' b l∧To (fun i=>i=1) w o w' o'
section
variable {I:Nat→Prop} {w w':World} {o o':Nat→Nat} {b:Nat} {l:List UInt8}
theorem Dm.to_(h:Dm w o b l)(ht:To I w o w' o')(hI:¬I 1):Dm w' o' b l:=by
 obtain⟨A,n,c,hb,ho,h1,h2⟩:=h;exact⟨A,n,c,hb.to_ ht (by rw [h2];exact hI),ho.to_ h1 ht hI,h1.to_ ho ht,by rw [ht.ow _ hb.lt];exact h2⟩
theorem Dm.pure(h:Dm w o b l)(ht:Below w.heap.size w w'):Dm w' o b l:=h.to_ (To.pure (fun _=>False) ht o) id
theorem Dm.drew(h:Dm w o b l):Dm w.drew o b l:=h
theorem Dm.drewN(n:Nat)(h:Dm w o b l):Dm (w.drewN n) o b l:=h
theorem Dm.alloc(h:Dm w o b l)(x:Obj):Dm (w.alloc x) o b l:=h.pure ((Af _ _).alloc (Ae _) x)
theorem Ec.from_pure(hb:Below w0.heap.size w0 w)(h:Ec w o b l e w'):Ec w0 o b l e w':=by
 obtain⟨h1,o',h2,h3⟩:=h;exact⟨h1,o',h2,h3.from_pure hb⟩
theorem Dm.fresh(h:Dm w o b l)(hb:Below w.heap.size w w')(i:Nat):Dm w' (Br o w.heap.size i) b l:=h.to_ (To.fresh (fun _=>False) hb o i) id
theorem Ec.from_fresh(hb:Below w0.heap.size w0 w)(h:Ec w (Br o w0.heap.size i) b l e w'):Ec w0 o b l e w':=by
 obtain⟨h1,o',h2,h3⟩:=h;exact⟨h1,o',h2,(To.fresh _ hb o i).trans h3⟩
theorem Dm.lt(h:Dm w o b l):b<w.heap.size:=by obtain⟨A,n,c,hb,_⟩:=h;exact hb.lt
theorem Dm.own(h:Dm w o b l):o b=1:=by obtain⟨A,n,c,_,_,_,h⟩:=h;exact h
end
theorem V7(b:Nat)(w:World)(h:w.cell? ⟨b,0,none⟩=some (.bool true)):
  Calls Ad 224 #[Afh b] w (Afd (.bool false) w):=by
 go_enter func224,ntmps224;go_wp2;go_ret;exact⟨rfl,rfl⟩
theorem Y1(b:Nat)(w:World)(h:w.cell? ⟨b,0,none⟩=some (.bool true))(h3:w.cell? ⟨b,3,none⟩=some (.int .i64 0)):
  Calls Ad 230 #[Afh b] w (Afd (.int .i64 0) w):=by
 go_enter func230,ntmps230;go_wp2_with (go_at_call 224;refine(V7 b _ (by assumption)).mono ?_;rintro e w' ⟨rfl,rfl⟩);go_ret;exact⟨rfl,rfl⟩
theorem pT(b n c:Nat)(A:Option Addr)(w:World)(h:w.cell? ⟨b,0,none⟩=some (.bool true))(h3:w.cell? ⟨b,1,none⟩=some (.slice A n c)):
  Calls Ad 133 #[Afh b] w (Afd (.int .i64 n) w):=by
 go_enter func133,ntmps133;go_wp2_with (go_at_call 224;refine(V7 b _ (by assumption)).mono ?_;rintro e w' ⟨rfl,rfl⟩);go_ret;exact⟨rfl,rfl⟩
theorem Hf{w:World}(h:Dm w o b l):Calls Ad 230 #[Afh b] w (Afd (.int .i64 0) w):=by
 obtain⟨A,n,c,hb,_⟩:=h;exact Y1 b w (hb.cell 0) (hb.cell 3)
theorem Ea{w:World}(n:Nat)(h:Dm w o b l)(hn:l.length=n):Calls Ad 133 #[Afh b] w (Afd (.int .i64 n) w):=by
 obtain⟨A,n',c,hb,ho,_⟩:=h;obtain rfl:n=n':=by rw [←hn,ho.1]
 exact pT b n c A w (hb.cell 0) (hb.cell 1)
theorem xU{w w1:World}{A1:Option Addr}{c n2 c1:Nat}(hb:Bk w b 212 #[.bool true,.slice A n c,.int .i64 1048576,.int .i64 0])(ho:I5 w 0 A n c l)(h1:Of o A 1)(h2:o b=1)
  (hw:I5 w1 0 A1 (n+n2) c1 (l++x)) (hf:Fr (fun k=>∃ad,A=some ad∧k=ad.block) w w1) (hat:A1.map (·.block)=A.map (·.block)∨A1.map (·.block)=some w.heap.size)
  (hb1:Bk w1 b 212 #[.bool true,.slice A n c,.int .i64 1048576,.int .i64 0]):
  ∃o',Dm (w1.setCell ⟨b,1,none⟩ (.slice A1 (n+n2) c1)) o' b (l++x)∧To (fun i=>i=1) w o (w1.setCell ⟨b,1,none⟩ (.slice A1 (n+n2) c1)) o':=by
 have a:Fr (fun k=>k=b) w1 (w1.setCell ⟨b,1,none⟩ (.slice A1 (n+n2) c1)):=Fr.setCell (S:=fun k=>k=b) (Fr.refl _ _) (fun _=>rfl) _;refine⟨Br o w.heap.size 1,⟨A1,n+n2,c1,by have:=hb1.set_ 1 (.slice A1 (n+n2) c1);simpa using this,hw.fr a ?_,h1.grown ho (Ae _) hat rfl,by rw [B4 hb.lt];exact h2⟩,To.of_fr ((hf.mono (T:=fun k=>o k=1) ?_).setCell (fun _=>h2) _) (fun _ _ h=>h) 1⟩
 ·rintro ad rfl rfl;exact Jb hw.2 hb1 (by decide) (by simp [Value.ownBlock])
 ·rintro i _ ⟨ad,rfl,rfl⟩;exact h1 ad rfl
theorem Se(b m d:Nat)(X:Option Addr)(l x:List UInt8)(w:World)(o:Nat→Nat)(h:Dm w o b l)(hx:Cv w X m x)(hm:l.length+m≤1048576):
  Calls Ad 227 #[Afh b,.slice X m d] w (Ec w o b (l++x)):=by
 obtain⟨A,n,c,i,q,h1,h2⟩:=h;obtain ⟨B,C,D,E⟩:=i.c4;rw [q.1] at hm;have k:∀ad,A=some ad→ad.block≠b:=by
  rintro ad rfl e;exact Jb q.2 i (by decide) (by simp [Value.ownBlock,e])
 have t:=Hd q;have z:=Hd hx;have s:=Hd i;have y:=Hd k;have u:=Hd h1;have v:=Hd h2;have H:=i.lt;clear i q hx k h1 h2;go_enter func227,ntmps227;go_wp2_with (go_at_call 230;refine(Y1 b _ (by assumption) (by assumption)).mono ?_;rintro e L ⟨rfl,rfl⟩);go_quiet (fail);go_wp2_with (at_builtin;refine Eb _ rfl (.tmp 8) (.tmp 9) _ rfl 5 _ 1 1 underlying22 P1 rfl (by omega) D1 Sc _ _ _ _ _ rfl t.o _ _ _ _ rfl z.o (by omega) (Nat.zero_le _) ?_;intro J F I f j g;have a:=((Fr.refl _ w).drewN _).trans j (fun _ _ h=>h);have p:=s.o.fr a (by rintro⟨ad,h,G⟩;exact y.o ad h G.symm);have K:=p.frozen 1;have F:I.cell? ⟨b,1,none⟩=some (.slice A n c):=p.cell 1;have r:=Hd p;clear p B C D E);go_end0;exact⟨rfl,xU s.o t.o u.o v.o f a g r.o⟩
theorem Aa4(n:Nat):(madeCells #[.int .u8 0] n).toList=(Al n (0:UInt8)).flatMap bc:=by
 apply List.ext_getElem?;intro j;by_cases a:j<n
 ·have h1:=Ip D1 (Al n (0:UInt8)) j 0 (by simpa using a) (by omega);rw [Nat.mul_one,Nat.add_zero,List.getElem_replicate] at h1;rw [h1];simp [madeCells,a,bc,Nat.mod_one]
 ·rw [Bg (by simp [madeCells];omega),Bg (by rw [Cm D1];simp;omega)]
theorem eQ(n:Nat)(hn:n≤1099511627776):∃Z:Array Value,Z.size=n∧Z.toList=(Al n (0:UInt8)).flatMap bc∧∀W:World,(Instr.makeSlice 22 (.int .i64 (n:Int)) (.int .i64 (n:Int))).run Ad W= .ok (.slice (some ⟨W.heap.size,0,none⟩) n n) (W.alloc (.cells Z 5)):=by
 obtain⟨i,d,f,e,c⟩:=info_parts P1;have a:=Aa4 n;refine⟨_,?_,a,fun W=>?_⟩
 ·have:=congrArg List.length a;rw [Cm D1] at this;simpa using this
 ·have b:=run_make (P:=Ad) W 22 5 i _ underlying22 d f .i64 .i64 n n (by omega) (Int.le_refl _) (by rw [c];omega) (by omega);simp only [Int.toNat_natCast,e,Nat.mul_one] at b;exact b
theorem xL(W:World)(Z:Array Value)(n B:Nat)(l:List UInt8)(hB:B≤W.heap.size)(hn:l.length=n)(hm:n≤1099511627776)(hZ:Z.toList=l.flatMap bc):I5 (W.alloc (.cells Z 5)) B (some ⟨W.heap.size,0,none⟩) n n l:=by
 refine⟨hn,?_⟩;have hs:Z.size=n*1:=by rw [←Array.length_toList,hZ,Cm D1,hn]
 have:=World.ownsRow_lit (base:=B) (e:=5) (size:=1) W Z n hB (by simp only [maxLen];omega) hs;rw [hZ] at this;exact this
theorem Fy(x:Int)(w:World)(h:Bz x=true):Calls Ad 32 #[.int .i64 x] w fun e w'=>(∃c:Int,e= .returned (.tuple #[.int .i64 c,.int .i64 0]))∧w=w':=by
 rcases Cr.1 h with rfl|rfl|rfl|rfl
 all_goals
  clear h;go_enter func32,ntmps32;go_wp2;refine wp_loop_rounds 5 ?_
  repeat (rw [rounds_succ];go_wp2)
  all_goals
   go_ret2;exact⟨⟨_,rfl⟩,rfl⟩
theorem V8(b:Nat)(x:Int)(F:Nat)(caps:Array Value)(w:World)(R:Ending→World→Prop)(hx:Bz x=true)
  (hF:∀(args:Array Value) (w:World),(callFunc F args).run Ad w= .ok (.enter F args) w)
  (h:Calls Ad F caps w fun e w'=>e= .returned (.tuple #[])∧R e w'):
  Calls Ad 225 #[Afh b,.int .i64 x,.func (.func F) #[] caps] w R:=by
 have g:=Hd hx;have d:=Hd h;clear hx h;go_enter func225,ntmps225;go_wp2_with (go_at_call 32;refine(Fy x _ g.o).mono ?_;rintro e w' ⟨⟨c,rfl⟩,rfl⟩);refine d.o.mono ?_;rintro e w' ⟨rfl,a⟩;have f:=Hd a;clear a hF;go_wp2;go_end0;exact f.o
theorem xM(n y:Nat)(hy:0<y):∃r p:Nat,(n:Int).tmod y=r∧r<y∧((y:Int)-(r:Int)).tmod y=p∧Kn y n=p:=by
 have h1:(n:Int).tmod y=((n % y:Nat):Int):=by rw [Int.tmod_eq_emod_of_nonneg (by omega)];rfl
 have h2:=Nat.mod_lt n hy;refine⟨n % y,Kn y n,h1,h2,?_,rfl⟩;rw [show(y:Int)-((n % y:Nat):Int)=((y-n % y:Nat):Int) by omega,Int.tmod_eq_emod_of_nonneg (by omega)];rfl
theorem lQ(n:Int)(h: -9223372036854775808≤n∧n≤9223372036854775807):IntKind.i64.wrap n=n:=by rw [IntKind.wrap_i64];omega
theorem pR{w:World}(h:Cv w A n l):Cv w.drew A n l:=h
theorem bB(bx bw b y:Nat)(l:List UInt8)(w:World)(o:Nat→Nat)(h:Dm w o b l)(hx:Bk w bx 135 #[Afh b])(hw:Bk w bw 3 #[.int .i64 (y:Int)])(hy:Bz (y:Int)=true)(ox:o bx≠1)(ow:o bw≠1)(hm:l.length+7≤1048576):
  Calls Ad 226 #[Afh bx,Afh bw] w (Ec w o b (Bm y l)):=by
 have j:w.cell? ⟨bx,0,none⟩=some (Afh b):=hx.cell 0;have i:w.cell? ⟨bw,0,none⟩=some (.int .i64 (y:Int)):=hw.cell 0;obtain⟨n,s⟩:∃n,l.length=n:=⟨_,rfl⟩;have C:n≤1048576:=by omega
 have m:1≤y∧y≤8:=by have:=Cr.1 hy;omega
 obtain⟨r,p,R,T,S,c⟩:=xM n y (by omega);have F:p≤7:=by rw [←c];exact kI n m.2
 have K:(0:Int)<(y:Int):=by omega
 have M:¬y=0:=by omega
 have L:(y:Int)≤8:=by omega
 have G:(0:Int)≤(r:Int):=by omega
 have I:(r:Int)<(y:Int):=by omega
 have D:(0:Int)≤(p:Int):=by omega
 have E:(p:Int)≤7:=by omega
 obtain⟨Z,d,f,B⟩:=eQ p (by omega);have k:=Hd f;have A:=Hd d;clear d f;have Q:=Hd hy;have H:=Hd h;have a:=Hd s;have x:=Hd c;have v:=Hd (show l.length+p≤1048576 by omega);clear hx hw hy h s hm c;have J:IntKind.i64.wrap ((y:Int)-(r:Int))=(y:Int)-(r:Int):=lQ ((y:Int)-(r:Int)) (by omega);go_enter func226,ntmps226;have u:=Hd (xL w Z p 0 (Al p (0:UInt8)) (Nat.zero_le _) (by simp) (by omega) k.o).is;go_region_held3 (fun w'=>w'.cell? ⟨bx,0,none⟩=some (Afh b)∧w'.cell? ⟨bw,0,none⟩=some (.int .i64 (y:Int))) (first|with_reducible exact⟨j,i⟩|with_reducible exact⟨Bj j,Bj i⟩|with_reducible exact⟨Bj (Bs _ j),Bj (Bs _ i)⟩|with_reducible exact⟨P,O⟩) (first|(go_at_call 133;(with_reducible refine(Ea n H.o.drew a.o).mono ?_);rintro e w' ⟨rfl,rfl⟩)|(go_at_call 227;(with_reducible refine(Se b p p _ l (Al p (0:UInt8)) _ o (H.o.alloc _).drew (pR u.o) v.o).mono ?_);rintro e w' ⟨rfl,N,q,g⟩;have P:=g.cell (Bj (Bs _ j)) ox;have O:=g.cell (Bj (Bs _ i)) ow;have t:=Hd q;have z:=Hd g;clear q g));go_end0;have c:Bm y l=l++Al p 0:=by unfold Bm;rw [a.o,x.o]
 rw [c];exact⟨rfl,N,t.o,To.from_pure ((Af _ _).alloc (Ae _) _) z.o.from_drew⟩
theorem Ik(b y:Nat)(l:List UInt8)(w:World)(o:Nat→Nat)(h:Dm w o b l)(hy:Bz (y:Int)=true)(hm:l.length+7≤1048576):
  Calls Ad 134 #[Afh b,.int .i64 (y:Int)] w (Ec w o b (Bm y l)):=by
 have H:=Hd h;have i:=Hd hy;clear h hy;go_enter func134,ntmps134;go_wp2_with fail;have g:Below w.heap.size w ((w.alloc (.cells #[Afh b] 135)).alloc (.cells #[.int .i64 (y:Int)] 3)):=((Af _ _).alloc (Ae _) _).alloc (by simp) _;have d:=(Bk.new w 135 #[Afh b]).alloc (.cells #[.int .i64 (y:Int)] 3);have f:=Db w (.cells #[Afh b] 135) 3 #[.int .i64 (y:Int)];have a:=Hd g;refine(V8 b y 226 _ _ _ i.o Tryz.call226 ((bB w.heap.size (w.heap.size+1) b y l _ (Br o w.heap.size 0) (H.o.fresh g 0) d f i.o (by rw [Bt (by omega)];omega) (by rw [Bt (by omega)];omega) hm).mono fun e w' h=>⟨h.1,h⟩)).mono ?_;rintro e w' ⟨rfl,m,c,j⟩;have k:=Hd (show Ec w o b (Bm y l) (.returned (.tuple #[])) w' from Ec.from_fresh a.o ⟨rfl,m,c,j⟩);clear g d f c j a;go_wp2;go_end0;exact k.o
end Go.Proofs.YtejpbijeifjdeaaGreat
