/- Parts of the proof. -/
import Derived.Test.YtejpbijeifjdeaaGreatQf26
set_option maxHeartbeats 4000000
set_option maxRecDepth 100000
open Go.Value renaming int→Aa
open Go.IntKind renaming i64→Ab
open Nat renaming le_refl→Ae
open Go.RowKit.Below renaming refl→Af
open List renaming getElem?_eq_getElem→Ag,length_map→As,length_nil→Aw,nil_append→A6
open Go.IntWalk renaming i64_in→Ao
open Int renaming toNat_natCast→Ay
open Go.Proofs.Tryz
open Go.Proofs.Tryz renaming prog→Ad
namespace Go.Proofs.YtejpbijeifjdeaaGreat
open Go.RowKit Go.Acc
variable {L l:List UInt8}{z w i N:Nat}{vs kvs:List Bv}{p q t v:Int}{s st:Bw}{go:Rq→Bw→Bw×Int}{r:Rq}{F:Bw×Int}
theorem H6{v:Bv}{len:Bool}(li:Fk L 0 vs v)(ld:Lh L 0 v z w)(he:Ji v.t vs)(h9:(v.t:Int)≠9)(ha:aheadT (v.t:Int)=if len=true then 1 else 0)(hn:len=true→v.w≤v.n)(x:P3):
  Ds L ⟨z,w,v.t,v.w⟩ x↔x∈Gh len (Cj (v.t:Int)) vs v∨∃(i:Nat) (y:Bv),vs[i]?=some y∧Ds L ⟨((v.n+i*v.w:Nat):Int),(v.w:Int),(y.t:Int),(if Cj (v.t:Int)=true then(ownW v.w y:Int) else(v.w:Int))⟩ x:=by
 rw [Zl li ld he (by rw [ha];cases len with|true=>simpa using hn rfl|false=>simp)]
 rw [if_neg h9];unfold Gh;rw [List.mem_append,List.mem_append];have h1:(0<aheadT (v.t:Int)∧x=(((v.n-v.w:Nat):Int),(v.n:Int),(6:Int)))↔x∈(if len=true then [(((v.n-v.w:Nat):Int),(v.n:Int),(6:Int))] else []):=by
  rw [ha];cases len <;>simp
 have h2:(Cj (v.t:Int)=true∧x∈Ih (v.n+vs.length*v.w) vs.length)↔x∈(if Cj (v.t:Int)=true then Ih (v.n+vs.length*v.w) vs.length else []):=by
  split
  ·rename_i h;simp [h]
  ·rename_i h;simp [h]
 rw [h1,h2];constructor
 ·rintro(h|⟨h,_⟩|h|h|h|h)
  ·simp at h
  ·exact absurd h h9
  ·exact .inl (.inl (.inl h))
  ·exact .inl (.inl (.inr h))
  ·exact .inl (.inr h)
  ·exact .inr h
 ·rintro(((h|h)|h)|h)
  ·exact .inr (.inr (.inl h))
  ·exact .inr (.inr (.inr (.inl h)))
  ·exact .inr (.inr (.inr (.inr (.inl h))))
  ·exact .inr (.inr (.inr (.inr (.inr h))))
theorem Kr{t:Nat}{tags:Bool}{v:Bv}(h:Dc L t true tags vs v)(hL:L.length<2^32):v.w≤v.n:=by
 obtain⟨c,hc,_⟩:=(h.facts hL []).len rfl;omega
theorem sP{v kv:Bv}(hL:L.length<2^32)(ld:Lh L 0 v z w)(li:Fk L 0 vs v)(hv:Dc L 14 true false kvs kv)(h:G5 L kv vs v)(h9:(v.t:Int)=9)(he:Ji v.t vs)(x:P3):
  ∃cc,Cn L cc v.w kv∧(Ds L ⟨z,w,v.t,v.w⟩ x↔Ds L ⟨(cc:Int),(v.w:Int),14,(kv.w:Int)⟩ x∨x∈Nn vs v∨∃(i:Nat) (y:Bv),vs[i]?=some y∧Ds L ⟨((v.n+i*v.w:Nat):Int),(v.w:Int),(y.t:Int),(ownW v.w y:Int)⟩ x):=by
 obtain⟨cc,m,l,k,a⟩:=Aa8 hL ld li hv h h9;have b:aheadT (v.t:Int)=3:=by rw [h9];decide
 have ht:Cj (v.t:Int)=true:=by rw [h9];decide
 have h0:0<v.w:=by rcases C8.1 li.w with h|h|h|h <;>omega
 refine⟨cc,a,?_⟩;rw [Zl li ld he (by rw [b];omega),if_pos h9,k,b];simp only [ht,if_true];have c:v.n-3*v.w=cc:=by omega
 have d:v.n-2*v.w=cc+v.w:=by omega
 have e:v.n-v.w=cc+2*v.w:=by omega
 unfold Nn Hq;rw [c,d,e,Ii (by omega),Ii (by simp only;omega)];simp only [List.mem_append,List.mem_cons,List.not_mem_nil,or_false,true_and,h9];have f:((cc:Int)+(v.w:Int))=((cc+v.w:Nat):Int):=by omega
 have g:((cc:Int)+2*(v.w:Int))=((cc+2*v.w:Nat):Int):=by omega
 have j:Er 14=5:=by decide
 rw [f,g,j];constructor
 ·rintro((h|h)|h|⟨_,h⟩|h|h|h)
  ·exact .inr (.inl (.inl (.inl (.inr (.inl h)))))
  ·exact .inr (.inl (.inl (.inl (.inl h))))
  ·exact .inl h
  ·exact .inr (.inl (.inl (.inl (.inr (.inr h)))))
  ·exact .inr (.inl (.inl (.inr h)))
  ·exact .inr (.inl (.inr h))
  ·exact .inr (.inr h)
 ·rintro(h|(((h|h|h)|h)|h)|h)
  ·exact .inr (.inl h)
  ·exact .inl (.inr h)
  ·exact .inl (.inl h)
  ·exact .inr (.inr (.inl ⟨by decide,h⟩))
  ·exact .inr (.inr (.inr (.inl h)))
  ·exact .inr (.inr (.inr (.inr (.inl h))))
  ·exact .inr (.inr (.inr (.inr (.inr h))))
theorem Oi{v:Bv}{c:List Tr}{f:Tr→Bv}{g:Bv→Int}(hf:∀x,inl (f x).t=true)(x:P3):¬ ∃(i:Nat) (y:Bv),(c.map f)[i]?=some y∧Ds L ⟨((v.n+i*v.w:Nat):Int),(v.w:Int),(y.t:Int),g y⟩ x:=by
 rintro⟨i,y,hy,h⟩;rw [List.getElem?_map] at hy;cases e:c[i]? with
 |none=>rw [e] at hy;cases hy
 |some t=>
  rw [e] at hy;injection hy with hy
  have:=hf t;rw [hy] at this;exact aA (show Bq (y.t:Int)=true from this) h
theorem Wr{v:Bv}{ks:List (List UInt8)}(li:Fk L 0 kvs v)(hk:Dp L ks kvs)(h0:∀s∈ks,(0:UInt8)∉s)(x:P3):
  (∃(i:Nat) (y:Bv),kvs[i]?=some y∧Ds L ⟨((v.n+i*v.w:Nat):Int),(v.w:Int),(y.t:Int),(v.w:Int)⟩ x)↔x∈Hp ks kvs:=by
 rw [Pb];constructor
 ·rintro⟨i,y,a,h⟩;have d:i<ks.length:=by rw [←hk.1];exact(List.getElem?_eq_some_iff.1 a).1
  have c:ks[i]?=some ks[i]:=Ag d;have b:=hk.2 i _ y c a;rw [b.1] at h;exact⟨i,_,y,c,a,(S2 (li.slot a) b (h0 _ (List.getElem_mem _)) li.w x).1 h⟩
 ·rintro⟨i,s,y,c,a,h⟩;have b:=hk.2 i s y c a;refine⟨i,y,a,?_⟩;rw [b.1];exact(S2 (li.slot a) b (h0 s (List.mem_of_getElem? c)) li.w x).2 h
theorem yT{v:Bv}{t:Tr}{ps:List P3}(hr:Rp L v t ps)(hL:L.length<2^32):Hb t→∀z w,Cn L z w v→∀x,Ds L ⟨z,w,v.t,ownW w v⟩ x↔x∈ps:=by
 have k:∀{v:Bv} {z w:Nat} {x:P3},inl v.t=true→(Ds L ⟨z,w,v.t,ownW w v⟩ x↔x∈([]:List P3)):=fun h=>⟨fun hu=>absurd hu (aA h),fun hx=>by simp at hx⟩
 have b:∀{v:Bv} {w:Nat},inl v.t=false→ownW w v=v.w:=fun h=>by unfold ownW;rw [if_neg (by rw [h];decide)]
 induction hr with
 |null=>intro _ z w _ x;exact k (by decide)
 |truth=>intro _ z w _ x;exact k (show inl 26=true by decide)
 |int=>intro _ z w _ x;exact k (show inl 1=true by decide)
 |uint=>intro _ z w _ x;exact k (show inl 2=true by decide)
 | @key v s n u ks c h=>
  intro a z w hs x;have d:inl v.t=false:=by rw [h.1];decide
  rw [b d,List.mem_singleton,h.1];exact S2 hs h ((Ce a).2.1 rfl) (by rw [h.2.1];decide) x
 | @str v s n u ks c h=>
  intro a z w hs x;have d:inl v.t=false:=by rw [h.1];decide
  rw [b d];exact Xp hs (.inl ⟨rfl,h⟩) hL x
 | @blob v s n u ks c h=>
  intro a z w hs x;have d:inl v.t=false:=by rw [h.1];decide
  rw [b d];exact Xp hs (.inr ⟨rfl,h⟩) hL x
 | @indInt v n u s ks c h=>
  intro a z w hs x;have d:inl v.t=false:=by rw [h.1];decide
  rw [b d];exact Zu hs (Hv n) ⟨.inl rfl,h⟩ x
 | @indUint v u n s ks c h=>
  intro a z w hs x;have d:inl v.t=false:=by rw [h.1];decide
  rw [b d];exact Zu hs (Dy u) ⟨.inr rfl,h⟩ x
 | @ints v c n u s ks h=>
  intro a z w hs x;obtain⟨ht,m⟩:=h.width;have f:=El h hL [] rfl (.inr ⟨.inl rfl,rfl⟩);simp only [A6,Aw] at f;have d:inl v.t=false:=by rw [ht];decide
  have htg:Cj (v.t:Int)=false:=by rw [ht];decide
  rw [b d,H6 (len:=true) f (hs.leads d (by rw [ht];decide) m) (Gr (K:=3) (tf:=1) (C6 a (K:=3) (by decide) (by decide)) (by rw [ht];decide) (fun _=>rfl) (fun _=> .inr (.inr (.inl ⟨rfl,rfl⟩)))) (by rw [ht];decide) (by rw [ht];decide) (fun _=>Kr h hL),htg];simp only [Bool.false_eq_true,if_false];exact or_iff_left (Oi (g:=fun _=>(v.w:Int)) (fun _=>(by decide:inl 1=true)) x)
 | @uints v c n u s ks h=>
  intro a z w hs x;obtain⟨ht,m⟩:=h.width;have f:=El h hL [] rfl (.inr ⟨.inr (.inl rfl),rfl⟩);simp only [A6,Aw] at f;have d:inl v.t=false:=by rw [ht];decide
  have htg:Cj (v.t:Int)=false:=by rw [ht];decide
  rw [b d,H6 (len:=true) f (hs.leads d (by rw [ht];decide) m) (Gr (K:=4) (tf:=2) (C6 a (K:=4) (by decide) (by decide)) (by rw [ht];decide) (fun _=>rfl) (fun _=> .inr (.inr (.inr ⟨rfl,rfl⟩)))) (by rw [ht];decide) (by rw [ht];decide) (fun _=>Kr h hL),htg];simp only [Bool.false_eq_true,if_false];exact or_iff_left (Oi (g:=fun _=>(v.w:Int)) (fun _=>(by decide:inl 2=true)) x)
 | @bools v c n u s ks h=>
  intro a z w hs x;obtain⟨ht,m⟩:=h.width;have f:=El h hL [] rfl (.inr ⟨.inr (.inr (.inr rfl)),rfl⟩);simp only [A6,Aw] at f;have d:inl v.t=false:=by rw [ht];decide
  have htg:Cj (v.t:Int)=false:=by rw [ht];decide
  rw [b d,H6 (len:=true) f (hs.leads d (by rw [ht];decide) m) (Gr (K:=2) (tf:=26) (C6 a (K:=2) (by decide) (by decide)) (by rw [ht];decide) (fun _=>rfl) (fun _=> .inr (.inl ⟨rfl,rfl⟩))) (by rw [ht];decide) (by rw [ht];decide) (fun _=>Kr h hL),htg];simp only [Bool.false_eq_true,if_false];exact or_iff_left (Oi (g:=fun _=>(v.w:Int)) (fun _=>(by decide:inl 26=true)) x)
 | @keys v c vs n u s ks hk h=>
  intro a z w hs x;obtain⟨ht,m⟩:=h.width;have f:=El h hL [] rfl (.inr ⟨.inr (.inr (.inl rfl)),rfl⟩);simp only [A6,Aw] at f;have d:inl v.t=false:=by rw [ht];decide
  have htg:Cj (v.t:Int)=false:=by rw [ht];decide
  rw [b d,H6 (len:=true) f (hs.leads d (by rw [ht];decide) m) (Mh hk (by rw [ht];decide)) (by rw [ht];decide) (by rw [ht];decide) (fun _=>Kr h hL),htg,List.mem_append];simp only [Bool.false_eq_true,if_false];rw [Wr f hk (fun s hs=>by
   obtain⟨y,j,rfl⟩:=List.mem_map.1 hs;obtain⟨h1,h2⟩:=C6 a (K:=5) (by decide) (by decide) y j;obtain⟨U,W,X,ys,S,V⟩:=y;exact(Ce h2).2.1 h1) x,or_comm]
 | @fixInts v c n u s ks h=>
  intro a z w hs x;obtain⟨ht,m⟩:=h.width;have hn:=(Ce a).2.2.2.1 (.inl rfl);obtain⟨⟨O,_⟩,⟨P,R⟩,_⟩:=Mm hn;have f:=Mi h hL [] rfl (by rcases hn with h|h|h <;>rw [h] <;>simp) (by rw [As];exact O);simp only [A6,Aw] at f;have d:inl v.t=false:=by rw [ht];rcases hn with h|h|h <;>rw [h] <;>decide
  have I:Cb (v.t:Int)=true:=by rw [ht];rcases hn with h|h|h <;>rw [h] <;>decide
  have htg:Cj (v.t:Int)=false:=by rw [ht];exact P
  rw [b d,H6 (len:=false) f (hs.leads d I m) (Gr (K:=3) (tf:=1) (C6 a (K:=3) (by decide) (by decide)) (by rw [ht];rcases hn with h|h|h <;>rw [h] <;>decide) (fun _=>rfl) (fun _=> .inr (.inr (.inl ⟨rfl,rfl⟩)))) (by rw [ht];rcases hn with h|h|h <;>rw [h] <;>decide) (by rw [ht];rcases hn with h|h|h <;>rw [h] <;>decide) (fun e=>by cases e),htg];simp only [Bool.false_eq_true,if_false];exact or_iff_left (Oi (g:=fun _=>(v.w:Int)) (fun _=>(by decide:inl 1=true)) x)
 | @fixUints v c n u s ks h=>
  intro a z w hs x;obtain⟨ht,m⟩:=h.width;have hn:=(Ce a).2.2.2.1 (.inr rfl);obtain⟨⟨_,O⟩,_,⟨P,R⟩⟩:=Mm hn;have f:=Mi h hL [] rfl (by rcases hn with h|h|h <;>rw [h] <;>simp) (by rw [As];exact O);simp only [A6,Aw] at f;have d:inl v.t=false:=by rw [ht];rcases hn with h|h|h <;>rw [h] <;>decide
  have I:Cb (v.t:Int)=true:=by rw [ht];rcases hn with h|h|h <;>rw [h] <;>decide
  have htg:Cj (v.t:Int)=false:=by rw [ht];exact P
  rw [b d,H6 (len:=false) f (hs.leads d I m) (Gr (K:=4) (tf:=2) (C6 a (K:=4) (by decide) (by decide)) (by rw [ht];rcases hn with h|h|h <;>rw [h] <;>decide) (fun _=>rfl) (fun _=> .inr (.inr (.inr ⟨rfl,rfl⟩)))) (by rw [ht];rcases hn with h|h|h <;>rw [h] <;>decide) (by rw [ht];rcases hn with h|h|h <;>rw [h] <;>decide) (fun e=>by cases e),htg];simp only [Bool.false_eq_true,if_false];exact or_iff_left (Oi (g:=fun _=>(v.w:Int)) (fun _=>(by decide:inl 2=true)) x)
 | @vec v c vs pss n u s ks f hp hr h ih=>
  intro a z w hs x;obtain⟨ht,m⟩:=h.width;have A:=El h hL [] rfl (.inl ⟨rfl,rfl⟩);simp only [A6,Aw] at A;have d:inl v.t=false:=by rw [ht];decide
  have o:Cj (v.t:Int)=true:=by rw [ht];decide
  have q:∀(i:Nat) x t,vs[i]?=some x→c[i]?=some t→E4 L x t:=fun i x t hx hc=>(hr i x t _ hx hc (Ag (by rw [hp];exact(List.getElem?_eq_some_iff.1 hc).1))).rep
  rw [b d,H6 (len:=true) A (hs.leads d (by rw [ht];decide) m) (Nz f q (fun x hx=>((Ce a).1 x hx).1) o) (by rw [ht];decide) (by rw [ht];decide) (fun _=>Kr h hL),o,List.mem_append,Ra];simp only [if_true];rw [or_comm];refine or_congr_left ⟨fun⟨i,y,j,hu⟩=>?_,fun⟨i,ps,hps,hx⟩=>?_⟩
  ·have hc:c[i]?=some (c[i]'(by rw [←f];exact(List.getElem?_eq_some_iff.1 j).1)):=Ag _;have E:pss[i]?=some (pss[i]'(by rw [hp,←f];exact(List.getElem?_eq_some_iff.1 j).1)):=Ag _;exact⟨i,_,E,(ih i y _ _ j hc E ((Ce a).1 _ (List.getElem_mem _)).1 _ _ (A.slot j) x).1 hu⟩
  ·have p:=(List.getElem?_eq_some_iff.1 hps).1;have hc:c[i]?=some (c[i]'(by rw [←hp];exact p)):=Ag _;have j:vs[i]?=some (vs[i]'(by rw [f,←hp];exact p)):=Ag _;exact⟨i,_,j,(ih i _ _ _ j hc hps ((Ce a).1 _ (List.getElem_mem _)).1 _ _ (A.slot j) x).2 hx⟩
 | @map v kv c ks kvs vs pss n u s hk hv f hp hr h ih=>
  intro a z w hs x;obtain⟨ht,m⟩:=h.width;obtain⟨l,J⟩:=hv.width;have C:inl kv.t=false:=by rw [l];decide
  have r:=Vg h C hL [] rfl;have G:=El hv hL [] rfl (.inr ⟨.inr (.inr (.inl rfl)),rfl⟩);simp only [A6,Aw] at r G;have d:inl v.t=false:=by rw [ht];decide
  have o:Cj (v.t:Int)=true:=by rw [ht];decide
  have M:=hs.leads d (by rw [ht];decide) m;have Q:(v.t:Int)=9:=by rw [ht];rfl
  have q:∀(i:Nat) x t,vs[i]?=some x→c[i]?=some t→E4 L x t:=fun i x t hx hc=>(hr i x t _ hx hc (Ag (by rw [hp];exact(List.getElem?_eq_some_iff.1 hc).1))).rep
  obtain⟨T,N,hu⟩:=sP hL M r hv h Q (Nz f q (fun x hx=>((Ce a).1 x hx).1) o) x;have F:(kv.t:Int)=14:=by rw [l];rfl
  have D:Cj (kv.t:Int)=false:=by rw [l];decide
  have B:=H6 (len:=true) G (N.leads C (by rw [l];decide) J) (Mh hk (by rw [l];decide)) (by rw [l];decide) (by rw [l];decide) (fun _=>Kr hv hL) x;rw [D,F] at B;simp only [Bool.false_eq_true,if_false] at B;rw [b d,hu,B,Wr G hk (Ce a).2.2.1 x];simp only [List.mem_append,Ra];have H:(∃(i:Nat) (y:Bv),vs[i]?=some y∧Ds L ⟨((v.n+i*v.w:Nat):Int),(v.w:Int),(y.t:Int),(ownW v.w y:Int)⟩ x)↔∃(i:Nat) (ps:List P3),pss[i]?=some ps∧x∈ps:=by
   refine⟨fun⟨i,y,j,hu⟩=>?_,fun⟨i,ps,hps,hx⟩=>?_⟩
   ·have hc:c[i]?=some (c[i]'(by rw [←f];exact(List.getElem?_eq_some_iff.1 j).1)):=Ag _;have E:pss[i]?=some (pss[i]'(by rw [hp,←f];exact(List.getElem?_eq_some_iff.1 j).1)):=Ag _;exact⟨i,_,E,(ih i y _ _ j hc E ((Ce a).1 _ (List.getElem_mem _)).1 _ _ (r.slot j) x).1 hu⟩
   ·have p:=(List.getElem?_eq_some_iff.1 hps).1;have hc:c[i]?=some (c[i]'(by rw [←hp];exact p)):=Ag _;have j:vs[i]?=some (vs[i]'(by rw [f,←hp];exact p)):=Ag _;exact⟨i,_,j,(ih i _ _ _ j hc hps ((Ce a).1 _ (List.getElem_mem _)).1 _ _ (r.slot j) x).2 hx⟩
  rw [H];constructor
  ·rintro((h|h)|h|h)
   ·exact .inl (.inr h)
   ·exact .inl (.inl (.inl h))
   ·exact .inr h
   ·exact .inl (.inl (.inr h))
  ·rintro(((h|h)|h)|h)
   ·exact .inl (.inr h)
   ·exact .inr (.inr h)
   ·exact .inl (.inl h)
   ·exact .inr (.inl h)
theorem oH(h:D8 l p q t v=0):0≤Gu l p q t v∧Gu l p q t v≤l.length∧0≤G7 l p q t v∧G7 l p q t v≤8:=by
 unfold Gu G7;rw [if_pos h,if_pos h];rcases Td l p q t v with⟨b,e⟩|⟨b,_⟩
 ·rw [e] at h;exact absurd h b
 obtain⟨h1,h2⟩:=Fg.1 b;have h2:=Eh.1 h2;have c:=Cr.1 (Du.1 h1).2.1;have d:=Cr.1 (Du.1 h1).2.2;by_cases a:Bq t=true
 ·rw [if_pos a,if_pos a];omega
 ·rw [if_neg a,if_neg a];have ht:0≤Cg l p q t v∧Cg l p q t v≤l.length:=by
   by_cases g:Ch l p q t v=0
   ·exact Xq g
   ·unfold Cg;rw [if_neg g];omega
  omega
theorem Sk(E:Jn)(g:Option Nat)(s:Bw)(p q t v:Int)(w:World)(h:Gb E g s w)(hs:s.o.length≤1000000000):
  Calls Ad 81 #[Afh E.bw,.agg (Afg p q t v)] w (Vx E g w (E7 E.l ⟨p,q,t,v⟩ s)):=by
 have i:=Hd (h.alloc (.cells (Afg p q t v) 70));have d:=Hd (h.lone 70 (Afg p q t v));have u:=Hd ((Et.refl E g w).alloc (.cells (Afg p q t v) 70));obtain⟨a,N⟩:∃a,Gu E.l p q t v=a:=⟨_,rfl⟩;obtain⟨m,P⟩:∃m,G7 E.l p q t v=m:=⟨_,rfl⟩;obtain⟨K,H⟩:∃a,D8 E.l p q t v=a:=⟨_,rfl⟩;have r:=Hd N;have x:=Hd P;have j:=Hd H;have M:=h.ok.hc;have X:=h.ok.hn;have O:=h.len;clear h N P H;obtain⟨z,I,J,B⟩:=i.o.cells;have C:=B9 d.o.1;have D:=B7 d.o.1;have F:=B6 d.o.1;have G:=Ca d.o.1;go_enter func81,ntmps81;go_wp2_with fail;go_region_held3 (fun w'=>w'.cell? ⟨E.bw,0,none⟩=some (.slice E.A E.n E.c)∧w'.cell? ⟨E.bw,3,none⟩=some (.func (.func 44) #[] #[Afh E.bl])∧(w'.cell? ⟨w.heap.size,0,none⟩=some (Aa Ab p)∧w'.cell? ⟨w.heap.size,1,none⟩=some (Aa Ab q)∧w'.cell? ⟨w.heap.size,2,none⟩=some (Aa Ab t)∧w'.cell? ⟨w.heap.size,3,none⟩=some (Aa Ab v))) (first|with_reducible exact⟨z,B,C,D,F,G⟩|with_reducible exact⟨B8 z,B8 B,B8 C,B8 D,B8 F,B8 G⟩) (first|(go_at_call 151;(with_reducible refine(Adl E.A E.n E.c p q t v E.l a m K _ i.o.drew.b M (by omega) r.o x.o j.o).mono ?_);rintro e w1 ⟨rfl,y⟩;replace u:=Hd (u.o.drew.below y);replace i:=Hd (i.o.drew.pure y);replace d:=Hd (d.o.drew.pure y);clear z I J B C D F G;clear y;obtain⟨z,I,J,B⟩:=i.o.cells;have C:=B9 d.o.1;have D:=B7 d.o.1;have F:=B6 d.o.1;have G:=Ca d.o.1));by_cases H:K=0
 ·subst H;obtain⟨R,S,T,U⟩:=oH j.o;rw [r.o] at R S;rw [x.o] at T U;by_cases L:t=6
  ·subst L;go_wp2_with (go_at_call 44;(with_reducible refine(Ht a (a+m) 12 i.o (by omega)).mono ?_);rintro e Y ⟨rfl,V,k,f⟩;replace u:=Hd (u.o.trans f);replace d:=Hd (d.o.to f);replace i:=Hd k;clear z I J B C D F G;clear k f;obtain⟨z,I,J,B⟩:=i.o.cells;have C:=B9 d.o.1;have D:=B7 d.o.1;have F:=B6 d.o.1;have G:=Ca d.o.1);go_ret;have e:E7 E.l ⟨p,q,6,v⟩ s=(s.tell a (a+m) 12,0):=by
    unfold E7;rw [j.o,r.o,x.o];rfl
   rw [e];exact⟨rfl,_,i.o,u.o⟩
  ·have Z:(t==6)=false:=beq_eq_false_iff_ne.mpr L;go_wp2_with (go_at_call 44;(with_reducible refine(Ht a (a+m) 13 i.o (by omega)).mono ?_);rintro e Y ⟨rfl,V,k,f⟩;replace u:=Hd (u.o.trans f);replace d:=Hd (d.o.to f);replace i:=Hd k;clear z I J B C D F G;clear k f;obtain⟨z,I,J,B⟩:=i.o.cells;have C:=B9 d.o.1;have D:=B7 d.o.1;have F:=B6 d.o.1;have G:=Ca d.o.1);go_ret;have e:E7 E.l ⟨p,q,t,v⟩ s=(s.tell a (a+m) 13,0):=by
    unfold E7;rw [j.o,r.o,x.o];simp [L]
   rw [e];exact⟨rfl,_,i.o,u.o⟩
 ·have W:(K==0)=false:=beq_eq_false_iff_ne.mpr H;have e:E7 E.l ⟨p,q,t,v⟩ s=(s,K):=by
   unfold E7;rw [j.o,if_neg H]
  have Q:=Hd e;clear e H;go_wp2_with fail
  all_goals
   go_ret;rw [Q.o];exact⟨rfl,_,i.o,u.o⟩
def Pk(n:Nat)(r:Rq):Prop:=0≤r.p∧1≤r.q∧r.q≤8∧r.p+r.q≤n
theorem Xb{n:Nat}(h:Co n p q t v=0):Pk n ⟨p,q,t,v⟩∧1≤v∧v≤8:=by
 obtain⟨h1,h2⟩:=Fg.1 h;have h2:=Eh.1 h2;have hq:=Cr.1 (Du.1 h1).2.1;have hv:=Cr.1 (Du.1 h1).2.2;refine⟨⟨h2.1,?_,?_,h2.2.2⟩,?_,?_⟩ <;>(first|omega|(simp only;omega))
theorem sL(h:C2 l p q t v=0):Co l.length p q t v=0:=by
 rcases Q6 l p q t v with⟨g,e⟩|⟨g,_⟩
 ·rw [e] at h;exact absurd h g
 ·exact g
theorem Aa2(h:C2 l p q t v=0):lsFrom l p q t v+aheadT t*v.toNat=lsAt l p q t v:=by
 unfold lsFrom lsAt;rw [if_pos h,if_pos h];rcases Q6 l p q t v with⟨_,e⟩|⟨_,⟨_,e⟩|⟨_,⟨_,e⟩|⟨_,⟨_,e⟩|⟨_,_,e⟩|⟨_,_,_,e⟩|⟨_,a,_,_⟩⟩⟩⟩
 ·rw [e] at h;exact absurd h (by assumption)
 ·rw [e] at h;cases h
 ·rw [e] at h;exact absurd h (by assumption)
 ·rw [e] at h;cases h
 ·rw [e] at h;cases h
 ·rw [e] at h;cases h
 ·omega
theorem P6(h:C2 l p q t v=0):1≤v∧v≤8∧lsFrom l p q t v+aheadT t*v.toNat=lsAt l p q t v∧lsAt l p q t v+lsLen l p q t v*(v.toNat+tgs t)≤l.length:=
 ⟨(Xb (sL h)).2.1,(Xb (sL h)).2.2,Aa2 h,(aO h).2.2.2.1⟩
theorem zI(h:Ib l p q t v=0):t=9∧C2 l p q t v=0∧Pk l.length (En l ⟨p,q,t,v⟩)∧(lsFrom l p q t v:Int)+3*v≤l.length∧1≤v∧v≤8:=by
 rcases eD l p q t v with⟨g,e⟩|⟨_,⟨_,e⟩|⟨ht,⟨g,e⟩|⟨a,_⟩⟩⟩
 ·rw [e] at h;exact absurd h g
 ·rw [e] at h;cases h
 ·rw [e] at h;exact absurd h g
 obtain⟨h1,h2,h3,d⟩:=P6 a;have c:aheadT t=3:=by rw [ht];rfl
 rw [c] at h3;have b:(lsFrom l p q t v:Int)+3*v≤l.length:=by omega
 refine⟨ht,a,?_,b,h1,h2⟩;unfold Pk En Gm Gn;simp only [if_pos h];omega
theorem Gb.newer{E:Jn}{g:Option Nat}{w:World}(h:Gb E g s w){k:Nat}(hk:w.heap.size≤k):E.Free g k:=by
 have:=h.sz;have:=h.ok.l2;have:=h.ok.m2;have:=h.ok.w2;refine⟨by omega,by omega,by omega,fun e=>?_⟩;have:=(h.O.row _ e).2;omega
def X0(E:Jn)(go:Rq→Bw→Bw×Int)(d:Nat):Prop:=∀(g:Option Nat) (s:Bw) (p q t v:Int) (w:World),Gb E g s w→s.left.toNat<d→s.size≤900000000→Pk E.l.length ⟨p,q,t,v⟩→
 Calls Ad 45 #[Afh E.bw,.agg (Afg p q t v)] w (Vx E g w (go ⟨p,q,t,v⟩ s))
theorem Il(s:Bw):s.o.length≤s.size:=by unfold Bw.size;omega
theorem iG(E:Jn)(go:Rq→Bw→Bw×Int)(d:Nat)(hgo:X0 E go d)(hgoes:R6 go)(g:Option Nat)(s:Bw)(p q t v f:Int)(w:World)(h:Gb E g s w)(hd:s.left.toNat<d)(hs:s.size≤900000000)(hf:(lsFrom E.l p q t v:Int)=f):
  Calls Ad 154 #[Afh E.bw,.agg (Afg p q t v),Aa Ab f] w (Vx E g w (Hz E.l go ⟨p,q,t,v⟩ s)):=by
 have m:=Hd (h.alloc (.cells (Afg p q t v) 70));have j:=Hd (h.lone 70 (Afg p q t v));have F:=Hd ((Et.refl E g w).alloc (.cells (Afg p q t v) 70));have aq:=Hd hgo;have ar:=Hd hgoes;obtain⟨z,af⟩:∃a,Gm E.l p q t v=a:=⟨_,rfl⟩;obtain⟨B,ag⟩:∃a,Gn E.l p q t v=a:=⟨_,rfl⟩;obtain⟨C,ah⟩:∃a,Nq E.l p q t v=a:=⟨_,rfl⟩;obtain⟨D,ai⟩:∃a,Gw E.l p q t v=a:=⟨_,rfl⟩;obtain⟨X,O⟩:∃a,Ib E.l p q t v=a:=⟨_,rfl⟩;have HP:=Hd af;have I:=Hd ag;have HT:=Hd ah;have HV:=Hd ai;have G:=Hd O;have HF:=Hd hf;have ad:=h.ok.hc;have bb:=h.ok.hn;have a3:=h.len;clear h af ag ah ai O hf hgo hgoes;go_enter func154,ntmps154;go_upto_region 1 with fail
 generalize w.alloc (.cells (Afg p q t v) 70)=K at m j F⊢;go_cut [7,8] (fun u7 u8 wx=>∃wy,wy=wx∧u8= Aa Ab X∧∃k,u7= Afh k∧Bk wx k 70 (Afg z B C D)∧K.heap.size≤k∧Below K.heap.size K wx)
 case first=>
  have r:=Hd (Af K.heap.size K);have HL:=Hd m.o.b;have V:=Hd m.o.W;have U:=Hd j.o.1;have a7:E.bw≠K.heap.size:=by have:=V.o.lt;omega
  have a8:w.heap.size≠K.heap.size:=by have:=U.o.lt;omega
  clear j F m;have L:_=some (Value.slice E.A E.n E.c):=V.o.cell 0;obtain ⟨Q,R,S,T⟩:=U.o.c4;go_region_held3 (fun w'=>w'.cell? ⟨E.bw,0,none⟩=some (.slice E.A E.n E.c)∧(w'.cell? ⟨w.heap.size,0,none⟩=some (Aa Ab p)∧w'.cell? ⟨w.heap.size,1,none⟩=some (Aa Ab q)∧w'.cell? ⟨w.heap.size,2,none⟩=some (Aa Ab t)∧w'.cell? ⟨w.heap.size,3,none⟩=some (Aa Ab v))) ((with_reducible refine⟨?_,?_,?_,?_,?_⟩) <;>(repeat (first|with_reducible assumption|with_reducible refine C4 ?_|with_reducible refine Jz _ ?_|with_reducible refine nW ?_ ?_)))
   (first|(go_at_call 93;(first|(with_reducible refine(dL E.A E.n E.c p q t v z B C D X E.l _ (HL.o.pure r.o.drew) ad (by omega) HP.o I.o HT.o HV.o G.o).mono ?_)|(with_reducible refine(dL E.A E.n E.c p q t v z B C D X E.l _ (HL.o.pure (r.o.alloc r.o.size _).drew) ad (by omega) HP.o I.o HT.o HV.o G.o).mono ?_));rintro e Y ⟨rfl,J⟩;(first|(with_reducible replace r:=Hd (Bi r.o.drew J))|((with_reducible have H:=Hd ((Bk.new K 70 (Afg 0 0 0 0)).drew.pure J));(with_reducible replace r:=Hd (Bi (r.o.alloc r.o.size _).drew J));obtain ⟨q0,q1,q2,q3⟩:=H.o.c4;obtain ⟨p0,p1,p2⟩:=H.o.f3;have p3:=H.o.frozen 3));replace V:=Hd (V.o.pure r.o);replace U:=Hd (U.o.pure r.o);clear L Q R S T;have L:_=some (Value.slice E.A E.n E.c):=V.o.cell 0;obtain ⟨Q,R,S,T⟩:=U.o.c4;have a9:E.bw≠Y.heap.size:=(by have:=V.o.lt;omega);have ba:w.heap.size≠Y.heap.size:=(by have:=U.o.lt;omega);clear J))
  all_goals
   go_wp2_with fail;go_meet
   first
    |with_reducible exact⟨_,rfl,rfl,_,rfl,Bk.new _ _ _,r.o.size,r.o.alloc r.o.size _⟩
    |exact⟨_,rfl,rfl,_,rfl,(((H.o.set_ 0 _).set_ 1 _).set_ 2 _).set_ 3 _,Ae _,Ed _ r.o (Ae _) _ _ _ _⟩
 case rest=>
 obtain⟨Y,rfl,rfl,k,rfl,hK,hk,J⟩:=hcut;have H:=Hd (show Jo E g Y k 70 (Afg z B C D) from⟨hK,m.o.newer hk⟩);replace m:=Hd (m.o.pure J);replace j:=Hd (j.o.pure J);replace F:=Hd (F.o.below J);clear hK hk J;by_cases O:X=0
 ·subst O;obtain⟨ht,hl,aj,aw,bd,be⟩:=zI G.o;subst ht;have k0:=B9 H.o.1;have k1:=B7 H.o.1;have k2:=B6 H.o.1;have k3:=Ca H.o.1;have au:=Hd (show Pk E.l.length ⟨z,B,C,D⟩ by have:=aj;unfold En at this;rw [HP.o,I.o,HT.o,HV.o] at this;exact this);have ae:En E.l ⟨p,q,9,v⟩=⟨z,B,C,D⟩:=by unfold En;rw [HP.o,I.o,HT.o,HV.o]
  have P:Hz E.l go ⟨p,q,9,v⟩ s=if(go ⟨z,B,C,D⟩ s).2≠0 then go ⟨z,B,C,D⟩ s else((go ⟨z,B,C,D⟩ s).1.tell (f+v) (f+2*v) 7,0):=by
   unfold Hz;rw [G.o,if_neg (by decide),ae,HF.o]
  obtain⟨y,hy⟩:∃y,go ⟨z,B,C,D⟩ s=y:=⟨_,rfl⟩;rw [hy] at P;have bf:y.1.o.length≤900000000:=by
   have h1:=(ar.o ⟨z,B,C,D⟩ s).1.2;rw [hy] at h1;have:=Il y.1;omega
  have HY:=Hd hy;have u:=Hd P;have a4:0≤f:=by have:=HF.o;omega
  have a5:f≤4294967296:=by have:=HF.o;omega
  have i:=aq.o g s z B C D Y m.o hd hs au.o;rw [hy] at i;have Z:=Hd i;clear aj ae P hy i hl aw;go_wp2_with fail;go_at_call 45;refine Z.o.mono ?_;rintro e w4 ⟨rfl,g4,ab,N⟩;replace F:=Hd (F.o.trans N);replace j:=Hd (j.o.to N);replace m:=Hd ab;clear H ab N Z k0 k1 k2 k3;by_cases x:y.2=0
  ·have h1:=u.o;rw [x,if_neg (by decide)] at h1;rw [x];replace u:=Hd h1;clear h1 x;obtain⟨L,c1,c2,c3⟩:=m.o.cells;have Q:=B9 j.o.1;have R:=B7 j.o.1;have S:=B6 j.o.1;have T:=Ca j.o.1;have K:IntKind.i64.wrap (f+v)=f+v:=Ao _ (by omega);have w2:IntKind.i64.wrap (2*v)=2*v:=Ao _ (by omega);have Y:IntKind.i64.wrap (f+2*v)=f+2*v:=Ao _ (by omega);go_wp2_with fail;go_region_held3 (fun w'=>w'.cell? ⟨E.bw,0,none⟩=some (.slice E.A E.n E.c)∧w'.cell? ⟨E.bw,3,none⟩=some (.func (.func 44) #[] #[Afh E.bl])∧(w'.cell? ⟨w.heap.size,0,none⟩=some (Aa Ab p)∧w'.cell? ⟨w.heap.size,1,none⟩=some (Aa Ab q)∧w'.cell? ⟨w.heap.size,2,none⟩=some (Aa Ab 9)∧w'.cell? ⟨w.heap.size,3,none⟩=some (Aa Ab v))) (first|with_reducible exact⟨L,c3,Q,R,S,T⟩|with_reducible exact⟨B8 L,B8 c3,B8 Q,B8 R,B8 S,B8 T⟩) (first|(go_at_call 44;(with_reducible refine(Ht (f+v) (f+2*v) 7 m.o.drew (by omega)).mono ?_);rintro e w2 ⟨rfl,g2,aa,M⟩;replace F:=Hd (F.o.drew.trans M);replace j:=Hd (j.o.drew.to M);replace m:=Hd aa;clear L c1 c2 c3 Q R S T;clear aa M;obtain⟨L,c1,c2,c3⟩:=m.o.cells;have Q:=B9 j.o.1;have R:=B7 j.o.1;have S:=B6 j.o.1;have T:=Ca j.o.1));go_wp2_with fail;go_ret;rw [u.o];exact⟨rfl,_,m.o,F.o⟩
  ·have ax:(y.2==0)=false:=beq_eq_false_iff_ne.mpr x;have h1:=u.o;rw [if_pos x] at h1;replace u:=Hd h1;clear h1 x;go_wp2_with fail;go_ret;rw [u.o];exact⟨rfl,_,m.o,F.o⟩
 ·have ax:(X==0)=false:=beq_eq_false_iff_ne.mpr O;have e:Hz E.l go ⟨p,q,t,v⟩ s=(s,X):=by
   unfold Hz;rw [G.o,if_pos O]
  have av:=Hd e;clear e O;go_wp2_with fail
  all_goals
   go_ret;rw [av.o];exact⟨rfl,_,m.o,F.o⟩
def yY(E:Jn)(go:Rq→Bw→Bw×Int)(r:Rq)(N:Nat)(F:Bw×Int)(b:Nat)(w0:World)(g:Option Nat)(s0:Bw)(u8 u10:Value)(wr:World):Prop:=
 ∃(i:Nat) (s:Bw) (e:Int) (g':Option Nat),u8= Aa Ab e∧u10= Aa Ab i∧i≤N∧Gb E g' s wr∧Et E g g' w0 wr∧Jo E g' wr b 70 (Afg r.p r.q r.t r.v)∧
  (e=0→s.left≤s0.left∧s.size≤s0.size+1∧D0 E.l go r (N-i) i s=F)∧(e≠0→F=(s,e))
theorem mA(h:C2 l p q t v=0)(hi:i<lsLen l p q t v)(ha:F5 l p q t v i=0):Pk l.length (Ga l ⟨p,q,t,v⟩ i):=by
 obtain⟨h1,h2,_,a⟩:=P6 h;have b:i*v.toNat+v.toNat≤lsLen l p q t v*v.toNat:=by
  rw [←Nat.succ_mul];exact Nat.mul_le_mul_right _ hi
 have c:lsLen l p q t v*v.toNat≤lsLen l p q t v*(v.toNat+tgs t):=Nat.mul_le_mul_left _ (Nat.le_add_right _ _);unfold Pk Ga Ka Kb;simp only [if_pos ha];generalize lsLen l p q t v*(v.toNat+tgs t)=X at*;generalize lsLen l p q t v*v.toNat=Y at*;rw [Ay];generalize i*v.toNat=Z at*;omega
theorem Aej(h:C2 l p q t v=0):lsTo l p q t v=lsAt l p q t v+lsLen l p q t v*(v.toNat+tgs t):=by
 unfold lsTo lsAt lsLen;rw [if_pos h,if_pos h,if_pos h];rfl
theorem dA{x:Rq}{y:Bw×Int}(h:F5 l r.p r.q r.t r.v i=0)(hst:F8 l r i s=st)(hat:Ga l r i=x)(hy:go x st=y)(hi:i<N)(hF:D0 l go r (N-i) i s=F):
  (y.2=0→D0 l go r (N-(i+1)) (i+1) y.1=F)∧(y.2≠0→F=(y.1,y.2)):=by
 obtain⟨k,b⟩:∃k,N-i=k+1:=⟨N-i-1,by omega⟩;have a:N-(i+1)=k:=by omega
 rw [b,D0,if_neg (by rw [h];decide),hst,hat,hy] at hF;rw [a];refine⟨fun h0=>?_,fun h0=>?_⟩
 ·rw [if_neg (by rw [h0];decide)] at hF;exact hF
 ·rw [if_pos h0] at hF;exact hF.symm
theorem cZ{ee:Int}(h:F5 l r.p r.q r.t r.v i=ee)(he:ee≠0)(hst:F8 l r i s=st)(hi:i<N)(hF:D0 l go r (N-i) i s=F):F=(st,ee):=by
 obtain⟨k,hk⟩:∃k,N-i=k+1:=⟨N-i-1,by omega⟩;rw [hk,D0,if_pos (by rw [h];exact he),hst,h] at hF;exact hF.symm
theorem iH(E:Jn)(go:Rq→Bw→Bw×Int)(d:Nat)(hgo:X0 E go d)(hgoes:R6 go)(g:Option Nat)(s:Bw)(p q t v:Int)(w:World)(h:Gb E g s w)(hd:s.left.toNat<d)(hs:s.size≤899999993):
  Calls Ad 82 #[Afh E.bw,.agg (Afg p q t v)] w (Vx E g w (Gl E.l go ⟨p,q,t,v⟩ s)):=by
 have k:=Hd (h.alloc (.cells (Afg p q t v) 70));have j:=Hd (h.lone 70 (Afg p q t v));have u:=Hd ((Et.refl E g w).alloc (.cells (Afg p q t v) 70));have bu:=Hd hgo;have bj:=Hd hgoes;obtain⟨f,hf⟩:∃f:Int,(lsFrom E.l p q t v:Int)=f:=⟨_,rfl⟩;obtain⟨a,ha⟩:∃a:Int,(lsAt E.l p q t v:Int)=a:=⟨_,rfl⟩;obtain⟨o,ho⟩:∃a:Int,(lsTo E.l p q t v:Int)=a:=⟨_,rfl⟩;obtain⟨N,hN⟩:∃N:Nat,lsLen E.l p q t v=N:=⟨_,rfl⟩;obtain⟨er,he⟩:∃a,C2 E.l p q t v=a:=⟨_,rfl⟩;have HF:=Hd hf;have Q:=Hd ha;have HO:=Hd ho;have HN:=Hd hN;have dd:=Hd (show(lsLen E.l p q t v:Int)=(N:Int) by rw [hN]);have X:=Hd he;have bm:=h.ok.hc;have eo:=h.ok.hn;have ea:=h.len;clear h hf ha ho hN he hgo hgoes;obtain⟨D,c1,c2,R⟩:=k.o.cells;have G:=B9 j.o.1;have H:=B7 j.o.1;have I:=B6 j.o.1;have J:=Ca j.o.1;go_enter func82,ntmps82;go_wp2_with fail;go_region_held3 (fun w'=>w'.cell? ⟨E.bw,0,none⟩=some (.slice E.A E.n E.c)∧w'.cell? ⟨E.bw,3,none⟩=some (.func (.func 44) #[] #[Afh E.bl])∧(w'.cell? ⟨w.heap.size,0,none⟩=some (Aa Ab p)∧w'.cell? ⟨w.heap.size,1,none⟩=some (Aa Ab q)∧w'.cell? ⟨w.heap.size,2,none⟩=some (Aa Ab t)∧w'.cell? ⟨w.heap.size,3,none⟩=some (Aa Ab v))) (first|with_reducible exact⟨D,R,G,H,I,J⟩|with_reducible exact⟨B8 D,B8 R,B8 G,B8 H,B8 I,B8 J⟩) (first|(go_at_call 152;(with_reducible refine(wV E.A E.n E.c p q t v f a o er E.l _ k.o.drew.b bm (by omega) HF.o Q.o HO.o X.o).mono ?_);rintro e w1 ⟨rfl,K⟩;replace u:=Hd (u.o.drew.below K);replace k:=Hd (k.o.drew.pure K);replace j:=Hd (j.o.drew.pure K);clear D c1 c2 R G H I J;clear K;obtain⟨D,c1,c2,R⟩:=k.o.cells;have G:=B9 j.o.1;have H:=B7 j.o.1;have I:=B6 j.o.1;have J:=Ca j.o.1));by_cases he:er=0
 ·subst he;obtain⟨eq,es,aq,b5⟩:=P6 X.o;have b8:=Aej X.o;obtain⟨V,rfl⟩:∃V:Nat,v=V:=⟨v.toNat,by omega⟩;rw [Ay,HN.o] at b5 b8;rw [Ay] at aq;have cj:N*V≤N*(V+tgs t):=Nat.mul_le_mul_left _ (Nat.le_add_right _ _);have cc:=Hd b5;have cg:=Hd b8;have de:=Hd cj;have eh:=Hd aq;clear b5 b8 cj aq;go_wp2_with fail;go_region_held3 (fun w'=>w'.cell? ⟨E.bw,0,none⟩=some (.slice E.A E.n E.c)∧w'.cell? ⟨E.bw,3,none⟩=some (.func (.func 44) #[] #[Afh E.bl])∧(w'.cell? ⟨w.heap.size,0,none⟩=some (Aa Ab p)∧w'.cell? ⟨w.heap.size,1,none⟩=some (Aa Ab q)∧w'.cell? ⟨w.heap.size,2,none⟩=some (Aa Ab t)∧w'.cell? ⟨w.heap.size,3,none⟩=some (Aa Ab V))) (first|with_reducible exact⟨D,R,G,H,I,J⟩|with_reducible exact⟨B8 D,B8 R,B8 G,B8 H,B8 I,B8 J⟩) (first|(go_at_call 153;(with_reducible refine(Aa0 E.A E.n E.c p q t V N 0 E.l _ k.o.drew.b bm (by omega) dd.o X.o).mono ?_);rintro e w1 ⟨rfl,K⟩;replace u:=Hd (u.o.drew.below K);replace k:=Hd (k.o.drew.pure K);replace j:=Hd (j.o.drew.pure K);clear D c1 c2 R G H I J;clear K;obtain⟨D,c1,c2,R⟩:=k.o.cells;have G:=B9 j.o.1;have H:=B7 j.o.1;have I:=B6 j.o.1;have J:=Ca j.o.1));obtain⟨y,hy⟩:∃y,Em E.l go ⟨p,q,t,V⟩ s=y:=⟨_,rfl⟩;have HY:=Hd hy;clear hy;go_upto_if 42 with fail
  go_cut [8] (fun u8 wx=>∃wy,wy=wx∧u8= Aa Ab y.2∧∃g',Gb E g' y.1 wx∧Et E g g' w wx∧Jo E g' wx w.heap.size 70 (Afg p q t V))
  case first=>
   by_cases h9:t=9
   ·subst h9;have hy:=HY.o;unfold Em at hy;rw [if_pos rfl] at hy;have hk:=iG E go d bu.o bj.o g s p q 9 V f _ k.o hd (by omega) HF.o;rw [hy] at hk;have m:=Hd hk;clear hy hk;go_wp2_with fail;go_at_call 154;refine m.o.mono ?_;rintro e w2 ⟨rfl,g2,hC,hT⟩;have dc:=Hd hC;have cf:=Hd hT;clear hC hT m;go_wp2_with fail;go_meet;exact⟨_,rfl,rfl,g2,dc.o,u.o.trans cf.o,j.o.to cf.o⟩
   ·have hy:=HY.o;unfold Em at hy;rw [if_neg h9] at hy;subst hy;have e9:(t==9)=false:=beq_eq_false_iff_ne.mpr h9;clear h9;go_wp2_with fail;go_meet;exact⟨_,rfl,rfl,g,k.o,u.o,j.o⟩
  case rest=>
  obtain⟨w2,rfl,rfl,g2,ci,cl,cn⟩:=hcut;have k:=Hd ci;have u:=Hd cl;have j:=Hd cn;clear ci cl cn;clear D c1 c2 R G H I J;obtain⟨D,c1,c2,R⟩:=k.o.cells;have G:=B9 j.o.1;have H:=B7 j.o.1;have I:=B6 j.o.1;have J:=Ca j.o.1;go_upto_region 7 with fail
  go_cut [53] (fun u53 wx=>∃wy,wy=wx∧u53= .bool (decide (y.2=0∧f<a))∧wx=w2)
  case first=>
   clear D c1 c2 R G H I J;clear k u j;by_cases az:y.2=0
   ·have dt:(y.2==0)=true:=by simpa using az
    have dh:=Hd az;clear az;by_cases bo:f<a
    ·have HD:=Hd (show decide (y.2=0∧f<a)=true from decide_eq_true ⟨dh.o,bo⟩);go_wp2_with fail;go_meet;rw [HD.o];exact⟨_,rfl,rfl,rfl⟩
    ·have HD:=Hd (show decide (y.2=0∧f<a)=false from decide_eq_false fun h=>bo h.2);have en:decide (f<a)=false:=decide_eq_false bo;clear bo;go_wp2_with fail;go_meet;rw [HD.o];exact⟨_,rfl,rfl,rfl⟩
   ·have dt:(y.2==0)=false:=beq_eq_false_iff_ne.mpr az;have HD:=Hd (show decide (y.2=0∧f<a)=false from decide_eq_false fun h=>az h.1);clear az;go_wp2_with fail;go_meet;rw [HD.o];exact⟨_,rfl,rfl,rfl⟩
  case rest=>
  obtain⟨w2,rfl,rfl,rfl⟩:=hcut;obtain⟨z,U⟩:∃z,(if y.2=0 then Jk E.l ⟨p,q,t,V⟩ y.1 else y.1)=z:=⟨_,rfl⟩;have HZ:=Hd U;have B:=Sy (l:=E.l) ⟨p,q,t,V⟩ bj.o s;rw [HY.o] at B;have bf:=eK (l:=E.l) ⟨p,q,t,V⟩ y.1;have b4:z.left≤s.left∧z.size≤s.size+1:=by
   subst U;split
   ·exact⟨Int.le_trans bf.1 B.1,by have:=bf.2;have:=B.2;omega⟩
   ·exact⟨B.1,by have:=B.2;omega⟩
  have eu:y.1.o.length≤899999993:=by have:=Il y.1;have:=B.2;omega
  have du:=b4.1;have dv:=b4.2;clear U B bf b4;go_upto_if 53 with fail
  go_cut [] (fun wx=>∃wy,wy=wx∧∃g',Gb E g' z wx∧Et E g g' w wx∧Jo E g' wx w.heap.size 70 (Afg p q t V))
  case first=>
   by_cases hc:y.2=0∧f<a
   ·have hd:decide (y.2=0∧f<a)=true:=decide_eq_true hc;rw [hd];have U:=HZ.o;rw [if_pos hc.1] at U;unfold Jk at U;rw [if_pos (by have h1:=HF.o;have h2:=Q.o;have:=hc.2;simp only;omega)] at U;have cs:y.1.tell (a-V) a 6=z:=by rw [←U];simp only [Q.o]
    replace HZ:=Hd cs;have dl:0≤a:=by have:=Q.o;omega
    have dm:a≤4294967296:=by have h1:=Q.o;have h2:=cc.o;omega
    have et:IntKind.i64.wrap (a-V)=a-V:=Ao _ (by omega);clear U cs hd hc;go_wp2_with fail;go_region_held3 (fun w'=>w'.cell? ⟨E.bw,0,none⟩=some (.slice E.A E.n E.c)∧w'.cell? ⟨E.bw,3,none⟩=some (.func (.func 44) #[] #[Afh E.bl])∧(w'.cell? ⟨w.heap.size,0,none⟩=some (Aa Ab p)∧w'.cell? ⟨w.heap.size,1,none⟩=some (Aa Ab q)∧w'.cell? ⟨w.heap.size,2,none⟩=some (Aa Ab t)∧w'.cell? ⟨w.heap.size,3,none⟩=some (Aa Ab V))) (first|with_reducible exact⟨D,R,G,H,I,J⟩|with_reducible exact⟨B8 D,B8 R,B8 G,B8 H,B8 I,B8 J⟩) (first|(go_at_call 44;(with_reducible refine(Ht (a-V) a 6 k.o.drew (by omega)).mono ?_);rintro e w3 ⟨rfl,g3,a9,aw⟩;replace u:=Hd (u.o.drew.trans aw);replace j:=Hd (j.o.drew.to aw);replace k:=Hd a9;clear D c1 c2 R G H I J;clear a9 aw;obtain⟨D,c1,c2,R⟩:=k.o.cells;have G:=B9 j.o.1;have H:=B7 j.o.1;have I:=B6 j.o.1;have J:=Ca j.o.1));go_wp2_with fail;go_meet;rw [←HZ.o];exact⟨_,rfl,_,k.o,u.o,j.o⟩
   ·have hd:decide (y.2=0∧f<a)=false:=decide_eq_false hc;rw [hd];have U:=HZ.o;have e:z=y.1:=by
     subst U;split
     ·rename_i h0;unfold Jk;rw [if_neg];intro h;exact hc ⟨h0,by have h1:=HF.o;have h2:=Q.o;simp only at h;omega⟩
     ·rfl
    subst e;clear U hd hc;go_wp2_with fail;go_meet;exact⟨_,rfl,_,k.o,u.o,j.o⟩
  case rest=>
  obtain⟨w3,rfl,g3,a9,aw,co⟩:=hcut;obtain⟨F,hF⟩:∃F,(if y.2=0 then D0 E.l go ⟨p,q,t,V⟩ N 0 z else y)=F:=⟨_,rfl⟩;have eg:=Hd hF;have hrel:yY E go ⟨p,q,t,V⟩ N F w.heap.size w g s (Aa Ab y.2) (Aa Ab 0) w3:=
   ⟨0,z,y.2,g3,rfl,rfl,Nat.zero_le _,a9,aw,co,fun h=>⟨du,dv,by rw [if_pos h] at hF;exact hF⟩,fun h=>by
    have U:=HZ.o;rw [if_neg h] at hF U;rw [←hF,←U]⟩
  have bp:=Hd hrel;have cq:Gl E.l go ⟨p,q,t,V⟩ s=F:=by
   have U:=HZ.o;unfold Gl;rw [if_neg (by rw [X.o];decide),HY.o];by_cases h:y.2=0
   ·rw [if_pos h] at hF U;rw [if_neg (by rw [h];decide),U,←hF];simp only [HN.o]
   ·rw [if_neg h] at hF;rw [if_pos h,hF]
  have cd:=Hd cq;have dg:=Hd (show(N:Int)*(V:Int)≤4294967296∧(0:Int)≤(N:Int)*(V:Int)∧0≤a∧a≤4294967296∧N≤4294967296 from by
   have h1:=cc.o;have h2:=de.o;have h3:=Q.o;have h5:((N*V:Nat):Int)=(N:Int)*(V:Int):=Int.natCast_mul _ _;have h6:N≤N*V:=Nat.le_mul_of_pos_right _ (by omega);refine⟨by omega,by omega,by omega,by omega,by omega⟩)
  clear hF hrel a9 aw co cq;clear D c1 c2 R G H I J;clear k j u;go_upto_region 9 with fail
  go_wp2_with fail;go_loopw [8,10] (fun u8 u10 wr=>yY E go ⟨p,q,t,V⟩ N F w.heap.size w g s u8 u10 wr) (fun _ u10 _=>N-(intOf u10).toNat)
  case atStart=>exact bp.o
  case round=>
   clear bp;obtain⟨i,s1,e1,g1,rfl,rfl,hi,ch,ck,cm,cr,b6⟩:=hrel;have k:=Hd ch;have u:=Hd ck;have j:=Hd cm;have bv:=Hd b6;have bx:=Hd cr;clear ch ck cm b6 cr;obtain⟨em,el,dl,dm,ek⟩:=dg.o;by_cases bn:e1=0
   ·subst bn;obtain⟨dq,ep,bb⟩:=bx.o rfl;by_cases ax:i<N
    ·have C:=Hd bb;clear bb bv bx;obtain⟨st,b7⟩:∃st,F8 E.l ⟨p,q,t,V⟩ i s1=st:=⟨_,rfl⟩;have au:=Vs (l:=E.l) ⟨p,q,t,V⟩ i s1;rw [b7] at au;have bq:st.left≤s.left:=Int.le_trans au.1 dq;have ed:st.size≤s.size+2:=by have:=au.2;omega
     have ec:s1.o.length≤899999999:=by have:=Il s1;omega
     have Y:=Hd b7;clear b7 au;obtain⟨D,c1,c2,R⟩:=k.o.cells;have G:=B9 j.o.1;have H:=B7 j.o.1;have I:=B6 j.o.1;have J:=Ca j.o.1;by_cases ay:Cj t=true
     ·have dn:decide (a+(N:Int)*(V:Int)<o)=true:=by
       apply decide_eq_true;have h1:=cg.o;have h2:=HO.o;have h3:=Q.o;have h4:tgs t=1:=if_pos ay;rw [h4,Nat.mul_add,Nat.mul_one] at h1;have h5:((N*V:Nat):Int)=(N:Int)*(V:Int):=Int.natCast_mul _ _;omega
      have e:s1.tell (a+(N:Int)*(V:Int)+(i:Int)) (a+(N:Int)*(V:Int)+(i:Int)+1) 8=st:=by
       rw [←Y.o];unfold F8;rw [if_pos ay];simp only [Q.o,HN.o]
      have HE:=Hd e;clear e ay;go_wp2_with (go_at_call 44;(with_reducible refine(Ht (a+(N:Int)*(V:Int)+(i:Int)) (a+(N:Int)*(V:Int)+(i:Int)+1) 8 k.o (by omega)).mono ?_);rintro e w4 ⟨rfl,g4,bz,b1⟩;rw [HE.o] at bz;replace u:=Hd (u.o.trans b1);replace j:=Hd (j.o.to b1);replace k:=Hd bz;clear D c1 c2 R G H I J;clear bz b1;obtain⟨D,c1,c2,R⟩:=k.o.cells;have G:=B9 j.o.1;have H:=B7 j.o.1;have I:=B6 j.o.1;have J:=Ca j.o.1);go_upto_region 16 with fail
      obtain⟨a0,Z⟩:∃x,Ka E.l p q t V i=x:=⟨_,rfl⟩;obtain⟨b0,aa⟩:∃x,Kb E.l p q t V i=x:=⟨_,rfl⟩;obtain⟨d0,ab⟩:∃x,Kv E.l p q t V i=x:=⟨_,rfl⟩;obtain⟨g0,ae⟩:∃x,Kw E.l p q t V i=x:=⟨_,rfl⟩;obtain⟨ee,ad⟩:∃x,F5 E.l p q t V i=x:=⟨_,rfl⟩;have a1:=Hd Z;have a2:=Hd aa;have a3:=Hd ab;have a4:=Hd ae;have S:=Hd ad;clear Z aa ab ae ad;have M:=k.o.new;have bt:=Hd M;clear M;clear D c1 c2 R G H I J;go_cut [8] from 64 to 108 (fun u8 wx=>∃wy,wy=wx∧u8= Aa Ab ee∧Bk wx w4.heap.size 70 (Afg a0 b0 d0 g0)∧Below w4.heap.size w4 wx)
      case first=>
       have m:=Hd (Bk.new w4 70 (Afg 0 0 0 0));have HQ:=Hd ((Af w4.heap.size w4).alloc (Ae _) (.cells (Afg 0 0 0 0) 70));have HW:=Hd (k.o.W.alloc (.cells (Afg 0 0 0 0) 70));have HR:=Hd (j.o.1.alloc (.cells (Afg 0 0 0 0) 70));have HL:=Hd (k.o.b.alloc (.cells (Afg 0 0 0 0) 70));have dr:E.bw≠w4.heap.size:=by have:=k.o.W.lt;omega
       have ds:w.heap.size≠w4.heap.size:=by have:=j.o.1.lt;omega
       clear k u j C Y;generalize w4.alloc (.cells (Afg 0 0 0 0) 70)=wa at m HQ HW HR HL⊢;have D:_=some (Value.slice E.A E.n E.c):=HW.o.cell 0;obtain ⟨G,H,I,J⟩:=HR.o.c4;obtain ⟨q0,q1,q2,q3⟩:=m.o.c4;obtain ⟨p0,p1,p2,p3⟩:=m.o.f4;go_region_held3 (fun w'=>w'.cell? ⟨E.bw,0,none⟩=some (.slice E.A E.n E.c)∧(w'.cell? ⟨w.heap.size,0,none⟩=some (Aa Ab p)∧w'.cell? ⟨w.heap.size,1,none⟩=some (Aa Ab q)∧w'.cell? ⟨w.heap.size,2,none⟩=some (Aa Ab t)∧w'.cell? ⟨w.heap.size,3,none⟩=some (Aa Ab V))) ((with_reducible refine⟨?_,?_,?_,?_,?_⟩) <;>(repeat (first|with_reducible assumption|with_reducible refine C4 ?_|with_reducible refine Jz _ ?_|with_reducible refine nW ?_ ?_)))
        (first|(go_at_call 155;(with_reducible refine(sA E.A E.n E.c p q t V i a0 b0 d0 g0 ee E.l _ (HL.o.pure (Af _ _).drew) bm (by omega) a1.o a2.o a3.o a4.o S.o).mono ?_);rintro e w5 ⟨rfl,hb⟩;replace HQ:=Hd (Bi HQ.o.drew hb);replace HW:=Hd (HW.o.drew.pure hb);replace HR:=Hd (HR.o.drew.pure hb);replace m:=Hd (m.o.drew.pure hb);clear hb D G H I J q0 q1 q2 q3 p0 p1 p2 p3;have D:_=some (Value.slice E.A E.n E.c):=HW.o.cell 0;obtain ⟨G,H,I,J⟩:=HR.o.c4;obtain ⟨q0,q1,q2,q3⟩:=m.o.c4;obtain ⟨p0,p1,p2⟩:=m.o.f3;have p3:=m.o.frozen 3))
       go_wp2_with fail;go_meet;exact⟨_,rfl,rfl,(((m.o.set_ 0 _).set_ 1 _).set_ 2 _).set_ 3 _,Ed _ HQ.o (Ae _) _ _ _ _⟩
      case rest=>
      obtain⟨w6,rfl,rfl,bd,T⟩:=hcut;have m:=Hd (show Jo E g4 w6 w4.heap.size 70 (Afg a0 b0 d0 g0) from⟨bd,bt.o⟩);replace k:=Hd (k.o.pure T);replace j:=Hd (j.o.pure T);replace u:=Hd (u.o.below T);clear bd T;by_cases O:ee=0
      ·subst O;have ap:=mA X.o (by rw [HN.o];exact ax) S.o;have am:Ga E.l ⟨p,q,t,V⟩ i=⟨a0,b0,d0,g0⟩:=by unfold Ga;simp only [a1.o,a2.o,a3.o,a4.o]
       rw [am] at ap;obtain⟨y2,ar⟩:∃y,go ⟨a0,b0,d0,g0⟩ st=y:=⟨_,rfl⟩;have P:=dA (l:=E.l) (r:=⟨p,q,t,V⟩) S.o Y.o am ar ax C.o;have an:=bu.o _ st a0 b0 d0 g0 w6 k.o (by omega) (by omega) ap;have ao:=bj.o ⟨a0,b0,d0,g0⟩ st;rw [ar] at an ao;have a5:=Hd an;have a6:=Hd ao;have L:=Hd P;have k0:=B9 m.o.1;have k1:=B7 m.o.1;have k2:=B6 m.o.1;have k3:=Ca m.o.1;clear ap am ar P an ao C;go_wp2_with fail;go_at_call 45;refine a5.o.mono ?_;rintro e w7 ⟨rfl,g7,ba,al⟩;replace u:=Hd (u.o.trans al);replace j:=Hd (j.o.to al);replace k:=Hd ba;clear m ba al a5 k0 k1 k2 k3;go_wp2_with fail;go_roundw
       case rel=>exact⟨i+1,y2.1,y2.2,g7,rfl,by go_num,by omega,k.o,u.o,j.o,fun h=>⟨Int.le_trans a6.o.1.1 bq,by have:=a6.o.2 h;omega,L.o.1 h⟩,L.o.2⟩
       case measure=>simp [intOf];omega
      ·have K:(ee==0)=false:=beq_eq_false_iff_ne.mpr O;have bs:=Hd (cZ (l:=E.l) (r:=⟨p,q,t,V⟩) S.o O Y.o ax C.o);have br:=Hd O;clear O C;go_wp2_with fail;go_roundw
       case rel=>exact⟨i+1,st,ee,_,rfl,by go_num,by omega,k.o,u.o,j.o,fun h=>absurd h br.o,fun _=>bs.o⟩
       case measure=>simp [intOf];omega
     ·have dn:decide (a+(N:Int)*(V:Int)<o)=false:=by
       apply decide_eq_false;have h1:=cg.o;have h2:=HO.o;have h3:=Q.o;have h4:tgs t=0:=if_neg ay;rw [h4,Nat.add_zero] at h1;have h5:((N*V:Nat):Int)=(N:Int)*(V:Int):=Int.natCast_mul _ _;omega
      have e:st=s1:=by
       rw [←Y.o];unfold F8;rw [if_neg ay]
      subst e;clear ay;go_upto_region 16 with fail
      obtain⟨a0,Z⟩:∃x,Ka E.l p q t V i=x:=⟨_,rfl⟩;obtain⟨b0,aa⟩:∃x,Kb E.l p q t V i=x:=⟨_,rfl⟩;obtain⟨d0,ab⟩:∃x,Kv E.l p q t V i=x:=⟨_,rfl⟩;obtain⟨g0,ae⟩:∃x,Kw E.l p q t V i=x:=⟨_,rfl⟩;obtain⟨ee,ad⟩:∃x,F5 E.l p q t V i=x:=⟨_,rfl⟩;have a1:=Hd Z;have a2:=Hd aa;have a3:=Hd ab;have a4:=Hd ae;have S:=Hd ad;clear Z aa ab ae ad;have M:=k.o.new;have bt:=Hd M;clear M;clear D c1 c2 R G H I J;go_cut [8] from 64 to 108 (fun u8 wx=>∃wy,wy=wx∧u8= Aa Ab ee∧Bk wx wr.heap.size 70 (Afg a0 b0 d0 g0)∧Below wr.heap.size wr wx)
      case first=>
       have m:=Hd (Bk.new wr 70 (Afg 0 0 0 0));have HQ:=Hd ((Af wr.heap.size wr).alloc (Ae _) (.cells (Afg 0 0 0 0) 70));have HW:=Hd (k.o.W.alloc (.cells (Afg 0 0 0 0) 70));have HR:=Hd (j.o.1.alloc (.cells (Afg 0 0 0 0) 70));have HL:=Hd (k.o.b.alloc (.cells (Afg 0 0 0 0) 70));have dr:E.bw≠wr.heap.size:=by have:=k.o.W.lt;omega
       have ds:w.heap.size≠wr.heap.size:=by have:=j.o.1.lt;omega
       clear k u j C Y;generalize wr.alloc (.cells (Afg 0 0 0 0) 70)=wa at m HQ HW HR HL⊢;have D:_=some (Value.slice E.A E.n E.c):=HW.o.cell 0;obtain ⟨G,H,I,J⟩:=HR.o.c4;obtain ⟨q0,q1,q2,q3⟩:=m.o.c4;obtain ⟨p0,p1,p2,p3⟩:=m.o.f4;go_region_held3 (fun w'=>w'.cell? ⟨E.bw,0,none⟩=some (.slice E.A E.n E.c)∧(w'.cell? ⟨w.heap.size,0,none⟩=some (Aa Ab p)∧w'.cell? ⟨w.heap.size,1,none⟩=some (Aa Ab q)∧w'.cell? ⟨w.heap.size,2,none⟩=some (Aa Ab t)∧w'.cell? ⟨w.heap.size,3,none⟩=some (Aa Ab V))) ((with_reducible refine⟨?_,?_,?_,?_,?_⟩) <;>(repeat (first|with_reducible assumption|with_reducible refine C4 ?_|with_reducible refine Jz _ ?_|with_reducible refine nW ?_ ?_)))
        (first|(go_at_call 155;(with_reducible refine(sA E.A E.n E.c p q t V i a0 b0 d0 g0 ee E.l _ (HL.o.pure (Af _ _).drew) bm (by omega) a1.o a2.o a3.o a4.o S.o).mono ?_);rintro e w5 ⟨rfl,hb⟩;replace HQ:=Hd (Bi HQ.o.drew hb);replace HW:=Hd (HW.o.drew.pure hb);replace HR:=Hd (HR.o.drew.pure hb);replace m:=Hd (m.o.drew.pure hb);clear hb D G H I J q0 q1 q2 q3 p0 p1 p2 p3;have D:_=some (Value.slice E.A E.n E.c):=HW.o.cell 0;obtain ⟨G,H,I,J⟩:=HR.o.c4;obtain ⟨q0,q1,q2,q3⟩:=m.o.c4;obtain ⟨p0,p1,p2⟩:=m.o.f3;have p3:=m.o.frozen 3))
       go_wp2_with fail;go_meet;exact⟨_,rfl,rfl,(((m.o.set_ 0 _).set_ 1 _).set_ 2 _).set_ 3 _,Ed _ HQ.o (Ae _) _ _ _ _⟩
      case rest=>
      obtain⟨w6,rfl,rfl,bd,T⟩:=hcut;have m:=Hd (show Jo E g1 w6 wr.heap.size 70 (Afg a0 b0 d0 g0) from⟨bd,bt.o⟩);replace k:=Hd (k.o.pure T);replace j:=Hd (j.o.pure T);replace u:=Hd (u.o.below T);clear bd T;by_cases O:ee=0
      ·subst O;have ap:=mA X.o (by rw [HN.o];exact ax) S.o;have am:Ga E.l ⟨p,q,t,V⟩ i=⟨a0,b0,d0,g0⟩:=by unfold Ga;simp only [a1.o,a2.o,a3.o,a4.o]
       rw [am] at ap;obtain⟨y2,ar⟩:∃y,go ⟨a0,b0,d0,g0⟩ st=y:=⟨_,rfl⟩;have P:=dA (l:=E.l) (r:=⟨p,q,t,V⟩) S.o Y.o am ar ax C.o;have an:=bu.o _ st a0 b0 d0 g0 w6 k.o (by omega) (by omega) ap;have ao:=bj.o ⟨a0,b0,d0,g0⟩ st;rw [ar] at an ao;have a5:=Hd an;have a6:=Hd ao;have L:=Hd P;have k0:=B9 m.o.1;have k1:=B7 m.o.1;have k2:=B6 m.o.1;have k3:=Ca m.o.1;clear ap am ar P an ao C;go_wp2_with fail;go_at_call 45;refine a5.o.mono ?_;rintro e w7 ⟨rfl,g7,ba,al⟩;replace u:=Hd (u.o.trans al);replace j:=Hd (j.o.to al);replace k:=Hd ba;clear m ba al a5 k0 k1 k2 k3;go_wp2_with fail;go_roundw
       case rel=>exact⟨i+1,y2.1,y2.2,g7,rfl,by go_num,by omega,k.o,u.o,j.o,fun h=>⟨Int.le_trans a6.o.1.1 bq,by have:=a6.o.2 h;omega,L.o.1 h⟩,L.o.2⟩
       case measure=>simp [intOf];omega
      ·have K:(ee==0)=false:=beq_eq_false_iff_ne.mpr O;have bs:=Hd (cZ (l:=E.l) (r:=⟨p,q,t,V⟩) S.o O Y.o ax C.o);have br:=Hd O;clear O C;go_wp2_with fail;go_roundw
       case rel=>exact⟨i+1,st,ee,_,rfl,by go_num,by omega,k.o,u.o,j.o,fun h=>absurd h br.o,fun _=>bs.o⟩
       case measure=>simp [intOf];omega
    ·have cp:N-i=0:=by omega
     rw [cp] at bb;have C:=Hd (show F=(s1,0) from bb.symm);clear bb cp;go_wp2_with fail;go_ret;rw [cd.o,C.o];exact⟨rfl,_,k.o,u.o⟩
   ·have K:(e1==0)=false:=beq_eq_false_iff_ne.mpr bn;have C:=Hd (bv.o bn);clear bn bv bx;go_wp2_with fail
    all_goals
     go_ret;rw [cd.o,C.o];exact⟨rfl,_,k.o,u.o⟩
 ·have b6:(er != 0)=true:=by simpa using he
  have e:Gl E.l go ⟨p,q,t,v⟩ s=(s,er):=by
   unfold Gl;rw [X.o,if_pos he]
  have HR:=Hd e;clear e he;go_wp2_with fail;go_ret;rw [HR.o];exact⟨rfl,_,k.o,u.o⟩
end Go.Proofs.YtejpbijeifjdeaaGreat
