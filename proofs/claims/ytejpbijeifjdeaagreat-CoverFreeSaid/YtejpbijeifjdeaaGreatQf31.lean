/- Parts of the proof. -/
import Derived.Test.YtejpbijeifjdeaaGreatQf30
set_option maxHeartbeats 1000000
set_option maxRecDepth 100000
open Go.Value renaming int→Aa
open Go.IntKind renaming i64→Ab
open List renaming getElem?_eq_getElem→Ag,mem_of_getElem?→Aq,mem_append_left→Ar,length_map→As,length_nil→Aw,nil_append→A6,mem_append_right→Bf
open Go.IntWalk renaming i64_in→Ao
open Go.Instr renaming mapUpdate→Ba
open Go.Proofs.Tryz
open Go.Proofs.Tryz renaming prog→Ad
namespace Go.Proofs.YtejpbijeifjdeaaGreat
open Go.RowKit Go.Acc
variable {s L L':List UInt8}{k n:Int}{u:Nat}{ks:List (List UInt8)}{c:List Tr}{y v:Bv}{log:List P3}{f:Tr→Bv}{t:Tr}
theorem gU(h:(0:UInt8)∉s):Ci s=false:=by
 unfold Ci;rw [List.any_eq_false];intro x hx e;have:x=0:=by simpa using e
 exact h (this▸hx)
theorem Lf(h:Ft (.mk k n u s ks c)):∀t∈c,Ft t:=by
 cases h with
 |mk _ _ _ _ hl=>exact hl
theorem gN(h:Yz (.mk k n u s ks c)):(k=17→aX ks)∧∀t∈c,Yz t:=by
 cases h with
 |mk h1 h2=>exact⟨h1,h2⟩
theorem cT:∀{t:Tr},Ft t→t.k=2→Dn L (Dh t.n) t
 | .mk k n u s ks c,hv,hk=>by
  obtain rfl:k=2:=hk;obtain⟨_,q2,q3,q4,q5,q6⟩:=E3 hv;obtain rfl:u=0:=by omega
  obtain rfl:s=[]:=by simpa using q3
  obtain rfl:ks=[]:=by simpa using q4
  obtain rfl:=q6 (by omega);exact .truth (q5 rfl)
theorem cR:∀{t:Tr},Ft t→Hb t→t.k=3→Dn L (C5 t.n) t
 | .mk k n u s ks c,hv,hok,hk=>by
  obtain rfl:k=3:=hk;obtain⟨_,q2,q3,q4,_,q6⟩:=E3 hv;obtain rfl:u=0:=by omega
  obtain rfl:s=[]:=by simpa using q3
  obtain rfl:ks=[]:=by simpa using q4
  obtain rfl:=q6 (by omega);exact .int hok.vals.1
theorem X7:∀{t:Tr},Ft t→Hb t→t.k=4→Dn L (C9 t.u) t
 | .mk k n u s ks c,hv,hok,hk=>by
  obtain rfl:k=4:=hk;obtain⟨q1,_,q3,q4,_,q6⟩:=E3 hv;obtain rfl:n=0:=by omega
  obtain rfl:s=[]:=by simpa using q3
  obtain rfl:ks=[]:=by simpa using q4
  obtain rfl:=q6 (by omega);exact .uint hok.vals.2
theorem qU:∀{t:Tr},Ft t→Hb t→t.k=5→Gc L t.s y→Dn L y t
 | .mk k n u s ks c,hv,hok,hk,h=>by
  obtain rfl:k=5:=hk;obtain⟨q1,q2,_,q4,_,q6⟩:=E3 hv;obtain rfl:n=0:=by omega
  obtain rfl:u=0:=by omega
  obtain rfl:ks=[]:=by simpa using q4
  obtain rfl:=q6 (by omega);exact .key h (gU ((Ce hok).2.1 rfl))
theorem oY(tags:Bool)(vs:List Bv)(v:Bv):(((v.n-v.w:Nat):Int),(v.n:Int),(6:Int))∈Gh true tags vs v:=by
 unfold Gh;rw [if_pos rfl];exact Ar _ (Ar _ (List.mem_singleton.2 rfl))
theorem dU(hap:∀x∈log,∀y∈log,x.1=y.1→x=y)(hL:L.length<2^32){kv:Bv}{kvs:List Bv}(h:Dc L 14 true false kvs kv)(hk:Dp L ks kvs)(h1:∀x∈Hp ks kvs,x∈log)(h2:∀x∈Gh true false kvs kv,x∈log):∀y∈kvs,M1 ((kv.n:Int)-kv.w) y:=by
 have g:=Kr h hL;intro y f;obtain⟨i,d,rfl⟩:=List.mem_iff_getElem.1 f;have a:i<ks.length:=by rw [←hk.1];exact d
 have b:kvs[i]?=some kvs[i]:=Ag d;have c:ks[i]?=some ks[i]:=Ag a;have e:(kv.n:Int)-kv.w=((kv.n-kv.w:Nat):Int):=by omega
 rw [e];refine Yd hap (by rw [(hk.2 i _ _ c b).1];decide) (h1 _ ((Pb _ _ _).2 ⟨i,_,_,c,b,rfl⟩)) (h2 _ (oY _ _ _)) (by decide) (fun hin=>?_);have:=lM h _ f hin;rw [if_pos rfl] at this;omega
theorem Mg(hlen:L'.length=L.length)(hsm:∀x∈log,Kj L L' x){len tags:Bool}{vs:List Bv}(hin:∀x∈Gh len tags vs v,x∈log)(hl:Fk L 0 vs v)(hm:len=true∨0<Df (v.t:Int))(ht:Cj (v.t:Int)=true→tags=true)
  (hk:Cs (v.t:Int)=k) (h10:10≤k∧k≤16) (hc:vs.length=c.length) (he:Ji v.t vs) (hlow:∀y∈vs,M1 ((v.n:Int)-aheadT (v.t:Int)*v.w) y) (hr:∀(i:Nat) y t,vs[i]?=some y→c[i]?=some t→Dn L' y t):Dn L' v (.mk k 0 0 [] [] c):=by
 unfold Gh at hin;refine .list hk h10 (hl.agr hlen (fun x hx=>hsm _ (hin _ (Ar _ (Bf _ hx)))) (fun hT x hx=>hsm _ (hin _ (Bf _ (by rw [if_pos (ht hT)];exact hx)))) (fun hn=>hsm _ (hin _ (Ar _ (Ar _ ?_))))) hc he hlow hr;rcases hm with e|e
 ·rw [if_pos e];exact List.mem_singleton.2 rfl
 ·exact absurd e hn
theorem P2(hf:∀x,inl (f x).t=true)(m:Int):∀y∈c.map f,M1 m y:=by
 intro y hy hi;obtain⟨x,_,rfl⟩:=List.mem_map.1 hy;rw [hf] at hi;cases hi
theorem P7{i:Nat}(hy:(c.map f)[i]?=some y)(ht:c[i]?=some t):y=f t:=by
 rw [List.getElem?_map,ht] at hy;injection hy with hy
 exact hy.symm
theorem Aee(hlen:L'.length=L.length)(hL:L.length<2^32)(hap:∀x∈log,∀y∈log,x.1=y.1→x=y)(hsm:∀x∈log,Kj L L' x){ps:List P3}(hr:Rp L v t ps):(∀x∈ps,x∈log)→Ft t→Hb t→Yz t→Dn L' v t:=by
 induction hr with
 |null n u s ks c=>
  intro hin hv hok _;obtain⟨l,m,d,f,_,A⟩:=E3 hv;obtain rfl:n=0:=by omega
  obtain rfl:u=0:=by omega
  obtain rfl:s=[]:=by simpa using d
  obtain rfl:ks=[]:=by simpa using f
  obtain rfl:=A (by omega);exact .null
 |truth n u s ks c=>exact fun _ hv _ _=>cT hv rfl
 |int n u s ks c=>exact fun _ hv hok _=>cR hv hok rfl
 |uint n u s ks c=>exact fun _ hv hok _=>X7 hv hok rfl
 | @key v s n u ks c h=>exact fun hin hv hok _=>qU hv hok rfl (h.agr hlen (hsm _ (hin _ (List.mem_singleton.2 rfl))))
 | @str v s n u ks c h=>
  intro hin hv hok _;obtain⟨l,m,d,f,_,A⟩:=E3 hv;obtain rfl:n=0:=by omega
  obtain rfl:u=0:=by omega
  obtain rfl:ks=[]:=by simpa using f
  obtain rfl:=A (by omega);exact .str (h.agr hlen (fun x hx=>hsm _ (hin _ hx)) (.inl ⟨rfl,rfl⟩))
 | @blob v s n u ks c h=>
  intro hin hv hok _;obtain⟨l,m,d,f,_,A⟩:=E3 hv;obtain rfl:n=0:=by omega
  obtain rfl:u=0:=by omega
  obtain rfl:ks=[]:=by simpa using f
  obtain rfl:=A (by omega);exact .blob (h.agr hlen (fun x hx=>hsm _ (hin _ hx)) (.inr ⟨rfl,rfl⟩))
 | @indInt v n u s ks c h=>
  intro hin hv hok _;obtain⟨l,m,d,f,_,A⟩:=E3 hv;obtain rfl:u=0:=by omega
  obtain rfl:s=[]:=by simpa using d
  obtain rfl:ks=[]:=by simpa using f
  obtain rfl:=A (by omega);exact .indInt (h.agr hlen (hsm _ (hin _ (List.mem_singleton.2 rfl)))) hok.vals.1
 | @indUint v u n s ks c h=>
  intro hin hv hok _;obtain⟨l,m,d,f,_,A⟩:=E3 hv;obtain rfl:n=0:=by omega
  obtain rfl:s=[]:=by simpa using d
  obtain rfl:ks=[]:=by simpa using f
  obtain rfl:=A (by omega);exact .indUint (h.agr hlen (hsm _ (hin _ (List.mem_singleton.2 rfl)))) hok.vals.2
 | @ints v c n u s ks h=>
  intro hin hv hok _;obtain⟨l,m,d,f,_,_⟩:=E3 hv;obtain rfl:n=0:=by omega
  obtain rfl:u=0:=by omega
  obtain rfl:s=[]:=by simpa using d
  obtain rfl:ks=[]:=by simpa using f
  have ht:=h.width.1;have b:=El h hL [] rfl (.inr ⟨.inl rfl,rfl⟩);simp only [A6,Aw] at b;have a:=C6 hok (K:=3) (by decide) (by decide);exact Mg hlen hsm hin b (.inl rfl) (fun e=>by rw [ht] at e;cases e) (by rw [ht];decide) (by omega) (by simp) (Gr (K:=3) (tf:=1) a (by rw [ht];decide) (fun _=>rfl) (fun _=> .inr (.inr (.inl ⟨rfl,rfl⟩)))) (P2 (fun _=>(by decide:inl 1=true)) _) (fun i y t hy hx=>by
   rw [P7 hy hx];exact cR (Lf hv _ (Aq hx)) (a _ (Aq hx)).2 (a _ (Aq hx)).1)
 | @uints v c n u s ks h=>
  intro hin hv hok _;obtain⟨l,m,d,f,_,_⟩:=E3 hv;obtain rfl:n=0:=by omega
  obtain rfl:u=0:=by omega
  obtain rfl:s=[]:=by simpa using d
  obtain rfl:ks=[]:=by simpa using f
  have ht:=h.width.1;have b:=El h hL [] rfl (.inr ⟨.inr (.inl rfl),rfl⟩);simp only [A6,Aw] at b;have a:=C6 hok (K:=4) (by decide) (by decide);exact Mg hlen hsm hin b (.inl rfl) (fun e=>by rw [ht] at e;cases e) (by rw [ht];decide) (by omega) (by simp) (Gr (K:=4) (tf:=2) a (by rw [ht];decide) (fun _=>rfl) (fun _=> .inr (.inr (.inr ⟨rfl,rfl⟩)))) (P2 (fun _=>(by decide:inl 2=true)) _) (fun i y t hy hx=>by
   rw [P7 hy hx];exact X7 (Lf hv _ (Aq hx)) (a _ (Aq hx)).2 (a _ (Aq hx)).1)
 | @bools v c n u s ks h=>
  intro hin hv hok _;obtain⟨l,m,d,f,_,_⟩:=E3 hv;obtain rfl:n=0:=by omega
  obtain rfl:u=0:=by omega
  obtain rfl:s=[]:=by simpa using d
  obtain rfl:ks=[]:=by simpa using f
  have ht:=h.width.1;have b:=El h hL [] rfl (.inr ⟨.inr (.inr (.inr rfl)),rfl⟩);simp only [A6,Aw] at b;have a:=C6 hok (K:=2) (by decide) (by decide);exact Mg hlen hsm hin b (.inl rfl) (fun e=>by rw [ht] at e;cases e) (by rw [ht];decide) (by omega) (by simp) (Gr (K:=2) (tf:=26) a (by rw [ht];decide) (fun _=>rfl) (fun _=> .inr (.inl ⟨rfl,rfl⟩))) (P2 (fun _=>(by decide:inl 26=true)) _) (fun i y t hy hx=>by
   rw [P7 hy hx];exact cT (Lf hv _ (Aq hx)) (a _ (Aq hx)).1)
 | @keys v c vs n u s ks hk h=>
  intro hin hv hok _;obtain⟨l,m,d,f,_,_⟩:=E3 hv;obtain rfl:n=0:=by omega
  obtain rfl:u=0:=by omega
  obtain rfl:s=[]:=by simpa using d
  obtain rfl:ks=[]:=by simpa using f
  have ht:=h.width.1;have b:=El h hL [] rfl (.inr ⟨.inr (.inr (.inl rfl)),rfl⟩);simp only [A6,Aw] at b;have a:=C6 hok (K:=5) (by decide) (by decide);have F:=dU hap hL h hk (fun x hx=>hin x (Ar _ hx)) (fun x hx=>hin x (Bf _ hx));have E:aheadT (v.t:Int)=1:=by rw [ht];decide
  have J:=hk.agr hlen (fun x hx=>hsm x (hin x (Ar _ hx)));refine Mg hlen hsm (fun x hx=>hin x (Bf _ hx)) b (.inl rfl) (fun e=>by rw [ht] at e;cases e) (by rw [ht];decide) (by omega) (by rw [hk.1,As]) (Mh hk (by rw [ht];decide)) (by rw [E];simpa using F) (fun i y t hy hx=>?_);exact qU (Lf hv _ (Aq hx)) (a _ (Aq hx)).2 (a _ (Aq hx)).1 (J.2 i t.s y (by rw [List.getElem?_map,hx];rfl) hy)
 | @fixInts v c n u s ks h=>
  intro hin hv hok _;obtain⟨l,m,d,f,_,_⟩:=E3 hv;obtain rfl:n=0:=by omega
  obtain rfl:u=0:=by omega
  obtain rfl:s=[]:=by simpa using d
  obtain rfl:ks=[]:=by simpa using f
  have ht:=h.width.1;have r:=(Ce hok).2.2.2.1 (.inl rfl);obtain⟨⟨N,O⟩,⟨T,_⟩,⟨U,_⟩⟩:=Mm r;have b:=Mi h hL [] rfl (by rcases r with h|h|h <;>rw [h] <;>simp) (by rw [As];exact N);simp only [A6,Aw] at b;have a:=C6 hok (K:=3) (by decide) (by decide);exact Mg hlen hsm hin b (.inr (by rw [ht,N];omega)) (fun e=>by rw [ht,T] at e;cases e) (by rw [ht];rcases r with h|h|h <;>rw [h] <;>decide) (by omega) (by simp) (Gr (K:=3) (tf:=1) a (by rw [ht];rcases r with h|h|h <;>rw [h] <;>decide) (fun _=>rfl) (fun _=> .inr (.inr (.inl ⟨rfl,rfl⟩)))) (P2 (fun _=>(by decide:inl 1=true)) _) (fun i y t hy hx=>by
   rw [P7 hy hx];exact cR (Lf hv _ (Aq hx)) (a _ (Aq hx)).2 (a _ (Aq hx)).1)
 | @fixUints v c n u s ks h=>
  intro hin hv hok _;obtain⟨l,m,d,f,_,_⟩:=E3 hv;obtain rfl:n=0:=by omega
  obtain rfl:u=0:=by omega
  obtain rfl:s=[]:=by simpa using d
  obtain rfl:ks=[]:=by simpa using f
  have ht:=h.width.1;have r:=(Ce hok).2.2.2.1 (.inr rfl);obtain⟨⟨N,O⟩,⟨T,_⟩,⟨U,_⟩⟩:=Mm r;have b:=Mi h hL [] rfl (by rcases r with h|h|h <;>rw [h] <;>simp) (by rw [As];exact O);simp only [A6,Aw] at b;have a:=C6 hok (K:=4) (by decide) (by decide);exact Mg hlen hsm hin b (.inr (by rw [ht,O];omega)) (fun e=>by rw [ht,U] at e;cases e) (by rw [ht];rcases r with h|h|h <;>rw [h] <;>decide) (by omega) (by simp) (Gr (K:=4) (tf:=2) a (by rw [ht];rcases r with h|h|h <;>rw [h] <;>decide) (fun _=>rfl) (fun _=> .inr (.inr (.inr ⟨rfl,rfl⟩)))) (P2 (fun _=>(by decide:inl 2=true)) _) (fun i y t hy hx=>by
   rw [P7 hy hx];exact X7 (Lf hv _ (Aq hx)) (a _ (Aq hx)).2 (a _ (Aq hx)).1)
 | @vec v c vs pss n u s ks b hp hr h ih=>
  intro hin hv hok z;obtain⟨l,m,d,f,_,_⟩:=E3 hv;obtain rfl:n=0:=by omega
  obtain rfl:u=0:=by omega
  obtain rfl:s=[]:=by simpa using d
  obtain rfl:ks=[]:=by simpa using f
  have ht:=h.width.1;have k:=El h hL [] rfl (.inl ⟨rfl,rfl⟩);simp only [A6,Aw] at k;have E:aheadT (v.t:Int)=1:=by rw [ht];decide
  have aa:v.w≤v.n:=by
   have:=k.ah;rw [E] at this;omega
  have g:∀(i:Nat) t,c[i]?=some t→∃ps,pss[i]?=some ps∧∀x∈ps,x∈log:=fun i t ht=>by
   have p:i<pss.length:=by rw [hp];exact(List.getElem?_eq_some_iff.1 ht).1
   exact⟨pss[i],Ag p,fun x hx=>hin x (Ar _ (Ra.2 ⟨i,_,Ag p,hx⟩))⟩
  have o:∀(i:Nat) x t,vs[i]?=some x→c[i]?=some t→E4 L x t:=fun i x t hx ht=>by
   obtain⟨ps,h1,_⟩:=g i t ht;exact(hr i x t ps hx ht h1).rep
  refine Mg hlen hsm (fun x hx=>hin x (Bf _ hx)) k (.inl rfl) (fun _=>rfl) (by rw [ht];decide) (by omega) b (Nz b o (fun x hx=>((Ce hok).1 x hx).1) (by rw [ht];decide)) (fun y hy=>?_) (fun i y t hy hx=>?_)
  ·obtain⟨i,p,rfl⟩:=List.mem_iff_getElem.1 hy;have I:vs[i]?=some vs[i]:=Ag p;have D:c[i]?=some c[i]:=Ag (by omega);obtain⟨ps,h1,h2⟩:=g i _ D;have e:(v.n:Int)-aheadT (v.t:Int)*v.w=((v.n-v.w:Nat):Int):=by rw [E];omega
   rw [e];refine cS hap (hr i _ _ ps I D h1) h2 ((Ce hok).1 _ (List.getElem_mem _)).1 (hin _ (Bf _ (oY _ _ _))) (.inr rfl) (fun hin=>?_);have:=lM h _ hy hin;rw [if_pos rfl] at this;omega
  ·obtain⟨ps,h1,h2⟩:=g i t hx;exact ih i y t ps hy hx h1 h2 (Lf hv _ (Aq hx)) ((Ce hok).1 _ (Aq hx)).1 ((gN z).2 _ (Aq hx))
 | @map v kv c ks kvs vs pss n u s hk hv' b hp hr h ih=>
  intro hin hv hok z;obtain⟨l,m,d,_,_,_⟩:=E3 hv;obtain rfl:n=0:=by omega
  obtain rfl:u=0:=by omega
  obtain rfl:s=[]:=by simpa using d
  have ht:=h.width.1;obtain⟨B,Z⟩:=hv'.width;have q:inl kv.t=false:=by rw [B];decide
  have k:=Vg h q hL [] rfl;have R:=El hv' hL [] rfl (.inr ⟨.inr (.inr (.inl rfl)),rfl⟩);have S:=h.facts q hL [];simp only [A6,Aw] at k R S;obtain⟨cc,Y,P,W,X,Q,_,_⟩:=S.head;rw [Nat.zero_add] at P Q;have hw:=h.width.2;have E:aheadT (v.t:Int)=3:=by rw [ht];decide
  have G:∀x∈Hp ks kvs,x∈log:=fun x hx=>hin x (Ar _ (Ar _ (Ar _ hx)))
  have C:∀x∈Gh true false kvs kv,x∈log:=fun x hx=>hin x (Ar _ (Bf _ hx))
  have j:∀x∈Nn vs v,x∈log:=fun x hx=>hin x (Bf _ hx)
  have ad:=j;have H:=C;unfold Nn at j;unfold Gh at C;have g:∀(i:Nat) t,c[i]?=some t→∃ps,pss[i]?=some ps∧∀x∈ps,x∈log:=fun i t ht=>by
   have p:i<pss.length:=by rw [hp];exact(List.getElem?_eq_some_iff.1 ht).1
   exact⟨pss[i],Ag p,fun x hx=>hin x (Ar _ (Ar _ (Bf _ (Ra.2 ⟨i,_,Ag p,hx⟩))))⟩
  have o:∀(i:Nat) x t,vs[i]?=some x→c[i]?=some t→E4 L x t:=fun i x t hx ht=>by
   obtain⟨ps,h1,_⟩:=g i t ht;exact(hr i x t ps hx ht h1).rep
  have M:Cn L cc v.w kv:=⟨hw,by unfold Da;rw [if_neg (by rw [q];decide)];exact P,(⟨fun e=>(by rw [q] at e;cases e),fun _=>⟨W,X⟩⟩:_∧_)⟩;have V:(((v.n-3*v.w:Nat):Int),((v.n-2*v.w:Nat):Int),(5:Int))∈log:=j _ (Ar _ (Ar _ (by simp)));have p7:(((v.n-2*v.w:Nat):Int),((v.n-v.w:Nat):Int),(7:Int))∈log:=j _ (Ar _ (Ar _ (by simp)));have p6:(((v.n-v.w:Nat):Int),(v.n:Int),(6:Int))∈log:=j _ (Ar _ (Ar _ (by simp)));refine .map ht (k.agr hlen (fun x hx=>hsm _ (j _ (Ar _ (Bf _ hx)))) (fun _ x hx=>hsm _ (j _ (Bf _ hx))) (fun _=>hsm _ p6)) b (Nz b o (fun x hx=>((Ce hok).1 x hx).1) (by rw [ht];decide)) (fun y hy=>?_) Y B
   (R.agr hlen (fun x hx=>hsm _ (C _ (Ar _ (Bf _ hx)))) (fun e=>by rw [B] at e;cases e) (fun _=>hsm _ (H _ (oY _ _ _)))) (hk.agr hlen fun x hx=>hsm x (G x hx)) ((Ce hok).2.2.2.2.2.2 rfl) (fun s hs=>gU ((Ce hok).2.2.1 s hs)) ((gN z).1 rfl) (dU hap hL hv' hk G H)
   (M.agr hlen (hsm _ V) (by omega) (by omega)) (Q.part hlen (hsm _ p7) (by omega) (by rw [Bo];omega)) (fun i y t hy hx=>?_)
  ·obtain⟨i,p,rfl⟩:=List.mem_iff_getElem.1 hy;have I:vs[i]?=some vs[i]:=Ag p;have D:c[i]?=some c[i]:=Ag (by omega);obtain⟨ps,h1,h2⟩:=g i _ D;have e:(cc:Int)=((v.n-3*v.w:Nat):Int):=by omega
   rw [e];refine cS hap (hr i _ _ ps I D h1) h2 ((Ce hok).1 _ (List.getElem_mem _)).1 V (.inl rfl) (fun hin=>?_);have:=Aa9 h _ hy hin;omega
  ·obtain⟨ps,h1,h2⟩:=g i t hx;exact ih i y t ps hy hx h1 h2 (Lf hv _ (Aq hx)) ((Ce hok).1 _ (Aq hx)).1 ((gN z).2 _ (Aq hx))
def dl1:Array MapEntry:=#[⟨Aa Ab 10,Aa Ab 10,0⟩]
def dl2:Array MapEntry:=#[⟨Aa Ab 10,Aa Ab 10,0⟩,⟨Aa Ab 11,Aa Ab 11,1⟩]
def dl3:Array MapEntry:=#[⟨Aa Ab 10,Aa Ab 10,0⟩,⟨Aa Ab 11,Aa Ab 11,1⟩,⟨Aa Ab 12,Aa Ab 12,2⟩]
def dl4:Array MapEntry:=#[⟨Aa Ab 10,Aa Ab 10,0⟩,⟨Aa Ab 11,Aa Ab 11,1⟩,⟨Aa Ab 12,Aa Ab 12,2⟩,⟨Aa Ab 14,Aa Ab 13,3⟩]
def dl5:Array MapEntry:=#[⟨Aa Ab 10,Aa Ab 10,0⟩,⟨Aa Ab 11,Aa Ab 11,1⟩,⟨Aa Ab 12,Aa Ab 12,2⟩,⟨Aa Ab 14,Aa Ab 13,3⟩,⟨Aa Ab 36,Aa Ab 14,4⟩]
def jV:Array MapEntry:=#[⟨Aa Ab 10,Aa Ab 10,0⟩,⟨Aa Ab 11,Aa Ab 11,1⟩,⟨Aa Ab 12,Aa Ab 12,2⟩,⟨Aa Ab 14,Aa Ab 13,3⟩,⟨Aa Ab 36,Aa Ab 14,4⟩,⟨Aa Ab 9,Aa Ab 17,5⟩]
theorem Zh{t:Int}(h:K5 t=true):t=9∨t=10∨t=11∨t=12∨t=14∨t=36∨(t=16∨t=19∨t=22)∨t=17∨t=20∨t=23:=by
 cases e:Lt t with
 |false=>
  have h9:¬(t=9∨t=10):=by
   rintro(rfl|rfl) <;>cases e
  simp [K5,Tn,Yr e,h9] at h
 |true=>exact Lc (p:=fun t=>K5 t=true→t=9∨t=10∨t=11∨t=12∨t=14∨t=36∨(t=16∨t=19∨t=22)∨t=17∨t=20∨t=23) (by decide) e h
theorem Aam{t:Int}(h:K5 t=true):∃(k:Int) (b:Bool),((b=true∧Cs t=k∧Df t=0)∨(b=false∧((E9 t=1∧Cs t=15)∨(E9 t≠1∧Cs t=16))))∧∀(W:World) (g:Nat),W.heap[g]?=some (.map jV 6)→
  (Instr.lookup 184 (.map (some g)) (Aa Ab t) true).run Ad W= .ok (.tuple #[Aa Ab k,.bool b]) W:=by
 have c:∀W:World,(zeroValue 3).run Ad W= .ok (Aa Ab 0) W:=by intro W;go_simp
 have a:∀(t:Int) (r:Option (Nat×Value)) (W:World) (g:Nat),Instr.findNow (.int .i64) (Aa Ab t) jV.toList 0=some r→W.heap[g]?=some (.map jV 6)→(Instr.lookup 184 (.map (some g)) (Aa Ab t) true).run Ad W= .ok (.tuple #[(r.map (·.2)).getD (Aa Ab 0),.bool r.isSome]) W:=by
  intro t r W g h hb;exact Oy underlying184 underlying3 (Aa Ab 0) c W jV 6 g t true r hb h
 rcases Zh h with rfl|rfl|rfl|rfl|rfl|rfl|(rfl|rfl|rfl)|rfl|rfl|rfl
 ·exact⟨17,true,.inl ⟨rfl,by decide,by decide⟩,fun W g hb=>a _ (some (5,Aa Ab 17)) W g rfl hb⟩
 ·exact⟨10,true,.inl ⟨rfl,by decide,by decide⟩,fun W g hb=>a _ (some (0,Aa Ab 10)) W g rfl hb⟩
 ·exact⟨11,true,.inl ⟨rfl,by decide,by decide⟩,fun W g hb=>a _ (some (1,Aa Ab 11)) W g rfl hb⟩
 ·exact⟨12,true,.inl ⟨rfl,by decide,by decide⟩,fun W g hb=>a _ (some (2,Aa Ab 12)) W g rfl hb⟩
 ·exact⟨13,true,.inl ⟨rfl,by decide,by decide⟩,fun W g hb=>a _ (some (3,Aa Ab 13)) W g rfl hb⟩
 ·exact⟨14,true,.inl ⟨rfl,by decide,by decide⟩,fun W g hb=>a _ (some (4,Aa Ab 14)) W g rfl hb⟩
 all_goals exact⟨0,false,.inr ⟨rfl,by decide⟩,fun W g hb=>a _ none W g rfl hb⟩
theorem Q2(w:World):Calls Ad 321 #[] w fun e w'=>∃g,e= .returned (.map (some g))∧w'.heap[g]?=some (.map jV 6)∧Below w.heap.size w w':=by
 have h0:=run_makeMap (P:=Ad) 184;have h1:∀(W:World) (es:Array MapEntry) (c:Nat) (x:Int) (v:Value),Instr.findNow (.int .i64) (.int .i64 x) es.toList 0=some none→(Ba 184 (.map (some W.heap.size)) (.int .i64 x) v).run Ad (W.alloc (.map es c))= .ok () (W.alloc (.map (es.push { key:= .int .i64 x,val:=v,born:=c}) (c+1))):=
  fun W es c x v h=>Qc underlying184 underlying3 W es c _ x v rfl h
 have a:∀W:World,(Ba 184 (.map (some W.heap.size)) (.int .i64 10) (.int .i64 10)).run Ad (W.alloc (.map #[] 0))= .ok () (W.alloc (.map dl1 1)):=fun W=>h1 W #[] 0 10 _ rfl
 have b:∀W:World,(Ba 184 (.map (some W.heap.size)) (.int .i64 11) (.int .i64 11)).run Ad (W.alloc (.map dl1 1))= .ok () (W.alloc (.map dl2 2)):=fun W=>h1 W dl1 1 11 _ rfl
 have d:∀W:World,(Ba 184 (.map (some W.heap.size)) (.int .i64 12) (.int .i64 12)).run Ad (W.alloc (.map dl2 2))= .ok () (W.alloc (.map dl3 3)):=fun W=>h1 W dl2 2 12 _ rfl
 have f:∀W:World,(Ba 184 (.map (some W.heap.size)) (.int .i64 14) (.int .i64 13)).run Ad (W.alloc (.map dl3 3))= .ok () (W.alloc (.map dl4 4)):=fun W=>h1 W dl3 3 14 _ rfl
 have i:∀W:World,(Ba 184 (.map (some W.heap.size)) (.int .i64 36) (.int .i64 14)).run Ad (W.alloc (.map dl4 4))= .ok () (W.alloc (.map dl5 5)):=fun W=>h1 W dl4 4 36 _ rfl
 have j:∀W:World,(Ba 184 (.map (some W.heap.size)) (.int .i64 9) (.int .i64 17)).run Ad (W.alloc (.map dl5 5))= .ok () (W.alloc (.map jV 6)):=fun W=>h1 W dl5 5 9 _ rfl
 clear h1;go_enter func321,ntmps321;go_wp2;go_ret;exact⟨_,rfl,heap_alloc_new w _,(Below.refl _ _).alloc (Nat.le_refl _) _⟩
theorem oK(t:Int)(w:World)(h:K5 t=true):Calls Ad 269 #[Aa Ab t] w (Afc (.tuple #[Aa Ab (Cs t),Aa Ab (Df t)]) w):=by
 obtain⟨A,j⟩:∃k,Cs t=k:=⟨_,rfl⟩;obtain⟨m,s⟩:∃k,Df t=k:=⟨_,rfl⟩;obtain⟨x,i⟩:∃k,E9 t=k:=⟨_,rfl⟩;obtain⟨k,b,r,v⟩:=Aam h;have l:=Hd (fun W=>K2 t W);rw [s,i] at l;rw [j,s,i] at r;rw [j,s];have n:=Hd v;clear h v j s i;rcases r with⟨rfl,rfl,rfl⟩|⟨rfl,r⟩
 ·go_enter func269,ntmps269;go_wp2_with fail;go_at_call 321;refine(Q2 _).mono ?_;rintro e q ⟨g,rfl,c,a⟩;have p:=n.o q g c;have d:=Hd a;clear a c l n;go_wp2_with fail;go_ret2;exact⟨rfl,d.o⟩
 ·rcases r with⟨rfl,rfl⟩|⟨u,rfl⟩
  ·go_enter func269,ntmps269;go_wp2_with fail;go_at_call 321;refine(Q2 _).mono ?_;rintro e q ⟨g,rfl,c,a⟩;have p:=n.o q g c;have d:=Hd a;clear a c n;go_wp2_with fail;go_at_call 272;refine(l.o _).mono ?_;rintro e z ⟨rfl,a⟩;have f:=Hd (Bi d.o a);clear a d l;go_wp2_with fail;go_ret2;exact⟨rfl,f.o⟩
  ·have y:(x==1)=false:=beq_eq_false_iff_ne.mpr u;clear u;go_enter func269,ntmps269;go_wp2_with fail;go_at_call 321;refine(Q2 _).mono ?_;rintro e q ⟨g,rfl,c,a⟩;have p:=n.o q g c;have d:=Hd a;clear a c n;go_wp2_with fail;go_at_call 272;refine(l.o _).mono ?_;rintro e z ⟨rfl,a⟩;have f:=Hd (Bi d.o a);clear a d l;go_wp2_with fail;go_ret2;exact⟨rfl,f.o⟩
def dk1:Array MapEntry:=#[⟨Aa Ab 0,.func (.func 262) #[] #[],0⟩]
def dk2:Array MapEntry:=#[⟨Aa Ab 0,.func (.func 262) #[] #[],0⟩,⟨Aa Ab 1,.func (.func 263) #[] #[],1⟩]
def dk3:Array MapEntry:=#[⟨Aa Ab 0,.func (.func 262) #[] #[],0⟩,⟨Aa Ab 1,.func (.func 263) #[] #[],1⟩,⟨Aa Ab 2,.func (.func 264) #[] #[],2⟩]
def dk4:Array MapEntry:=#[⟨Aa Ab 0,.func (.func 262) #[] #[],0⟩,⟨Aa Ab 1,.func (.func 263) #[] #[],1⟩,⟨Aa Ab 2,.func (.func 264) #[] #[],2⟩,⟨Aa Ab 26,.func (.func 265) #[] #[],3⟩]
def dk5:Array MapEntry:=#[⟨Aa Ab 0,.func (.func 262) #[] #[],0⟩,⟨Aa Ab 1,.func (.func 263) #[] #[],1⟩,⟨Aa Ab 2,.func (.func 264) #[] #[],2⟩,⟨Aa Ab 26,.func (.func 265) #[] #[],3⟩,⟨Aa Ab 4,.func (.func 266) #[] #[],4⟩]
def dk6:Array MapEntry:=#[⟨Aa Ab 0,.func (.func 262) #[] #[],0⟩,⟨Aa Ab 1,.func (.func 263) #[] #[],1⟩,⟨Aa Ab 2,.func (.func 264) #[] #[],2⟩,⟨Aa Ab 26,.func (.func 265) #[] #[],3⟩,⟨Aa Ab 4,.func (.func 266) #[] #[],4⟩,⟨Aa Ab 5,.func (.func 267) #[] #[],5⟩]
def dk7:Array MapEntry:=#[⟨Aa Ab 0,.func (.func 262) #[] #[],0⟩,⟨Aa Ab 1,.func (.func 263) #[] #[],1⟩,⟨Aa Ab 2,.func (.func 264) #[] #[],2⟩,⟨Aa Ab 26,.func (.func 265) #[] #[],3⟩,⟨Aa Ab 4,.func (.func 266) #[] #[],4⟩,⟨Aa Ab 5,.func (.func 267) #[] #[],5⟩,⟨Aa Ab 25,.func (.func 267) #[] #[],6⟩]
def dk8:Array MapEntry:=#[⟨Aa Ab 0,.func (.func 262) #[] #[],0⟩,⟨Aa Ab 1,.func (.func 263) #[] #[],1⟩,⟨Aa Ab 2,.func (.func 264) #[] #[],2⟩,⟨Aa Ab 26,.func (.func 265) #[] #[],3⟩,⟨Aa Ab 4,.func (.func 266) #[] #[],4⟩,⟨Aa Ab 5,.func (.func 267) #[] #[],5⟩,⟨Aa Ab 25,.func (.func 267) #[] #[],6⟩,⟨Aa Ab 6,.func (.func 268) #[] #[],7⟩]
def jU:Array MapEntry:=#[⟨Aa Ab 0,.func (.func 262) #[] #[],0⟩,⟨Aa Ab 1,.func (.func 263) #[] #[],1⟩,⟨Aa Ab 2,.func (.func 264) #[] #[],2⟩,⟨Aa Ab 26,.func (.func 265) #[] #[],3⟩,⟨Aa Ab 4,.func (.func 266) #[] #[],4⟩,⟨Aa Ab 5,.func (.func 267) #[] #[],5⟩,⟨Aa Ab 25,.func (.func 267) #[] #[],6⟩,⟨Aa Ab 6,.func (.func 268) #[] #[],7⟩,⟨Aa Ab 7,.func (.func 268) #[] #[],8⟩]
def Acx(t:Int):Option Nat:=if t=0 then some 262 else if t=1 then some 263 else if t=2 then some 264 else if t=26 then some 265 else if t=4 then some 266 else if t=5∨t=25 then some 267 else if t=6∨t=7 then some 268 else none
def Sn(t:Int):Value:=match Acx t with|some f=> .func (.func f) #[] #[]|none=> .nilFunc
theorem vX(W:World):(zeroValue 197).run Ad W= .ok .nilFunc W:=by
 revert W;intro W
 kernel_rfl
theorem X6(t:Int)(W:World)(g:Nat)(hb:W.heap[g]?=some (.map jU 9)):
  (Instr.lookup 198 (.map (some g)) (Aa Ab t) false).run Ad W= .ok (Sn t) W:=by
 have a:∀(t:Int) (r:Option (Nat×Value)),Instr.findNow (.int .i64) (Aa Ab t) jU.toList 0=some r→(r.map (·.2)).getD .nilFunc=Sn t→(Instr.lookup 198 (.map (some g)) (Aa Ab t) false).run Ad W= .ok (Sn t) W:=by
  intro t r h s;rw [Oy underlying198 underlying3 .nilFunc vX W jU 9 g t false r hb h,←s];rfl
 by_cases h0:t=0
 ·subst h0;exact a _ _ rfl rfl
 by_cases h1:t=1
 ·subst h1;exact a _ _ rfl rfl
 by_cases h2:t=2
 ·subst h2;exact a _ _ rfl rfl
 by_cases h3:t=26
 ·subst h3;exact a _ _ rfl rfl
 by_cases b:t=4
 ·subst b;exact a _ _ rfl rfl
 by_cases c:t=5
 ·subst c;exact a _ _ rfl rfl
 by_cases d:t=25
 ·subst d;exact a _ _ rfl rfl
 by_cases e:t=6
 ·subst e;exact a _ _ rfl rfl
 by_cases f:t=7
 ·subst f;exact a _ _ rfl rfl
 refine a t none ?_ ?_
 ·have i:(t==0)=false:=by simpa using h0
  have j:(t==1)=false:=by simpa using h1
  have k:(t==2)=false:=by simpa using h2
  have l:(t==26)=false:=by simpa using h3
  have m:(t==4)=false:=by simpa using b
  have n:(t==5)=false:=by simpa using c
  have o:(t==25)=false:=by simpa using d
  have p:(t==6)=false:=by simpa using e
  have q:(t==7)=false:=by simpa using f
  simp only [jU,Instr.findNow,Instr.sameNow,if_true,i,j,k,l,m,n,o,p,q]
 ·simp [Sn,Acx,h0,h1,h2,h3,b,c,d,e,f]
theorem Q5(w:World):Calls Ad 158 #[] w fun e w'=>∃g,e= .returned (.map (some g))∧w'.heap[g]?=some (.map jU 9)∧Below w.heap.size w w':=by
 have h0:=run_makeMap (P:=Ad) 198;have h1:∀(W:World) (es:Array MapEntry) (c:Nat) (x:Int) (v:Value),Instr.findNow (.int .i64) (.int .i64 x) es.toList 0=some none→(Ba 198 (.map (some W.heap.size)) (.int .i64 x) v).run Ad (W.alloc (.map es c))= .ok () (W.alloc (.map (es.push { key:= .int .i64 x,val:=v,born:=c}) (c+1))):=
  fun W es c x v h=>Qc underlying198 underlying3 W es c _ x v rfl h
 have a:∀W:World,(Ba 198 (.map (some W.heap.size)) (.int .i64 0) (.func (.func 262) #[] #[])).run Ad (W.alloc (.map #[] 0))= .ok () (W.alloc (.map dk1 1)):=fun W=>h1 W #[] 0 0 _ rfl
 have b:∀W:World,(Ba 198 (.map (some W.heap.size)) (.int .i64 1) (.func (.func 263) #[] #[])).run Ad (W.alloc (.map dk1 1))= .ok () (W.alloc (.map dk2 2)):=fun W=>h1 W dk1 1 1 _ rfl
 have d:∀W:World,(Ba 198 (.map (some W.heap.size)) (.int .i64 2) (.func (.func 264) #[] #[])).run Ad (W.alloc (.map dk2 2))= .ok () (W.alloc (.map dk3 3)):=fun W=>h1 W dk2 2 2 _ rfl
 have f:∀W:World,(Ba 198 (.map (some W.heap.size)) (.int .i64 26) (.func (.func 265) #[] #[])).run Ad (W.alloc (.map dk3 3))= .ok () (W.alloc (.map dk4 4)):=fun W=>h1 W dk3 3 26 _ rfl
 have i:∀W:World,(Ba 198 (.map (some W.heap.size)) (.int .i64 4) (.func (.func 266) #[] #[])).run Ad (W.alloc (.map dk4 4))= .ok () (W.alloc (.map dk5 5)):=fun W=>h1 W dk4 4 4 _ rfl
 have j:∀W:World,(Ba 198 (.map (some W.heap.size)) (.int .i64 5) (.func (.func 267) #[] #[])).run Ad (W.alloc (.map dk5 5))= .ok () (W.alloc (.map dk6 6)):=fun W=>h1 W dk5 5 5 _ rfl
 have k:∀W:World,(Ba 198 (.map (some W.heap.size)) (.int .i64 25) (.func (.func 267) #[] #[])).run Ad (W.alloc (.map dk6 6))= .ok () (W.alloc (.map dk7 7)):=fun W=>h1 W dk6 6 25 _ rfl
 have l:∀W:World,(Ba 198 (.map (some W.heap.size)) (.int .i64 6) (.func (.func 268) #[] #[])).run Ad (W.alloc (.map dk7 7))= .ok () (W.alloc (.map dk8 8)):=fun W=>h1 W dk7 7 6 _ rfl
 have m:∀W:World,(Ba 198 (.map (some W.heap.size)) (.int .i64 7) (.func (.func 268) #[] #[])).run Ad (W.alloc (.map dk8 8))= .ok () (W.alloc (.map jU 9)):=fun W=>h1 W dk8 8 7 _ rfl
 clear h1;go_enter func158,ntmps158;go_wp2;go_ret;exact⟨_,rfl,heap_alloc_new w _,(Below.refl _ _).alloc (Nat.le_refl _) _⟩
theorem qQ(f:Nat)(W:World):(binOp .eql 197 (.func (.func f) #[] #[]) .nilFunc).run Ad W= .ok (.bool false) W:=by
 revert f W;intro f W
 kernel_rfl
theorem Aal(W:World):(binOp .eql 197 .nilFunc .nilFunc).run Ad W= .ok (.bool true) W:=by
 revert W;intro W
 kernel_rfl
theorem Abo(A:Option Addr)(n c:Nat)(p q t v lim:Int)(f:Nat)(xk xn:Int)(xu:Nat)(xs:List UInt8)(XA:Option Addr)(xan xac:Nat)(XB:Option Addr)(xbn xbc:Nat)(w:World)(hq:Bz q=true)(hv:Bz v=true)(ht:Cb t=true)(hi:Bq t=true)(hf:Sn t= .func (.func f) #[] #[])
  (hcf:∀(xs:Array Value) (W:World),(callFunc f xs).run Ad W= .ok (.enter f xs) W)
  (hcall:∀W,Below w.heap.size w W→Calls Ad f #[.slice A n c,.agg (Afg p q t v),Aa Ab 0,.agg (Aff xk xn xu xs XA xan xac XB xbn xbc)] W (Afc (.bool true) W)):
  Calls Ad 87 #[.slice A n c,.agg (Afg p q t v),Aa Ab lim,.agg (Aff xk xn xu xs XA xan xac XB xbn xbc)] w (Afc (.bool true) w):=by
 have L:=qQ f;have B:=Hd hcall;have I:=Hd hf;have H:=Hd ht;have F:=Hd hi;have h:=Hd (Bu w (.cells (Afg p q t v) 70) (.cells (Aff xk xn xu xs XA xan xac XB xbn xbc) 34));have d:=Hd ((Bk.new w 70 (Afg p q t v)).alloc (.cells (Aff xk xn xu xs XA xan xac XB xbn xbc) 34));have b:=Hd (Bk.new_ (w:=w.alloc (.cells (Afg p q t v) 70)) (g:=w.heap.size+1) (by simp) 34 (Aff xk xn xu xs XA xan xac XB xbn xbc));have G:=Hd hq;have J:=Hd hv;clear hcall hf ht hi hq hv;go_enter func87,ntmps87;go_upto_region 1 with fail
 generalize (w.alloc (.cells (Afg p q t v) 70)).alloc (.cells (Aff xk xn xu xs XA xan xac XB xbn xbc) 34)=w1 at h d b⊢;generalize C:w.heap.size=bt at d b⊢;generalize bt+1=bs at b⊢;clear C;obtain ⟨u,x,i,y⟩:=d.o.c4;obtain ⟨j,k,l,m,r,s⟩:=b.o.c6;go_wp2_with fail;go_at_call 32;refine(Fy q _ G.o).mono ?_;rintro e w' ⟨⟨N,rfl⟩,rfl⟩;go_wp2_with fail;go_at_call 32;refine(Fy v _ J.o).mono ?_;rintro e w' ⟨⟨O,rfl⟩,rfl⟩;go_wp2_with fail;go_at_call 86;refine(Gd t _).mono ?_;rintro e M ⟨rfl,a⟩;rw [H.o];replace h:=Hd (Bi h.o a);replace d:=Hd (d.o.pure a);replace b:=Hd (b.o.pure a);clear a u x i y j k l m r s;obtain ⟨u,x,i,y⟩:=d.o.c4;obtain ⟨j,k,l,m,r,s⟩:=b.o.c6;go_upto_region 5 with fail
 go_region_held3 (fun w'=>w'.cell? ⟨bt,2,none⟩=some (Aa Ab t)) (first|with_reducible exact i|with_reducible exact Bj i) (first|(go_at_call 158;(with_reducible refine(Q5 _).mono ?_);rintro e E ⟨g,rfl,K,z⟩;have D:=X6 t E g K;rw [I.o] at D;have a:=C1 (Li M) z;replace h:=Hd (Bi h.o a);replace d:=Hd (d.o.pure a);replace b:=Hd (b.o.pure a);clear u x i y j k l m r s a z;have i:E.cell? ⟨bt,2,none⟩=some (Aa Ab t):=d.o.cell 2));obtain ⟨u,x,i,y⟩:=d.o.c4;obtain ⟨j,k,l,m,r,s⟩:=b.o.c6;go_wp2_with fail;go_at_call 78;refine(Cz t _).mono ?_;rintro e P ⟨rfl,a⟩;rw [F.o];replace h:=Hd (Bi h.o a);replace d:=Hd (d.o.pure a);replace b:=Hd (b.o.pure a);clear a u x i y j k l m r s;obtain ⟨u,x,i,y⟩:=d.o.c4;obtain ⟨j,k,l,m,r,s⟩:=b.o.c6;go_wp2_with fail;refine(B.o _ h.o).mono ?_;rintro e Q ⟨rfl,a⟩;replace h:=Hd (Bi h.o a);clear a;go_wp2_with fail;go_ret;exact⟨rfl,h.o⟩
theorem fQ(A:Option Addr)(n c:Nat)(p q t v lim:Int)(u:Nat)(l:List UInt8)(f:Nat)(xk xn:Int)(xu:Nat)(xs:List UInt8)(XA:Option Addr)(xan xac:Nat)(XB:Option Addr)(xbn xbc:Nat)(w:World)(hq:Bz q=true)(hv:Bz v=true)(ht:Cb t=true)(hi:Bq t=false)(hf:Sn t= .func (.func f) #[] #[]∨(Sn t= .nilFunc∧f=159))
  (hcf:∀(xs:Array Value) (W:World),(callFunc f xs).run Ad W= .ok (.enter f xs) W)
  (hl:Cv w A n l) (hc:n≤c) (hn:n≤4294967296) (h1:Cy n p q=0) (h2:loadU l p q=u) (hu:u<4294967296) (h0:(u:Int)≤p) (hp:p≤4294967296) (hlim:p-u-G9 t*v<lim)
  (hcall:∀W,Below w.heap.size w W→Calls Ad f #[.slice A n c,.agg (Afg p q t v),Aa Ab (p-u),.agg (Aff xk xn xu xs XA xan xac XB xbn xbc)] W (Afc (.bool true) W)):
  Calls Ad 87 #[.slice A n c,.agg (Afg p q t v),Aa Ab lim,.agg (Aff xk xn xu xs XA xan xac XB xbn xbc)] w (Afc (.bool true) w):=by
 have M:=Hd (fun W (hb:Below w.heap.size w W)=>K1 A n c p q u l W (hl.pure hb) hc hn h1 h2 hu);obtain⟨E,F⟩:∃a,G9 t=a:=⟨_,rfl⟩;have H:0≤E∧E≤3:=by
  rw [←F];unfold G9;split
  ·omega
  ·split <;>omega
 have N:1≤v∧v≤8:=by have:=Cr.1 hv;omega
 have V:0≤E*v∧E*v≤24:=⟨Int.mul_nonneg H.1 (by omega),by
  have:=Int.mul_le_mul H.2 N.2 (by omega) (by omega);omega⟩
 rw [F] at hlim;have L:=Hd F;have af:IntKind.i64.wrap (p-(u:Int))=p-(u:Int):=Ao _ (by omega);have ag:IntKind.i64.wrap (E*v)=E*v:=Ao _ (by omega);have ai:IntKind.i64.wrap (p-(u:Int)-E*v)=p-(u:Int)-E*v:=Ao _ (by omega);have ae:decide (p<(u:Int))=false:=decide_eq_false (by omega);have ad:decide (lim≤p-(u:Int)-E*v)=false:=decide_eq_false (by omega);clear hl h1 h2 hu h0 hp hlim F H N V;rcases hf with hf|⟨hf,rfl⟩
 ·have X:=qQ f;have G:=Hd hcall;have S:=Hd hf;have R:=Hd ht;have P:=Hd hi;have h:=Hd (Bu w (.cells (Afg p q t v) 70) (.cells (Aff xk xn xu xs XA xan xac XB xbn xbc) 34));have b:=Hd ((Bk.new w 70 (Afg p q t v)).alloc (.cells (Aff xk xn xu xs XA xan xac XB xbn xbc) 34));have d:=Hd (Bk.new_ (w:=w.alloc (.cells (Afg p q t v) 70)) (g:=w.heap.size+1) (by simp) 34 (Aff xk xn xu xs XA xan xac XB xbn xbc));have Q:=Hd hq;have T:=Hd hv;clear hcall hf ht hi hq hv;go_enter func87,ntmps87;go_upto_region 1 with fail
  generalize (w.alloc (.cells (Afg p q t v) 70)).alloc (.cells (Aff xk xn xu xs XA xan xac XB xbn xbc) 34)=w1 at h b d⊢;generalize I:w.heap.size=bt at b d⊢;generalize bt+1=bs at d⊢;clear I;obtain ⟨j,B,i,k⟩:=b.o.c4;obtain ⟨m,r,s,x,y,z⟩:=d.o.c6;go_wp2_with fail;go_at_call 32;refine(Fy q _ Q.o).mono ?_;rintro e w' ⟨⟨c1,rfl⟩,rfl⟩;go_wp2_with fail;go_at_call 32;refine(Fy v _ T.o).mono ?_;rintro e w' ⟨⟨c2,rfl⟩,rfl⟩;go_wp2_with fail;go_at_call 86;refine(Gd t _).mono ?_;rintro e Y ⟨rfl,hb⟩;rw [R.o];replace h:=Hd (Bi h.o hb);replace b:=Hd (b.o.pure hb);replace d:=Hd (d.o.pure hb);clear hb j B i k m r s x y z;obtain ⟨j,B,i,k⟩:=b.o.c4;obtain ⟨m,r,s,x,y,z⟩:=d.o.c6;go_upto_region 5 with fail
  go_region_held3 (fun w'=>w'.cell? ⟨bt,2,none⟩=some (Aa Ab t)) (first|with_reducible exact i|with_reducible exact Bj i) (first|(go_at_call 158;(with_reducible refine(Q5 _).mono ?_);rintro e O ⟨g,rfl,U,C⟩;have J:=X6 t O g U;rw [S.o] at J;have hb:=C1 (Li Y) C;replace h:=Hd (Bi h.o hb);replace b:=Hd (b.o.pure hb);replace d:=Hd (d.o.pure hb);clear j B i k m r s x y z hb C;have i:O.cell? ⟨bt,2,none⟩=some (Aa Ab t):=b.o.cell 2));obtain ⟨j,B,i,k⟩:=b.o.c4;obtain ⟨m,r,s,x,y,z⟩:=d.o.c6;go_wp2_with fail;go_at_call 78;refine(Cz t _).mono ?_;rintro e w6 ⟨rfl,hb⟩;rw [P.o];replace h:=Hd (Bi h.o hb);replace b:=Hd (b.o.pure hb);replace d:=Hd (d.o.pure hb);clear hb j B i k m r s x y z;obtain ⟨j,B,i,k⟩:=b.o.c4;obtain ⟨m,r,s,x,y,z⟩:=d.o.c6;go_wp2_with fail;go_at_call 160;refine(M.o _ h.o).mono ?_;rintro e Z ⟨rfl,hb⟩;replace h:=Hd (Bi h.o hb);replace b:=Hd (b.o.pure hb);replace d:=Hd (d.o.pure hb);clear hb j B i k m r s x y z;obtain ⟨j,B,i,k⟩:=b.o.c4;obtain ⟨m,r,s,x,y,z⟩:=d.o.c6;go_upto_region 11 with fail
  go_region_held3 (fun w'=>w'.cell? ⟨bt,0,none⟩=some (Aa Ab p)∧w'.cell? ⟨bt,2,none⟩=some (Aa Ab t)∧w'.cell? ⟨bt,3,none⟩=some (Aa Ab v)) (first|with_reducible exact⟨j,i,k⟩|with_reducible exact⟨Bj j,Bj i,Bj k⟩) (first|(go_at_call 161;(with_reducible refine(Uh t _).mono ?_);rintro e K ⟨rfl,D⟩;rw [L.o];have hb:=C1 (Li Z) D;replace h:=Hd (Bi h.o hb);replace b:=Hd (b.o.pure hb);replace d:=Hd (d.o.pure hb);clear j B i k m r s x y z hb D;have j:K.cell? ⟨bt,0,none⟩=some (Aa Ab p):=b.o.cell 0;have i:K.cell? ⟨bt,2,none⟩=some (Aa Ab t):=b.o.cell 2;have k:K.cell? ⟨bt,3,none⟩=some (Aa Ab v):=b.o.cell 3));obtain ⟨j,B,i,k⟩:=b.o.c4;obtain ⟨m,r,s,x,y,z⟩:=d.o.c6;go_wp2_with fail;refine(G.o _ h.o).mono ?_;rintro e w9 ⟨rfl,hb⟩;replace h:=Hd (Bi h.o hb);clear hb;go_wp2_with fail;go_ret;exact⟨rfl,h.o⟩
 ·have X:=Aal;have G:=Hd hcall;have S:=Hd hf;have R:=Hd ht;have P:=Hd hi;have h:=Hd (Bu w (.cells (Afg p q t v) 70) (.cells (Aff xk xn xu xs XA xan xac XB xbn xbc) 34));have b:=Hd ((Bk.new w 70 (Afg p q t v)).alloc (.cells (Aff xk xn xu xs XA xan xac XB xbn xbc) 34));have d:=Hd (Bk.new_ (w:=w.alloc (.cells (Afg p q t v) 70)) (g:=w.heap.size+1) (by simp) 34 (Aff xk xn xu xs XA xan xac XB xbn xbc));have Q:=Hd hq;have T:=Hd hv;clear hcall hf ht hi hq hv;go_enter func87,ntmps87;go_upto_region 1 with fail
  generalize (w.alloc (.cells (Afg p q t v) 70)).alloc (.cells (Aff xk xn xu xs XA xan xac XB xbn xbc) 34)=w1 at h b d⊢;generalize I:w.heap.size=bt at b d⊢;generalize bt+1=bs at d⊢;clear I;obtain ⟨j,B,i,k⟩:=b.o.c4;obtain ⟨m,r,s,x,y,z⟩:=d.o.c6;go_wp2_with fail;go_at_call 32;refine(Fy q _ Q.o).mono ?_;rintro e w' ⟨⟨c1,rfl⟩,rfl⟩;go_wp2_with fail;go_at_call 32;refine(Fy v _ T.o).mono ?_;rintro e w' ⟨⟨c2,rfl⟩,rfl⟩;go_wp2_with fail;go_at_call 86;refine(Gd t _).mono ?_;rintro e Y ⟨rfl,hb⟩;rw [R.o];replace h:=Hd (Bi h.o hb);replace b:=Hd (b.o.pure hb);replace d:=Hd (d.o.pure hb);clear hb j B i k m r s x y z;obtain ⟨j,B,i,k⟩:=b.o.c4;obtain ⟨m,r,s,x,y,z⟩:=d.o.c6;go_upto_region 5 with fail
  go_region_held3 (fun w'=>w'.cell? ⟨bt,2,none⟩=some (Aa Ab t)) (first|with_reducible exact i|with_reducible exact Bj i) (first|(go_at_call 158;(with_reducible refine(Q5 _).mono ?_);rintro e O ⟨g,rfl,U,C⟩;have J:=X6 t O g U;rw [S.o] at J;have hb:=C1 (Li Y) C;replace h:=Hd (Bi h.o hb);replace b:=Hd (b.o.pure hb);replace d:=Hd (d.o.pure hb);clear j B i k m r s x y z hb C;have i:O.cell? ⟨bt,2,none⟩=some (Aa Ab t):=b.o.cell 2));obtain ⟨j,B,i,k⟩:=b.o.c4;obtain ⟨m,r,s,x,y,z⟩:=d.o.c6;go_wp2_with fail;go_at_call 78;refine(Cz t _).mono ?_;rintro e w6 ⟨rfl,hb⟩;rw [P.o];replace h:=Hd (Bi h.o hb);replace b:=Hd (b.o.pure hb);replace d:=Hd (d.o.pure hb);clear hb j B i k m r s x y z;obtain ⟨j,B,i,k⟩:=b.o.c4;obtain ⟨m,r,s,x,y,z⟩:=d.o.c6;go_wp2_with fail;go_at_call 160;refine(M.o _ h.o).mono ?_;rintro e Z ⟨rfl,hb⟩;replace h:=Hd (Bi h.o hb);replace b:=Hd (b.o.pure hb);replace d:=Hd (d.o.pure hb);clear hb j B i k m r s x y z;obtain ⟨j,B,i,k⟩:=b.o.c4;obtain ⟨m,r,s,x,y,z⟩:=d.o.c6;go_upto_region 11 with fail
  go_region_held3 (fun w'=>w'.cell? ⟨bt,0,none⟩=some (Aa Ab p)∧w'.cell? ⟨bt,2,none⟩=some (Aa Ab t)∧w'.cell? ⟨bt,3,none⟩=some (Aa Ab v)) (first|with_reducible exact⟨j,i,k⟩|with_reducible exact⟨Bj j,Bj i,Bj k⟩) (first|(go_at_call 161;(with_reducible refine(Uh t _).mono ?_);rintro e K ⟨rfl,D⟩;rw [L.o];have hb:=C1 (Li Z) D;replace h:=Hd (Bi h.o hb);replace b:=Hd (b.o.pure hb);replace d:=Hd (d.o.pure hb);clear j B i k m r s x y z hb D;have j:K.cell? ⟨bt,0,none⟩=some (Aa Ab p):=b.o.cell 0;have i:K.cell? ⟨bt,2,none⟩=some (Aa Ab t):=b.o.cell 2;have k:K.cell? ⟨bt,3,none⟩=some (Aa Ab v):=b.o.cell 3));obtain ⟨j,B,i,k⟩:=b.o.c4;obtain ⟨m,r,s,x,y,z⟩:=d.o.c6;go_wp2_with fail;refine(G.o _ h.o).mono ?_;rintro e w9 ⟨rfl,hb⟩;replace h:=Hd (Bi h.o hb);clear hb;go_wp2_with fail;go_ret;exact⟨rfl,h.o⟩
end Go.Proofs.YtejpbijeifjdeaaGreat
