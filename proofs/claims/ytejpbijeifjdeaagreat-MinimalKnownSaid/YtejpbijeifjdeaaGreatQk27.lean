/- Parts of the proof. -/
import Derived.Test.YtejpbijeifjdeaaGreatQk26
import Derived.Deep.RegionLaw
set_option maxHeartbeats 4000000
set_option maxRecDepth 100000
open Go.Value renaming int→Aa
open Go.IntKind renaming i64→Ab,u64→Ac
open Nat renaming le_refl→Ae,le_trans→Am
open Go.RowKit.Below renaming refl→Af
open Go.IntWalk renaming i64_in→Ag
open List renaming getElem?_eq_getElem→Aj,length_cons→Av
open Go.Proofs.Tryz
open Go.Proofs.Tryz renaming prog→Ad
namespace Go.Proofs.YtejpbijeifjdeaaGreat
open Go.RowKit Go.Acc
variable {n a b:Int}{u k:Nat}{c:List Tr}{ks:List (List UInt8)}{w:World}{p:Nat→Prop}{cs:Array Value}{vs:List Nv}{s s':Bk}{l:List UInt8}{H H':List P3}{t:TypeId}
theorem Ot{k:Int}{s:List UInt8}(h1:1≤k∧k≤9∧k≠5)(hn:(-9223372036854775808≤n∧n≤9223372036854775807)∧u<18446744073709551616):Fy (.mk k n u s [] [])∧Gb (.mk k n u s [] []):=by
 refine⟨.leaf _ _ _ h1.1 h1.2.1 hn (fun h=>absurd h h1.2.2),?_⟩;intro M a b x w o p c i g d j f;have e:Bd.calls (bits a) (.mk k n u s [] []) b=b.leaf (bits a) k n u s:=by rw [Bd.calls,if_neg (by omega),if_neg (by omega),if_pos h1.2.1]
 rw [e];exact dU M a b x k n u s [] [] w o p c d h1.1 h1.2.1 hn (fun h=>absurd h h1.2.2) (by unfold Tr.cost at f;omega)
theorem fV(h:∀t∈c,Fy t∧Gb t):Fy (.mk 10 0 0 [] [] c)∧Gb (.mk 10 0 0 [] [] c):=
 ⟨.vec _ _ _ _ fun t ht=>(h t ht).1,aU 0 0 [] [] c (fun t ht=>(h t ht).1) (fun t ht=>(h t ht).2)⟩
theorem eF(hl:ks.length=c.length)(h0:∀x∈ks,C3 x=false)(hu:ks.Pairwise (· < ·))(h:∀t∈c,Fy t∧Gb t):Fy (.mk 17 0 0 [] ks c)∧Gb (.mk 17 0 0 [] ks c):=
 ⟨.map _ _ _ hl h0 hu fun t ht=>(h t ht).1,aT 0 0 [] ks c hl h0 hu (fun t ht=>(h t ht).1) (fun t ht=>(h t ht).2)⟩
theorem pT{k:Int}{s:List UInt8}(hk15:k=15)(h:∀t∈c,bI t)(hf:c.length=2∨c.length=3∨c.length=4):Gb (.mk k n u s ks c):=by
 intro M d b x w o p l C B hR E m;have e:Bd.calls (bits d) (.mk k n u s ks c) b=b.flat (bits d) k c:=by rw [Bd.calls,if_neg (by omega),if_neg (by omega),if_neg (by omega)]
 rw [e];obtain⟨D,_,_,_,_,a⟩:=hR.fields;have a:c.length=x.bn:=a;cases hR with
 | @mk _ _ _ vs _ _ _ _ hI _ _ _ hl hc=>
  have i:=uJ hl hc (f:=Tr.n) (g:=Nv.n) (fun v t r=>r.fields.2.1);have hcl:=Ke c;have q:b.b.length+b.s.length+b.keys.length+b.names.length≤b.size:=by unfold Bd.size;omega
  unfold Tr.cost at m;have A:c.map (fun t=>Ei t.n)=(vs.map Nv.n).map Ei:=by rw [←i,List.map_map];rfl
  have j:b.flat (bits d) x.k c=b.vec (10+3*x.bn) false false ((vs.map Nv.n).map Ei):=by
   rw [hk15,←A,←a];rfl
  rw [j];refine tM M d b x vs w o l hI hk15 (by rw [←a];exact hf) (by omega) ?_ (by rw [List.length_map];omega);rw [←i];intro y z;obtain⟨t,ht,rfl⟩:=List.mem_map.1 z;exact(h t ht).1
theorem uA(h:∀t∈c,bI t)(hf:c.length=2∨c.length=3∨c.length=4):Fy (.mk 15 0 0 [] [] c)∧Gb (.mk 15 0 0 [] [] c):=
 ⟨.flat _ _ _ _ (by decide) (by decide) h (fun h=>absurd h (by decide)) fun _=>hf,pT rfl h hf⟩
theorem eI:Gb (Cs Pu):=by
 rw [show Cs Pu=Pu by kernel_rfl];have b:∀{P:Tr→Prop} {l:List Tr} {a:Tr},P a→(∀t∈l,P t)→∀t∈a::l,P t:=fun h g t ht=>(List.mem_cons.1 ht).elim (fun e=>e▸h) (g t)
 have c:∀{P:Tr→Prop},∀t∈([]:List Tr),P t:=fun t ht=>by cases ht
 exact(eF rfl (by decide) (by decide) (b (fV (b (Ot (by decide) (by decide)) (b (Ot (by decide) (by decide)) (b (Ot (by decide) (by decide)) (b (fV c) c)))))
  (b (uA (b ⟨by decide,by decide⟩ (b ⟨by decide,by decide⟩ c)) (.inl rfl)) (b (eF rfl (by decide) (by decide) (b (Ot (by decide) (by decide)) c)) c)))).2
theorem Ci.imp{x:Nv}{t:Tr}(h:Ci w p x t):Og w x t:=by
 induction h with
 |mk h1 ha hac hx h2 hb hbc hy hl hc ih=>exact .mk h1 h2 (by omega) hl ih
theorem Po{α:Type}{f:α→List Value}{g t:Nat}{n:Nat}{vs:List α}(h:Bh w g t cs)(hn:vs.length=n)(hc:cs.toList=vs.flatMap f):Is f w (some ⟨g,0,none⟩) n vs:=
 ⟨hn,fun j u hj=>⟨_,_,rfl,by rw [Nat.zero_add,h.cell,←Array.getElem?_toList,hc];exact hj⟩⟩
def Hn(w:World)(p:Nat→Prop)(vs:List Nv)(l:List Tr):Prop:=vs.length=l.length∧∀(i:Nat) v t,vs[i]?=some v→l[i]?=some t→Ci w p v t
theorem Hn.nil:Hn w p [] []:=⟨rfl,fun i v t h=>by simp at h⟩
theorem Hn.cons{v:Nv}{t:Tr}{l:List Tr}(h:Ci w p v t)(hs:Hn w p vs l):Hn w p (v::vs) (t::l):=by
 refine⟨by rw [Av,Av,hs.1],fun i v' t' hv ht=>?_⟩;cases i with
 |zero=>
  injection hv with hv
  injection ht with ht
  rw [←hv,←ht];exact h
 |succ i=>exact hs.2 i v' t' hv ht
theorem N5{k:Int}{an ac bn bc:Nat}{s:List UInt8}{A B:Option Addr}{l:List Tr}(h1:Fx w A an ks)(ha:∀ad,A=some ad→p ad.block)(hac:an≤ac)(hx:an≤1099511627776)
  (h2:Kr w B bn vs) (hb:∀ad,B=some ad→p ad.block) (hbc:bn≤bc) (hy:bn≤1099511627776) (hk:Hn w p vs l):Ci w p ⟨k,n,u,s,A,an,ac,B,bn,bc⟩ (.mk k n u s ks l):=
 Ci.mk (x:=⟨k,n,u,s,A,an,ac,B,bn,bc⟩) h1 ha hac hx h2 hb hbc hy hk.1 hk.2
theorem J8(k n:Int)(u:Nat)(s:List UInt8):Ci w p ⟨k,n,u,s,none,0,0,none,0,0⟩ (.mk k n u s [] []):=
 N5 (Is.nil _ _) (fun ad e=>by cases e) (Ae _) (by decide) (Is.nil _ _) (fun ad e=>by cases e) (Ae _) (by decide) Hn.nil
def Ac6(kk lk n1:Int)(u1:Nat)(n2:Int)(u2:Nat):Tr:= .mk 17 0 0 [] [[],[97],[98]] [
 .mk 10 0 0 [] [] [.mk 8 (-300) 0 [] [] [],.mk 6 0 0 [195,169] [] [],.mk 7 0 0 [] [] [],.mk 10 0 0 [] [] []],
 .mk kk 0 0 [] [] [.mk lk n1 u1 [] [] [],.mk lk n2 u2 [] [] []],
 .mk 17 0 0 [] [[97]] [.mk 1 0 0 [] [] []]]
def Mp(g:Nat):Nv:=⟨17,0,0,[],some ⟨g+1,0,none⟩,3,3,some ⟨g+1+1+1+1+1+1,0,none⟩,3,3⟩
theorem Aam{W:World}{o0:Obj}{c1 c2 c3 c4 c5 c6 c7:Array Value}{t1 t2 t3 t4 t5 t6 t7:Nat}(h:W=(((((((w.alloc o0).alloc (.cells c1 t1)).alloc (.cells c2 t2)).alloc (.cells c3 t3)).alloc (.cells c4 t4)).alloc (.cells c5 t5)).alloc (.cells c6 t6)).alloc (.cells c7 t7)):
  Bh W (w.heap.size+1) t1 c1∧Bh W (w.heap.size+1+1) t2 c2∧Bh W (w.heap.size+1+1+1) t3 c3∧Bh W (w.heap.size+1+1+1+1) t4 c4∧Bh W (w.heap.size+1+1+1+1+1) t5 c5∧Bh W (w.heap.size+1+1+1+1+1+1) t6 c6∧Bh W (w.heap.size+1+1+1+1+1+1+1) t7 c7∧Below w.heap.size w W∧W.heap.size=w.heap.size+8:=by
 subst h;refine⟨((((((Bh.new_ (by simp) _ _).alloc _).alloc _).alloc _).alloc _).alloc _).alloc _,(((((Bh.new_ (by simp) _ _).alloc _).alloc _).alloc _).alloc _).alloc _,((((Bh.new_ (by simp) _ _).alloc _).alloc _).alloc _).alloc _,(((Bh.new_ (by simp) _ _).alloc _).alloc _).alloc _,((Bh.new_ (by simp) _ _).alloc _).alloc _,(Bh.new_ (by simp) _ _).alloc _,Bh.new_ (by simp) _ _,?_,by simp⟩;exact((((((((Af _ _).alloc (Ae _) _).alloc (by simp) _).alloc (by simp;omega) _).alloc (by simp;omega) _).alloc (by simp;omega) _).alloc (by simp;omega) _).alloc (by simp;omega) _).alloc (by simp;omega) _
theorem uS(w:World)(kk lk n1 n2 U1 U2:Int)(u1 u2:Nat)(h1:U1=u1)(h2:U2=u2):Ci ((((((((w.alloc (.cells #[Aa Ab 1,Aa Ab 0,Aa Ac 0,.string ⟨#[]⟩,.slice none 0 0,.slice none 0 0] 34)).alloc (.cells #[.string ⟨#[]⟩,.string ⟨#[97]⟩,.string ⟨#[98]⟩] 9)).alloc (.cells #[Aa Ab 8,Aa Ab (-300),Aa Ac 0,.string ⟨#[]⟩,.slice none 0 0,.slice none 0 0,Aa Ab 6,Aa Ab 0,Aa Ac 0,.string ⟨#[195,169]⟩,.slice none 0 0,.slice none 0 0,Aa Ab 7,Aa Ab 0,Aa Ac 0,.string ⟨#[]⟩,.slice none 0 0,.slice none 0 0,Aa Ab 10,Aa Ab 0,Aa Ac 0,.string ⟨#[]⟩,.slice none 0 0,.slice none 0 0] 34)).alloc (.cells #[Aa Ab lk,Aa Ab n1,Aa Ac U1,.string ⟨#[]⟩,.slice none 0 0,.slice none 0 0,Aa Ab lk,Aa Ab n2,Aa Ac U2,.string ⟨#[]⟩,.slice none 0 0,.slice none 0 0] 34)).alloc (.cells #[.string ⟨#[97]⟩] 9)).alloc (.cells #[Aa Ab 1,Aa Ab 0,Aa Ac 0,.string ⟨#[]⟩,.slice none 0 0,.slice none 0 0] 34)).alloc (.cells #[Aa Ab 10,Aa Ab 0,Aa Ac 0,.string ⟨#[]⟩,.slice none 0 0,.slice (some ⟨w.heap.size+1+1,0,none⟩) 4 4,Aa Ab kk,Aa Ab 0,Aa Ac 0,.string ⟨#[]⟩,.slice none 0 0,.slice (some ⟨w.heap.size+1+1+1,0,none⟩) 2 2,Aa Ab 17,Aa Ab 0,Aa Ac 0,.string ⟨#[]⟩,.slice (some ⟨w.heap.size+1+1+1+1,0,none⟩) 1 1,.slice (some ⟨w.heap.size+1+1+1+1+1,0,none⟩) 1 1] 34)).alloc (.cells #[Aa Ab 17,Aa Ab 0,Aa Ac 0,.string ⟨#[]⟩,.slice (some ⟨w.heap.size+1,0,none⟩) 3 3,.slice (some ⟨w.heap.size+1+1+1+1+1+1,0,none⟩) 3 3] 34)) (fun b=>b<(((((((((w.alloc (.cells #[Aa Ab 1,Aa Ab 0,Aa Ac 0,.string ⟨#[]⟩,.slice none 0 0,.slice none 0 0] 34)).alloc (.cells #[.string ⟨#[]⟩,.string ⟨#[97]⟩,.string ⟨#[98]⟩] 9)).alloc (.cells #[Aa Ab 8,Aa Ab (-300),Aa Ac 0,.string ⟨#[]⟩,.slice none 0 0,.slice none 0 0,Aa Ab 6,Aa Ab 0,Aa Ac 0,.string ⟨#[195,169]⟩,.slice none 0 0,.slice none 0 0,Aa Ab 7,Aa Ab 0,Aa Ac 0,.string ⟨#[]⟩,.slice none 0 0,.slice none 0 0,Aa Ab 10,Aa Ab 0,Aa Ac 0,.string ⟨#[]⟩,.slice none 0 0,.slice none 0 0] 34)).alloc (.cells #[Aa Ab lk,Aa Ab n1,Aa Ac U1,.string ⟨#[]⟩,.slice none 0 0,.slice none 0 0,Aa Ab lk,Aa Ab n2,Aa Ac U2,.string ⟨#[]⟩,.slice none 0 0,.slice none 0 0] 34)).alloc (.cells #[.string ⟨#[97]⟩] 9)).alloc (.cells #[Aa Ab 1,Aa Ab 0,Aa Ac 0,.string ⟨#[]⟩,.slice none 0 0,.slice none 0 0] 34)).alloc (.cells #[Aa Ab 10,Aa Ab 0,Aa Ac 0,.string ⟨#[]⟩,.slice none 0 0,.slice (some ⟨w.heap.size+1+1,0,none⟩) 4 4,Aa Ab kk,Aa Ab 0,Aa Ac 0,.string ⟨#[]⟩,.slice none 0 0,.slice (some ⟨w.heap.size+1+1+1,0,none⟩) 2 2,Aa Ab 17,Aa Ab 0,Aa Ac 0,.string ⟨#[]⟩,.slice (some ⟨w.heap.size+1+1+1+1,0,none⟩) 1 1,.slice (some ⟨w.heap.size+1+1+1+1+1,0,none⟩) 1 1] 34)).alloc (.cells #[Aa Ab 17,Aa Ab 0,Aa Ac 0,.string ⟨#[]⟩,.slice (some ⟨w.heap.size+1,0,none⟩) 3 3,.slice (some ⟨w.heap.size+1+1+1+1+1+1,0,none⟩) 3 3] 34))).heap.size) (Mp w.heap.size) (Ac6 kk lk n1 u1 n2 u2)∧Bh ((((((((w.alloc (.cells #[Aa Ab 1,Aa Ab 0,Aa Ac 0,.string ⟨#[]⟩,.slice none 0 0,.slice none 0 0] 34)).alloc (.cells #[.string ⟨#[]⟩,.string ⟨#[97]⟩,.string ⟨#[98]⟩] 9)).alloc (.cells #[Aa Ab 8,Aa Ab (-300),Aa Ac 0,.string ⟨#[]⟩,.slice none 0 0,.slice none 0 0,Aa Ab 6,Aa Ab 0,Aa Ac 0,.string ⟨#[195,169]⟩,.slice none 0 0,.slice none 0 0,Aa Ab 7,Aa Ab 0,Aa Ac 0,.string ⟨#[]⟩,.slice none 0 0,.slice none 0 0,Aa Ab 10,Aa Ab 0,Aa Ac 0,.string ⟨#[]⟩,.slice none 0 0,.slice none 0 0] 34)).alloc (.cells #[Aa Ab lk,Aa Ab n1,Aa Ac U1,.string ⟨#[]⟩,.slice none 0 0,.slice none 0 0,Aa Ab lk,Aa Ab n2,Aa Ac U2,.string ⟨#[]⟩,.slice none 0 0,.slice none 0 0] 34)).alloc (.cells #[.string ⟨#[97]⟩] 9)).alloc (.cells #[Aa Ab 1,Aa Ab 0,Aa Ac 0,.string ⟨#[]⟩,.slice none 0 0,.slice none 0 0] 34)).alloc (.cells #[Aa Ab 10,Aa Ab 0,Aa Ac 0,.string ⟨#[]⟩,.slice none 0 0,.slice (some ⟨w.heap.size+1+1,0,none⟩) 4 4,Aa Ab kk,Aa Ab 0,Aa Ac 0,.string ⟨#[]⟩,.slice none 0 0,.slice (some ⟨w.heap.size+1+1+1,0,none⟩) 2 2,Aa Ab 17,Aa Ab 0,Aa Ac 0,.string ⟨#[]⟩,.slice (some ⟨w.heap.size+1+1+1+1,0,none⟩) 1 1,.slice (some ⟨w.heap.size+1+1+1+1+1,0,none⟩) 1 1] 34)).alloc (.cells #[Aa Ab 17,Aa Ab 0,Aa Ac 0,.string ⟨#[]⟩,.slice (some ⟨w.heap.size+1,0,none⟩) 3 3,.slice (some ⟨w.heap.size+1+1+1+1+1+1,0,none⟩) 3 3] 34)) (w.heap.size+1+1+1+1+1+1+1) 34 (Adj (Mp w.heap.size))∧Below w.heap.size w ((((((((w.alloc (.cells #[Aa Ab 1,Aa Ab 0,Aa Ac 0,.string ⟨#[]⟩,.slice none 0 0,.slice none 0 0] 34)).alloc (.cells #[.string ⟨#[]⟩,.string ⟨#[97]⟩,.string ⟨#[98]⟩] 9)).alloc (.cells #[Aa Ab 8,Aa Ab (-300),Aa Ac 0,.string ⟨#[]⟩,.slice none 0 0,.slice none 0 0,Aa Ab 6,Aa Ab 0,Aa Ac 0,.string ⟨#[195,169]⟩,.slice none 0 0,.slice none 0 0,Aa Ab 7,Aa Ab 0,Aa Ac 0,.string ⟨#[]⟩,.slice none 0 0,.slice none 0 0,Aa Ab 10,Aa Ab 0,Aa Ac 0,.string ⟨#[]⟩,.slice none 0 0,.slice none 0 0] 34)).alloc (.cells #[Aa Ab lk,Aa Ab n1,Aa Ac U1,.string ⟨#[]⟩,.slice none 0 0,.slice none 0 0,Aa Ab lk,Aa Ab n2,Aa Ac U2,.string ⟨#[]⟩,.slice none 0 0,.slice none 0 0] 34)).alloc (.cells #[.string ⟨#[97]⟩] 9)).alloc (.cells #[Aa Ab 1,Aa Ab 0,Aa Ac 0,.string ⟨#[]⟩,.slice none 0 0,.slice none 0 0] 34)).alloc (.cells #[Aa Ab 10,Aa Ab 0,Aa Ac 0,.string ⟨#[]⟩,.slice none 0 0,.slice (some ⟨w.heap.size+1+1,0,none⟩) 4 4,Aa Ab kk,Aa Ab 0,Aa Ac 0,.string ⟨#[]⟩,.slice none 0 0,.slice (some ⟨w.heap.size+1+1+1,0,none⟩) 2 2,Aa Ab 17,Aa Ab 0,Aa Ac 0,.string ⟨#[]⟩,.slice (some ⟨w.heap.size+1+1+1+1,0,none⟩) 1 1,.slice (some ⟨w.heap.size+1+1+1+1+1,0,none⟩) 1 1] 34)).alloc (.cells #[Aa Ab 17,Aa Ab 0,Aa Ac 0,.string ⟨#[]⟩,.slice (some ⟨w.heap.size+1,0,none⟩) 3 3,.slice (some ⟨w.heap.size+1+1+1+1+1+1,0,none⟩) 3 3] 34)):=by
 obtain⟨d,f,i,j,k,l,m,n,o⟩:=Aam (W:=((((((((w.alloc (.cells #[Aa Ab 1,Aa Ab 0,Aa Ac 0,.string ⟨#[]⟩,.slice none 0 0,.slice none 0 0] 34)).alloc (.cells #[.string ⟨#[]⟩,.string ⟨#[97]⟩,.string ⟨#[98]⟩] 9)).alloc (.cells #[Aa Ab 8,Aa Ab (-300),Aa Ac 0,.string ⟨#[]⟩,.slice none 0 0,.slice none 0 0,Aa Ab 6,Aa Ab 0,Aa Ac 0,.string ⟨#[195,169]⟩,.slice none 0 0,.slice none 0 0,Aa Ab 7,Aa Ab 0,Aa Ac 0,.string ⟨#[]⟩,.slice none 0 0,.slice none 0 0,Aa Ab 10,Aa Ab 0,Aa Ac 0,.string ⟨#[]⟩,.slice none 0 0,.slice none 0 0] 34)).alloc (.cells #[Aa Ab lk,Aa Ab n1,Aa Ac U1,.string ⟨#[]⟩,.slice none 0 0,.slice none 0 0,Aa Ab lk,Aa Ab n2,Aa Ac U2,.string ⟨#[]⟩,.slice none 0 0,.slice none 0 0] 34)).alloc (.cells #[.string ⟨#[97]⟩] 9)).alloc (.cells #[Aa Ab 1,Aa Ab 0,Aa Ac 0,.string ⟨#[]⟩,.slice none 0 0,.slice none 0 0] 34)).alloc (.cells #[Aa Ab 10,Aa Ab 0,Aa Ac 0,.string ⟨#[]⟩,.slice none 0 0,.slice (some ⟨w.heap.size+1+1,0,none⟩) 4 4,Aa Ab kk,Aa Ab 0,Aa Ac 0,.string ⟨#[]⟩,.slice none 0 0,.slice (some ⟨w.heap.size+1+1+1,0,none⟩) 2 2,Aa Ab 17,Aa Ab 0,Aa Ac 0,.string ⟨#[]⟩,.slice (some ⟨w.heap.size+1+1+1+1,0,none⟩) 1 1,.slice (some ⟨w.heap.size+1+1+1+1+1,0,none⟩) 1 1] 34)).alloc (.cells #[Aa Ab 17,Aa Ab 0,Aa Ac 0,.string ⟨#[]⟩,.slice (some ⟨w.heap.size+1,0,none⟩) 3 3,.slice (some ⟨w.heap.size+1+1+1+1+1+1,0,none⟩) 3 3] 34))) rfl;refine⟨?_,m,n⟩;generalize ((((((((w.alloc (.cells #[Aa Ab 1,Aa Ab 0,Aa Ac 0,.string ⟨#[]⟩,.slice none 0 0,.slice none 0 0] 34)).alloc (.cells #[.string ⟨#[]⟩,.string ⟨#[97]⟩,.string ⟨#[98]⟩] 9)).alloc (.cells #[Aa Ab 8,Aa Ab (-300),Aa Ac 0,.string ⟨#[]⟩,.slice none 0 0,.slice none 0 0,Aa Ab 6,Aa Ab 0,Aa Ac 0,.string ⟨#[195,169]⟩,.slice none 0 0,.slice none 0 0,Aa Ab 7,Aa Ab 0,Aa Ac 0,.string ⟨#[]⟩,.slice none 0 0,.slice none 0 0,Aa Ab 10,Aa Ab 0,Aa Ac 0,.string ⟨#[]⟩,.slice none 0 0,.slice none 0 0] 34)).alloc (.cells #[Aa Ab lk,Aa Ab n1,Aa Ac U1,.string ⟨#[]⟩,.slice none 0 0,.slice none 0 0,Aa Ab lk,Aa Ab n2,Aa Ac U2,.string ⟨#[]⟩,.slice none 0 0,.slice none 0 0] 34)).alloc (.cells #[.string ⟨#[97]⟩] 9)).alloc (.cells #[Aa Ab 1,Aa Ab 0,Aa Ac 0,.string ⟨#[]⟩,.slice none 0 0,.slice none 0 0] 34)).alloc (.cells #[Aa Ab 10,Aa Ab 0,Aa Ac 0,.string ⟨#[]⟩,.slice none 0 0,.slice (some ⟨w.heap.size+1+1,0,none⟩) 4 4,Aa Ab kk,Aa Ab 0,Aa Ac 0,.string ⟨#[]⟩,.slice none 0 0,.slice (some ⟨w.heap.size+1+1+1,0,none⟩) 2 2,Aa Ab 17,Aa Ab 0,Aa Ac 0,.string ⟨#[]⟩,.slice (some ⟨w.heap.size+1+1+1+1,0,none⟩) 1 1,.slice (some ⟨w.heap.size+1+1+1+1+1,0,none⟩) 1 1] 34)).alloc (.cells #[Aa Ab 17,Aa Ab 0,Aa Ac 0,.string ⟨#[]⟩,.slice (some ⟨w.heap.size+1,0,none⟩) 3 3,.slice (some ⟨w.heap.size+1+1+1+1+1+1,0,none⟩) 3 3] 34))=W at d f i j k l m n o⊢;generalize w.heap.size=g at d f i j k l m n o⊢;have a:∀{b:Nat},b<g+8→∀ad:Addr,some (⟨b,0,none⟩:Addr)=some ad→ad.block<W.heap.size:=fun h ad e=>by
  injection e with e
  subst e;simp only;omega
 have c:∀ad:Addr,(none:Option Addr)=some ad→ad.block<W.heap.size:=fun ad e=>by cases e
 refine N5 (vs:=[⟨10,0,0,[],none,0,0,some ⟨g+1+1,0,none⟩,4,4⟩,⟨kk,0,0,[],none,0,0,some ⟨g+1+1+1,0,none⟩,2,2⟩,⟨17,0,0,[],some ⟨g+1+1+1+1,0,none⟩,1,1,some ⟨g+1+1+1+1+1,0,none⟩,1,1⟩])
  (Po d rfl rfl) (a (by omega)) (Ae _) (by decide) (Po l rfl rfl) (a (by omega)) (Ae _) (by decide) (Hn.cons ?_ (Hn.cons ?_ (Hn.cons ?_ Hn.nil)))
 ·exact N5 (vs:=[⟨8, -300,0,[],none,0,0,none,0,0⟩,⟨6,0,0,[195,169],none,0,0,none,0,0⟩,⟨7,0,0,[],none,0,0,none,0,0⟩,⟨10,0,0,[],none,0,0,none,0,0⟩]) (Is.nil _ _) c (Ae _) (by decide) (Po f rfl rfl) (a (by omega)) (Ae _) (by decide) (Hn.cons (J8 _ _ _ _) (Hn.cons (J8 _ _ _ _) (Hn.cons (J8 _ _ _ _) (Hn.cons (J8 _ _ _ _) Hn.nil))))
 ·exact N5 (vs:=[⟨lk,n1,u1,[],none,0,0,none,0,0⟩,⟨lk,n2,u2,[],none,0,0,none,0,0⟩]) (Is.nil _ _) c (Ae _) (by decide) (Po i rfl (by rw [h1,h2];rfl)) (a (by omega)) (Ae _) (by decide) (Hn.cons (J8 _ _ _ _) (Hn.cons (J8 _ _ _ _) Hn.nil))
 ·exact N5 (vs:=[⟨1,0,0,[],none,0,0,none,0,0⟩]) (Po j rfl rfl) (a (by omega)) (Ae _) (by decide) (Po k rfl rfl) (a (by omega)) (Ae _) (by decide) (Hn.cons (J8 _ _ _ _) Hn.nil)
section
variable {pre l:List UInt8} {p q t v:Int}
theorem yO(h:B7 l p q t v=0):Cb l.length p q t v=0∧Bs t=false∧(loadU l p q:Int)≤p∧0≤p∧p+q≤l.length∧Bt q=true∧Bt v=true:=by
 unfold B7 at h;split at h
 ·rename_i hm;split at h
  ·cases h
  ·rename_i hi;split at h
   ·cases h
   ·rename_i hu;obtain⟨h1,h2⟩:=Dr.1 hm;have h1:=Cz.1 h1;have h2:=Eh.1 h2;exact⟨hm,by simpa using hi,by omega,h2.1,h2.2.2,h1.2.1,h1.2.2⟩
 ·contradiction
theorem dZ(h:Cm l p q t v=0):Cb l.length p q t v=0∧Mr t=true∧B7 l p q t v=0∧By l p q t v % v=0∧aheadT t*v.toNat≤(By l p q t v).toNat∧(By l p q t v).toNat+Kj l p q t v*Kk t v≤l.length:=by
 unfold Cm at h;split at h
 ·contradiction
 rename_i g1;split at h
 ·cases h
 rename_i g2;split at h
 ·contradiction
 rename_i g3;split at h
 ·cases h
 rename_i g4;split at h
 ·cases h
 rename_i g5;split at h
 ·cases h
 rename_i g6;exact⟨Decidable.of_not_not g1,by simpa using g2,Decidable.of_not_not g3,Decidable.of_not_not g4,Nat.le_of_not_lt g5,Nat.le_of_not_lt g6⟩
end
def Rq.sh(r:Rq)(k:Nat):Rq:=⟨r.p+k,r.q,r.t,r.v⟩
def sh3(k:Nat)(y:P3):P3:=(y.1+k,y.2)
section
variable {pre l:List UInt8} {r:Rq}
end
structure Yc(k:Nat)(s s':Bk):Prop where
 left:s'.left=s.left
 had:s'.had=s.had.map (sh3 k)
theorem Yc.tell(h:Yc k s s')(a b c a' b' c':Int):Yc k (s.tell a b c) (s'.tell a' b' c'):=⟨by rw [Ef,Ef];exact h.left,by rw [Ga,Ga];exact h.had⟩
theorem Yc.see(h:Yc k s s')(y:P3):Yc k (s.see y) (s'.see (sh3 k y)):=by
 unfold Bk.see;refine⟨h.left,?_⟩;simp only [h.had,List.map_append,List.map_cons,List.map_nil]
section
variable {pre l:List UInt8} {go go':Rq→Bk→Bk×Int} (r:Rq) (hk:pre.length % 8=0)
include hk
end
def Vz(l:List UInt8)(H:List P3)(c:Rq):Prop:=0≤c.p∧(Bs c.t=true∨(Bs c.t=false∧B7 l c.p c.q c.t c.v=0∧Hw l c∈H))
def V2(l:List UInt8)(H:List P3)(r:Rq):Prop:=
 if Ll [4,5,25] r.t=true then C6 l r.p r.q r.t r.v [4,5,25]=0
 else if r.t=6∨r.t=7 then F7 l r.p r.q r.t r.v=0
 else Cm l r.p r.q r.t r.v=0∧(r.t=9→Hf l r.p r.q r.t r.v=0∧Vz l H (Ck l r))∧∀i:Nat,i<lsLen l r.p r.q r.t r.v→Eu l r.p r.q r.t r.v i=0∧Vz l H (Cq l r i)
def P8(l:List UInt8)(H:List P3)(y:P3):Prop:=∃r,Hw l r=y∧B7 l r.p r.q r.t r.v=0∧V2 l H r
theorem Vz.mono{c:Rq}(hs:∀y∈H,y∈H')(h:Vz l H c):Vz l H' c:=⟨h.1,h.2.imp id fun h=>⟨h.1,h.2.1,hs _ h.2.2⟩⟩
theorem V2.mono{r:Rq}(hs:∀y∈H,y∈H')(h:V2 l H r):V2 l H' r:=by
 unfold V2 at h⊢;split
 ·rename_i h1;rw [if_pos h1] at h;exact h
 rename_i h1;rw [if_neg h1] at h;split
 ·rename_i h2;rw [if_pos h2] at h;exact h
 rename_i h2;rw [if_neg h2] at h;exact⟨h.1,fun h9=>⟨(h.2.1 h9).1,(h.2.1 h9).2.mono hs⟩,fun i hi=>⟨(h.2.2 i hi).1,(h.2.2 i hi).2.mono hs⟩⟩
theorem P8.mono{y:P3}(hs:∀y∈H,y∈H'):P8 l H y→P8 l H' y
 |⟨r,h1,h2,h3⟩=>⟨r,h1,h2,h3.mono hs⟩
structure Lu(l:List UInt8)(s s':Bk):Prop where
 sub:∀y∈s.had,y∈s'.had
 new:∀y∈s'.had,y∈s.had∨P8 l s'.had y
section
variable {l:List UInt8} {s s' s'':Bk}
theorem Lu.same(h:s'.had=s.had):Lu l s s':=⟨fun _ hy=>h▸hy,fun _ hy=> .inl (h▸hy)⟩
theorem Lu.trans(h:Lu l s s')(k:Lu l s' s''):Lu l s s'':=⟨fun y hy=>k.sub y (h.sub y hy),fun y hy=>by
 rcases k.new y hy with h1|h1
 ·exact(h.new y h1).imp id (fun h2=>h2.mono k.sub)
 ·exact .inr h1⟩
theorem Lu.tell(h:Lu l s s')(a b c:Int):Lu l s (s'.tell a b c):=h.trans (Lu.same (Ga _ _ _ _))
end
section
variable {l:List UInt8} {go:Rq→Bk→Bk×Int} (r:Rq)
end
theorem fH(a b c a' b' c':Int)(z:Bool)(w:World)(hz:decide (Fm (a,b,c) (a',b',c'))=z):
  Calls Ad 162 #[.agg #[Aa Ab a,Aa Ab b,Aa Ab c],.agg #[Aa Ab a',Aa Ab b',Aa Ab c']] w (Adh (.bool z) w):=by
 have e:(a<a'∧z=true)∨(a'<a∧z=false)∨(a=a'∧((b<b'∧z=true)∨(b'<b∧z=false)∨(b=b'∧((c<c'∧z=true)∨(¬c<c'∧z=false))))):=by
  cases z with
  |true=>
   have h:=of_decide_eq_true hz;unfold Fm at h;simp only at h;simp only [and_true,reduceCtorEq,and_false,or_false,false_or];omega
  |false=>
   have h:=of_decide_eq_false hz;unfold Fm at h;simp only at h;simp only [and_true,reduceCtorEq,and_false,false_or];omega
 have f:=Hd e;clear e hz;have j:=Hd ((Bh.new w 46 #[Aa Ab a,Aa Ab b,Aa Ab c]).alloc (.cells #[Aa Ab a',Aa Ab b',Aa Ab c'] 46));have i:=Hd (Bh.new_ (w:=w.alloc (.cells #[Aa Ab a,Aa Ab b,Aa Ab c] 46)) (g:=w.heap.size+1) (by simp) 46 #[Aa Ab a',Aa Ab b',Aa Ab c']);have d:=Hd (((Af w.heap.size w).alloc (Ae _) (.cells #[Aa Ab a,Aa Ab b,Aa Ab c] 46)).alloc ((Af w.heap.size w).alloc (Ae _) (.cells #[Aa Ab a,Aa Ab b,Aa Ab c] 46)).size (.cells #[Aa Ab a',Aa Ab b',Aa Ab c'] 46));go_enter func162,ntmps162;go_upto_region 1 with fail
 generalize (w.alloc (.cells #[Aa Ab a,Aa Ab b,Aa Ab c] 46)).alloc (.cells #[Aa Ab a',Aa Ab b',Aa Ab c'] 46)=w1 at j i d⊢;generalize w.heap.size+1=gY at i⊢;obtain ⟨n,p,q⟩:=j.o.c3;obtain ⟨r,s,t⟩:=i.o.c3;rcases f.o with⟨h,rfl⟩|⟨h,rfl⟩|⟨rfl,⟨h,rfl⟩|⟨h,rfl⟩|⟨rfl,⟨h,rfl⟩|⟨h,rfl⟩⟩⟩
 ·have k:(a != a')=true:=by simpa using(show a≠a' by omega)
  go_wp2;go_ret;exact⟨rfl,d.o⟩
 ·have k:(a != a')=true:=by simpa using(show a≠a' by omega)
  have l:¬a<a':=by omega
  clear h;go_wp2;go_ret;exact⟨rfl,d.o⟩
 ·go_wp2;go_ret;exact⟨rfl,d.o⟩
 ·have l:¬b<b':=by omega
  have m:(b==b')=false:=beq_eq_false_iff_ne.mpr (by omega);clear h;go_wp2;go_ret;exact⟨rfl,d.o⟩
 ·go_wp2;go_ret;exact⟨rfl,d.o⟩
 ·go_wp2;go_ret;exact⟨rfl,d.o⟩
theorem rU(t:Int)(w:World):Calls Ad 163 #[Aa Ab t] w (Adi (Aa Ab (if t=0 then 1 else if t=1 then 2 else if t=2 then 3 else 4)) w):=by
 by_cases h0:t=0
 ·subst h0;go_enter func163,ntmps163;go_wp2;go_ret;exact⟨rfl,rfl⟩
 have a:(t==0)=false:=beq_eq_false_iff_ne.mpr h0;by_cases h1:t=1
 ·subst h1;go_enter func163,ntmps163;go_wp2;go_ret;exact⟨rfl,rfl⟩
 have b:(t==1)=false:=beq_eq_false_iff_ne.mpr h1;by_cases h2:t=2
 ·subst h2;go_enter func163,ntmps163;go_wp2;go_ret;exact⟨rfl,rfl⟩
 have c:(t==2)=false:=beq_eq_false_iff_ne.mpr h2;rw [if_neg h0,if_neg h1,if_neg h2];clear h0 h1 h2;go_enter func163,ntmps163;go_wp2;go_ret;exact⟨rfl,rfl⟩
def hcl(x:P3):List Value:=[Aa Ab x.1,Aa Ab 0,Aa Ab x.2.1,Aa Ab x.2.2]
theorem Yn(x:P3):(hcl x).length=4:=rfl
theorem xW(x:P3):∀u∈hcl x,u.oneCell'=true:=by
 intro u hu;simp [hcl] at hu;rcases hu with rfl|rfl|rfl|rfl <;>rfl
abbrev wO:=Is hcl
abbrev Ry:=Go.Acc.Own hcl 4 70
theorem Aau:(Ad.info? 70).map (fun i=>(i.zero,i.size,i.bytes))=some (some (.agg (Adl 0 0 0 0)),4,32):=by kernel_rfl
structure Il where
 B0:Nat
 B2:Nat
 bw:Nat
 A:Option Addr
 n:Nat
 c:Nat
 l:List UInt8
structure Il.Ok(E:Il):Prop where
 hA:∀ad,E.A=some ad→ad.block<E.B0
 w0:E.B0≤E.bw
 w2:E.bw<E.B2
 hc:E.n≤E.c
 hn:E.n≤4294967296
abbrev E9:=Option Nat×Option Nat
structure D9(E:Il)(g:E9)(s:Bk)(w:World):Prop where
 ok:E.Ok
 b:Ca w E.A E.n E.l
 R:∃Ah nh ch Al nl cl,Bh w E.bw 123 #[.slice E.A E.n E.c,Aa Ab s.left,.slice Ah nh ch,.slice Al nl cl]∧Ry w E.B2 Ah nh ch s.had∧F5 w E.B2 Al nl cl (Db s.o)∧Ah.map (·.block)=g.1∧Al.map (·.block)=g.2
 sz:E.B2≤w.heap.size
def Il.Free(E:Il)(g:E9)(k:Nat):Prop:=k≠E.bw∧g.1≠some k∧g.2≠some k
structure Ee(E:Il)(g g':E9)(w w':World):Prop where
 fr:Fr (fun k=>¬E.Free g k) w w'
 keep:∀k,k<w.heap.size→E.Free g k→E.Free g' k
section
variable {E:Il} {s:Bk} {g g' g'':E9} {w w' w'':World}
theorem Ee.refl(E:Il)(g:E9)(w:World):Ee E g g w w:=⟨Fr.refl _ _,fun _ _ h=>h⟩
theorem Ee.of_below(hb:Below w.heap.size w w'):Ee E g g w w':=⟨Fr.of_below hb _,fun _ _ h=>h⟩
theorem Ee.trans(h:Ee E g g' w w')(h':Ee E g' g'' w' w''):Ee E g g'' w w'':=
 ⟨h.fr.trans h'.fr (fun k hk hn hf=>hn (h.keep k hk hf)),fun k hk hf=>h'.keep k (Nat.lt_of_lt_of_le hk h.fr.size) (h.keep k hk hf)⟩
theorem Ee.below(h:Ee E g g' w w')(hb:Below w'.heap.size w' w''):Ee E g g' w w'':=h.trans (Ee.of_below hb)
theorem Ee.drew(h:Ee E g g' w w'):Ee E g g' w w'.drew:=h.below ((Af _ _).drew)
theorem Ee.alloc(h:Ee E g g' w w')(o:Obj):Ee E g g' w (w'.alloc o):=h.below ((Af _ _).alloc (Ae _) o)
def G0(E:Il)(g:E9)(w:World)(k:Nat)(t:TypeId)(cs:Array Value):Prop:=Bh w k t cs∧E.Free g k
theorem G0.to(h:G0 E g w k t cs)(ht:Ee E g g' w w'):G0 E g' w' k t cs:=⟨h.1.fr ht.fr (fun hn=>hn h.2),ht.keep k h.1.lt h.2⟩
theorem G0.pure(h:G0 E g w k t cs)(hb:Below w.heap.size w w'):G0 E g w' k t cs:=⟨h.1.pure hb,h.2⟩
theorem G0.drew(h:G0 E g w k t cs):G0 E g w.drew k t cs:=h
theorem D9.pure(h:D9 E g s w)(hb:Below w.heap.size w w'):D9 E g s w':=by
 obtain⟨Ah,nh,ch,Al,nl,cl,h1,h2,h3,h4,h5⟩:=h.R;exact⟨h.ok,h.b.pure hb,⟨Ah,nh,ch,Al,nl,cl,h1.pure hb,h2.pure hb,h3.pure hb,h4,h5⟩,Am h.sz hb.size⟩
theorem D9.drew(h:D9 E g s w):D9 E g s w.drew:=h.pure ((Af _ _).drew)
theorem D9.alloc(h:D9 E g s w)(o:Obj):D9 E g s (w.alloc o):=h.pure ((Af _ _).alloc (Ae _) o)
theorem D9.len(h:D9 E g s w):E.l.length=E.n:=h.b.1
theorem D9.row1(h:D9 E g s w):∀k,g.1=some k→E.B2≤k∧k<w.heap.size:=by
 obtain⟨Ah,nh,ch,Al,nl,cl,h1,h2,h3,h4,h5⟩:=h.R;intro k hk;cases Ah with
 |none=>rw [←h4] at hk;cases hk
 |some ad=>
  rw [←h4] at hk;injection hk with hk
  subst hk;exact⟨(h2.addr ad rfl).2.1,(h2.addr ad rfl).2.2⟩
theorem D9.row2(h:D9 E g s w):∀k,g.2=some k→E.B2≤k∧k<w.heap.size:=by
 obtain⟨Ah,nh,ch,Al,nl,cl,h1,h2,h3,h4,h5⟩:=h.R;intro k hk;cases Al with
 |none=>rw [←h5] at hk;cases hk
 |some ad=>
  rw [←h5] at hk;injection hk with hk
  subst hk;exact⟨(h3.addr ad rfl).2.1,(h3.addr ad rfl).2.2⟩
theorem D9.newer(h:D9 E g s w)(hk:w.heap.size≤k):E.Free g k:=by
 have:=h.sz;have:=h.ok.w2;refine⟨by omega,fun e=>?_,fun e=>?_⟩
 ·have:=(h.row1 _ e).2;omega
 ·have:=(h.row2 _ e).2;omega
theorem D9.lone(h:D9 E g s w)(t:TypeId)(cs:Array Value):G0 E g (w.alloc (.cells cs t)) w.heap.size t cs:=⟨Bh.new w t cs,h.newer (Ae _)⟩
theorem D9.low(h:D9 E g s w)(hk:k<E.B0):E.Free g k:=by
 have:=h.ok.w0;have:=h.ok.w2;refine⟨by omega,fun e=>?_,fun e=>?_⟩
 ·have:=(h.row1 _ e).1;omega
 ·have:=(h.row2 _ e).1;omega
theorem Ee.belowB(h:Ee E g g' w w')(hw:D9 E g s w):Below E.B0 w w':=by
 refine h.fr.belowB (fun k hk hn=>hn (hw.low hk)) ?_;have:=hw.sz;have:=hw.ok.w0;have:=hw.ok.w2;omega
theorem D9.c0(h:D9 E g s w):w.cell? ⟨E.bw,0,none⟩=some (.slice E.A E.n E.c):=by
 obtain⟨_,_,_,_,_,_,h1,_⟩:=h.R;exact h1.cell 0
theorem D9.c1(h:D9 E g s w):w.cell? ⟨E.bw,1,none⟩=some (Aa Ab s.left):=by
 obtain⟨_,_,_,_,_,_,h1,_⟩:=h.R;exact h1.cell 1
theorem D9.frozen(h:D9 E g s w)(i:Nat):w.frozen? ⟨E.bw,i,none⟩=false:=by
 obtain⟨_,_,_,_,_,_,h1,_⟩:=h.R;exact h1.frozen i
end
def Nh(E:Il)(g:E9)(s':Bk)(w w':World):Prop:=∃g',D9 E g' s' w'∧Ee E g g' w w'
def kT(E:Il)(g:E9)(w:World)(y:Bk×Int)(e:Ending)(w':World):Prop:=e= .returned (Aa Ab y.2)∧Nh E g y.1 w w'
theorem dK(x:P3):∀(L:List P3) (k:Nat),k≤L.length→(∀j y,j<k→L[j]?=some y→Fm y x)→(∀y,L[k]?=some y→¬Fm y x∧y≠x)→Gi x L=L.take k++ [x]++L.drop k
 | [],k,hk,_,_=>by
  obtain rfl:k=0:=by simpa using hk
  rfl
 |y::L,0,_,_,h=>by
  obtain⟨h1,h2⟩:=h y rfl;simp [Gi,h1,h2]
 |y::L,k+1,hk,h,h'=>by
  have a:Fm y x:=h 0 y (by omega) rfl;have b:=dK x L k (by simpa using hk) (fun j z hj hz=>h (j+1) z (by omega) (by simpa using hz)) (fun z hz=>h' z (by simpa using hz));simp [Gi,a,b]
theorem dL(x:P3):∀(L:List P3) (k:Nat),(∀j y,j<k→L[j]?=some y→Fm y x)→L[k]?=some x→Gi x L=L
 | [],k,_,h=>by simp at h
 |y::L,0,_,h=>by
  obtain rfl:y=x:=by simpa using h
  simp [Gi,M1]
 |y::L,k+1,h,h'=>by
  have hy:Fm y x:=h 0 y (by omega) rfl;have ih:=dL x L k (fun j z hj hz=>h (j+1) z (by omega) (by simpa using hz)) (by simpa using h');simp [Gi,hy,ih]
theorem Ta(s:Bk)(a b c:Int)(h:a<b):Db (s.tell a b c).o=Gi (a,b,c) (Db s.o):=by
 unfold Bk.tell;rw [if_pos h];exact aV _ _
theorem jD(A:Option Addr)(n c M:Nat)(h:M≤c)(w:World):(Instr.sliceAt 42 (.slice A n c) none (some (Aa Ab M)) none).run Ad w= .ok (.slice A M c) w:=by
 have ht:Ad.underlying 42=some (.slice (Ad.elem 42)):=by kernel_rfl
 have a:(sizeOf (Ad.elem 42)).run Ad w= .ok 3 w:=by kernel_rfl
 rw [run_sliceAt_slice (h:=ht),run_slice_h (ht:=ht) (h0:=by omega) (h2:=by omega),a];simp [Result.andThen,sliced];intro _;cases A <;>simp [Addr.add]
theorem Zu(A:Option Addr)(n c lo:Nat)(h1:lo≤n)(hc:n≤c):∃X,(∀w,(Instr.sliceAt 42 (.slice A n c) (some (Aa Ab lo)) none none).run Ad w= .ok (.slice X (n-lo) (c-lo)) w)∧
  ∀w l,oD w A n l→oD w X (n-lo) (l.drop lo):=by
 refine⟨if c=lo then A else A.map (·.add (lo*3)),fun w=>?_,fun w l h=>?_⟩
 ·have ht:Ad.underlying 42=some (.slice (Ad.elem 42)):=by kernel_rfl
  have a:(sizeOf (Ad.elem 42)).run Ad w= .ok 3 w:=by kernel_rfl
  rw [run_sliceAt_slice (h:=ht),run_slice_l (ht:=ht) (h0:=by omega) (h1:=by omega),a];simp [Result.andThen,sliced]
 ·split
  ·rename_i e;exact h.cut0 e hc
  ·exact h.cut1 Gv
theorem Gn{ops:Array Oper}{o:Oper}{a:Act}{K:Act→World→Prop}{Q:Exit→Act→World→Prop}{E:Prop}(hgd:o.guard=none)(s x:Operand)
  (ho:o.op= .call { callee:= .builtin .append,args:=#[s,x],argTypes:=#[42,42]})
  (B:Nat) (A:Option Addr) (n c:Nat) (l:List P3) (hs:a.eval s= .slice A n c) (hown:F5 w B A n c l)
  (A2:Option Addr) (m d:Nat) (l2:List P3) (hx:a.eval x= .slice A2 m d) (hr:oD w A2 m l2)
  (hbytes:n+m≤1099511627776) (hbase:B≤w.heap.size)
  (h:∀A' c' w',F5 w' B A' (n+m) c' (l++l2)→Fr (fun k=>∃ad,A=some ad∧k=ad.block) w w'→K (a.put o.dst (.slice A' (n+m) c')) w'):
  if Region.wanted o (yielded ops a.tmps)=true then Oper.wp Ad o a w K Q else E:=by
 have r:Region.wanted o (yielded ops a.tmps)=true:=by simp [Region.wanted,hgd]
 rw [if_pos r];obtain⟨i,j,t,b,g⟩:=info_parts qA;have p:n+m≤maxLen:=by simp only [maxLen];omega
 obtain⟨u,w',f,h2,h3,_⟩:=Iq (P:=Ad) w B 42 o.type 46 i _ 3 24 underlying42 j t b g rfl (by omega) (.slice A n c) n (l.flatMap pc) hown.2 A2 m d (l2.flatMap pc) (by rw [Cd Gv,hr.1]) hr.2 (No eQ l2) p (by omega) hbase;obtain⟨A',c',rfl,e⟩:=Own.mk Gv (by omega) (l:=l++l2) h2 List.flatMap_append.symm;have q:=h A' c' w' e ((Fr.of_grown h3).mono fun i _ hi=>by
  cases A with
  |none=>simp [Value.ownBlock] at hi
  |some ad=>simp [Value.ownBlock] at hi;exact⟨ad,rfl,hi⟩)
 clear h e h2 h3;unfold Oper.wp;simp only [execOp,ho,resolve,invoke,builtin,Sem.run_bind,Sem.run_pure,Result.andThen_ok,List.map_toArray,List.map_cons,List.map_nil,hs,hx,f];exact q
theorem aF{E:Il}{g0 g:E9}{c:Int}{wv w4:World}{A4:Option Addr}{n4 c4:Nat}{L':List P3}(h:D9 E g s wv)(ht:Ee E g0 g w wv)(hb:Below wv.heap.size wv w4)(ho:F5 w4 wv.heap.size A4 n4 c4 L')(hL:Db (s.tell a b c).o=L'):
  Nh E g0 (s.tell a b c) w (w4.setCell ⟨E.bw,3,none⟩ (.slice A4 n4 c4)):=by
 obtain⟨l,q,m,r,z,t,h1,h2,h3,n,u⟩:=h.R;have j:=h.ok;have i:=h.sz;have p:=j.w2;have f:Fr (fun k=>k=E.bw) w4 (w4.setCell ⟨E.bw,3,none⟩ (.slice A4 n4 c4)):=Fr.setCell (S:=fun k=>k=E.bw) (Fr.refl _ _) (fun _=>rfl) _;have d:∀ad,A4=some ad→wv.heap.size≤ad.block:=fun ad had=>(ho.addr ad had).2.1
 refine⟨(g.1,A4.map (·.block)),⟨j,?_,⟨l,q,m,A4,n4,c4,?_,?_,?_,n,rfl⟩,?_⟩,ht.trans ⟨?_,?_⟩⟩
 ·refine(h.b.pure hb).fr f (fun ad had e=>?_);have:=j.hA ad had;have:=j.w0;omega
 ·rw [Ef];exact(h1.pure hb).set_ 3 _
 ·rw [Ga];refine(h2.pure hb).fr f (fun ad had e=>?_);have:=(h2.addr ad had).2.1;have e:ad.block=E.bw:=e;omega
 ·rw [hL];refine(ho.rebase i).fr f (fun ad had e=>?_);have v:=d ad had;have e:ad.block=E.bw:=e;omega
 ·exact Am i (Am hb.size f.size)
 ·exact(Fr.of_below hb _).trans f (fun k _ e hF=>hF.1 e)
 ·intro k y hF;refine⟨hF.1,hF.2.1,fun e=>?_⟩;cases A4 with
  |none=>cases e
  |some ad=>
   injection e with e
   have x:=d ad rfl;have e:ad.block=k:=e;omega
theorem sL{E:Il}{g:E9}{c:Int}(h:D9 E g s w)(hs:Db (s.tell a b c).o=Db s.o):D9 E g (s.tell a b c) w:=by
 obtain⟨Ah,nh,ch,Al,nl,cl,h1,h2,h3,h4,h5⟩:=h.R;refine⟨h.ok,h.b,⟨Ah,nh,ch,Al,nl,cl,?_,?_,?_,h4,h5⟩,h.sz⟩
 ·rw [Ef];exact h1
 ·rw [Ga];exact h2
 ·rw [hs];exact h3
theorem vP(E:Il)(g:E9)(s:Bk)(a b c:Int)(w:World)(h:D9 E g s w)(hab:a≤b)(hs:s.o.length≤1073741824)(hmid:∃y∈Db s.o,¬Fm y (a,b,c)):
  Calls Ad 88 #[Adm E.bw,Aa Ab a,Aa Ab b,Aa Ab c] w fun e w'=>e= .returned (.tuple #[])∧Nh E g (s.tell a b c) w w':=by
 have B:=Hd (h.alloc (.cells #[Aa Ab a,Aa Ab b,Aa Ab c] 46));have r:=Hd (h.lone 46 #[Aa Ab a,Aa Ab b,Aa Ab c]);have F:=Hd ((Ee.refl E g w).alloc (.cells #[Aa Ab a,Aa Ab b,Aa Ab c] 46));obtain⟨L,hL⟩:∃L,Db s.o=L:=⟨_,rfl⟩;have av:=Wh s.o;rw [hL] at av hmid;have al:=Hd hmid;clear hmid;obtain⟨Ah,nh,ch,Al,nl,T,h1,h2,h3,h4,h5⟩:=B.o.R;rw [hL] at h3;have m:=Hd h1;have P:=Hd h2;have D:=Hd h3;have HG:=Hd (And.intro h4 h5);have aw:L.length=nl:=h3.1;have ar:=h3.cap.1;have ak:=Hd hL;have Y:=Hd aw;have bz:nl≤1073741824:=by omega
 clear h h1 h2 h3 h4 h5 hL av aw;go_enter func88,ntmps88;go_upto_region 1 with fail
 generalize w.alloc (.cells #[Aa Ab a,Aa Ab b,Aa Ab c] 46)=w1 at B r F m P D⊢;generalize w.heap.size=bx at r⊢;go_wp2_with fail;go_loopw [9] (fun i wr=>∃k:Nat,k≤nl∧i= Aa Ab k∧Below w1.heap.size w1 wr∧∀j y,j<k→L[j]?=some y→Fm y (a,b,c)) (fun i _=>nl-(intOf i).toNat)
 case atStart=>exact⟨0,by omega,rfl,Af _ _,fun j y hj=>absurd hj (Nat.not_lt_zero _)⟩
 case round=>
  obtain⟨k,hk,rfl,n,U⟩:=hrel;replace B:=Hd (B.o.pure n);replace r:=Hd (r.o.pure n);replace F:=Hd (F.o.below n);replace m:=Hd (m.o.pure n);replace P:=Hd (P.o.pure n);replace D:=Hd (D.o.pure n);have HB:=Hd n;have t:=Hd U;clear n U;have u:_=some (Value.slice Al nl T):=m.o.cell 3;have M:_=some (Aa Ab a):=r.o.1.cell 0;have N:_=some (Aa Ab b):=r.o.1.cell 1;have O:_=some (Aa Ab c):=r.o.1.cell 2;by_cases au:k<nl
  ·obtain⟨Q,S,e2,h2⟩:=qE D.o.is au;subst e2;obtain⟨⟨x,y,z⟩,hx⟩:∃x,L[k]?=some x:=⟨_,Aj (by rw [Y.o];exact au)⟩;obtain⟨a0,a1,a2⟩:=h2 x y z hx;obtain⟨q,hq⟩:∃q,decide (Fm (x,y,z) (a,b,c))=q:=⟨_,rfl⟩;have HQ:=Hd hq;have ab:=Hd hx;have bt:(0:Int)≤k:=by omega
   have bu:(k:Int)<nl:=by omega
   have b0:IntKind.i64.wrap ((k:Int)+1)=(k:Int)+1:=Ag _ (by omega);clear h2 hx hq;obtain⟨wz,rfl⟩:∃wo:World,wo=wr:=⟨_,rfl⟩;go_wp2_with fail;go_region_held3 (fun w'=>w'.cell? ⟨E.bw,3,none⟩=some (.slice (some ⟨Q,S,none⟩) nl T)∧(w'.cell? ⟨bx,0,none⟩=some (Aa Ab a)∧w'.cell? ⟨bx,1,none⟩=some (Aa Ab b)∧w'.cell? ⟨bx,2,none⟩=some (Aa Ab c))∧(w'.cell? ⟨Q,S+k*3,none⟩=some (Aa Ab x)∧w'.cell? ⟨Q,S+k*3+1,none⟩=some (Aa Ab y)∧w'.cell? ⟨Q,S+k*3+2,none⟩=some (Aa Ab z)))
    (first|with_reducible exact⟨u,⟨M,N,O⟩,a0,a1,a2⟩|with_reducible exact⟨B3 u,⟨B3 M,B3 N,B3 O⟩,B3 a0,B3 a1,B3 a2⟩)
    (first|(go_at_call 162;(with_reducible refine(fH x y z a b c q _ HQ.o).mono ?_);rintro e w5 ⟨rfl,n⟩;have p:=Hd (B4 (Co wz) n);replace u:=Bg n (B3 u);replace M:=Bg n (B3 M);replace N:=Bg n (B3 N);replace O:=Bg n (B3 O);replace a0:=Bg n (B3 a0);replace a1:=Bg n (B3 a1);replace a2:=Bg n (B3 a2);clear n))
   cases q with
   |true=>
    clear u M N O a0 a1 a2;go_wp2_with fail;go_roundw
    case rel=>
     refine⟨k+1,by omega,by go_num,Ba HB.o p.o,fun j y' hj hy=>?_⟩;by_cases e:j=k
     ·subst e;rw [ab.o] at hy;injection hy with hy
      subst hy;exact of_decide_eq_true HQ.o
     ·exact t.o j y' (by omega) hy
    case measure=>simp [intOf];omega
   |false=>
    have V:=of_decide_eq_false HQ.o;have am:=Hd V;clear V;replace B:=Hd (B.o.pure p.o);replace r:=Hd (r.o.pure p.o);replace F:=Hd (F.o.below p.o);replace m:=Hd (m.o.pure p.o);replace P:=Hd (P.o.pure p.o);replace D:=Hd (D.o.pure p.o);go_wp2_with fail;clear HB p;generalize w5=wv at B r F m P D u M N O a0 a1 a2⊢;by_cases ae:a<b
    ·have e1:(a==b)=false:=beq_eq_false_iff_ne.mpr (by omega);by_cases C:(x,y,z)=(a,b,c)
     ·have be:=Q5 (x,y,z) (a,b,c) true (decide_eq_true C);have K:s.tell a b c={ s with o:=s.o++ [(a,b,c)]}:=if_pos ae;have J:Db (s.tell a b c).o=Db s.o:=by
       rw [Ta s a b c ae,ak.o];exact dL _ _ k t.o (by rw [ab.o,C])
      have aa:=Hd (And.intro K J);clear C K J;go_quiet (fail);go_wp2_with fail;have HD:=Hd (below_drewN (Af wv.heap.size wv) nq);refine bodyPost_ret (results_none rfl _ _ _) rfl ?_;exact⟨rfl,g,sL (B.o.pure HD.o) aa.o.2,F.o.below HD.o⟩
     ·have be:=Q5 (x,y,z) (a,b,c) false (decide_eq_false C);have J:Db (s.tell a b c).o=L.take k++ [(a,b,c)]++L.drop k:=by
       rw [Ta s a b c ae,ak.o];refine dK _ _ k (by rw [Y.o];exact hk) t.o (fun y' hy=>?_);rw [ab.o] at hy;injection hy with hy
       subst hy;exact⟨am.o,C⟩
      have aa:=Hd J;clear C J;go_quiet (fail);have bo:=jD (some ⟨Q,S,none⟩) nl T k (by omega);obtain⟨X,bs,aq⟩:=Zu (some ⟨Q,S,none⟩) nl T k hk ar;have ba:=Hd aq;clear aq;go_wp2_with fail;replace B:=Hd (B.o.pure (below_drewN (Af _ _) nq));replace r:=Hd (r.o.pure (below_drewN (Af _ _) nq));replace F:=Hd (F.o.below (below_drewN (Af _ _) nq));replace m:=Hd (m.o.pure (below_drewN (Af _ _) nq));replace P:=Hd (P.o.pure (below_drewN (Af _ _) nq));replace D:=Hd (D.o.pure (below_drewN (Af _ _) nq));clear u M N O;generalize wv.drewN nq=wu at B r F m P D⊢;have u:_=some (Value.slice (some ⟨Q,S,none⟩) nl T):=m.o.cell 3;have M:_=some (Aa Ab a):=r.o.1.cell 0;have N:_=some (Aa Ab b):=r.o.1.cell 1;have O:_=some (Aa Ab c):=r.o.1.cell 2;obtain⟨wd,ax⟩:∃wd,wd=wu.drew:=⟨_,rfl⟩;have A:=Hd (show Below wu.heap.size wu wd by rw [ax];exact Co wu);have an:=Hd ((D.o.is.take Gv hk).pure A.o);have bb:=Hd (an.o.alloc (.cells #[Aa Ab a,Aa Ab b,Aa Ab c] 46));have bd:=Hd (Pp wd a b c);subst ax;have k3:=fun o=>C4 o u
      have k0:=fun o=>C4 o M
      have k1:=fun o=>C4 o N
      have k2:=fun o=>C4 o O
      go_region_law (first
       |(refine Gn rfl (.tmp 59) (.tmp 65) rfl wu.heap.size none 0 0 [] rfl (Own.nil _ _) (some ⟨Q,S,none⟩) k T (L.take k) rfl an.o (by omega) (Ae wu.heap.size) ?_;intro A2 H w2 d l;have G:=Hd (show F5 w2 wu.heap.size A2 k H (L.take k) by simpa using d);have f:=Hd (B8 A.o l (fun j ⟨ad,e,_⟩=>by cases e));have I:=Bg f.o u;have a3:=Bg f.o M;have a4:=Bg f.o N;have a5:=Bg f.o O;have ay:=fun o=>C4 o I;simp only [Nat.zero_add];clear d l)
       |(refine Gn rfl (.tmp 59) (.tmp 65) rfl wu.heap.size none 0 0 [] rfl (Own.nil _ _) (some ⟨Q,S,none⟩) k T (L.take k) rfl bb.o (by omega) (show wu.heap.size≤(wu.drew.alloc (.cells #[Aa Ab a,Aa Ab b,Aa Ab c] 46)).heap.size from(A.o.alloc A.o.size (.cells #[Aa Ab a,Aa Ab b,Aa Ab c] 46)).size) ?_;intro A2 H w2 d l;have G:=Hd (show F5 w2 wu.heap.size A2 k H (L.take k) by simpa using d);have f:=Hd (B8 (A.o.alloc A.o.size (.cells #[Aa Ab a,Aa Ab b,Aa Ab c] 46)) l (fun j ⟨ad,e,_⟩=>by cases e));have a7:=Hd (bd.o.fr l (fun ad e ⟨ad',e',_⟩=>by cases e'));have I:=Bg f.o u;have a3:=Bg f.o M;have a4:=Bg f.o N;have a5:=Bg f.o O;have ay:=fun o=>C4 o I;simp only [Nat.zero_add];clear d l)
       |(refine Gn rfl (.tmp 66) (.tmp 68) rfl wu.heap.size A2 k H (L.take k) rfl (G.o.pure ((Af _ _).alloc (Ae _) (.cells #[Aa Ab a,Aa Ab b,Aa Ab c] 46))) (some ⟨w2.heap.size,0,none⟩) 1 1 [(a,b,c)] rfl (Pp w2 a b c) (by omega) (f.o.alloc f.o.size (.cells #[Aa Ab a,Aa Ab b,Aa Ab c] 46)).size ?_;intro A3 ao w3 d l;have Z:=Hd d;have v:=Hd (B8 (f.o.alloc f.o.size (.cells #[Aa Ab a,Aa Ab b,Aa Ab c] 46)) l (by rintro j ⟨ad,e,rfl⟩;exact(G.o.addr ad e).2.1));have ap:=Bg v.o u;clear d l)
       |(refine Gn rfl (.tmp 66) (.tmp 68) rfl wu.heap.size A2 k H (L.take k) rfl G.o (some ⟨wu.heap.size,0,none⟩) 1 1 [(a,b,c)] rfl a7.o (by omega) f.o.size ?_;intro A3 ao w3 d l;have Z:=Hd d;have v:=Hd (B8 f.o l (by rintro j ⟨ad,e,rfl⟩;exact(G.o.addr ad e).2.1));have ap:=Bg v.o u;clear d l)
       |(refine Gn rfl (.tmp 69) (.tmp 75) rfl wu.heap.size A3 (k+1) ao (L.take k++ [(a,b,c)]) rfl Z.o X (nl-k) (T-k) (L.drop k) rfl (ba.o _ _ (D.o.is.pure v.o)) (by omega) v.o.size ?_;intro A4 c4 w4 d l;have a8:=Hd d;have W:=Hd (B8 v.o l (by rintro j ⟨ad,e,rfl⟩;exact(Z.o.addr ad e).2.1));have bk:=Bg W.o u;have bl:=(m.o.pure W.o).frozen 3;clear d l))
      all_goals
       go_wp2_with fail;go_end0;exact⟨rfl,aF B.o F.o W.o a8.o aa.o⟩
    ·obtain rfl:a=b:=by omega
     go_quiet (fail);go_wp2_with fail;have HD:=Hd (below_drewN (Af wv.heap.size wv) nq);refine bodyPost_ret (results_none rfl _ _ _) rfl ?_;have bg:s.tell a a c=s:=if_neg (by omega);rw [bg];exact⟨rfl,g,B.o.pure HD.o,F.o.below HD.o⟩
  ·obtain⟨y,hy,hn⟩:=al.o;obtain⟨j,hj,e⟩:=List.mem_iff_getElem.1 hy;exact absurd (t.o j y (by have:=Y.o;omega) (by rw [Aj hj,e])) hn
theorem rX(E:Il)(g:E9)(s:Bk)(a b c:Int)(w:World)(h:D9 E g s w)(hab:a≤b)(hs:s.o.length≤1073741824)(hmid:∀y∈Db s.o,Fm y (a,b,c)):
  Calls Ad 88 #[Adm E.bw,Aa Ab a,Aa Ab b,Aa Ab c] w fun e w'=>e= .returned (.tuple #[])∧Nh E g (s.tell a b c) w w':=by
 have A:=Hd (h.alloc (.cells #[Aa Ab a,Aa Ab b,Aa Ab c] 46));have n:=Hd (h.lone 46 #[Aa Ab a,Aa Ab b,Aa Ab c]);have G:=Hd ((Ee.refl E g w).alloc (.cells #[Aa Ab a,Aa Ab b,Aa Ab c] 46));obtain⟨L,hL⟩:∃L,Db s.o=L:=⟨_,rfl⟩;have aj:=Wh s.o;rw [hL] at aj hmid;have V:=Hd hmid;clear hmid;obtain⟨Ah,nh,ch,O,nl,K,h1,h2,h3,h4,h5⟩:=A.o.R;rw [hL] at h3;have m:=Hd h1;have J:=Hd h2;have v:=Hd h3;have HG:=Hd (And.intro h4 h5);have ak:L.length=nl:=h3.1;have ai:=h3.cap.1;have ay:=Hd hL;have Q:=Hd ak;have bs:nl≤1073741824:=by omega
 clear h h1 h2 h3 h4 h5 hL aj ak;go_enter func88,ntmps88;go_upto_region 1 with fail
 generalize w.alloc (.cells #[Aa Ab a,Aa Ab b,Aa Ab c] 46)=w1 at A n G m J v⊢;generalize w.heap.size=bx at n⊢;go_wp2_with fail;go_loopw [9] (fun i wr=>∃k:Nat,k≤nl∧i= Aa Ab k∧Below w1.heap.size w1 wr∧∀j y,j<k→L[j]?=some y→Fm y (a,b,c)) (fun i _=>nl-(intOf i).toNat)
 case atStart=>exact⟨0,by omega,rfl,Af _ _,fun j y hj=>absurd hj (Nat.not_lt_zero _)⟩
 case round=>
  obtain⟨k,hk,rfl,p,N⟩:=hrel;replace A:=Hd (A.o.pure p);replace n:=Hd (n.o.pure p);replace G:=Hd (G.o.below p);replace m:=Hd (m.o.pure p);replace J:=Hd (J.o.pure p);replace v:=Hd (v.o.pure p);have HB:=Hd p;have M:=Hd N;clear p N;have r:_=some (Value.slice O nl K):=m.o.cell 3;have B:_=some (Aa Ab a):=n.o.1.cell 0;have C:_=some (Aa Ab b):=n.o.1.cell 1;have D:_=some (Aa Ab c):=n.o.1.cell 2;by_cases T:k<nl
  ·obtain⟨b2,o2,e2,h2⟩:=qE v.o.is T;subst e2;obtain⟨⟨x,y,z⟩,hx⟩:∃x,L[k]?=some x:=⟨_,Aj (by rw [Q.o];exact T)⟩;obtain⟨Z,a1,a2⟩:=h2 x y z hx;obtain⟨q,hq⟩:∃q,decide (Fm (x,y,z) (a,b,c))=q:=⟨_,rfl⟩;have HQ:=Hd hq;have W:=Hd hx;have bq:(0:Int)≤k:=by omega
   have br:(k:Int)<nl:=by omega
   have bt:IntKind.i64.wrap ((k:Int)+1)=(k:Int)+1:=Ag _ (by omega);clear h2 hx hq;obtain⟨wz,rfl⟩:∃wo:World,wo=wr:=⟨_,rfl⟩;go_wp2_with fail;go_region_held3 (fun w'=>w'.cell? ⟨E.bw,3,none⟩=some (.slice (some ⟨b2,o2,none⟩) nl K)∧(w'.cell? ⟨bx,0,none⟩=some (Aa Ab a)∧w'.cell? ⟨bx,1,none⟩=some (Aa Ab b)∧w'.cell? ⟨bx,2,none⟩=some (Aa Ab c))∧(w'.cell? ⟨b2,o2+k*3,none⟩=some (Aa Ab x)∧w'.cell? ⟨b2,o2+k*3+1,none⟩=some (Aa Ab y)∧w'.cell? ⟨b2,o2+k*3+2,none⟩=some (Aa Ab z)))
    (first|with_reducible exact⟨r,⟨B,C,D⟩,Z,a1,a2⟩|with_reducible exact⟨B3 r,⟨B3 B,B3 C,B3 D⟩,B3 Z,B3 a1,B3 a2⟩)
    (first|(go_at_call 162;(with_reducible refine(fH x y z a b c q _ HQ.o).mono ?_);rintro e w5 ⟨rfl,p⟩;have aw:=Hd (B4 (Co wz) p);replace r:=Bg p (B3 r);replace B:=Bg p (B3 B);replace C:=Bg p (B3 C);replace D:=Bg p (B3 D);replace Z:=Bg p (B3 Z);replace a1:=Bg p (B3 a1);replace a2:=Bg p (B3 a2);clear p))
   cases q with
   |true=>
    clear r B C D Z a1 a2;go_wp2_with fail;go_roundw
    case rel=>
     refine⟨k+1,by omega,by go_num,Ba HB.o aw.o,fun j y' hj hy=>?_⟩;by_cases e:j=k
     ·subst e;rw [W.o] at hy;injection hy with hy
      subst hy;exact of_decide_eq_true HQ.o
     ·exact M.o j y' (by omega) hy
    case measure=>simp [intOf];omega
   |false=>
    exact absurd (V.o (x,y,z) (List.mem_of_getElem? W.o)) (of_decide_eq_false HQ.o)
  ·have bp:decide (k<nl)=false:=decide_eq_false (by omega);have ax:=Hd (show k=nl by omega);clear T;go_wp2_with fail;go_quiet (fail);go_wp2_with fail;replace A:=Hd (A.o.pure (below_drewN (Af _ _) nq));replace n:=Hd (n.o.pure (below_drewN (Af _ _) nq));replace G:=Hd (G.o.below (below_drewN (Af _ _) nq));replace m:=Hd (m.o.pure (below_drewN (Af _ _) nq));replace J:=Hd (J.o.pure (below_drewN (Af _ _) nq));replace v:=Hd (v.o.pure (below_drewN (Af _ _) nq));clear HB r B C D;generalize wr.drewN nq=wv at A n G m J v⊢;have r:_=some (Value.slice O nl K):=m.o.cell 3;have B:_=some (Aa Ab a):=n.o.1.cell 0;have C:_=some (Aa Ab b):=n.o.1.cell 1;have D:_=some (Aa Ab c):=n.o.1.cell 2;by_cases ba:a<b
   ·have e1:(a==b)=false:=beq_eq_false_iff_ne.mpr (by omega);have ag:Db (s.tell a b c).o=L.take k++ [(a,b,c)]++L.drop k:=by
     rw [Ta s a b c ba,ay.o];refine dK _ _ k (by rw [Q.o];exact hk) M.o (fun y' hy=>?_);rw [ax.o,List.getElem?_eq_none (by rw [Q.o];exact Ae _)] at hy;cases hy
    have a5:=Hd ag;clear ag;go_quiet (fail);have bl:=jD O nl K k (by omega);obtain⟨X,bo,ah⟩:=Zu O nl K k hk ai;have a6:=Hd ah;clear ah;go_wp2_with fail;replace A:=Hd (A.o.pure (below_drewN (Af _ _) nq));replace n:=Hd (n.o.pure (below_drewN (Af _ _) nq));replace G:=Hd (G.o.below (below_drewN (Af _ _) nq));replace m:=Hd (m.o.pure (below_drewN (Af _ _) nq));replace J:=Hd (J.o.pure (below_drewN (Af _ _) nq));replace v:=Hd (v.o.pure (below_drewN (Af _ _) nq));clear r B C D;generalize wv.drewN nq=wu at A n G m J v⊢;have r:_=some (Value.slice O nl K):=m.o.cell 3;have B:_=some (Aa Ab a):=n.o.1.cell 0;have C:_=some (Aa Ab b):=n.o.1.cell 1;have D:_=some (Aa Ab c):=n.o.1.cell 2;obtain⟨wd,al⟩:∃wd,wd=wu.drew:=⟨_,rfl⟩;have u:=Hd (show Below wu.heap.size wu wd by rw [al];exact Co wu);have Y:=Hd ((v.o.is.take Gv hk).pure u.o);have a7:=Hd (Y.o.alloc (.cells #[Aa Ab a,Aa Ab b,Aa Ab c] 46));have a8:=Hd (Pp wd a b c);subst al;have k3:=fun o=>C4 o r
    have k0:=fun o=>C4 o B
    have k1:=fun o=>C4 o C
    have k2:=fun o=>C4 o D
    go_region_law (first
     |(refine Gn rfl (.tmp 59) (.tmp 65) rfl wu.heap.size none 0 0 [] rfl (Own.nil _ _) O k K (L.take k) rfl Y.o (by omega) (Ae wu.heap.size) ?_;intro U H w2 d l;have F:=Hd (show F5 w2 wu.heap.size U k H (L.take k) by simpa using d);have f:=Hd (B8 u.o l (fun j ⟨ad,e,_⟩=>by cases e));have I:=Bg f.o r;have ao:=Bg f.o B;have ap:=Bg f.o C;have aq:=Bg f.o D;have am:=fun o=>C4 o I;simp only [Nat.zero_add];clear d l)
     |(refine Gn rfl (.tmp 59) (.tmp 65) rfl wu.heap.size none 0 0 [] rfl (Own.nil _ _) O k K (L.take k) rfl a7.o (by omega) (show wu.heap.size≤(wu.drew.alloc (.cells #[Aa Ab a,Aa Ab b,Aa Ab c] 46)).heap.size from(u.o.alloc u.o.size (.cells #[Aa Ab a,Aa Ab b,Aa Ab c] 46)).size) ?_;intro U H w2 d l;have F:=Hd (show F5 w2 wu.heap.size U k H (L.take k) by simpa using d);have f:=Hd (B8 (u.o.alloc u.o.size (.cells #[Aa Ab a,Aa Ab b,Aa Ab c] 46)) l (fun j ⟨ad,e,_⟩=>by cases e));have az:=Hd (a8.o.fr l (fun ad e ⟨ad',e',_⟩=>by cases e'));have I:=Bg f.o r;have ao:=Bg f.o B;have ap:=Bg f.o C;have aq:=Bg f.o D;have am:=fun o=>C4 o I;simp only [Nat.zero_add];clear d l)
     |(refine Gn rfl (.tmp 66) (.tmp 68) rfl wu.heap.size U k H (L.take k) rfl (F.o.pure ((Af _ _).alloc (Ae _) (.cells #[Aa Ab a,Aa Ab b,Aa Ab c] 46))) (some ⟨w2.heap.size,0,none⟩) 1 1 [(a,b,c)] rfl (Pp w2 a b c) (by omega) (f.o.alloc f.o.size (.cells #[Aa Ab a,Aa Ab b,Aa Ab c] 46)).size ?_;intro A3 ae w3 d l;have S:=Hd d;have t:=Hd (B8 (f.o.alloc f.o.size (.cells #[Aa Ab a,Aa Ab b,Aa Ab c] 46)) l (by rintro j ⟨ad,e,rfl⟩;exact(F.o.addr ad e).2.1));have af:=Bg t.o r;clear d l)
     |(refine Gn rfl (.tmp 66) (.tmp 68) rfl wu.heap.size U k H (L.take k) rfl F.o (some ⟨wu.heap.size,0,none⟩) 1 1 [(a,b,c)] rfl az.o (by omega) f.o.size ?_;intro A3 ae w3 d l;have S:=Hd d;have t:=Hd (B8 f.o l (by rintro j ⟨ad,e,rfl⟩;exact(F.o.addr ad e).2.1));have af:=Bg t.o r;clear d l)
     |(refine Gn rfl (.tmp 69) (.tmp 75) rfl wu.heap.size A3 (k+1) ae (L.take k++ [(a,b,c)]) rfl S.o X (nl-k) (K-k) (L.drop k) rfl (a6.o _ _ (v.o.is.pure t.o)) (by omega) t.o.size ?_;intro A4 c4 w4 d l;have a3:=Hd d;have P:=Hd (B8 t.o l (by rintro j ⟨ad,e,rfl⟩;exact(S.o.addr ad e).2.1));have bh:=Bg P.o r;have bi:=(m.o.pure P.o).frozen 3;clear d l))
    all_goals
     go_wp2_with fail;go_end0;exact⟨rfl,aF A.o G.o P.o a3.o a5.o⟩
   ·obtain rfl:a=b:=by omega
    go_quiet (fail);go_wp2_with fail;have HD:=Hd (below_drewN (Af wv.heap.size wv) nq);refine bodyPost_ret (results_none rfl _ _ _) rfl ?_;have bb:s.tell a a c=s:=if_neg (by omega);rw [bb];exact⟨rfl,g,A.o.pure HD.o,G.o.below HD.o⟩
theorem D7(E:Il)(g:E9)(s:Bk)(a b c:Int)(w:World)(h:D9 E g s w)(hab:a≤b)(hs:s.o.length≤1073741824):
  Calls Ad 88 #[Adm E.bw,Aa Ab a,Aa Ab b,Aa Ab c] w fun e w'=>e= .returned (.tuple #[])∧Nh E g (s.tell a b c) w w':=by
 by_cases d:∀y∈Db s.o,Fm y (a,b,c)
 ·exact rX E g s a b c w h hab hs d
 ·refine vP E g s a b c w h hab hs ?_;refine Decidable.byContradiction fun hno=>d fun y hy=>?_
  exact Decidable.byContradiction fun hn=>hno ⟨y,hy,hn⟩
end Go.Proofs.YtejpbijeifjdeaaGreat
