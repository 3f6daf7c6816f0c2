/- Parts of the proof. -/
import Derived.Test.YtejpbijeifjdeaaGreatQv06
set_option maxHeartbeats 4000000
set_option maxRecDepth 100000
open Go.Value renaming int→Aa
open Go.IntKind renaming i64→Ab,u64→Ac
open Nat renaming le_refl→Ae,zero_le→Am,lt_of_lt_of_le→Ar
open Go.RowKit.Below renaming refl→Af
open List renaming getElem?_eq_getElem→Ai,replicate→An,take_of_length_le→Aw
open Int renaming toNat_natCast→Ao
open Go.Proofs.Tryz
open Go.Proofs.Tryz renaming prog→Ad
namespace Go.Proofs.YtejpbijeifjdeaaGreat
open Go.RowKit Go.Acc
variable {u:Value}{α:Type}{W W' w w':World}{n B c k a sz g:Nat}{A:Option Addr}{l vs:List Nv}{p:Nat→Prop}{x:Nv}{t:Tr}{ts:List Tr}{q:Nat→Nat→Prop}{e:TypeId}{Z Y:Array Value}
theorem uC(k n:Int)(u:Nat)(s:List UInt8)(A:Option Addr)(an ac:Nat)(B:Option Addr)(bn bc:Nat)(w:World):
  Calls Ad 116 #[.agg (Ab8 k n u s A an ac B bn bc)] w (Ab5 (.bool (decide (n=1))) w):=by
 go_enter func116,ntmps116;go_wp2_with fail;go_ret;exact⟨rfl,(Af _ _).alloc (Ae _) _⟩
theorem jY(M:Bp)(fl:Int)(f:Nat)(b:Bd)(k n:Int)(u:Nat)(s:List UInt8)(A:Option Addr)(an ac:Nat)(B:Option Addr)(bn bc:Nat)(w:World)(o:Nat→Nat)(h:BM M fl w o b)(hs:b.s.length<65536)(hm:b.b.length+15≤1048576)
  (hn: -9223372036854775808≤n∧n≤9223372036854775807) (hu:u<18446744073709551616) (hk:k=1∨k=2∨k=3∨k=4∨k=8∨k=9):
  Calls Ad 128 #[Aca M.β,.agg (Ab8 k n u s A an ac B bn bc)] w (D3 M fl (b.leaf f k n u s) w o):=by
 have d:=Hd (show Below w.heap.size w (w.alloc (.cells (Ab8 k n u s A an ac B bn bc) 34)) from(Af _ _).alloc (Ae _) _);have g:=Hd (h.pure d.o);have i:=Hd hs;have r:=Hd hm;have t:=Hd hn;have v:=Hd hu;clear h hs hm hn hu;rcases hk with rfl|rfl|rfl|rfl|rfl|rfl
 ·go_enter func128,ntmps128;go_wp2_with fail;go_at_call 210;refine(iZ M fl b _ o g.o i.o).mono ?_;rintro e l a;obtain rfl:=a.1;have c:=Hd (a.from_pure d.o);clear a;go_wp2_with fail;go_end0;have h:=c.o;unfold Bd.leaf;simpa using h
 ·go_enter func128,ntmps128;go_wp2_with fail;go_at_call 116;refine(uC 2 n u s A an ac B bn bc _).mono ?_;rintro e y ⟨rfl,q⟩;have p:=Hd (g.o.pure q);have m:=Hd (A6 d.o q);clear q;generalize j:decide (n=1)=tt at*;have x:=Hd j;clear j;go_wp2_with fail;go_at_call 211;refine(iT M fl b n tt _ o p.o i.o x.o).mono ?_;rintro e l a;obtain rfl:=a.1;have c:=Hd (a.from_pure m.o);clear a;go_wp2_with fail;go_end0;have h:=c.o;unfold Bd.leaf;simpa using h
 ·go_enter func128,ntmps128;go_wp2_with fail;go_at_call 212;refine(lY M fl b n _ o g.o i.o t.o).mono ?_;rintro e l a;obtain rfl:=a.1;have c:=Hd (a.from_pure d.o);clear a;go_wp2_with fail;go_end0;have h:=c.o;unfold Bd.leaf;simpa using h
 ·go_enter func128,ntmps128;go_wp2_with fail;go_at_call 213;refine(jF M fl b u _ o g.o i.o v.o).mono ?_;rintro e l a;obtain rfl:=a.1;have c:=Hd (a.from_pure d.o);clear a;go_wp2_with fail;go_end0;have h:=c.o;unfold Bd.leaf;simpa using h
 ·go_enter func128,ntmps128;go_wp2_with fail;go_at_call 214;refine(iV M fl b n _ o g.o i.o r.o t.o).mono ?_;rintro e l a;obtain rfl:=a.1;have c:=Hd (a.from_pure d.o);clear a;go_wp2_with fail;go_end0;have h:=c.o;unfold Bd.leaf;simpa using h
 ·go_enter func128,ntmps128;go_wp2_with fail;go_at_call 215;refine(dO M fl b u _ o g.o i.o r.o v.o).mono ?_;rintro e l a;obtain rfl:=a.1;have c:=Hd (a.from_pure d.o);clear a;go_wp2_with fail;go_end0;have h:=c.o;unfold Bd.leaf;simpa using h
theorem Wi(M:Bp)(fl:Int)(b':Bd)(k n:Int)(u:Nat)(s:List UInt8)(A:Option Addr)(an ac:Nat)(B:Option Addr)(bn bc:Nat)(w:World)(o:Nat→Nat)(hk:1≤k∧k≤9)
  (hL:∀W,Below w.heap.size w W→Calls Ad 128 #[Aca M.β,.agg (Ab8 k n u s A an ac B bn bc)] W (D3 M fl b' W o)):
  Calls Ad 70 #[Aca M.β,.agg (Ab8 k n u s A an ac B bn bc)] w (D3 M fl b' w o):=by
 have j:=Bq w (.cells #[Aca M.β] 104) (.cells (Ab8 k n u s A an ac B bn bc) 34);have m:=Hd j;have p:=Hd (hL _ j);have a:(k==10)=false:=by simp;omega
 have b:(k==11)=false:=by simp;omega
 have c:(k==12)=false:=by simp;omega
 have d:(k==13)=false:=by simp;omega
 have f:(k==14)=false:=by simp;omega
 have g:(k==15)=false:=by simp;omega
 have h:(k==16)=false:=by simp;omega
 have i:(k==17)=false:=by simp;omega
 clear j hL hk;go_enter func70,ntmps70;go_wp2_with fail;go_at_call 128;refine p.o.mono ?_;rintro e r l;obtain rfl:=l.1;have q:=Hd (l.from_pure m.o);clear l a b c d f g h i;go_wp2_with fail;go_end0;exact q.o
def qH(x:Nat):List Value:=[Aa Ac (x:Int)]
theorem sO(h:u.oneCell'=true):∀v∈ [u],v.oneCell'=true:=by
 intro v hv;simp at hv;subst hv;exact h
theorem nL{f:α→List Value}(W:World)(t:TypeId)(x:α)(u:Value)(h:f x=[u]):Is f (W.alloc (.cells #[u] t)) (some ⟨W.heap.size,0,none⟩) 1 [x]:=by
 refine⟨rfl,fun j y hy=>⟨_,_,rfl,?_⟩⟩;rw [Nat.zero_add,(Bb.new W t _).cell j];have e: [x].flatMap f=[u]:=by simp [h]
 rw [e] at hy;simpa using hy
theorem zF:(Ad.info? 26).map (fun i=>(i.zero,i.size,i.bytes))=some (some (Aa Ac 0),1,8):=by kernel_rfl
theorem Wt:(Ad.info? 9).map (fun i=>(i.zero,i.size,i.bytes))=some (some (.string ⟨#[]⟩),1,16):=by kernel_rfl
theorem mU(x:Nv)(w:World):Calls Ad 113 #[.agg (Ab7 x)] w (Ab5 (Aa Ac (x.u:Int)) w):=by
 go_enter func113,ntmps113;go_wp2_with fail;go_ret;exact⟨rfl,(Af _ _).alloc (Ae _) _⟩
def Aas{α:Type}(f:α→List Value)(t:TypeId)(w:World)(n:Nat)(l:List α)(e:Ending)(w':World):Prop:=
 ∃A c,e= .returned (.slice A n c)∧Go.Acc.Own f 1 t w' w.heap.size A n c l∧Below w.heap.size w w'
theorem lA(x:Nv)(vs:List Nv)(w:World)(hI:It w x.B x.bn vs)(hn:x.bn≤1000000):Calls Ad 112 #[.agg (Ab7 x),.func (.func 113) #[] #[]] w (Aas qH 26 w x.bn (vs.map Nv.u)):=by
 have M:=Hd hI;have l:=Hd (show Below w.heap.size w (w.alloc (.cells (Ab7 x) 34)) from(Af _ _).alloc (Ae _) _);have I:=Hd hI.1;clear hI;go_enter func112,ntmps112;go_wp2_with fail;go_loopw [4,10] (fun s u wr=>∃k:Nat,k≤x.bn∧u= Aa Ab k∧∃A c,s= .slice A k c∧Go.Acc.Own qH 1 26 wr w.heap.size A k c ((vs.take k).map Nv.u)∧Below w.heap.size w wr) (fun _ u _=>x.bn-(intOf u).toNat)
 case atStart=>exact⟨0,Am _,rfl,none,0,rfl,Own.nil _ _,l.o⟩
 case round=>
  obtain⟨k,hk,rfl,A,c,rfl,J,i⟩:=hrel;have z:=Hd J;have d:=Hd i;have h:=M.o.pure i;clear J i l;by_cases S:k<x.bn
  ·obtain⟨v,G⟩:∃v,vs[k]?=some v:=⟨_,Ai (by have:=I.o;omega)⟩;obtain⟨g,T,e,W,X,Y,Z,v4,v5⟩:=Hp h G;have N:=Hd (show(vs.take (k+1)).map Nv.u=(vs.take k).map Nv.u++ [v.u] by
    obtain⟨U,V⟩:=List.getElem?_eq_some_iff.1 G;rw [List.take_succ_eq_append_getElem U,V,List.map_append];rfl)
   have Q:(0:Int)≤(k:Int):=by omega
   have R:(k:Int)<(x.bn:Int):=by omega
   have t:=Hd (d.o.alloc d.o.size (.cells (Ab7 v) 34));have E:=Hd (z.o.pure ((Af wr.heap.size wr).alloc (Ae _) (.cells (Ab7 v) 34)));rw [e];clear h G e;go_wp2_with fail;go_at_call 113;refine(mU v _).mono ?_;rintro e H ⟨rfl,F⟩;have m:=Hd (A6 t.o F);have C:=Hd (E.o.pure F);clear F W X Y Z v4 v5;have n:=Hd (m.o.alloc m.o.size (.cells #[Aa Ac (v.u:Int)] 26));have p:=Hd (C.o.pure ((Af H.heap.size H).alloc (Ae _) (.cells #[Aa Ac (v.u:Int)] 26)));have y:=Hd (nL (f:=qH) H 26 (v.u) (Aa Ac (v.u:Int)) rfl);go_wp2_with (at_builtin;refine Fl _ rfl (.tmp 14) (.tmp 18) _ rfl 26 _ 1 _ underlying28 zF rfl (by omega) (fun _=>rfl) (fun _=>sO rfl) _ _ _ _ _ rfl p.o _ _ _ _ rfl y.o (by omega) n.o.size ?_;intro K P w1 a b q);have D:=Hd a;have r:=Hd (Cf n.o b (by rintro j ⟨O,e,rfl⟩;exact(p.o.addr O e).2.1));clear a b q;go_wp2_with fail;go_roundw
   case rel=>exact⟨k+1,by omega,by go_num,K,P,rfl,by rw [N.o];exact D.o,r.o⟩
   case measure=>simp [intOf];omega
  ·obtain rfl:k=x.bn:=by omega
   have L:=Hd (show vs.take x.bn=vs from Aw (by have:=I.o;omega));rw [L.o] at z;clear h;go_wp2_with fail;go_ret;exact⟨A,c,rfl,z.o,d.o⟩
theorem zU{base e size:Nat}{v:Value}{xs:List Value}(h:W.ownsRow base e size v n xs)(hk:∀g,v.ownBlock=some g→W'.heap[g]?=W.heap[g]?):W'.ownsRow base e size v n xs:=by
 refine⟨h.1,?_⟩;rcases h.2 with hn|⟨g,cap,cur,rfl,hbg,hg,rest⟩
 ·exact .inl hn
 ·exact .inr ⟨g,cap,cur,rfl,hbg,by rw [hk g rfl];exact hg,rest⟩
theorem Wx(h:Jj W B A n c l)(hk:∀ad,A=some ad→W'.heap[ad.block]?=W.heap[ad.block]?):Jj W' B A n c l:=by
 refine⟨h.1,zU h.2 fun g e=>?_⟩;cases A with
 |none=>simp [Value.ownBlock] at e
 |some ad=>simp [Value.ownBlock] at e;subst e;exact hk ad rfl
inductive Jb(w:World):(Nat→Prop)→Nv→Tr→Prop
 |mk {p:Nat→Prop} {x:Nv} {ks:List (List UInt8)} {l:List Tr} {vs:List Nv} (q:Nat→Nat→Prop) (h1:Fm w x.A x.an ks) (ha:∀ad,x.A=some ad→p ad.block∧∀i,¬q i ad.block) (hac:x.an≤x.ac) (hx:x.an≤1099511627776)
   (h2:Jj w 0 x.B x.bn x.bc vs) (hb:∀ad,x.B=some ad→p ad.block∧∀i,¬q i ad.block) (hy:x.bn≤1099511627776) (hab:∀a b,x.A=some a→x.B=some b→a.block≠b.block)
   (hq:∀i k,q i k→p k) (hd:∀i j k,i≠j→q i k→¬q j k) (hl:vs.length=l.length)
   (hc:∀(i:Nat) v t,vs[i]?=some v→l[i]?=some t→Jb w (q i) v t):Jb w p x (.mk x.k x.n x.u x.s ks l)
theorem Jb.keep(h:Jb w p x t):(∀b,p b→w'.heap[b]?=w.heap[b]?)→Jb w' p x t:=by
 induction h with
 |mk q h1 ha hac hx h2 hb hy hab hq hd hl hc ih=>
  intro c;refine .mk q ⟨h1.1,N4 h1.2 (fun ad e=>(ha ad e).1) fun a u hc hpa=>?_⟩ ha hac hx (Wx h2 fun ad e=>c _ (hb ad e).1) hb hy hab hq hd hl (fun i v t hv ht=>ih i v t hv ht fun b hb=>c b (hq i b hb));rw [World.cell?_of_block (c _ hpa)];exact hc
theorem Jb.pure(h:Jb w p x t)(hp:∀b,p b→b<w.heap.size)(hb:Below w.heap.size w w'):Jb w' p x t:=h.keep fun b hpb=>hb.block b (hp b hpb)
theorem Sc:(Ad.info? 34).map (fun i=>(i.zero,i.size,i.bytes))=some (some (.agg #[Aa Ab 0,Aa Ab 0,Aa Ac 0,.string ⟨#[]⟩,.slice none 0 0,.slice none 0 0]),6,88):=by kernel_rfl
theorem bO(W:World)(x:Nv):It (W.alloc (.cells (Ab7 x) 34)) (some ⟨W.heap.size,0,none⟩) 1 [x]:=by
 refine⟨rfl,fun j y hy=>⟨_,_,rfl,?_⟩⟩;rw [Nat.zero_add,(Bb.new W 34 _).cell j];have e: [x].flatMap Kb=Kb x:=by simp
 rw [e] at hy;rw [←hy];simp [Kb]
def fD(w:World)(m:List (List UInt8))(e:Ending)(w':World):Prop:=
 ∃A n c,e= .returned (.slice A n c)∧K5 w' w.heap.size A n c m∧Below w.heap.size w w'
theorem Z0{w1:World}{l m:List (List UInt8)}(h:K5 w' w.heap.size A n c l)(hl:l=m)(h1:Below w.heap.size w w1){S:Nat→Prop}(hg:Fr S w1 w')(hS:∀k,k<w.heap.size→¬S k):fD w m (.returned (.slice A n c)) w':=by
 subst hl;exact⟨A,n,c,rfl,h,h1.trans (hg.belowB hS h1.size)⟩
theorem dQ(A:Option Addr)(n c:Nat)(l:List (List UInt8))(w:World)(h:Fm w A n l)(hl:n≤1099511627776):
  Calls Ad 146 #[.slice A n c] w (fD w l):=by
 have f:=fun(w:World) (A:Option Addr) (n c:Nat)=>Lib.run_eql_slice_nil (P:=Ad) w 31 9 A n c 0 0 underlying31
 rcases A with _|a
 ·obtain⟨rfl,rfl⟩:=h.none_ D5 (by omega);clear h hl;go_enter func146,ntmps146;go_wp2_with fail;go_ret;exact⟨none,0,0,rfl,Own.nil _ _,Af _ _⟩
 ·have g:Fm (w.alloc (.cells #[] 9)) (some a) n l:=h.alloc _;have m:K5 (w.alloc (.cells #[] 9)) w.heap.size (some ⟨w.heap.size,0,none⟩) 0 0 []:=⟨rfl,World.ownsRow_lit w #[] 0 (Ae _) (Am _) rfl⟩;have i:=Hd g;clear h g;go_enter func146,ntmps146;go_wp2_with (at_builtin;refine Fl _ rfl (.tmp 5) (.tmp 6) _ rfl 9 _ 1 16 underlying31 Wt rfl (by omega) D5 O6 _ _ _ _ _ rfl m _ _ _ _ rfl i.o (by omega) (by simp) ?_;intro p r t b d e);go_ret;exact Z0 (by simpa using b) rfl ((Af _ _).alloc (Ae _) _) d (by rintro k s ⟨q,h,j⟩;injection h with h;subst h;simp at j;omega)
structure Zl(w:World)(B:Nat)(k:Nat)(ts:List Tr)(A:Option Addr)(c:Nat)(vs:List Nv)(q:Nat→Nat→Prop):Prop where
 own:Jj w B A k c vs
 lt:∀i b,q i b→B≤b∧b<w.heap.size∧i<k
 off:∀ad,A=some ad→∀i,¬q i ad.block
 apart:∀i j b,i≠j→q i b→¬q j b
 kids:∀(i:Nat) v t,vs[i]?=some v→ts[i]?=some t→Jb w (q i) v t
theorem Zl.pure(h:Zl w B k ts A c vs q)(hb:Below w.heap.size w w'):Zl w' B k ts A c vs q:=
 ⟨h.own.pure hb,fun i b e=>⟨(h.lt i b e).1,Ar (h.lt i b e).2.1 hb.size,(h.lt i b e).2.2⟩,h.off,h.apart,fun i v t hv ht=>(h.kids i v t hv ht).pure (fun b e=>(h.lt i b e).2.1) hb⟩
theorem Zl.step{A1:Option Addr}{c1:Nat}(h:Zl W B k ts A c vs q)(ht:ts[k]?=some t)(hB:B≤a)(hqa:∀i b,q i b→b<a)(hA:∀ad,A=some ad→ad.block<a)
  (hx:Jb W (fun b=>a≤b∧b<w.heap.size) x t) (hw:w.heap.size≤W.heap.size) (ho:Jj W' B A1 (k+1) c1 (vs++ [x])) (hf:Fr (fun b=>∃ad,A=some ad∧b=ad.block) W W')
  (hat:A1.map (·.block)=A.map (·.block)∨A1.map (·.block)=some W.heap.size):Zl W' B (k+1) ts A1 c1 (vs++ [x]) (fun i b=>q i b∨(i=k∧a≤b∧b<w.heap.size)):=by
 have s:vs.length=k:=h.own.1;have u:=h.lt;refine⟨ho,?_,?_,?_,?_⟩
 ·rintro i b (e|⟨rfl,n,m⟩)
  ·obtain⟨n,m,r⟩:=h.lt i b e;exact⟨n,Ar m hf.size,by omega⟩
  ·exact⟨by omega,Ar m (Nat.le_trans hw hf.size),by omega⟩
 ·intro ad e i f;subst e;rcases hat with e|e
  ·cases A with
   |none=>simp at e
   |some ad0=>
    simp at e;rw [e] at f;rcases f with f|⟨_,h1,_⟩
    ·exact h.off _ rfl i f
    ·have:=hA _ rfl;omega
  ·simp at e;rw [e] at f;rcases f with f|⟨_,_,h2⟩
   ·have:=(h.lt i _ f).2.1;omega
   ·omega
 ·rintro i j b l (e|⟨rfl,n,m⟩) (p|⟨rfl,r,z⟩)
  ·exact h.apart i j b l e p
  ·have:=hqa i b e;omega
  ·have:=hqa j b p;omega
  ·exact l rfl
 ·intro i v y g d;by_cases f:i<k
  ·rw [List.getElem?_append_left (by omega)] at g;have h1:=(h.kids i v y g d).keep (w':=W') fun b hb=>hf.block b (h.lt i b hb).2.1 (by rintro⟨ad,e,rfl⟩;exact h.off ad e i hb)
   have e:(fun b=>q i b∨(i=k∧a≤b∧b<w.heap.size))=q i:=by
    funext b
    exact propext ⟨fun hh=>hh.elim (fun x=>x) (fun x=>absurd x.1 (by omega)),.inl⟩
   rw [e];exact h1
  ·rw [List.getElem?_append_right (by omega)] at g;have o:i=k:=by
    have:=(List.getElem?_eq_some_iff.1 g).1;simp at this;omega
   subst o;rw [s,Nat.sub_self] at g;simp at g;subst g;rw [ht] at d;injection d with d
   subst d;have h1:=hx.keep (w':=W') fun b hb=>hf.block b (Ar hb.2 hw) (by rintro⟨ad,e,rfl⟩;have:=hA ad e;omega)
   have e:(fun b=>q i b∨(i=i∧a≤b∧b<w.heap.size))=(fun b=>a≤b∧b<w.heap.size):=by
    funext b
    exact propext ⟨fun hh=>hh.elim (fun x=>absurd (h.lt i b x).2.2 (by omega)) (fun x=>x.2),fun hh=> .inr ⟨rfl,hh⟩⟩
   rw [e];exact h1
theorem Ij(w:World)(g:Nat)(v0 v1 v2 v3 v4 v5:Value):
  Fr (fun j=>j=g) w ((((((w.setCell ⟨g,0,none⟩ v0).setCell ⟨g,1,none⟩ v1).setCell ⟨g,2,none⟩ v2).setCell ⟨g,3,none⟩ v3).setCell ⟨g,4,none⟩ v4).setCell ⟨g,5,none⟩ v5):=
 ((((((Fr.refl (fun j=>j=g) w).setCell (p:=⟨g,0,none⟩) (fun _=>rfl) v0).setCell (p:=⟨g,1,none⟩) (fun _=>rfl) v1).setCell (p:=⟨g,2,none⟩) (fun _=>rfl) v2).setCell (p:=⟨g,3,none⟩) (fun _=>rfl) v3).setCell (p:=⟨g,4,none⟩) (fun _=>rfl) v4).setCell (p:=⟨g,5,none⟩) (fun _=>rfl) v5
def Abd(w:World)(t:Tr)(e:Ending)(w':World):Prop:=
 ∃x:Nv,e= .returned (.agg (Ab7 x))∧Jb w' (fun b=>w.heap.size≤b∧b<w'.heap.size) x t∧Below w.heap.size w w'
theorem mC{w0:World}(h:B7 w0 p x t):∀W,Below w0.heap.size w0 W→Calls Ad 75 #[.agg (Ab7 x)] W (Abd W t):=by
 induction h with
 | @mk x ks l vs h1 ha hac hx h2 hb hbc hy hl hc ih=>
  intro W hW;have HW:=Hd hW;have bu:=Hd ih;have HI:=Hd (show It W x.B x.bn vs from h2.pure hW);have HK:=Hd (show Fm W x.A x.an ks from h1.pure hW);have a6:=Hd hl;have J:=Hd (show vs.length=x.bn from h2.1);have I:=Hd (Bq W (.cells (Ab7 x) 34) (.cells #[Aa Ab 0,Aa Ab 0,Aa Ac 0,.string ⟨#[]⟩,.slice none 0 0,.slice none 0 0] 34));have K:=Hd ((Bb.new W 34 (Ab7 x)).alloc (.cells #[Aa Ab 0,Aa Ab 0,Aa Ac 0,.string ⟨#[]⟩,.slice none 0 0,.slice none 0 0] 34));have G:=Hd (Bb.new_ (w:=W.alloc (.cells (Ab7 x) 34)) (g:=W.heap.size+1) (by simp) 34 #[Aa Ab 0,Aa Ab 0,Aa Ac 0,.string ⟨#[]⟩,.slice none 0 0,.slice none 0 0]);have ak:=Hd (show((W.alloc (.cells (Ab7 x) 34)).alloc (.cells #[Aa Ab 0,Aa Ab 0,Aa Ac 0,.string ⟨#[]⟩,.slice none 0 0,.slice none 0 0] 34)).heap.size=W.heap.size+2 by simp);have aa:x.an≤1099511627776:=by omega
  have av:x.bn≤1099511627776:=by omega
  obtain⟨P,Q,xu,xs,XA,d,ab,XB,xbn,O⟩:=x;have aa:d≤1099511627776:=aa;have av:xbn≤1099511627776:=av;have J:=Hd (show vs.length=xbn from J.o);have bw:=Hd (show ks.length=d from h1.1);clear ih h1 ha h2 hb hbc hl hc hW hac hx hy;go_enter func75,ntmps75;go_upto_region 1 with fail
  generalize (W.alloc (.cells (Ab8 P Q xu xs XA d ab XB xbn O) 34)).alloc (.cells #[Aa Ab 0,Aa Ab 0,Aa Ac 0,.string ⟨#[]⟩,.slice none 0 0,.slice none 0 0] 34)=w1 at I K G ak⊢;generalize ar:W.heap.size=bt at K G ak⊢;generalize N:bt+1=br at G⊢;have HT:=Hd (And.intro ar N);clear ar N;have c4:w1.cell? ⟨bt,4,none⟩=some (.slice XA d ab):=K.o.cell 4;go_wp2_with fail;go_at_call 146;refine(dQ XA d ab ks _ (HK.o.pure I.o) aa).mono ?_;rintro e w2 ⟨n,n1,H,rfl,ap,L⟩;obtain rfl:d=n1:=by rw [←ap.1];exact bw.o.symm
  have T:=Hd ap;have ay:=Hd (A6 I.o L);have V:=Hd (K.o.pure L);have a1:=Hd (G.o.pure L);have U:=Hd (show br<w1.heap.size∧w1.heap.size≤w2.heap.size from⟨G.o.lt,L.size⟩);clear c4 ap L;have c4:w2.cell? ⟨bt,4,none⟩=some (.slice XA d ab):=V.o.cell 4;have f4:w2.frozen? ⟨bt,4,none⟩=false:=V.o.frozen 4;go_upto_region 2 with fail
  have r:=Hd (Fr.setCell (S:=fun j=>j=bt) (Fr.refl _ w2) (p:=⟨bt,4,none⟩) (fun _=>rfl) (.slice n d H));have X:=Hd (show Bb (w2.setCell ⟨bt,4,none⟩ (.slice n d H)) bt 34 (Ab8 P Q xu xs n d H XB xbn O) from V.o.set_ 4 _);generalize w2.setCell ⟨bt,4,none⟩ (.slice n d H)=w3 at r X⊢;have b8:bt≠br:=by have:=HT.o.2;omega
  have a2:=Hd (a1.o.fr r.o (by omega));have ai:=Hd (show Fm w3 n d ks∧∀ad,n=some ad→W.heap.size≤ad.block∧ad.block<w3.heap.size∧ad.block≠bt∧ad.block≠br by
   have hA:∀ad,n=some ad→w1.heap.size≤ad.block∧ad.block<w2.heap.size:=fun ad e=>(T.o.addr ad e).2
   have ar:bt<w1.heap.size:=by have h1:=U.o.1;have h2:=HT.o.2;omega
   refine⟨T.o.is.fr r.o (fun ad e=>by have:=hA ad e;omega),fun ad e=>?_⟩;have h3:=hA ad e;have h4:=I.o.size;have h5:=r.o.size;have h6:=U.o.1;have h7:=HT.o;omega)
  have ag:=Hd (Cf ay.o r.o (by rintro j rfl;exact Nat.le_of_eq HT.o.1));have a0:=Hd (show d≤H from T.o.cap.1);have b0:=Hd (show br<w3.heap.size by have h1:=U.o;have h2:=r.o.size;omega);clear c4 f4 b8 V a1 K G r T I ay ak HK;have c5:w3.cell? ⟨bt,5,none⟩=some (.slice XB xbn O):=X.o.cell 5;go_wp2_with fail;go_loopw [3,13] (fun s u wr=>∃k:Nat,k≤xbn∧u= Aa Ab k∧∃A c us q,s= .slice A k c∧Zl wr w3.heap.size k l A c us q∧Below W.heap.size W wr∧Bb wr bt 34 (Ab8 P Q xu xs n d H XB xbn O)∧Bb wr br 34 #[Aa Ab 0,Aa Ab 0,Aa Ac 0,.string ⟨#[]⟩,.slice none 0 0,.slice none 0 0]∧Fm wr n d ks∧w3.heap.size≤wr.heap.size) (fun _ u _=>xbn-(intOf u).toNat)
  case atStart=>exact⟨0,Am _,rfl,none,0,[],fun _ _=>False,rfl,⟨Own.nil _ _,fun _ _ h=>h.elim,fun _ h=>(by cases h),fun _ _ _ _ h=>h.elim,fun i v t hv _=>by simp at hv⟩,ag.o,X.o,a2.o,ai.o.1,Ae _⟩
  case round=>
   obtain⟨k,hk,rfl,A,c,us,q,rfl,hC,N,hx,hr,bd,bf⟩:=hrel;have HC:=Hd hC;have R:=Hd N;have Y:=Hd hx;have a4:=Hd hr;have ah:=Hd bd;have aj:=Hd bf;clear hC N hx hr bd bf c5;by_cases cr:k<xbn
   ·obtain⟨v,hv⟩:∃v,vs[k]?=some v:=⟨_,Ai (by have:=J.o;omega)⟩;obtain⟨t',au⟩:∃t',l[k]?=some t':=⟨_,Ai (by have:=J.o;have:=a6.o;omega)⟩;have a8:=HI.o.pure R.o;obtain⟨g,b9,e,v0,v1,v2,v3,v4,v5⟩:=Hp a8 hv;have aq:=(Af wr.heap.size wr).alloc (Ae _) (.cells (Ab7 v) 34);have bp:=Hd (bu.o k v t' hv au (wr.alloc (.cells (Ab7 v) 34)) (A6 HW.o (A6 R.o aq)));have bl:=Hd aq;have b3:=Hd au;have cp:(0:Int)≤(k:Int):=by omega
    have cq:(k:Int)<(xbn:Int):=by omega
    have e:XB=some ⟨g,b9,none⟩:=e;rw [e];have bq:=Hd e;clear a8 hv au aq e;go_wp2_with fail;go_at_call 75;refine bp.o.mono ?_;rintro e w5 ⟨y,rfl,ba,ao⟩;have a7:=(Af w5.heap.size w5).alloc (Ae _) (.cells (Ab7 y) 34);have f:=Hd (B5 (B5 bl.o ao) a7);have bx:=Hd (HC.o.own.pure f.o);have bs:=Hd (bO w5 y);have b4:=Hd ba;have a5:=Hd (show w3.heap.size≤(w5.alloc (.cells (Ab7 y) 34)).heap.size from Nat.le_trans aj.o f.o.size);have ck:=Hd (show(wr.alloc (.cells (Ab7 v) 34)).heap.size≤w5.heap.size from ao.size);clear ba ao a7 v0 v1 v2 v3 v4 v5;go_wp2_with (at_builtin;refine Fl _ rfl (.tmp 17) (.tmp 20) _ rfl 34 _ 6 88 underlying32 Sc rfl (by omega) Jh Wv _ _ _ _ _ rfl bx.o _ _ _ _ rfl bs.o (by omega) a5.o ?_;intro A2 c2 w6 ae D bb);have Z:∀ad,A=some ad→w3.heap.size≤ad.block∧ad.block<wr.heap.size:=fun ad e=>(HC.o.own.addr ad e).2
    have b6:wr.heap.size<(wr.alloc (.cells (Ab7 v) 34)).heap.size:=by simp
    have be:=(HC.o.pure f.o).step (w:=w5) (a:=(wr.alloc (.cells (Ab7 v) 34)).heap.size) b3.o (by have:=aj.o;omega) (fun i b hb=>by have:=(HC.o.lt i b hb).2.1;omega) (fun ad e=>by have:=Z ad e;omega)
     (b4.o.pure (fun b hb=>hb.2) ((Af w5.heap.size w5).alloc (Ae _) (.cells (Ab7 y) 34))) (by simp) ae D bb
    have b2:=Hd be;have F:∀b,b<w3.heap.size→¬(∃ad,A=some ad∧b=ad.block):=by
     rintro b hb ⟨ad,e,rfl⟩;have:=Z ad e;omega
    have bm:=Hd (Cf (A6 R.o f.o) D (by rintro j ⟨ad,e,rfl⟩;have h1:=Z ad e;have h2:=ag.o.size;omega));have b5:=Hd ((Y.o.pure f.o).fr D (F _ X.o.lt));have bz:=Hd ((a4.o.pure f.o).fr D (F _ a2.o.lt));have bv:=Hd ((ah.o.pure f.o).fr D (fun ad e=>F _ (ai.o.2 ad e).2.1));have b1:=Hd (Nat.le_trans a5.o D.size);clear ae D bb be F Z b6;go_wp2_with fail;go_roundw
    case rel=>exact⟨k+1,by omega,by go_num,A2,c2,_,_,rfl,b2.o,bm.o,by rw [bq.o] at *;exact b5.o,bz.o,bv.o,b1.o⟩
    case measure=>simp [intOf];omega
   ·obtain rfl:k=xbn:=by omega
    have c5:wr.cell? ⟨bt,5,none⟩=some (.slice XB k O):=Y.o.cell 5;have f5:wr.frozen? ⟨bt,5,none⟩=false:=Y.o.frozen 5;go_upto_region 9 with fail
    have z:=Hd (Fr.setCell (S:=fun j=>j=bt) (Fr.refl _ wr) (p:=⟨bt,5,none⟩) (fun _=>rfl) (.slice A k c));have C:=Hd (show Bb (wr.setCell ⟨bt,5,none⟩ (.slice A k c)) bt 34 (Ab8 P Q xu xs n d H A k c) from Y.o.set_ 5 _);generalize wr.setCell ⟨bt,5,none⟩ (.slice A k c)=w8 at z C⊢;have a3:=Hd (a4.o.fr z.o (by have:=HT.o.2;omega));have cj:=Hd (show wr.heap.size≤w8.heap.size from z.o.size);have bo:=Hd (Cf R.o z.o (by rintro j rfl;exact Nat.le_of_eq HT.o.1));clear c5 f5;have c0:w8.cell? ⟨bt,0,none⟩=some (Aa Ab P):=C.o.cell 0;have cm:w8.cell? ⟨bt,1,none⟩=some (Aa Ab Q):=C.o.cell 1;have c2:w8.cell? ⟨bt,2,none⟩=some (Aa Ac (xu:Int)):=C.o.cell 2;have c3:w8.cell? ⟨bt,3,none⟩=some (.string ⟨xs.toArray⟩):=C.o.cell 3;have c4:w8.cell? ⟨bt,4,none⟩=some (.slice n d H):=C.o.cell 4;have c5:w8.cell? ⟨bt,5,none⟩=some (.slice A k c):=C.o.cell 5;obtain ⟨r0,r1,r2,r3,r4,r5⟩:=a3.o.c6;have E:∀j,w8.frozen? ⟨br,j,none⟩=false:=fun j=>a3.o.frozen j
    have f0:=E 0;have f1:=E 1;have f2:=E 2;have f3:=E 3;have f4:=E 4;have f5:=E 5;clear E;go_wp2_with fail;refine bodyPost_ret (v:= .agg (Ab8 P Q xu xs n d H A k c)) (by simp [results,results75,go_sem,r0,r1,r2,r3,r4,r5]) rfl ?_;have M:=Ij w8 br (Aa Ab P) (Aa Ab Q) (Aa Ac (xu:Int)) (.string ⟨xs.toArray⟩) (.slice n d H) (.slice A k c);generalize (((((w8.setCell ⟨br,0,none⟩ (Aa Ab P)).setCell ⟨br,1,none⟩ (Aa Ab Q)).setCell ⟨br,2,none⟩ (Aa Ac (xu:Int))).setCell ⟨br,3,none⟩ (.string ⟨xs.toArray⟩)).setCell ⟨br,4,none⟩ (.slice n d H)).setCell ⟨br,5,none⟩ (.slice A k c)=w9 at M⊢;have m:=HC.o;have hS:=ai.o;have cn:=HT.o;have cs:=U.o;have ct:=b0.o;have cu:=z.o.size;have cv:=M.size;have cw:=aj.o;have co:=ag.o.size;have am:∀ad,A=some ad→w3.heap.size≤ad.block∧ad.block<wr.heap.size:=fun ad e=>(m.own.addr ad e).2
    have F:∀b,b<wr.heap.size→b≠bt→b≠br→w9.heap[b]?=wr.heap[b]?:=fun b h1 h2 h3=>(M.block b (by omega) (by omega)).trans (z.o.block b h1 (by omega))
    have b7:us.length=k:=m.own.1;refine⟨⟨P,Q,xu,xs,n,d,H,A,k,c⟩,rfl,Jb.mk (x:=⟨P,Q,xu,xs,n,d,H,A,k,c⟩) q ⟨ah.o.1,?_⟩ (fun ad e=>⟨?_,fun i hi=>?_⟩) a0.o aa (Wx (m.own.rebase (Am _)) fun ad e=>?_) (fun ad e=>⟨?_,m.off ad e⟩) av (fun a b ea eb=>?_) (fun i b hb=>?_) m.apart (by rw [b7,←J.o];exact a6.o) (fun i v t hv ht=>(m.kids i v t hv ht).keep fun b hb=>?_),Cf bo.o M (by rintro j rfl;omega)⟩
    ·exact(ah.o.2.fr z.o (fun ad e=>by have:=hS.2 ad e;omega)).fr M (fun ad e=>by have:=hS.2 ad e;omega)
    ·have:=hS.2 ad e;omega
    ·have:=hS.2 ad e;have:=m.lt i _ hi;omega
    ·have:=am ad e;exact F _ (by omega) (by omega) (by omega)
    ·have:=am ad e;omega
    ·have:=hS.2 a ea;have:=am b eb;omega
    ·have:=m.lt i b hb;omega
    ·have:=m.lt i b hb;exact F _ (by omega) (by omega) (by omega)
theorem sS{f:α→List Value}(hf:∀x,(f x).length=sz){l:List α}(h:Go.Acc.Own f sz e w B (some ⟨g,0,none⟩) n c l):∃cur,Bb w g e cur∧n*sz≤cur.size∧
  (∀(w':World) (cur':Array Value) (off k:Nat) (m:List α),Bb w' g e cur'→Lq cur (off*sz) (m.flatMap f) (k*sz) cur'→m.length=k→off+k≤n→Go.Acc.Own f sz e w' B (some ⟨g,0,none⟩) n c (l.take off++m++l.drop (off+k))):=by
 obtain⟨y,h1,h2⟩:=h;rcases h2 with⟨hv,_⟩|⟨z,r,cur,hv,t,u,d,j,b,a⟩
 ·cases hv
 ·injection hv with e1 _ e3
  injection e1 with e1
  injection e1 with e1
  subst e1 e3;have i:n*sz≤cur.size:=by
   rw [b];exact Nat.mul_le_mul_right sz d
  refine⟨cur,u,i,?_⟩;intro w' cur' off k m s p q v;have o:off*sz+k*sz≤n*sz:=by rw [←Nat.add_mul];exact Nat.mul_le_mul_right sz v
  refine⟨by simp;omega,?_,.inr ⟨g,c,cur',rfl,t,s,d,j,by rw [p.1];exact b,?_⟩⟩
  ·rw [Cd hf];simp;rw [q,y];congr 1;omega
  ·rw [p.take (by rw [Cd hf,q]) o i,a,List.flatMap_append,List.flatMap_append,Mk hf,Oo hf,Nat.add_mul]
theorem xG(cur:Array Value)(i:Nat)(x:Nv)(h:i+6≤cur.size):Lq cur i (Kb x) 6 ((((((cur.setIfInBounds i (Aa Ab x.k)).setIfInBounds (i+1) (Aa Ab x.n)).setIfInBounds (i+2) (Aa Ac (x.u:Int))).setIfInBounds (i+3) (.string ⟨x.s.toArray⟩)).setIfInBounds (i+4) (.slice x.A x.an x.ac)).setIfInBounds (i+5) (.slice x.B x.bn x.bc)):=by
 refine⟨by simp,fun j=>?_⟩;by_cases a:i≤j∧j<i+6
 ·rw [if_pos a];have b:j=i∨j=i+1∨j=i+2∨j=i+3∨j=i+4∨j=i+5:=by omega
  rcases b with rfl|rfl|rfl|rfl|rfl|rfl
  ·simp [Array.getElem?_setIfInBounds,Kb];omega
  ·simp [Array.getElem?_setIfInBounds,Kb];omega
  ·simp [Array.getElem?_setIfInBounds,Kb];omega
  ·simp [Array.getElem?_setIfInBounds,Kb];omega
  ·simp [Array.getElem?_setIfInBounds,Kb];omega
  ·simp [Array.getElem?_setIfInBounds,Kb];omega
 ·rw [if_neg a];simp only [Array.getElem?_setIfInBounds];rw [if_neg (by omega),if_neg (by omega),if_neg (by omega),if_neg (by omega),if_neg (by omega),if_neg (by omega)]
theorem Kw{i:Nat}(h:Jj w B (some ⟨g,0,none⟩) n c l)(hi:i<n)(x:Nv):
  (∀j,j<6→∃u,w.cell? ⟨g,i*6+j,none⟩=some u)∧(∀j,w.frozen? ⟨g,j,none⟩=false)∧Jj (((((((w).setCell ⟨g,i*6,none⟩ (Aa Ab (x).k)).setCell ⟨g,i*6+1,none⟩ (Aa Ab (x).n)).setCell ⟨g,i*6+2,none⟩ (Aa Ac ((x).u:Int))).setCell ⟨g,i*6+3,none⟩ (.string ⟨(x).s.toArray⟩)).setCell ⟨g,i*6+4,none⟩ (.slice (x).A (x).an (x).ac)).setCell ⟨g,i*6+5,none⟩ (.slice (x).B (x).bn (x).bc)) B (some ⟨g,0,none⟩) n c (l.set i x):=by
 obtain⟨b,d,m,a⟩:=sS Jh h;refine⟨fun j hj=>⟨b[i*6+j]'(by omega),by rw [d.cell,Array.getElem?_eq_getElem (by omega)]⟩,fun j=>d.frozen j,?_⟩;have f:=a _ _ i 1 [x] ((((((d.set_ (i*6) (Aa Ab x.k)).set_ (i*6+1) (Aa Ab x.n)).set_ (i*6+2) (Aa Ac (x.u:Int))).set_ (i*6+3) (.string ⟨x.s.toArray⟩)).set_ (i*6+4) (.slice x.A x.an x.ac)).set_ (i*6+5) (.slice x.B x.bn x.bc)) (by simpa using xG b (i*6) x (by omega)) rfl (by omega);have o:l.length=n:=h.1;have e:l.take i++ [x]++l.drop (i+1)=l.set i x:=by
  rw [List.set_eq_take_append_cons_drop,if_pos (by omega)];simp
 rw [e] at f;exact f
theorem aH(w:World)(g o:Nat)(x:Nv):Fr (fun j=>j=g) w (((((((w).setCell ⟨g,o,none⟩ (Aa Ab (x).k)).setCell ⟨g,o+1,none⟩ (Aa Ab (x).n)).setCell ⟨g,o+2,none⟩ (Aa Ac ((x).u:Int))).setCell ⟨g,o+3,none⟩ (.string ⟨(x).s.toArray⟩)).setCell ⟨g,o+4,none⟩ (.slice (x).A (x).an (x).ac)).setCell ⟨g,o+5,none⟩ (.slice (x).B (x).bn (x).bc)):=
 ((((((Fr.refl (fun j=>j=g) w).setCell (p:=⟨g,o,none⟩) (fun _=>rfl) _).setCell (p:=⟨g,o+1,none⟩) (fun _=>rfl) _).setCell (p:=⟨g,o+2,none⟩) (fun _=>rfl) _).setCell (p:=⟨g,o+3,none⟩) (fun _=>rfl) _).setCell (p:=⟨g,o+4,none⟩) (fun _=>rfl) _).setCell (p:=⟨g,o+5,none⟩) (fun _=>rfl) _
structure fI(W0 wr:World)(q:Nat→Nat→Prop)(A:Option Addr)(n c k:Nat)(vs:List Nv)(ts:List Tr)(us:List Nv):Prop where
 own:Jj wr 0 A n c us
 rest:∀i,k≤i→us[i]?=vs[i]?
 done:∀(i:Nat) v t,i<k→us[i]?=some v→ts[i]?=some t→B7 wr (fun b=>q i b∨(W0.heap.size≤b∧b<wr.heap.size)) v (Cs t)
 fr:Fr (fun b=>(∃i,q i b)∨∃ad,A=some ad∧b=ad.block) W0 wr
 same:∀i b,k≤i→q i b→wr.heap[b]?=W0.heap[b]?
theorem fI.step{W0 wr W5 W6:World}{us:List Nv}{y:Nv}(h:fI W0 wr q (some ⟨g,0,none⟩) n c k vs ts us)(hk:k<n)(ht:ts[k]?=some t)
  (hq:∀i b,q i b→b<W0.heap.size∧b≠g) (hg:g<W0.heap.size) (hd:∀i j b,i≠j→q i b→¬q j b) (hb:Below wr.heap.size wr W5)
  (hy:B7 W6 (fun b=>q k b∨(W5.heap.size≤b∧b<W6.heap.size)) y (Cs t)) (hf:Fr (q k) W5 W6):
  fI W0 (((((((W6).setCell ⟨g,k*6,none⟩ (Aa Ab (y).k)).setCell ⟨g,k*6+1,none⟩ (Aa Ab (y).n)).setCell ⟨g,k*6+2,none⟩ (Aa Ac ((y).u:Int))).setCell ⟨g,k*6+3,none⟩ (.string ⟨(y).s.toArray⟩)).setCell ⟨g,k*6+4,none⟩ (.slice (y).A (y).an (y).ac)).setCell ⟨g,k*6+5,none⟩ (.slice (y).B (y).bn (y).bc)) q (some ⟨g,0,none⟩) n c (k+1) vs ts (us.set k y):=by
 have w:W0.heap.size≤wr.heap.size:=h.fr.size;have o:=hb.size;have p:=hf.size;have f:Jj W6 0 (some ⟨g,0,none⟩) n c us:=(h.own.pure hb).fr hf (fun ad e=>by injection e with e;subst e;intro hh;exact(hq k g hh).2 rfl);have d:=aH W6 g (k*6) y;have l:=(Kw f hk y).2.2;have r:us.length=n:=h.own.1;clear f;generalize (((((((W6).setCell ⟨g,k*6,none⟩ (Aa Ab (y).k)).setCell ⟨g,k*6+1,none⟩ (Aa Ab (y).n)).setCell ⟨g,k*6+2,none⟩ (Aa Ac ((y).u:Int))).setCell ⟨g,k*6+3,none⟩ (.string ⟨(y).s.toArray⟩)).setCell ⟨g,k*6+4,none⟩ (.slice (y).A (y).an (y).ac)).setCell ⟨g,k*6+5,none⟩ (.slice (y).B (y).bn (y).bc))=W7 at d l⊢;refine⟨l,fun i hi=>?_,fun i v t' hi hv ht'=>?_,?_,fun i b hi hqi=>?_⟩
 ·rw [List.getElem?_set_ne (by omega)];exact h.rest i (by omega)
 ·by_cases e:i=k
  ·subst e;rw [List.getElem?_set_self (by omega)] at hv;injection hv with hv
   subst hv;rw [ht] at ht';injection ht' with ht'
   subst ht';refine(hy.keep fun a u hc hp=>Cq d hc ?_).mono fun b hb=>?_
   ·rcases hp with hp|hp
    ·exact(hq _ _ hp).2
    ·omega
   ·have:=d.size;rcases hb with hb|hb
    ·exact .inl hb
    ·exact .inr ⟨by omega,by omega⟩
  ·rw [List.getElem?_set_ne (by omega)] at hv;refine((h.done i v t' (by omega) hv ht').keep fun a u hc hp=>Cq d (Cq hf (Ba hb hc) ?_) ?_).mono fun b hb=>?_
   ·intro m;rcases hp with hp|hp
    ·exact hd i k _ e hp m
    ·have:=(hq _ _ m).1;omega
   ·rcases hp with hp|hp
    ·exact(hq _ _ hp).2
    ·omega
   ·have:=d.size;rcases hb with hb|hb
    ·exact .inl hb
    ·exact .inr ⟨hb.1,by omega⟩
 ·refine((h.fr.trans (Fr.of_below hb (fun _=>False)) (fun _ _ h=>h.elim)).trans hf (fun i _ hh=> .inl ⟨k,hh⟩)).trans d (fun i _ hh=> .inr ⟨_,rfl,hh⟩)
 ·obtain⟨h1,h2⟩:=hq i b hqi;rw [d.block b (by omega) h2,hf.block b (by omega) (fun hk=>hd i k b (by omega) hqi hk),hb.block b (by omega)];exact h.same i b (by omega) hqi
theorem Ei{a:Addr}{o:Nat}(h:w.cell? a=some u)(hne:a.block≠g):World.cell? (((((((w).setCell ⟨g,o,none⟩ (Aa Ab (x).k)).setCell ⟨g,o+1,none⟩ (Aa Ab (x).n)).setCell ⟨g,o+2,none⟩ (Aa Ac ((x).u:Int))).setCell ⟨g,o+3,none⟩ (.string ⟨(x).s.toArray⟩)).setCell ⟨g,o+4,none⟩ (.slice (x).A (x).an (x).ac)).setCell ⟨g,o+5,none⟩ (.slice (x).B (x).bn (x).bc)) a=some u:=Cq (aH w g o x) h hne
def qT(w:World)(p:Nat→Prop)(t:Tr)(e:Ending)(w':World):Prop:=
 ∃x:Nv,e= .returned (.agg (Ab7 x))∧B7 w' (fun b=>p b∨(w.heap.size≤b∧b<w'.heap.size)) x (Cs t)∧Fr p w w'
theorem wM(n:Nat):(madeCells #[.string ⟨#[]⟩] n).toList=(An n ([]:List UInt8)).flatMap Lz:=by
 apply List.ext_getElem?;intro j;by_cases a:j<n
 ·have h1:=H6 D5 (An n ([]:List UInt8)) j 0 (by simpa using a) (by omega);rw [Nat.mul_one,Nat.add_zero,List.getElem_replicate] at h1;rw [h1];simp [madeCells,a,Lz,Nat.mod_one]
 ·rw [List.getElem?_eq_none (by simp [madeCells];omega),List.getElem?_eq_none (by rw [Cd D5];simp;omega)]
def Jo:Nv:=⟨0,0,0,[],none,0,0,none,0,0⟩
theorem wL(n:Nat):(madeCells #[Aa Ab 0,Aa Ab 0,Aa Ac 0,.string ⟨#[]⟩,.slice none 0 0,.slice none 0 0] (n*6)).toList=(An n Jo).flatMap Kb:=by
 apply List.ext_getElem?;intro j;by_cases b:j<n*6
 ·have h1:=H6 Jh (An n Jo) (j/6) (j % 6) (by simp;omega) (by omega);rw [show j/6*6+j % 6=j by omega,List.getElem_replicate] at h1;rw [h1];have a:j % 6=0∨j % 6=1∨j % 6=2∨j % 6=3∨j % 6=4∨j % 6=5:=by omega
  rcases a with a|a|a|a|a|a <;>simp [madeCells,b,Kb,Jo,a]
 ·rw [List.getElem?_eq_none (by simp [madeCells];omega),List.getElem?_eq_none (by rw [Cd Jh];simp;omega)]
theorem zR(n:Nat)(hn:n≤1099511627776):∃Z:Array Value,Z.toList=(An n ([]:List UInt8)).flatMap Lz∧∀W:World,(Instr.makeSlice 31 (Aa Ab (n:Int)) (Aa Ab (n:Int))).run Ad W= .ok (.slice (some ⟨W.heap.size,0,none⟩) n n) (W.alloc (.cells Z 9)):=by
 obtain⟨i,c,e,d,b⟩:=info_parts Wt;refine⟨_,wM n,fun W=>?_⟩;have a:=run_make (P:=Ad) W 31 9 i _ underlying31 c e .i64 .i64 n n (by omega) (Int.le_refl _) (by rw [b];omega) (by omega);simp only [Ao,d,Nat.mul_one] at a;exact a
theorem wN(n:Nat)(hn:n≤1099511627776):∃Z:Array Value,Z.toList=(An n Jo).flatMap Kb∧∀W:World,(Instr.makeSlice 32 (Aa Ab (n:Int)) (Aa Ab (n:Int))).run Ad W= .ok (.slice (some ⟨W.heap.size,0,none⟩) n n) (W.alloc (.cells Z 34)):=by
 obtain⟨i,c,e,d,b⟩:=info_parts Sc;refine⟨_,wL n,fun W=>?_⟩;have a:=run_make (P:=Ad) W 32 34 i _ underlying32 c e .i64 .i64 n n (by omega) (Int.le_refl _) (by rw [b];omega) (by omega);simp only [Ao,d] at a;exact a
theorem Qb{f:α→List Value}(hf:∀x,(f x).length=sz)(W:World)(Z:Array Value)(n B:Nat)(l:List α)(hB:B≤W.heap.size)(hn:l.length=n)(hm:n≤1099511627776)(hZ:Z.toList=l.flatMap f):Go.Acc.Own f sz e (W.alloc (.cells Z e)) B (some ⟨W.heap.size,0,none⟩) n n l:=by
 refine⟨hn,?_⟩;have a:Z.size=n*sz:=by rw [←Array.length_toList,hZ,Cd hf,hn]
 have:=World.ownsRow_lit (base:=B) (e:=e) (size:=sz) W Z n hB (by simp only [maxLen];omega) a;rw [hZ] at this;exact this
def qV(B n:Nat)(K:List (List UInt8))(L:List Nv)(u v:Value)(w:World):Prop:=
 ∃g h,u= .slice (some ⟨g,0,none⟩) n n∧v= .slice (some ⟨h,0,none⟩) n n∧K5 w B (some ⟨g,0,none⟩) n n K∧Jj w B (some ⟨h,0,none⟩) n n L∧g≠h
theorem Aao(hn:n≤1099511627776)(hZ:Z.toList=(An n ([]:List UInt8)).flatMap Lz)(hY:Y.toList=(An n Jo).flatMap Kb):
  qV W.heap.size n (An n []) (An n Jo) (.slice (some ⟨W.heap.size,0,none⟩) n n) (.slice (some ⟨W.heap.size+1,0,none⟩) n n) ((W.alloc (.cells Z 9)).alloc (.cells Y 34)):=by
 have h1:=Qb (e:=9) D5 W Z n W.heap.size (An n []) (Ae _) (by simp) hn hZ;have h2:=Qb (e:=34) Jh (W.alloc (.cells Z 9)) Y n W.heap.size (An n Jo) (by simp) (by simp) hn hY;have e:(W.alloc (.cells Z 9)).heap.size=W.heap.size+1:=by simp
 rw [e] at h2;exact⟨_,_,rfl,rfl,h1.pure ((Af _ _).alloc (Ae _) _),h2,by omega⟩
theorem Aap(hn:n≤1099511627776)(hZ:Z.toList=(An n ([]:List UInt8)).flatMap Lz)(hY:Y.toList=(An n Jo).flatMap Kb):
  qV W.heap.size n (An n []) (An n Jo) (.slice (some ⟨W.heap.size+1,0,none⟩) n n) (.slice (some ⟨W.heap.size,0,none⟩) n n) ((W.alloc (.cells Y 34)).alloc (.cells Z 9)):=by
 have h2:=Qb (e:=34) Jh W Y n W.heap.size (An n Jo) (Ae _) (by simp) hn hY;have h1:=Qb (e:=9) D5 (W.alloc (.cells Y 34)) Z n W.heap.size (An n []) (by simp) (by simp) hn hZ;have e:(W.alloc (.cells Y 34)).heap.size=W.heap.size+1:=by simp
 rw [e] at h1;exact⟨_,_,rfl,rfl,h1,h2.pure ((Af _ _).alloc (Ae _) _),by omega⟩
theorem Ha{vs:List Bv}(h:Ef w A n (vs.map vv))(hk:k<n):
  ∃b off v,A=some ⟨b,off,none⟩∧vs[k]?=some v∧w.cell? ⟨b,off+k*3,none⟩=some (Aa Ab (v.t:Int))∧w.cell? ⟨b,off+k*3+1,none⟩=some (Aa Ab (v.w:Int))∧w.cell? ⟨b,off+k*3+2,none⟩=some (Aa Ac (v.n:Int)):=by
 obtain⟨b,off,e,a,h0,h1,h2⟩:=nM h hk;have c:k<vs.length:=by simpa using a
 rw [List.getElem_map] at h0 h1 h2;exact⟨b,off,vs[k],e,Ai c,h0,h1,h2⟩
theorem Hq{vs:List Bv}(h:Ef w A n (vs.map vv)):vs.length=n:=by have:=h.1;simpa using this
theorem Mf{a y:Nat}:∀(vs:List Bv) (i k:Nat) (v:Bv),vs[k]?=some v→D7 a y i (vs.take (k+1))=(D7 a y i (vs.take k)&&Dz v a (i+k) y)
 | [],_,_,_,h=>by simp at h
 |x::r,i,0,v,h=>by
  simp at h;subst h;simp [D7]
 |x::r,i,k+1,v,h=>by
  rw [List.take_succ_cons,List.take_succ_cons,D7,D7,Mf r (i+1) k v (by simpa using h),Bool.and_assoc,show i+1+k=i+(k+1) by omega]
theorem Tk{y:Nat}:∀(vs:List Bv) (i k:Nat) (v:Bv),vs[k]?=some v→Dz v a (i+k) y=false→D7 a y i vs=false:=by
 intro vs i k v h hv;cases hf:D7 a y i vs with
 |false=>rfl
 |true=>
  have:=Tj vs i k v hf h;rw [hv] at this;cases this
def Jw(ahead:Nat)(kv:Bv):Option Bv:=if ahead=3 then some kv else none
theorem lM(kv:Bv)(vs:List Bv)(a ahead y pa pl pk pt n c:Nat)(A:Option Addr)(w:World)(hpa:Bb w pa 3 #[Aa Ab (ahead:Int)])(hpl:Bb w pl 144 #[.slice A n c])(hpk:Bb w pk 169 #[Aa Ab (kv.t:Int),Aa Ab (kv.w:Int),Aa Ac (kv.n:Int)])(hpt:Bb w pt 3 #[Aa Ab (a:Int)])
  (hv:Ef w A n (vs.map vv)) (hy:Br (y:Int)=true) (ha:a≤1048576) (hn:n≤1000000) (hah:ahead=0∨ahead=1∨ahead=3):
  Calls Ad 356 #[Aa Ab (y:Int),Aca pa,Aca pl,Aca pk,Aca pt] w (Ab5 (.bool (Jk a ahead (Jw ahead kv) vs y)) w):=by
 have HV:=Hd hv;have N:=Hd hy;have T:=Hq hv;have R:=Hd T;have U:w.cell? ⟨pa,0,none⟩=some (Aa Ab (ahead:Int)):=hpa.cell 0;have l0:w.cell? ⟨pl,0,none⟩=some (.slice A n c):=hpl.cell 0;have V:w.cell? ⟨pt,0,none⟩=some (Aa Ab (a:Int)):=hpt.cell 0;obtain ⟨k0,k1,k2⟩:=hpk.c3;have hB:=Af w.heap.size w;have K:=Hd hB;clear hv hy hB hpa hpl hpk hpt;obtain⟨bw,S⟩:∃b,bWidth n=b:=⟨_,rfl⟩;obtain⟨kr,ah⟩:∃b,Dz kv a 0 y=b:=⟨_,rfl⟩;have L:=Hd (show V9 n=(bw:Int) by rw [Wb,S]);have Q:=Hd ah;have ay:IntKind.u64.wrap (n:Int)=(n:Int):=Ce _ (by omega);obtain⟨g,hg⟩:∃g,decide (y<bw)=g:=⟨_,rfl⟩;have a3:decide ((y:Int)<(bw:Int))=g:=by rw [←hg];exact decide_eq_decide.2 (by omega)
 have HG:=Hd (show decide (bWidth vs.length≤y)=!g by rw [T,S,←hg];by_cases h:y<bw <;>simp [h] <;>omega);clear T S ah;obtain⟨z0,ai⟩:∃z,decide ((0:Int)<(ahead:Int))=z:=⟨_,rfl⟩;obtain⟨z3,ak⟩:∃z,((ahead:Int)==3)=z:=⟨_,rfl⟩;have aj:decide (0<ahead)=z0:=by rw [←ai];exact decide_eq_decide.2 (by omega)
 have I:=Hd (show Jk a ahead (Jw ahead kv) vs y=((!z0||!g)&&(!z3||kr)&&D7 a y ahead vs) by
  unfold Jk Jw;rw [HG.o,←aj,←Q.o]
  congr 1
  congr 1
  ·congr 1
   by_cases h:ahead=0 <;>simp [h] <;>omega
  ·rw [←ak];by_cases h:ahead=3
   ·subst h;rfl
   ·rw [if_neg h];have:((ahead:Int)==3)=false:=by simp;omega
    rw [this];rfl)
 have az:=Hd hah;have av:ahead≤3:=by omega
 have aq:=Hd (show z0=false→z3=false by rintro rfl;rw [←ak];have:=of_decide_eq_false ai;simp;omega);clear hah;cases z0 with
 |false=>
  obtain rfl:=aq.o rfl;have H:=Hd (show Jk a ahead (Jw ahead kv) vs y=D7 a y ahead vs from I.o);go_enter func356,ntmps356;go_wp2_with fail;go_loopw [32] (fun u wr=>∃k:Nat,k≤n∧u= Aa Ab k∧Below w.heap.size w wr∧D7 a y ahead (vs.take k)=true) (fun u _=>n-(intOf u).toNat)
  case atStart=>exact⟨0,Am _,rfl,K.o,rfl⟩
  case round=>
   obtain⟨k,hk,rfl,f,x⟩:=hrel;have l:=Hd f;have q:=Hd x;clear x;have F:=Ba f U;have G:=Ba f V;have Y:=Hd (HV.o.pure f);clear f K U V l0;by_cases J:k<n
   ·obtain⟨g,al,v,rfl,B,h0,h1,h2⟩:=Ha Y.o J;have s:=Hd B;obtain⟨j,O⟩:∃j,ahead+k=j:=⟨_,rfl⟩;have M:=Hd O;have m:=Hd (show j≤1048576 by omega);have ad:=m.o;have e1:(ahead:Int)+(k:Int)=(j:Int):=by omega
    have ab:(0:Int)≤(j:Int):=by omega
    have ae:(j:Int)≤1048576:=by omega
    have af:(0:Int)≤(k:Int):=by omega
    have ag:(k:Int)<(n:Int):=by omega
    obtain⟨r,P⟩:∃r,Dz v a j y=r:=⟨_,rfl⟩;have E:=Hd P;clear B O P;have p:=Hd (l.o.alloc l.o.size (.cells #[Aa Ab (v.t:Int),Aa Ab (v.w:Int),Aa Ac (v.n:Int)] 169));have C:=Bm (.cells #[Aa Ab (v.t:Int),Aa Ab (v.w:Int),Aa Ac (v.n:Int)] 169) F;have D:=Bm (.cells #[Aa Ab (v.t:Int),Aa Ab (v.w:Int),Aa Ac (v.n:Int)] 169) G;cases r with
    |true=>
     go_wp2_with fail;go_at_call 223;refine(H0 v a j y true _ N.o ha (by have:=m.o;omega) E.o).mono ?_;rintro e w3 ⟨rfl,d⟩;have i:=Hd (A6 p.o d);clear d F G C D h0 h1 h2;go_wp2_with fail;go_roundw
     case rel=>exact⟨k+1,by omega,by go_num,i.o,by rw [Mf vs ahead k v s.o,q.o,M.o,E.o];rfl⟩
     case measure=>simp [intOf];omega
    |false=>
     go_wp2_with fail;go_at_call 223;refine(H0 v a j y false _ N.o ha (by have:=m.o;omega) E.o).mono ?_;rintro e w3 ⟨rfl,d⟩;have i:=Hd (A6 p.o d);clear d F G C D h0 h1 h2;go_wp2_with fail;go_ret;exact⟨by rw [H.o,Tk vs ahead k v s.o (by rw [M.o];exact E.o)];rfl,i.o⟩
   ·have Z:decide ((k:Int)<(n:Int))=false:=decide_eq_false (by omega);have aa:decide (k<n)=false:=decide_eq_false (by omega);have X:=Hd (show D7 a y ahead vs=true by rw [←q.o,Aw (by have:=R.o;omega)]);clear F G;go_wp2_with fail;go_ret;exact⟨by rw [H.o,X.o];rfl,l.o⟩
 |true=>
  cases g with
  |true=>
   have H:=Hd (show Jk a ahead (Jw ahead kv) vs y=false from I.o);go_enter func356,ntmps356;go_wp2_with fail;go_at_call 33;refine(L6 n bw _ (by omega) L.o).mono ?_;rintro e w' ⟨rfl,rfl⟩;go_wp2_with fail;go_ret;exact⟨by rw [H.o];rfl,K.o⟩
  |false=>
   cases z3 with
   |false=>
    have H:=Hd (show Jk a ahead (Jw ahead kv) vs y=D7 a y ahead vs from I.o);go_enter func356,ntmps356;go_wp2_with fail;go_at_call 33;refine(L6 n bw _ (by omega) L.o).mono ?_;rintro e w' ⟨rfl,rfl⟩;go_wp2_with fail;go_loopw [32] (fun u wr=>∃k:Nat,k≤n∧u= Aa Ab k∧Below w.heap.size w wr∧D7 a y ahead (vs.take k)=true) (fun u _=>n-(intOf u).toNat)
    case atStart=>exact⟨0,Am _,rfl,K.o,rfl⟩
    case round=>
     obtain⟨k,hk,rfl,f,x⟩:=hrel;have l:=Hd f;have q:=Hd x;clear x;have F:=Ba f U;have G:=Ba f V;have Y:=Hd (HV.o.pure f);clear f K U V l0;by_cases J:k<n
     ·obtain⟨g,al,v,rfl,B,h0,h1,h2⟩:=Ha Y.o J;have s:=Hd B;obtain⟨j,O⟩:∃j,ahead+k=j:=⟨_,rfl⟩;have M:=Hd O;have m:=Hd (show j≤1048576 by omega);have ad:=m.o;have e1:(ahead:Int)+(k:Int)=(j:Int):=by omega
      have ab:(0:Int)≤(j:Int):=by omega
      have ae:(j:Int)≤1048576:=by omega
      have af:(0:Int)≤(k:Int):=by omega
      have ag:(k:Int)<(n:Int):=by omega
      obtain⟨r,P⟩:∃r,Dz v a j y=r:=⟨_,rfl⟩;have E:=Hd P;clear B O P;have p:=Hd (l.o.alloc l.o.size (.cells #[Aa Ab (v.t:Int),Aa Ab (v.w:Int),Aa Ac (v.n:Int)] 169));have C:=Bm (.cells #[Aa Ab (v.t:Int),Aa Ab (v.w:Int),Aa Ac (v.n:Int)] 169) F;have D:=Bm (.cells #[Aa Ab (v.t:Int),Aa Ab (v.w:Int),Aa Ac (v.n:Int)] 169) G;cases r with
      |true=>
       go_wp2_with fail;go_at_call 223;refine(H0 v a j y true _ N.o ha (by have:=m.o;omega) E.o).mono ?_;rintro e w3 ⟨rfl,d⟩;have i:=Hd (A6 p.o d);clear d F G C D h0 h1 h2;go_wp2_with fail;go_roundw
       case rel=>exact⟨k+1,by omega,by go_num,i.o,by rw [Mf vs ahead k v s.o,q.o,M.o,E.o];rfl⟩
       case measure=>simp [intOf];omega
      |false=>
       go_wp2_with fail;go_at_call 223;refine(H0 v a j y false _ N.o ha (by have:=m.o;omega) E.o).mono ?_;rintro e w3 ⟨rfl,d⟩;have i:=Hd (A6 p.o d);clear d F G C D h0 h1 h2;go_wp2_with fail;go_ret;exact⟨by rw [H.o,Tk vs ahead k v s.o (by rw [M.o];exact E.o)];rfl,i.o⟩
     ·have Z:decide ((k:Int)<(n:Int))=false:=decide_eq_false (by omega);have aa:decide (k<n)=false:=decide_eq_false (by omega);have X:=Hd (show D7 a y ahead vs=true by rw [←q.o,Aw (by have:=R.o;omega)]);clear F G;go_wp2_with fail;go_ret;exact⟨by rw [H.o,X.o];rfl,l.o⟩
   |true=>
    cases kr with
    |false=>
     have H:=Hd (show Jk a ahead (Jw ahead kv) vs y=false from I.o);go_enter func356,ntmps356;go_wp2_with fail;go_at_call 33;refine(L6 n bw _ (by omega) L.o).mono ?_;rintro e w' ⟨rfl,rfl⟩;go_wp2_with fail;go_at_call 223;refine(H0 kv a 0 y false _ N.o ha (by omega) Q.o).mono ?_;rintro e w' ⟨rfl,W⟩;have p:=Hd (A6 K.o W);clear W;go_wp2_with fail;go_ret;exact⟨by rw [H.o];rfl,p.o⟩
    |true=>
     have H:=Hd (show Jk a ahead (Jw ahead kv) vs y=D7 a y ahead vs from I.o);go_enter func356,ntmps356;go_wp2_with fail;go_at_call 33;refine(L6 n bw _ (by omega) L.o).mono ?_;rintro e w' ⟨rfl,rfl⟩;go_wp2_with fail;go_at_call 223;refine(H0 kv a 0 y true _ N.o ha (by omega) Q.o).mono ?_;rintro e w2 ⟨rfl,W⟩;replace K:=Hd (A6 K.o W);have a7:=Ba W l0;clear W k0 k1 k2;go_wp2_with fail;go_loopw [32] (fun u wr=>∃k:Nat,k≤n∧u= Aa Ab k∧Below w.heap.size w wr∧D7 a y ahead (vs.take k)=true) (fun u _=>n-(intOf u).toNat)
     case atStart=>exact⟨0,Am _,rfl,K.o,rfl⟩
     case round=>
      obtain⟨k,hk,rfl,f,x⟩:=hrel;have l:=Hd f;have q:=Hd x;clear x;have F:=Ba f U;have G:=Ba f V;have Y:=Hd (HV.o.pure f);clear f K U V l0;by_cases J:k<n
      ·obtain⟨g,al,v,rfl,B,h0,h1,h2⟩:=Ha Y.o J;have s:=Hd B;obtain⟨j,O⟩:∃j,ahead+k=j:=⟨_,rfl⟩;have M:=Hd O;have m:=Hd (show j≤1048576 by omega);have ad:=m.o;have e1:(ahead:Int)+(k:Int)=(j:Int):=by omega
       have ab:(0:Int)≤(j:Int):=by omega
       have ae:(j:Int)≤1048576:=by omega
       have af:(0:Int)≤(k:Int):=by omega
       have ag:(k:Int)<(n:Int):=by omega
       obtain⟨r,P⟩:∃r,Dz v a j y=r:=⟨_,rfl⟩;have E:=Hd P;clear B O P;have p:=Hd (l.o.alloc l.o.size (.cells #[Aa Ab (v.t:Int),Aa Ab (v.w:Int),Aa Ac (v.n:Int)] 169));have C:=Bm (.cells #[Aa Ab (v.t:Int),Aa Ab (v.w:Int),Aa Ac (v.n:Int)] 169) F;have D:=Bm (.cells #[Aa Ab (v.t:Int),Aa Ab (v.w:Int),Aa Ac (v.n:Int)] 169) G;cases r with
       |true=>
        go_wp2_with fail;go_at_call 223;refine(H0 v a j y true _ N.o ha (by have:=m.o;omega) E.o).mono ?_;rintro e w3 ⟨rfl,d⟩;have i:=Hd (A6 p.o d);clear d F G C D h0 h1 h2;go_wp2_with fail;go_roundw
        case rel=>exact⟨k+1,by omega,by go_num,i.o,by rw [Mf vs ahead k v s.o,q.o,M.o,E.o];rfl⟩
        case measure=>simp [intOf];omega
       |false=>
        go_wp2_with fail;go_at_call 223;refine(H0 v a j y false _ N.o ha (by have:=m.o;omega) E.o).mono ?_;rintro e w3 ⟨rfl,d⟩;have i:=Hd (A6 p.o d);clear d F G C D h0 h1 h2;go_wp2_with fail;go_ret;exact⟨by rw [H.o,Tk vs ahead k v s.o (by rw [M.o];exact E.o)];rfl,i.o⟩
      ·have Z:decide ((k:Int)<(n:Int))=false:=decide_eq_false (by omega);have aa:decide (k<n)=false:=decide_eq_false (by omega);have X:=Hd (show D7 a y ahead vs=true by rw [←q.o,Aw (by have:=R.o;omega)]);clear F G;go_wp2_with fail;go_ret;exact⟨by rw [H.o,X.o];rfl,l.o⟩
theorem Te(kv:Bv)(vs:List Bv)(a ahead n c:Nat)(A:Option Addr)(w:World)(hv:Ef w A n (vs.map vv))(ha:a≤1048576)(hn:n≤1000000)(hah:ahead=0∨ahead=1∨ahead=3):
  Calls Ad 324 #[Aa Ab (a:Int),Aa Ab (ahead:Int),.agg #[Aa Ab (kv.t:Int),Aa Ab (kv.w:Int),Aa Ac (kv.n:Int)],.slice A n c] w (Ab5 (Aa Ab (C5 a ahead (Jw ahead kv) vs:Nat)) w):=by
 have j:Below w.heap.size w ((((w.alloc (.cells #[Aa Ab (a:Int)] 3)).alloc (.cells #[Aa Ab (ahead:Int)] 3)).alloc (.cells #[Aa Ab (kv.t:Int),Aa Ab (kv.w:Int),Aa Ac (kv.n:Int)] 169)).alloc (.cells #[.slice A n c] 144)):=((((Af _ _).alloc (Ae _) _).alloc (by simp) _).alloc (by simp;omega) _).alloc (by simp;omega) _;have q:=Hd j;have u:=Hd (hv.pure j);have s:=Hd ((((Bb.new w 3 #[Aa Ab (a:Int)]).alloc (.cells #[Aa Ab (ahead:Int)] 3)).alloc (.cells #[Aa Ab (kv.t:Int),Aa Ab (kv.w:Int),Aa Ac (kv.n:Int)] 169)).alloc (.cells #[.slice A n c] 144));have b:=Hd (((Cv w (.cells #[Aa Ab (a:Int)] 3) 3 #[Aa Ab (ahead:Int)]).alloc (.cells #[Aa Ab (kv.t:Int),Aa Ab (kv.w:Int),Aa Ac (kv.n:Int)] 169)).alloc (.cells #[.slice A n c] 144));have h:=Hd ((K7 w (.cells #[Aa Ab (a:Int)] 3) (.cells #[Aa Ab (ahead:Int)] 3) 169 #[Aa Ab (kv.t:Int),Aa Ab (kv.w:Int),Aa Ac (kv.n:Int)]).alloc (.cells #[.slice A n c] 144));have i:=Hd (Bb.new_ (w:=((w.alloc (.cells #[Aa Ab (a:Int)] 3)).alloc (.cells #[Aa Ab (ahead:Int)] 3)).alloc (.cells #[Aa Ab (kv.t:Int),Aa Ab (kv.w:Int),Aa Ac (kv.n:Int)] 169)) (g:=w.heap.size+1+1+1) (by simp) 144 #[.slice A n c]);obtain⟨r,k⟩:∃r,C5 a ahead (Jw ahead kv) vs=r:=⟨_,rfl⟩;rw [k];have C:=Hd k;have d:=Hd hah;have E:(n:Int)≤1048576:=by omega
 obtain⟨z0,l⟩:∃z,((ahead:Int) != 0)=z:=⟨_,rfl⟩;obtain⟨z1,m⟩:∃z,((ahead:Int) != 1)=z:=⟨_,rfl⟩;obtain⟨z3,p⟩:∃z,((ahead:Int) != 3)=z:=⟨_,rfl⟩;have x:(z0&&(z1&&z3))=false:=by rw [←l,←m,←p];rcases hah with rfl|rfl|rfl <;>rfl
 have D:=Hd x;clear j hv k hah x;cases z0
 all_goals
  cases z1
  all_goals
   cases z3
   all_goals
    first
    |(exact absurd D.o (by decide))
    |skip
 all_goals
  go_enter func324,ntmps324;go_wp2_with fail;go_at_call 220;refine(Mx a _ (by omega)).mono ?_;rintro e F ⟨rfl,rfl⟩;go_wp2_with fail;go_at_call 221;generalize ((((w.alloc (.cells #[Aa Ab (a:Int)] 3)).alloc (.cells #[Aa Ab (ahead:Int)] 3)).alloc (.cells #[Aa Ab (kv.t:Int),Aa Ab (kv.w:Int),Aa Ac (kv.n:Int)] 169)).alloc (.cells #[.slice A n c] 144))=w1 at q u s b h i⊢;generalize w.heap.size+1+1+1=pl at i⊢;generalize w.heap.size+1+1=pk at h⊢;generalize w.heap.size+1=pa at b⊢;have B:=fun(y:Fin 4) (W:World) (hW:Below w1.heap.size w1 W)=>lM kv vs a ahead (2^y.val) pa pl pk w.heap.size n c A W (b.o.pure hW) (i.o.pure hW) (h.o.pure hW) (s.o.pure hW) (u.o.pure hW) (gF y) ha hn d.o
  refine(Vf 356 #[Aca pa,Aca pl,Aca pk,Aca w.heap.size] (Jk a ahead (Jw ahead kv) vs) w1 Tryz.call356 B).mono ?_;rw [show leastW (Jk a ahead (Jw ahead kv) vs)=r from C.o];rintro e F ⟨rfl,v⟩;have f:=Hd (A6 q.o v);clear v;go_wp2_with fail;go_ret;exact⟨rfl,f.o⟩
end Go.Proofs.YtejpbijeifjdeaaGreat
