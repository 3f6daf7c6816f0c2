/- Parts of the proof. -/
import Derived.Test.YtejpbijeifjdeaaGreatQv10
import Derived.Deep.DeepCutAuto
import Derived.Laws.Bits64b
set_option maxHeartbeats 4000000
set_option maxRecDepth 100000
open Nat renaming le_refl→Ae
open Go.RowKit.Below renaming refl→Af
open Go.IntWalk renaming i64_in→Ag
open List renaming getElem?_eq_getElem→Ai,append_assoc→Ax
open Go.Proofs.Tryz
open Go.Proofs.Tryz renaming prog→Ad
namespace Go.Proofs.YtejpbijeifjdeaaGreat
open Go.RowKit Go.Acc
variable {α:Type}{g n c n' c' B i p bx bs:Nat}{w w':World}{A' A:Option Addr}{e:TypeId}{ops:Array Oper}{a:Act}{K:Act→World→Prop}{Q:Exit→Act→World→Prop}{E:Prop}{ks:List (List UInt8)}{s:List UInt8}{ns:List Nat}{o:Nat→Nat}{m:List (List UInt8×Nat)}{M:Bp}
theorem Uw{f:α→List Value}{lo:Nat}(h1:lo≤n)(hc:n≤c)(hf:∀x,(f x).length=1):(0<n-lo→(if c=lo then some (⟨g,0,none⟩:Addr) else some ⟨g,lo,none⟩)=(some (⟨g,0,none⟩:Addr)).map (·.add lo))∧
  ∀(w:World) (l:List α),Is f w (some ⟨g,0,none⟩) n l→Is f w (if c=lo then some (⟨g,0,none⟩:Addr) else some ⟨g,lo,none⟩) (n-lo) (l.drop lo):=by
 refine⟨fun h=>?_,fun w l h=>?_⟩
 ·rw [if_neg (by omega)];simp [Iv]
 ·split
  ·rename_i e;exact h.cut0 e hc
  ·have:=h.cut1 (k:=lo) hf;simpa [Iv] using this
theorem Jt(w:World):Below w.heap.size w w.drew:=(Af _ _).drew
theorem C1{p:Addr}{u:Value}(o:Obj)(h:w.cell? p=some u):(w.alloc o).cell? p=some u:=Ba ((Af _ _).alloc (Ae _) o) h
structure Dr(w0:World)(p:Nat)(A10 A20:Option Addr)(A1:Option Addr)(n1 c1:Nat)(ks:List (List UInt8))(A2:Option Addr)(n2 c2:Nat)(ns:List Nat)(x0 x1:Value)(w:World):Prop where
 blk:Bb w p 220 #[x0,x1,.bool true]
 o1:K5 w 0 A1 n1 c1 ks
 o2:Qy w 0 A2 n2 c2 ns
 d1:∀a,A1=some a→a.block≠p
 d2:∀a,A2=some a→a.block≠p
 d12:∀a b,A1=some a→A2=some b→a.block≠b.block
 fr:Fr (fun k=>k=p∨(∃a,A10=some a∧k=a.block)∨(∃a,A20=some a∧k=a.block)) w0 w
 w1:A1.map (·.block)=A10.map (·.block)∨∃k,A1.map (·.block)=some k∧w0.heap.size≤k
 w2:A2.map (·.block)=A20.map (·.block)∨∃k,A2.map (·.block)=some k∧w0.heap.size≤k
section
variable {w0 w:World} {p:Nat} {A10 A20 A1 A2:Option Addr} {n1 c1 n2 c2:Nat} {ks:List (List UInt8)} {ns:List Nat} {x0 x1:Value}
theorem nU(h:A1.map (·.block)=A10.map (·.block)∨∃k,A1.map (·.block)=some k∧w0.heap.size≤k)(k:Nat)(hk:k<w0.heap.size)(ha:∃a,A1=some a∧k=a.block):∃a,A10=some a∧k=a.block:=by
 obtain⟨a,rfl,rfl⟩:=ha;rcases h with e|⟨k',e,hk'⟩
 ·cases A10 with
  |none=>cases e
  |some b=>injection e with e;exact⟨b,rfl,e⟩
 ·injection e with e
  have e:a.block=k':=e;omega
theorem Dr.below(h:Dr w0 p A10 A20 A1 n1 c1 ks A2 n2 c2 ns x0 x1 w)(hb:Below w.heap.size w w'):Dr w0 p A10 A20 A1 n1 c1 ks A2 n2 c2 ns x0 x1 w':=
 ⟨h.blk.pure hb,h.o1.pure hb,h.o2.pure hb,h.d1,h.d2,h.d12,h.fr.trans (Fr.of_below hb (fun _=>False)) (fun _ _ h=>h.elim),h.w1,h.w2⟩
theorem Dr.alloc(h:Dr w0 p A10 A20 A1 n1 c1 ks A2 n2 c2 ns x0 x1 w)(o:Obj):Dr w0 p A10 A20 A1 n1 c1 ks A2 n2 c2 ns x0 x1 (w.alloc o):=
 h.below ((Af _ _).alloc (Ae _) o)
theorem Dr.app1(h:Dr w0 p A10 A20 A1 n1 c1 ks A2 n2 c2 ns x0 x1 w){ks':List (List UInt8)}(ho:K5 w' 0 A' n' c' ks')
  (hf:Fr (fun k=>∃a,A1=some a∧k=a.block) w w') (hw:A'.map (·.block)=A1.map (·.block)∨A'.map (·.block)=some w.heap.size):Dr w0 p A10 A20 A' n' c' ks' A2 n2 c2 ns x0 x1 w':=by
 have g:=h.blk.lt;have h2:∀b,A2=some b→b.block<w.heap.size:=fun b hb=>(h.o2.addr b hb).2.2
 have f:∀a,A'=some a→(∃a',A1=some a'∧a'.block=a.block)∨a.block=w.heap.size:=by
  rintro a rfl;rcases hw with e|e
  ·cases A1 with
   |none=>cases e
   |some b=>injection e with e;exact .inl ⟨b,rfl,e.symm⟩
  ·injection e with e;exact .inr e
 refine⟨h.blk.fr hf (fun⟨a,c,d⟩=>h.d1 a c d.symm),ho,h.o2.fr hf (fun b hb ⟨a,c,d⟩=>h.d12 a b c hb d.symm),?_,h.d2,?_,?_,?_,h.w2⟩
 ·intro a ha;rcases f a ha with⟨a',c,d⟩|e
  ·rw [←d];exact h.d1 a' c
  ·omega
 ·intro a b ha hb;have:=h2 b hb;rcases f a ha with⟨a',c,d⟩|e
  ·rw [←d];exact h.d12 a' b c hb
  ·omega
 ·exact h.fr.trans hf (fun k hk ha=> .inr (.inl (nU h.w1 k hk ha)))
 ·rcases hw with e|e
  ·rw [e];exact h.w1
  ·exact .inr ⟨_,e,h.fr.size⟩
theorem Dr.app2(h:Dr w0 p A10 A20 A1 n1 c1 ks A2 n2 c2 ns x0 x1 w){ns':List Nat}(ho:Qy w' 0 A' n' c' ns')
  (hf:Fr (fun k=>∃a,A2=some a∧k=a.block) w w') (hw:A'.map (·.block)=A2.map (·.block)∨A'.map (·.block)=some w.heap.size):Dr w0 p A10 A20 A1 n1 c1 ks A' n' c' ns' x0 x1 w':=by
 have g:=h.blk.lt;have h2:∀b,A1=some b→b.block<w.heap.size:=fun b hb=>(h.o1.addr b hb).2.2
 have f:∀a,A'=some a→(∃a',A2=some a'∧a'.block=a.block)∨a.block=w.heap.size:=by
  rintro a rfl;rcases hw with e|e
  ·cases A2 with
   |none=>cases e
   |some b=>injection e with e;exact .inl ⟨b,rfl,e.symm⟩
  ·injection e with e;exact .inr e
 refine⟨h.blk.fr hf (fun⟨a,c,d⟩=>h.d2 a c d.symm),h.o1.fr hf (fun b hb ⟨a,c,d⟩=>h.d12 b a hb c d),ho,h.d1,?_,?_,?_,h.w1,?_⟩
 ·intro a ha;rcases f a ha with⟨a',c,d⟩|e
  ·rw [←d];exact h.d2 a' c
  ·omega
 ·intro b a hb ha;have:=h2 b hb;rcases f a ha with⟨a',c,d⟩|e
  ·rw [←d];exact h.d12 b a' hb c
  ·omega
 ·exact h.fr.trans hf (fun k hk ha=> .inr (.inr (nU h.w2 k hk ha)))
 ·rcases hw with e|e
  ·rw [e];exact h.w2
  ·exact .inr ⟨_,e,h.fr.size⟩
theorem Dr.set0(h:Dr w0 p A10 A20 A1 n1 c1 ks A2 n2 c2 ns x0 x1 w)(v:Value):Dr w0 p A10 A20 A1 n1 c1 ks A2 n2 c2 ns v x1 (w.setCell ⟨p,0,none⟩ v):=by
 have hf:=Fr.setCell (S:=fun k=>k=p) (Fr.refl (fun k=>k=p) w) (p:=⟨p,0,none⟩) (fun _=>rfl) v;exact⟨h.blk.set_ 0 v,h.o1.fr hf (fun a e=>h.d1 a e),h.o2.fr hf (fun a e=>h.d2 a e),h.d1,h.d2,h.d12,h.fr.trans hf (fun k _ e=> .inl e),h.w1,h.w2⟩
theorem Dr.set1(h:Dr w0 p A10 A20 A1 n1 c1 ks A2 n2 c2 ns x0 x1 w)(v:Value):Dr w0 p A10 A20 A1 n1 c1 ks A2 n2 c2 ns x0 v (w.setCell ⟨p,1,none⟩ v):=by
 have hf:=Fr.setCell (S:=fun k=>k=p) (Fr.refl (fun k=>k=p) w) (p:=⟨p,1,none⟩) (fun _=>rfl) v;exact⟨h.blk.set_ 1 v,h.o1.fr hf (fun a e=>h.d1 a e),h.o2.fr hf (fun a e=>h.d2 a e),h.d1,h.d2,h.d12,h.fr.trans hf (fun k _ e=> .inl e),h.w1,h.w2⟩
theorem J3(w:World)(o:Obj):(w.alloc o).heap.size=w.heap.size+1:=by simp
theorem Sk(W:World)(z:List UInt8):Fm (W.alloc (.cells #[.string ⟨z.toArray⟩] 9)) (some ⟨W.heap.size,0,none⟩) 1 [z]:=by
 refine⟨rfl,fun j u hu=>⟨_,_,rfl,?_⟩⟩;rw [Nat.zero_add,(Bb.new W _ _).cell j];simpa [Lz] using hu
theorem Wu(W:World):Is J7 (W.alloc (.cells #[.int .i64 0] 3)) (some ⟨W.heap.size,0,none⟩) 1 [0]:=by
 refine⟨rfl,fun j u hu=>⟨_,_,rfl,?_⟩⟩;rw [Nat.zero_add,(Bb.new W _ _).cell j];simpa [J7] using hu
theorem P6{f:α→List Value}{W:World}{l:List α}(h:Is f W (some ⟨g,0,none⟩) n l)(hf:Fr (fun k=>∃a,A=some a∧k=a.block) W w')(hA:∀a,A=some a→a.block<B)(hB:B≤g):Is f w' (some ⟨g,0,none⟩) n l:=by
 refine h.fr hf ?_;rintro ad e ⟨a,e1,e2⟩;cases e;have e2:g=a.block:=e2;have:=hA a e1;omega
theorem xF(cur:Array Value)(i:Nat)(v:Value)(h:i<cur.size):Lq cur i [v] 1 (cur.setIfInBounds i v):=by
 refine⟨by simp,fun j=>?_⟩;rw [Array.getElem?_setIfInBounds];by_cases e:i=j
 ·subst e;rw [if_pos rfl,if_pos h,if_pos ⟨Ae _,Nat.lt_succ_self _⟩];simp
 ·rw [if_neg e,if_neg (by omega)]
theorem Hc{f:α→List Value}(hf:∀x,(f x).length=1){l:List α}(h:Go.Acc.Own f 1 e w 0 (some ⟨g,0,none⟩) n c l)(hi:i<n)(x:α)(v:Value)(hx:f x=[v]):
  (∃u,w.cell? ⟨g,i,none⟩=some u)∧w.frozen? ⟨g,i,none⟩=false∧Go.Acc.Own f 1 e (w.setCell ⟨g,i,none⟩ v) 0 (some ⟨g,0,none⟩) n c (l.take i++ [x]++l.drop (i+1)):=by
 obtain⟨a,d,j,b⟩:=bP hf h;refine⟨⟨a[i]'(by omega),by rw [d.cell i,Array.getElem?_eq_getElem (by omega)]⟩,d.frozen i,?_⟩;refine b _ (a.setIfInBounds i v) i 1 [x] (d.set_ i v) ?_ rfl (by omega);simpa [hx] using xF a i v (by omega)
theorem Dr.store1(h:Dr w0 p A10 A20 (some ⟨g,0,none⟩) n1 c1 ks A2 n2 c2 ns x0 x1 w)(hi:i<n1)(s:List UInt8):
  Dr w0 p A10 A20 (some ⟨g,0,none⟩) n1 c1 (ks.take i++ [s]++ks.drop (i+1)) A2 n2 c2 ns x0 x1 (w.setCell ⟨g,i,none⟩ (.string ⟨s.toArray⟩)):=
 h.app1 (Hc D5 h.o1 hi s _ rfl).2.2 (Fr.setCell (S:=fun k=>∃a,some (⟨g,0,none⟩:Addr)=some a∧k=a.block) (Fr.refl _ w) (p:=⟨g,i,none⟩) (fun _=>⟨_,rfl,rfl⟩) _) (.inl rfl)
theorem Dr.store2(h:Dr w0 p A10 A20 A1 n1 c1 ks (some ⟨g,0,none⟩) n2 c2 ns x0 x1 w)(hi:i<n2)(a:Nat):
  Dr w0 p A10 A20 A1 n1 c1 ks (some ⟨g,0,none⟩) n2 c2 (ns.take i++ [a]++ns.drop (i+1)) x0 x1 (w.setCell ⟨g,i,none⟩ (.int .i64 (a:Int))):=
 h.app2 (Hc Fw h.o2 hi a _ rfl).2.2 (Fr.setCell (S:=fun k=>∃a,some (⟨g,0,none⟩:Addr)=some a∧k=a.block) (Fr.refl _ w) (p:=⟨g,i,none⟩) (fun _=>⟨_,rfl,rfl⟩) _) (.inl rfl)
theorem oR{f:α→List Value}{l:List α}(hf:∀x,(f x).length=1)(h:Go.Acc.Own f 1 e w 0 A n c l)(hn:0<n):∃g,A=some ⟨g,0,none⟩:=by
 obtain⟨sb,so,rfl,_⟩:=h.is.some_ hf (by omega) hn;exact⟨_,congrArg some (h.addr _ rfl).1⟩
theorem aT(l:List α)(z s:α)(i:Nat)(hi:i≤l.length):
  (((l++ [z]).take (i+1)++((l++ [z]).drop i).take (l.length-i)++(l++ [z]).drop (i+1+(l.length-i))).take i++ [s]++
   ((l++ [z]).take (i+1)++((l++ [z]).drop i).take (l.length-i)++(l++ [z]).drop (i+1+(l.length-i))).drop (i+1))=l.take i++ [s]++l.drop i:=by
 have a:((l++ [z]).drop i).take (l.length-i)=l.drop i:=by
  rw [List.drop_append_of_le_length hi,List.take_append_of_le_length (by simp),List.take_of_length_le (by simp)]
 have b:(l++ [z]).drop (i+1+(l.length-i))=[]:=List.drop_eq_nil_of_le (by simp;omega);have c:((l++ [z]).take (i+1)).length=i+1:=by simp;omega
 rw [a,b,List.append_nil,List.take_append_of_le_length (by omega),List.take_take,Nat.min_eq_left (by omega),List.drop_append_of_le_length (by omega),List.drop_eq_nil_of_le (by omega),List.nil_append,List.take_append_of_le_length hi]
theorem Mn{o:Oper}(hgd:o.guard=none)(s x:Operand)
  (ho:o.op= .call { callee:= .builtin .append,args:=#[s,x],argTypes:=#[31,31]})
  (H:Dr w0 p A10 A20 A1 n1 c1 ks A2 n2 c2 ns x0 x1 w) (hs:a.eval s= .slice A1 n1 c1) (A3:Option Addr) (z:List UInt8) (hr:Fm w A3 1 [z]) (hx:a.eval x= .slice A3 1 1) (hn:n1≤1048576)
  (h:∀A' c' w',Dr w0 p A10 A20 A' (n1+1) c' (ks++ [z]) A2 n2 c2 ns x0 x1 w'→Fr (fun k=>∃a,A1=some a∧k=a.block) w w'→K (a.put o.dst (.slice A' (n1+1) c')) w'):
  if Region.wanted o (yielded ops a.tmps)=true then Oper.wp Ad o a w K Q else E:=by
 refine R0 hgd s x 31 ho (.string ⟨#[]⟩) 16 (by kernel_rfl) (by kernel_rfl) rfl (by decide) D5 O6 0 A1 n1 c1 ks hs H.o1 A3 1 1 [z] hx hr (by omega) (Nat.zero_le _) ?_;intro A' c' w' b c d;exact h A' c' w' (H.app1 b c d) c
theorem Mo{o:Oper}(hgd:o.guard=none)(s x:Operand)
  (ho:o.op= .call { callee:= .builtin .append,args:=#[s,x],argTypes:=#[118,118]})
  (H:Dr w0 p A10 A20 A1 n1 c1 ks A2 n2 c2 ns x0 x1 w) (hs:a.eval s= .slice A2 n2 c2) (A3:Option Addr) (z:Nat) (hr:Is J7 w A3 1 [z]) (hx:a.eval x= .slice A3 1 1) (hn:n2≤1048576)
  (h:∀A' c' w',Dr w0 p A10 A20 A1 n1 c1 ks A' (n2+1) c' (ns++ [z]) x0 x1 w'→Fr (fun k=>∃a,A2=some a∧k=a.block) w w'→K (a.put o.dst (.slice A' (n2+1) c')) w'):
  if Region.wanted o (yielded ops a.tmps)=true then Oper.wp Ad o a w K Q else E:=by
 refine R0 hgd s x 118 ho (.int .i64 0) 8 (by kernel_rfl) (by kernel_rfl) rfl (by decide) Fw fT 0 A2 n2 c2 ns hs H.o2 A3 1 1 [z] hx hr (by omega) (Nat.zero_le _) ?_;intro A' c' w' b c d;exact h A' c' w' (H.app2 b c d) c
end
theorem sD(p i n c1 c2:Nat)(A1 A2:Option Addr)(ks:List (List UInt8))(ns:List Nat)(s:List UInt8)(at_:Nat)(w:World)
  (h:Dr w p A1 A2 A1 n c1 ks A2 n c2 ns (.slice A1 n c1) (.slice A2 n c2) w) (hi:i≤n) (hn:n≤1048575):
  Calls Ad 328 #[Aca p,.int .i64 (i:Int),.string ⟨s.toArray⟩,.int .i64 (at_:Int)] w fun e w'=>e= .returned (.tuple #[])∧
   ∃A1' A2' c1' c2',Dr w p A1 A2 A1' (n+1) c1' (ks.take i++ [s]++ks.drop i) A2' (n+1) c2' (ns.take i++ [at_]++ns.drop i) (.slice A1' (n+1) c1') (.slice A2' (n+1) c2') w':=by
 have H:=Hd h;clear h;go_enter func328,ntmps328;go_upto_region 1 with fail
 go_cut [] (fun wx=>∃wy,wy=wx∧∃A1' A2' c1' c2',Dr w p A1 A2 A1' (n+1) c1' (ks++ [[]]) A2' (n+1) c2' (ns++ [0]) (.slice A1' (n+1) c1') (.slice A2' (n+1) c2') wx)
 case first=>
  obtain⟨wd,l⟩:∃wd,wd=w.drew:=⟨_,rfl⟩;have O:=Hd (show Dr w p A1 A2 A1 n c1 ks A2 n c2 ns (.slice A1 n c1) (.slice A2 n c2) wd by rw [l];exact H.o.below (Jt w));have bb:=Hd (show w.heap.size≤wd.heap.size by rw [l];exact(Jt w).size);have HA:=Hd (O.o.alloc (.cells #[.string ⟨([]:List UInt8).toArray⟩] 9));have HB:=Hd (O.o.alloc (.cells #[.int .i64 0] 3));have Z:=Hd (HA.o.alloc (.cells #[.int .i64 0] 3));have aa:=Hd (HB.o.alloc (.cells #[.string ⟨([]:List UInt8).toArray⟩] 9));have IA:=Hd (Sk wd []);have IB:=Hd (Wu wd);have P:=Hd (IA.o.alloc (.cells #[.int .i64 0] 3));have S:=Hd (IB.o.alloc (.cells #[.string ⟨([]:List UInt8).toArray⟩] 9));have Q:=Hd (show Is J7 ((wd.alloc (.cells #[.string ⟨([]:List UInt8).toArray⟩] 9)).alloc (.cells #[.int .i64 0] 3)) (some ⟨wd.heap.size+1,0,none⟩) 1 [0] by rw [←J3 wd (.cells #[.string ⟨([]:List UInt8).toArray⟩] 9)];exact Wu (wd.alloc (.cells #[.string ⟨([]:List UInt8).toArray⟩] 9)));have R:=Hd (show Fm ((wd.alloc (.cells #[.int .i64 0] 3)).alloc (.cells #[.string ⟨([]:List UInt8).toArray⟩] 9)) (some ⟨wd.heap.size+1,0,none⟩) 1 [[]] by rw [←J3 wd (.cells #[.int .i64 0] 3)];exact Sk (wd.alloc (.cells #[.int .i64 0] 3)) []);have ab:=Hd (show ∀a,A1=some a→a.block<wd.heap.size from fun a e=>(O.o.o1.addr a e).2.2);have ad:=Hd (show ∀a,A2=some a→a.block<wd.heap.size from fun a e=>(O.o.o2.addr a e).2.2);have x0:wd.cell? ⟨p,0,none⟩=some (.slice A1 n c1):=O.o.blk.cell 0;have x1:wd.cell? ⟨p,1,none⟩=some (.slice A2 n c2):=O.o.blk.cell 1;have bd:wd.frozen? ⟨p,0,none⟩=false:=O.o.blk.frozen 0;have be:wd.frozen? ⟨p,1,none⟩=false:=O.o.blk.frozen 1;subst l;have k0:=fun o=>C1 o x0
  have k1:=fun o=>C1 o x1
  have au:=fun o o'=>C1 o' (C1 o x0)
  have av:=fun o o'=>C1 o' (C1 o x1)
  have m0:∀o,(w.alloc o).drew.cell? ⟨p,0,none⟩=some (.slice A1 n c1):=k0;have m1:∀o,(w.alloc o).drew.cell? ⟨p,1,none⟩=some (.slice A2 n c2):=k1;have bm:∀o o',((w.alloc o).alloc o').drew.cell? ⟨p,0,none⟩=some (.slice A1 n c1):=au;have bn:∀o o',((w.alloc o).alloc o').drew.cell? ⟨p,1,none⟩=some (.slice A2 n c2):=av;go_region_law (first
   |(refine Mn rfl (.tmp 13) (.tmp 14) rfl HA.o rfl (some ⟨w.drew.heap.size,0,none⟩) [] IA.o rfl (by omega) ?_;intro A1' c1' J d u;have C:J.cell? ⟨p,0,none⟩=some (.slice A1 n c1):=d.blk.cell 0;have D:J.cell? ⟨p,1,none⟩=some (.slice A2 n c2):=d.blk.cell 1;have al:=fun o=>C1 o C;have am:=fun o=>C1 o D;replace d:=Hd d;clear u)
   |(refine Mn rfl (.tmp 13) (.tmp 14) rfl Z.o rfl (some ⟨w.drew.heap.size,0,none⟩) [] P.o rfl (by omega) ?_;intro A1' c1' J d u;have C:J.cell? ⟨p,0,none⟩=some (.slice A1 n c1):=d.blk.cell 0;have D:J.cell? ⟨p,1,none⟩=some (.slice A2 n c2):=d.blk.cell 1;have al:=fun o=>C1 o C;have am:=fun o=>C1 o D;replace d:=Hd d;have T:=Hd (P6 Q.o u ab.o (Nat.le_succ _));clear u)
   |(refine Mn rfl (.tmp 13) (.tmp 14) rfl aa.o rfl (some ⟨w.drew.heap.size+1,0,none⟩) [] R.o rfl (by omega) ?_;intro A1' c1' J d u;have C:J.cell? ⟨p,0,none⟩=some (.slice A1 n c1):=d.blk.cell 0;have D:J.cell? ⟨p,1,none⟩=some (.slice A2 n c2):=d.blk.cell 1;have al:=fun o=>C1 o C;have am:=fun o=>C1 o D;replace d:=Hd d;have T:=Hd (P6 S.o u ab.o (Ae _));clear u)
   |(refine Mo rfl (.tmp 19) (.tmp 20) rfl HB.o rfl (some ⟨w.drew.heap.size,0,none⟩) 0 IB.o rfl (by omega) ?_;intro A2' c2' K j v;have E:K.cell? ⟨p,0,none⟩=some (.slice A1 n c1):=j.blk.cell 0;have F:K.cell? ⟨p,1,none⟩=some (.slice A2 n c2):=j.blk.cell 1;have an:=fun o=>C1 o E;have ao:=fun o=>C1 o F;replace j:=Hd j;clear v)
   |(refine Mo rfl (.tmp 19) (.tmp 20) rfl aa.o rfl (some ⟨w.drew.heap.size,0,none⟩) 0 S.o rfl (by omega) ?_;intro A2' c2' K j v;have E:K.cell? ⟨p,0,none⟩=some (.slice A1 n c1):=j.blk.cell 0;have F:K.cell? ⟨p,1,none⟩=some (.slice A2 n c2):=j.blk.cell 1;have an:=fun o=>C1 o E;have ao:=fun o=>C1 o F;replace j:=Hd j;have T:=Hd (P6 R.o v ad.o (Nat.le_succ _));clear v)
   |(refine Mo rfl (.tmp 19) (.tmp 20) rfl Z.o rfl (some ⟨w.drew.heap.size+1,0,none⟩) 0 Q.o rfl (by omega) ?_;intro A2' c2' K j v;have E:K.cell? ⟨p,0,none⟩=some (.slice A1 n c1):=j.blk.cell 0;have F:K.cell? ⟨p,1,none⟩=some (.slice A2 n c2):=j.blk.cell 1;have an:=fun o=>C1 o E;have ao:=fun o=>C1 o F;replace j:=Hd j;have T:=Hd (P6 P.o v ad.o (Ae _));clear v)
   |(refine Mo rfl (.tmp 19) (.tmp 20) rfl d.o rfl (some ⟨w.drew.heap.size,0,none⟩) 0 T.o rfl (by omega) ?_;intro A2' c2' k b m;clear m;have G:k.cell? ⟨p,0,none⟩=some (.slice A1 n c1):=b.blk.cell 0;have I:k.cell? ⟨p,1,none⟩=some (.slice A2 n c2):=b.blk.cell 1;have z:k.frozen? ⟨p,0,none⟩=false:=b.blk.frozen 0;have A:k.frozen? ⟨p,1,none⟩=false:=b.blk.frozen 1;replace b:=Hd b)
   |(refine Mo rfl (.tmp 19) (.tmp 20) rfl d.o rfl (some ⟨w.drew.heap.size+1,0,none⟩) 0 T.o rfl (by omega) ?_;intro A2' c2' k b m;clear m;have G:k.cell? ⟨p,0,none⟩=some (.slice A1 n c1):=b.blk.cell 0;have I:k.cell? ⟨p,1,none⟩=some (.slice A2 n c2):=b.blk.cell 1;have z:k.frozen? ⟨p,0,none⟩=false:=b.blk.frozen 0;have A:k.frozen? ⟨p,1,none⟩=false:=b.blk.frozen 1;replace b:=Hd b)
   |(refine Mo rfl (.tmp 19) (.tmp 20) rfl (d.o.alloc (.cells #[.int .i64 0] 3)) rfl (some ⟨J.heap.size,0,none⟩) 0 (Wu J) rfl (by omega) ?_;intro A2' c2' k b m;clear m;have G:k.cell? ⟨p,0,none⟩=some (.slice A1 n c1):=b.blk.cell 0;have I:k.cell? ⟨p,1,none⟩=some (.slice A2 n c2):=b.blk.cell 1;have z:k.frozen? ⟨p,0,none⟩=false:=b.blk.frozen 0;have A:k.frozen? ⟨p,1,none⟩=false:=b.blk.frozen 1;replace b:=Hd b)
   |(refine Mn rfl (.tmp 13) (.tmp 14) rfl j.o rfl (some ⟨w.drew.heap.size,0,none⟩) [] T.o rfl (by omega) ?_;intro A1' c1' k b m;clear m;have G:k.cell? ⟨p,0,none⟩=some (.slice A1 n c1):=b.blk.cell 0;have I:k.cell? ⟨p,1,none⟩=some (.slice A2 n c2):=b.blk.cell 1;have z:k.frozen? ⟨p,0,none⟩=false:=b.blk.frozen 0;have A:k.frozen? ⟨p,1,none⟩=false:=b.blk.frozen 1;replace b:=Hd b)
   |(refine Mn rfl (.tmp 13) (.tmp 14) rfl j.o rfl (some ⟨w.drew.heap.size+1,0,none⟩) [] T.o rfl (by omega) ?_;intro A1' c1' k b m;clear m;have G:k.cell? ⟨p,0,none⟩=some (.slice A1 n c1):=b.blk.cell 0;have I:k.cell? ⟨p,1,none⟩=some (.slice A2 n c2):=b.blk.cell 1;have z:k.frozen? ⟨p,0,none⟩=false:=b.blk.frozen 0;have A:k.frozen? ⟨p,1,none⟩=false:=b.blk.frozen 1;replace b:=Hd b)
   |(refine Mn rfl (.tmp 13) (.tmp 14) rfl (j.o.alloc (.cells #[.string ⟨([]:List UInt8).toArray⟩] 9)) rfl (some ⟨K.heap.size,0,none⟩) [] (Sk K []) rfl (by omega) ?_;intro A1' c1' k b m;clear m;have G:k.cell? ⟨p,0,none⟩=some (.slice A1 n c1):=b.blk.cell 0;have I:k.cell? ⟨p,1,none⟩=some (.slice A2 n c2):=b.blk.cell 1;have z:k.frozen? ⟨p,0,none⟩=false:=b.blk.frozen 0;have A:k.frozen? ⟨p,1,none⟩=false:=b.blk.frozen 1;replace b:=Hd b))
  all_goals
   go_wp2_with fail;go_meet;exact⟨_,rfl,A1',A2',c1',c2',by first|exact(b.o.set0 _).set1 _|exact(b.o.set1 _).set0 _⟩
 case rest=>
 obtain⟨w1,rfl,A1',A2',c1',c2',h1⟩:=hcut;have bf:n+1≤c1':=h1.o1.cap.1;have bg:n+1≤c2':=h1.o2.cap.1;have x:ks.length=n:=by have:=h1.o1.is.1;simp at this;omega
 have y:ns.length=n:=by have:=h1.o2.is.1;simp at this;omega
 obtain⟨q,rfl⟩:=oR D5 h1.o1 (by omega);obtain⟨g2,rfl⟩:=oR Fw h1.o2 (by omega);have ak:q≠g2:=h1.d12 _ _ rfl rfl;have ba:=Hd ak;have HL:=Hd (And.intro x y);have H1:=Hd h1;have bh:IntKind.i64.wrap ((i:Int)+1)=(((i+1:Nat)):Int):=by rw [Ag _ (by omega)];omega
 have N:n-i≤n+1-i:=by omega
 clear h1 ak x y;go_upto_region 2 with fail
 go_cut [] (fun wx=>∃wy,wy=wx∧Dr w p A1 A2 (some ⟨q,0,none⟩) (n+1) c1' ((ks++ [[]]).take (i+1)++((ks++ [[]]).drop i).take (n-i)++(ks++ [[]]).drop (i+1+(n-i))) (some ⟨g2,0,none⟩) (n+1) c2' (ns++ [0]) (.slice (some ⟨q,0,none⟩) (n+1) c1') (.slice (some ⟨g2,0,none⟩) (n+1) c2') wx)
 case first=>
  obtain⟨M,_⟩:=Uw (f:=Lz) (g:=q) (c:=c1') (show i+1≤n+1 by omega) (by omega) D5;obtain⟨_,B⟩:=Uw (f:=Lz) (g:=q) (c:=c1') (show i≤n+1 by omega) (by omega) D5;obtain⟨wd,l⟩:∃wd,wd=w1.drew:=⟨_,rfl⟩;have t:=Hd (show Dr w p A1 A2 _ _ _ _ _ _ _ _ _ _ wd by rw [l];exact H1.o.below (Jt w1));have L:=B _ _ t.o.o1.is;have eX:n+1-(i+1)=n-i:=by omega
  rw [eX] at M;obtain⟨X,U⟩:∃X,(if c1'=i+1 then some (⟨q,0,none⟩:Addr) else some ⟨q,i+1,none⟩)=X:=⟨_,rfl⟩;obtain⟨Y,V⟩:∃Y,(if c1'=i then some (⟨q,0,none⟩:Addr) else some ⟨q,i,none⟩)=Y:=⟨_,rfl⟩;rw [U] at M;rw [V] at L;have HX:=Hd M;replace L:=Hd (L.take D5 N);have q0:wd.cell? ⟨p,0,none⟩=some (.slice (some ⟨q,0,none⟩) (n+1) c1'):=t.o.blk.cell 0;have i0:(0:Int)≤(i:Int)+1:=by omega
  have i2:(i:Int)≤(n:Int)+1:=by omega
  subst l;clear M B eX;go_region_law (refine V5 rfl (.tmp 32) (.tmp 38) 31 rfl (by kernel_rfl) (by kernel_rfl) D5 O6 X Y (n-i) (n+1-i) (c1'-(i+1)) (c1'-i) rfl rfl N 0 (some ⟨q,0,none⟩) (n+1) c1' (i+1) (ks++ [[]]) _ t.o.o1 HX.o (by omega) L.o ?_;intro w5 hO hF;have H5:=Hd (t.o.app1 hO hF (.inl rfl));clear hO hF)
  all_goals
   go_wp2_with fail;go_meet;exact⟨_,rfl,H5.o⟩
 case rest=>
 obtain⟨w2,rfl,h1⟩:=hcut;have H2:=Hd h1;clear h1 H1;go_upto_region 3 with fail
 go_cut [] (fun wx=>∃wy,wy=wx∧Dr w p A1 A2 (some ⟨q,0,none⟩) (n+1) c1' ((ks++ [[]]).take (i+1)++((ks++ [[]]).drop i).take (n-i)++(ks++ [[]]).drop (i+1+(n-i))) (some ⟨g2,0,none⟩) (n+1) c2' ((ns++ [0]).take (i+1)++((ns++ [0]).drop i).take (n-i)++(ns++ [0]).drop (i+1+(n-i))) (.slice (some ⟨q,0,none⟩) (n+1) c1') (.slice (some ⟨g2,0,none⟩) (n+1) c2') wx)
 case first=>
  have H1:=H2;obtain⟨M,_⟩:=Uw (f:=J7) (g:=g2) (c:=c2') (show i+1≤n+1 by omega) (by omega) Fw;obtain⟨_,B⟩:=Uw (f:=J7) (g:=g2) (c:=c2') (show i≤n+1 by omega) (by omega) Fw;obtain⟨wd,l⟩:∃wd,wd=w2.drew:=⟨_,rfl⟩;have t:=Hd (show Dr w p A1 A2 _ _ _ _ _ _ _ _ _ _ wd by rw [l];exact H1.o.below (Jt w2));have L:=B _ _ t.o.o2.is;have eX:n+1-(i+1)=n-i:=by omega
  rw [eX] at M;obtain⟨X,U⟩:∃X,(if c2'=i+1 then some (⟨g2,0,none⟩:Addr) else some ⟨g2,i+1,none⟩)=X:=⟨_,rfl⟩;obtain⟨Y,V⟩:∃Y,(if c2'=i then some (⟨g2,0,none⟩:Addr) else some ⟨g2,i,none⟩)=Y:=⟨_,rfl⟩;rw [U] at M;rw [V] at L;have HX:=Hd M;replace L:=Hd (L.take Fw N);have q0:wd.cell? ⟨p,1,none⟩=some (.slice (some ⟨g2,0,none⟩) (n+1) c2'):=t.o.blk.cell 1;have i0:(0:Int)≤(i:Int)+1:=by omega
  have i2:(i:Int)≤(n:Int)+1:=by omega
  subst l;clear M B eX;go_region_law (refine V5 rfl (.tmp 46) (.tmp 52) 118 rfl (by kernel_rfl) (by kernel_rfl) Fw fT X Y (n-i) (n+1-i) (c2'-(i+1)) (c2'-i) rfl rfl N 0 (some ⟨g2,0,none⟩) (n+1) c2' (i+1) (ns++ [0]) _ t.o.o2 HX.o (by omega) L.o ?_;intro w5 hO hF;have H5:=Hd (t.o.app2 hO hF (.inl rfl));clear hO hF)
  all_goals
   go_wp2_with fail;go_meet;exact⟨_,rfl,H5.o⟩
 case rest=>
 obtain⟨W,rfl,h1⟩:=hcut;obtain⟨x,y⟩:=HL.o;have H3:=Hd h1;have r:i<n+1:=by omega
 obtain⟨wd,l⟩:∃wd,wd=W.drew:=⟨_,rfl⟩;have t:=Hd (show Dr w p A1 A2 _ _ _ _ _ _ _ _ _ _ wd by rw [l];exact h1.below (Jt W));have ae:=Hd (t.o.store1 r s);have ag:=Hd (t.o.store2 r at_);have af:=Hd (ae.o.store2 r at_);have az:=Hd (ag.o.store1 r s);have q0:wd.cell? ⟨p,0,none⟩=some (.slice (some ⟨q,0,none⟩) (n+1) c1'):=t.o.blk.cell 0;have q1:wd.cell? ⟨p,1,none⟩=some (.slice (some ⟨g2,0,none⟩) (n+1) c2'):=t.o.blk.cell 1;obtain⟨⟨r0,r1⟩,r2,_⟩:=Hc D5 t.o.o1 r s _ rfl;obtain⟨⟨r3,r4⟩,r5,_⟩:=Hc Fw t.o.o2 r at_ _ rfl;obtain⟨⟨t3,t4⟩,t5,_⟩:=Hc Fw ae.o.o2 r at_ _ rfl;obtain⟨⟨t0,t1⟩,t2,_⟩:=Hc D5 ag.o.o1 r s _ rfl;have j0:(0:Int)≤(i:Int):=by omega
 have j1:(i:Int)<(n:Int)+1:=by omega
 subst l;clear h1 x y;have t6:(W.setCell ⟨q,i,none⟩ (.string ⟨s.toArray⟩)).cell? ⟨g2,i,none⟩=some t3:=t4;have t7:(W.setCell ⟨q,i,none⟩ (.string ⟨s.toArray⟩)).frozen? ⟨g2,i,none⟩=false:=t5;have t8:(W.setCell ⟨g2,i,none⟩ (.int .i64 (at_:Int))).cell? ⟨q,i,none⟩=some t0:=t1;have t9:(W.setCell ⟨g2,i,none⟩ (.int .i64 (at_:Int))).frozen? ⟨q,i,none⟩=false:=t2;go_wp2_with fail;go_region_law (fail)
 all_goals
  go_wp2_with fail;go_end0;refine⟨rfl,some ⟨q,0,none⟩,some ⟨g2,0,none⟩,c1',c2',?_⟩;obtain⟨x,y⟩:=HL.o;have z1:=aT ks [] s i (by omega);have z2:=aT ns 0 at_ i (by omega);rw [x] at z1;rw [y] at z2;rw [←z1,←z2];exact af.o
theorem aS:∀x:List UInt8,Op.bytesLess x x=false
 | []=>rfl
 |a::x=>by
  show(decide (a<a)||(a==a&&Op.bytesLess x x))=false;rw [aS x];simp
theorem nS:∀x y:List UInt8,Op.bytesLess x y=false→x≠y→Op.bytesLess y x=true
 | [],[],_,h=>absurd rfl h
 | [],_::_,h,_=>by cases h
 |_::_,[],_,_=>rfl
 |a::x,b::y,h,hne=>by
  have g:(decide (a<b)||(a==b&&Op.bytesLess x y))=false:=h;show(decide (b<a)||(b==a&&Op.bytesLess y x))=true;rw [Bool.or_eq_false_iff,Bool.and_eq_false_iff,decide_eq_false_iff_not] at g;rw [Bool.or_eq_true,Bool.and_eq_true,decide_eq_true_eq,beq_iff_eq];by_cases e:a=b
  ·subst e;refine .inr ⟨rfl,nS x y ?_ (fun e=>hne (by rw [e]))⟩;rcases g.2 with g|g
   ·simp at g
   ·exact g
  ·left;have:=g.1;rcases UInt8.lt_or_lt_of_ne e with h|h
   ·exact absurd h this
   ·exact h
abbrev J1(ks:List (List UInt8)):Prop:=ks.Pairwise (fun x y=>Op.bytesLess x y=true)
theorem Yn(h:Mq ks s i)(hs:J1 ks)(hn:ks[i]?≠some s):s∉ks:=by
 intro g;obtain⟨j,d,e⟩:=List.getElem_of_mem g;have a:ks[j]?=some s:=by rw [Ai d,e]
 rcases Nat.lt_or_ge j i with c|c
 ·have:=h.lo j s c a;rw [aS] at this;cases this
 ·by_cases f:j=i
  ·exact hn (f▸a)
  ·have b:i<ks.length:=by omega
   have h1:=h.hi i _ (Ae _) (Ai b);have h2:=List.pairwise_iff_getElem.1 hs i j b d (by omega);rw [e] at h2;rw [h1] at h2;cases h2
theorem cA(h:Mq ks s i)(hs:J1 ks)(hn:s∉ks):J1 (ks.take i++ [s]++ks.drop i):=by
 have k:∀x∈ks.take i,Op.bytesLess x s=true:=by
  intro x b;obtain⟨j,d,e⟩:=List.getElem_of_mem b;have a:j<i:=by simp at d;omega
  refine h.lo j x a ?_;rw [←e,List.getElem_take,Ai (by simp at d;omega)]
 have l:∀x∈ks.drop i,Op.bytesLess s x=true:=by
  intro x b;obtain⟨j,d,e⟩:=List.getElem_of_mem b;have a:i+j<ks.length:=by simp at d;omega
  have g:ks[i+j]?=some x:=by rw [←e,List.getElem_drop,Ai a]
  exact nS x s (h.hi (i+j) x (by omega) g) (fun e3=>hn (e3▸List.mem_of_mem_drop b))
 have c:=hs;rw [show ks=ks.take i++ks.drop i from(List.take_append_drop i ks).symm,J1,List.pairwise_append] at c;obtain⟨m,n,o⟩:=c;rw [J1,Ax,List.pairwise_append];refine⟨m,?_,?_⟩
 ·rw [List.singleton_append,List.pairwise_cons];exact⟨l,n⟩
 ·intro x b y f;rw [List.singleton_append,List.mem_cons] at f;rcases f with rfl|f
  ·exact k x b
  ·exact o x b y f
theorem Hu(x:List UInt8×Nat)(l:List (List UInt8×Nat))(k:List UInt8):Cj (x::l) k=if x.1=k then some x.2 else Cj l k:=by
 unfold Cj;rw [List.find?_cons];by_cases e:x.1=k
 ·rw [if_pos e];simp [e]
 ·rw [if_neg e];have:(x.1==k)=false:=beq_eq_false_iff_ne.mpr e;rw [this]
theorem Qr:∀(ks:List (List UInt8)) (ns:List Nat) (i:Nat) (s:List UInt8) (a:Nat),J1 ks→ks[i]?=some s→ns[i]?=some a→Cj (ks.zip ns) s=some a
 | [],_,_,_,_,_,h,_=>by simp at h
 |_::_,[],_,_,_,_,_,h=>by simp at h
 |k::ks,n::ns,0,s,a,_,h1,h2=>by
  rw [List.zip_cons_cons,Hu];simp at h1 h2;rw [if_pos h1,h2]
 |k::ks,n::ns,i+1,s,a,hs,h1,h2=>by
  rw [List.zip_cons_cons,Hu];simp at h1 h2;rw [J1,List.pairwise_cons] at hs;rw [if_neg ?_]
  ·exact Qr ks ns i s a hs.2 h1 h2
  ·intro e;have b:s∈ks:=List.mem_of_getElem? h1;have:=hs.1 s b;rw [show k=s from e,aS] at this;cases this
theorem Jq:∀(ks:List (List UInt8)) (ns:List Nat) (s:List UInt8),s∉ks→Cj (ks.zip ns) s=none
 | [],_,_,_=>rfl
 |_::_,[],_,_=>rfl
 |k::ks,n::ns,s,h=>by
  rw [List.zip_cons_cons,Hu,if_neg (fun e=>h (by rw [←e];exact List.mem_cons_self))];exact Jq ks ns s (fun e=>h (List.mem_cons_of_mem _ e))
theorem My:∀(l m:List (List UInt8×Nat)) (k:List UInt8),Cj (l++m) k=match Cj l k with|some a=>some a|none=>Cj m k
 | [],m,k=>by simp [Cj]
 |x::l,m,k=>by
  rw [List.cons_append,Hu,Hu];by_cases e:x.1=k
  ·rw [if_pos e,if_pos e]
  ·rw [if_neg e,if_neg e];exact My l m k
theorem rW(hl:ks.length=ns.length)(a i:Nat)(hn:s∉ks)(k:List UInt8):
  Cj ((ks.take i++ [s]++ks.drop i).zip (ns.take i++ [a]++ns.drop i)) k=if s=k then some a else Cj (ks.zip ns) k:=by
 rw [List.zip_append (by simp [hl]),List.zip_append (by simp [hl]),Ax,My];have b:ks.zip ns=(ks.take i).zip (ns.take i)++(ks.drop i).zip (ns.drop i):=by
  rw [←List.zip_append (by simp [hl]),List.take_append_drop,List.take_append_drop]
 by_cases e:s=k
 ·subst e;rw [if_pos rfl,Jq _ _ _ (fun h=>hn (List.mem_of_mem_take h))];simp [Cj]
 ·have h2:Cj (([s]:List (List UInt8)).zip [a]) k=none:=by
   show Cj [(s,a)] k=_;rw [Hu,if_neg e];rfl
  rw [if_neg e,b,My,h2,My]
theorem nE(m:List (List UInt8×Nat))(s k:List UInt8)(a:Nat)(h:Cj m s=none):Cj (Fs m s a) k=if s=k then some a else Cj m k:=by
 have e1:Fs m s a=m++ [(s,a)]:=by unfold Fs;rw [if_neg (by rw [h];decide)]
 rw [e1,My];by_cases e:s=k
 ·subst e;rw [h,if_pos rfl];show Cj [(s,a)] s=_;rw [Hu,if_pos rfl]
 ·rw [if_neg e];have:Cj [(s,a)] k=none:=by rw [Hu,if_neg e];rfl
  rw [this];cases Cj m k <;>rfl
theorem Si{f:α→List Value}{sz:Nat}{ad:Addr}{l:List α}(h:Go.Acc.Own f sz e w B (some ad) n c l):∃cur,Bb w ad.block e cur:=by
 rcases h.2.2 with⟨hv,_⟩|⟨g',cap,cur,hv,hb,hg,_⟩
 ·cases hv
 ·injection hv with e1
  injection e1 with e1
  subst e1;exact⟨cur,hg⟩
structure Md(m:List (List UInt8×Nat))(n:Nat)(ks:List (List UInt8))(ns:List Nat):Prop where
 sorted:J1 ks
 get:∀s,Cj m s=Cj (ks.zip ns) s
 le:n≤m.length
 at_:∀a∈ns,a≤1048576
 kl:ks.length=n
 nl:ns.length=n
theorem Gx.open_(h:Gx w o i p m):∃A1 A2 n c1 c2 ks ns,Dr w p A1 A2 A1 n c1 ks A2 n c2 ns (.slice A1 n c1) (.slice A2 n c2) w∧Of o A1 i∧Of o A2 i∧o p=i∧Md m n ks ns:=by
 obtain⟨A1,A2,n,c1,c2,ks,ns,f,h1,h2,s,t,u,r,l,q,k⟩:=h;refine⟨A1,A2,n,c1,c2,ks,ns,⟨f,h1,h2,?_,?_,?_,Fr.refl _ _,.inl rfl,.inl rfl⟩,s,t,u,⟨r,l,q,k,h1.is.1,h2.is.1⟩⟩
 ·rintro a rfl e;obtain⟨d,c⟩:=Si h1;rw [e] at c;exact Bb.ne_ c f (by decide) rfl
 ·rintro a rfl e;obtain⟨d,c⟩:=Si h2;rw [e] at c;exact Bb.ne_ c f (by decide) rfl
 ·rintro a b rfl rfl e;obtain⟨d,c⟩:=Si h1;obtain⟨j,g⟩:=Si h2;rw [e] at c;exact Bb.ne_ c g (by decide) rfl
theorem Gx.shut{c1 c2:Nat}{A10 A20 A1 A2:Option Addr}(h:Dr w p A10 A20 A1 n c1 ks A2 n c2 ns (.slice A1 n c1) (.slice A2 n c2) w')
  (hp:Md m n ks ns) (h1:Of o A10 i) (h2:Of o A20 i) (op:o p=i) (hlt:p<w.heap.size) (b1:∀a,A10=some a→a.block<w.heap.size) (b2:∀a,A20=some a→a.block<w.heap.size):Gx w' (Bl o w.heap.size i) i p m∧To (fun x=>x=i) w o w' (Bl o w.heap.size i):=by
 have b:∀{A A0:Option Addr},Of o A0 i→(∀a,A0=some a→a.block<w.heap.size)→(A.map (·.block)=A0.map (·.block)∨∃k,A.map (·.block)=some k∧w.heap.size≤k)→Of (Bl o w.heap.size i) A i:=by
  intro A A0 f g l c d;subst d;rcases l with e|⟨k,e,j⟩
  ·cases A0 with
   |none=>cases e
   |some a0=>
    injection e with e
    have e:c.block=a0.block:=e;rw [e,Bs (g a0 rfl)];exact f a0 rfl
  ·injection e with e
   have e:c.block=k:=e;rw [e,Bo j]
 refine⟨⟨A1,A2,n,c1,c2,ks,ns,h.blk,h.o1,h.o2,b h1 b1 h.w1,b h2 b2 h.w2,by rw [Bs hlt];exact op,hp.sorted,hp.get,hp.le,hp.at_⟩,To.of_fr h.fr ?_ i⟩;rintro k _ (rfl|⟨a,e,rfl⟩|⟨a,e,rfl⟩)
 ·exact op
 ·exact h1 a e
 ·exact h2 a e
theorem Md.ins(h:Md m n ks ns){a:Nat}(hp:Mq ks s i)(hn:ks[i]?≠some s)(ha:a≤1048576):
  Md (Fs m s a) (n+1) (ks.take i++ [s]++ks.drop i) (ns.take i++ [a]++ns.drop i):=by
 have b:=Yn hp h.sorted hn;have d:Cj m s=none:=by rw [h.get,Jq _ _ _ b]
 have e:=hp.le;have f:=h.kl;have g:=h.nl;refine⟨cA hp h.sorted b,fun k=>?_,?_,?_,by simp;omega,by simp;omega⟩
 ·rw [nE m s k a d,rW (by omega) a i b,h.get]
 ·have:=h.le;unfold Fs;rw [if_neg (by rw [d];decide)];simp;omega
 ·intro x c;simp only [List.mem_append,List.mem_singleton] at c;rcases c with(c|rfl)|c
  ·exact h.at_ x (List.mem_of_mem_take c)
  ·exact ha
  ·exact h.at_ x (List.mem_of_mem_drop c)
theorem Md.get_none(h:Md m n ks ns)(hp:Mq ks s i)(hn:ks[i]?≠some s):Cj m s=none:=by
 rw [h.get,Jq _ _ _ (Yn hp h.sorted hn)]
theorem Md.get_some(h:Md m n ks ns)(hs:ks[i]?=some s):∃a,ns[i]?=some a∧Cj m s=some a∧i<n:=by
 have b:i<ks.length:=(List.getElem?_eq_some_iff.1 hs).1;have c:=h.kl;have d:=h.nl;refine⟨ns[i]'(by omega),Ai (by omega),?_,by omega⟩;rw [h.get];exact Qr ks ns i s _ h.sorted hs (Ai (by omega))
theorem Vv(p:Nat)(w:World)(h:w.cell? ⟨p,2,none⟩=some (.bool true)):Calls Ad 326 #[Aca p] w (Ab6 (.bool false) w):=by
 go_enter func326,ntmps326;go_wp2;go_ret;exact⟨rfl,rfl⟩
def T4(x:Option Nat):Value:= .tuple #[.int .i64 ((x.getD 0:Nat):Int),.bool x.isSome]
theorem Rv(i p:Nat)(m:List (List UInt8×Nat))(s:List UInt8)(w:World)(o:Nat→Nat)(h:Gx w o i p m)(hm:m.length≤1048576):
  Calls Ad 280 #[Aca p,.string ⟨s.toArray⟩] w (Ab5 (T4 (Cj m s)) w):=by
 obtain⟨B,H,n,E,J,ks,O,c,P,Q,R,t⟩:=h.open_;have D:=Hd c;have r:=Hd t;have N:n≤1048576:=Nat.le_trans t.le hm;have y:w.cell? ⟨p,0,none⟩=some (.slice B n E):=c.blk.cell 0;have z:w.cell? ⟨p,1,none⟩=some (.slice H n J):=c.blk.cell 1;have A:w.cell? ⟨p,2,none⟩=some (.bool true):=c.blk.cell 2;clear h c P Q R t;go_enter func280,ntmps280;go_wp2_with fail;go_at_call 326;refine(Vv p w A).mono ?_;rintro e V ⟨rfl,rfl⟩;go_wp2_with fail;go_at_call 327;refine(S0 p n E B ks s w y D.o.o1.is N r.o.sorted).mono ?_;rintro e S ⟨j,l,rfl,d⟩;have T:=Ba d z;have I:=Hd (D.o.o2.is.pure d);have C:=Hd d;have U:=Hd l;by_cases b:ks[j]?=some s
 ·obtain⟨a,u,G,v⟩:=r.o.get_some b;have f:decide (ks[j]?=some s)=true:=decide_eq_true b;rw [f];obtain⟨g,x,rfl,k,F⟩:=I.o.at_ Fw (by omega) v;have K:S.cell? ⟨g,x+j,none⟩=some (.int .i64 (a:Int)):=by
   have h3:=F 0 (by omega);have e:O[j]=a:=by rw [Ai k] at u;injection u
   rw [e,Nat.mul_one,Nat.add_zero] at h3;exact h3
  have q:=Hd G;have L:(0:Int)≤(j:Int):=by omega
  have M:(j:Int)<(n:Int):=by omega
  clear b f u G k F d y z A l;go_wp2_with fail;go_ret2;refine⟨by rw [q.o];rfl,C.o⟩
 ·have f:decide (ks[j]?=some s)=false:=decide_eq_false b;have q:=Hd (r.o.get_none l b);rw [f];clear b f d y z A l;go_wp2_with fail;go_ret2;exact⟨by rw [q.o];rfl,C.o⟩
theorem Lv(i p:Nat)(m:List (List UInt8×Nat))(s:List UInt8)(a:Nat)(w:World)(o:Nat→Nat)(h:Gx w o i p m)(hm:m.length≤1048575)(ha:a≤1048576):
  Calls Ad 282 #[Aca p,.string ⟨s.toArray⟩,.int .i64 (a:Int)] w fun e w'=>(∃x,e= .returned (.int .i64 x))∧∃o',Gx w' o' i p (Fs m s a)∧To (fun k=>k=i) w o w' o':=by
 have H:=Hd h;obtain⟨r,N,n,z,U,ks,Z,l,I,J,K,A⟩:=h.open_;have F:=Hd l;have g:=Hd A;have u:=Hd I;have v:=Hd J;have y:=Hd K;have Y:n≤1048575:=Nat.le_trans A.le hm;have D:w.cell? ⟨p,0,none⟩=some (.slice r n z):=l.blk.cell 0;have E:w.cell? ⟨p,2,none⟩=some (.bool true):=l.blk.cell 2;have W:¬(a:Int)<0:=by omega
 have X:¬(9007199254740991:Int)<(a:Int):=by omega
 clear h l I J K A;go_enter func282,ntmps282;go_wp2_with fail;go_at_call 326;refine(Vv p w E).mono ?_;rintro e w' ⟨rfl,rfl⟩;go_wp2_with fail;go_at_call 327;refine(S0 p n z r ks s w D F.o.o1.is (by omega) g.o.sorted).mono ?_;rintro e L ⟨j,q,rfl,B⟩;have f:=Hd B;have R:=Hd q;have C:j≤n:=by have:=q.le;have:=g.o.kl;omega
 by_cases c:ks[j]?=some s
 ·obtain⟨a',_,G,_⟩:=g.o.get_some c;have d:decide (ks[j]?=some s)=true:=decide_eq_true c;rw [d];have Q:=Hd (show Fs m s a=m by unfold Fs;rw [G];rfl);clear c d G B D E q;go_wp2_with fail;go_ret;rw [Q.o];exact⟨⟨_,rfl⟩,o,H.o.to_ (To.pure (fun _=>False) f.o o) (fun h=>h),To.pure _ f.o o⟩
 ·have d:decide (ks[j]?=some s)=false:=decide_eq_false c;have S:=Hd c;have b:=Hd (F.o.below f.o);have t:=Hd (Dr.mk b.o.blk b.o.o1 b.o.o2 b.o.d1 b.o.d2 b.o.d12 (Fr.refl _ L) (.inl rfl) (.inl rfl));rw [d];clear c d B D E q;go_wp2_with fail;go_at_call 328;refine(sD p j n z U r N ks Z s a L t.o C Y).mono ?_;rintro e w2 ⟨rfl,M,O,T,V,h2⟩;have P:=Hd h2;clear h2;go_wp2_with fail;go_ret;obtain⟨r1,r2⟩:=Gx.shut (i:=i) (o:=o) P.o (g.o.ins R.o S.o ha) u.o v.o y.o b.o.blk.lt (fun x e=>(b.o.o1.addr x e).2.2) (fun x e=>(b.o.o2.addr x e).2.2);exact⟨⟨_,rfl⟩,_,r1,(To.pure _ f.o o).trans r2⟩
theorem Uf(W:World)(s z:List UInt8):Fm (W.alloc (.cells #[.string ⟨s.toArray⟩,.string ⟨z.toArray⟩] 9)) (some ⟨W.heap.size,0,none⟩) 2 [s,z]:=by
 refine⟨rfl,fun j u hu=>⟨_,_,rfl,?_⟩⟩;rw [Nat.zero_add,(Bb.new W _ _).cell j];simpa [Lz] using hu
theorem xU(n:Nat)(hn:n<18446744073709551616):Ed (bWidth n) n=true:=decide_eq_true (.inr (Gk (Fo n) hn (Ae _)))
def Pe(t:Nat)(s z:List UInt8)(b:Bd):Bd:=
 let c:=Bn (bWidth s.length) b.b++Bi (bWidth s.length) s.length
 ({ b with b:=c++s++z,texts:=if t=5 then Fs b.texts s c.length else b.texts}:Bd).push ⟨t,bWidth s.length,c.length⟩
theorem Dd{fl:Int}{vals:List Bv}(h:Gv M fl w o vals):w.cell? ⟨M.β,0,none⟩=some (Aca M.bb)∧w.cell? ⟨M.β,3,none⟩=some (.int .i64 fl)∧w.cell? ⟨M.β,4,none⟩=some (Aca M.kb)∧w.cell? ⟨M.β,5,none⟩=some (Aca M.tb)∧w.cell? ⟨M.β,6,none⟩=some (Aca M.lb)∧w.cell? ⟨M.β,7,none⟩=some (.map (some M.mb)):=by
 obtain⟨A,n,c,a,_⟩:=h;exact⟨a.cell 0,a.cell 3,a.cell 4,a.cell 5,a.cell 6,a.cell 7⟩
theorem Aaw(h:i=5):Dg i:=by subst h;exact⟨by omega,by omega⟩
theorem Qo(M:Bp)(fl:Int)(b:Bd)(t:Nat)(s z:List UInt8)(w:World)(o:Nat→Nat)(h:BM M fl w o b)(hs:b.s.length<65536)(hm:b.b.length+s.length+z.length+20≤1048576)(htx:b.texts.length≤1048575):
  Calls Ad 293 #[Aca M.β,.int .i64 (t:Int),.string ⟨s.toArray⟩,.string ⟨z.toArray⟩] w (D3 M fl (Pe t s z b) w o):=by
 have HM:=Hd h;have HS:=Hd hs;have Z:=Hd htx;obtain⟨n,hn⟩:∃n,s.length=n:=⟨_,rfl⟩;obtain⟨y,S⟩:∃y,bWidth n=y:=⟨_,rfl⟩;have g:n<18446744073709551616:=by omega
 have HW:=Hd (show V9 n=(y:Int) by rw [Wb,S]);have E:Br (y:Int)=true:=by rw [←S];exact Fo n
 have HY:=Hd E;have ah:y≤8:=by rcases Dl E with rfl|rfl|rfl|rfl <;>omega
 have HF:=Hd (show Ed y n=true by rw [←S];exact xU n g);have U:=Hd (show b.b.length+7≤1048576 by omega);have ag:=Di b.b ah;have V:=Hd (show(Bn y b.b).length+y≤1048576 by omega);have Q:(Bn y b.b++Bi y n).length+ [s,z].flatten.length≤1048576:=by
  rw [List.length_append,B3];simp;omega
 have W:=Hd Q;obtain⟨m,D⟩:∃m,(Bn y b.b++Bi y n).length=m:=⟨_,rfl⟩;have R:m≤1048576:=by omega
 have X:=Hd D;have I:=Hd (show(n:Int)<18446744073709551616 by omega);have G:=Hd (show Pe t s z b=({ b with b:=Bn y b.b++Bi y n++ [s,z].flatten,texts:=if t=5 then Fs b.texts s m else b.texts}:Bd).push ⟨t,y,m⟩ by
  unfold Pe Bd.push;simp only [hn,S,D];simp)
 have ax:IntKind.u64.wrap (n:Int)=(n:Int):=Ce _ (by omega);have aw:IntKind.u64.wrap (m:Int)=(m:Int):=Ce _ (by omega);have av:(⟨s.toArray⟩:ByteArray).size=n:=hn;have p:=Hd g;obtain⟨k,b3,b4,u,b6,b7⟩:=Dd h.head;clear h hs hm S E ag D g b3 b4 b6 b7 Q htx;go_enter func293,ntmps293;go_wp2_with fail;go_at_call 33;refine(L6 n (y:Int) w p.o HW.o).mono ?_;rintro e w' ⟨rfl,rfl⟩;go_wp2_with fail;go_at_call 134;refine(Hh M.bb y b.b w o HM.o.buf HY.o U.o).mono ?_;rintro e w1 ⟨rfl,o1,L,v⟩;have j:=Hd (HM.o.buf_ v L);have J:=Hd v;clear L v k u;obtain⟨k,_,_,u,_⟩:=Dd j.o.head;go_wp2_with fail;go_at_call 137;refine(Eh M.bb y n (Bn y b.b) w1 o1 j.o.buf HY.o HF.o I.o V.o).mono ?_;rintro e F ⟨rfl,o2,N,A⟩;have a:=Hd (j.o.buf_ A N);have K:=Hd (J.o.trans A);clear N A k u J j;obtain⟨k,_,_,u,_⟩:=Dd a.o.head;go_wp2_with fail;go_at_call 133;refine(Dt m a.o.buf X.o).mono ?_;rintro e w' ⟨rfl,rfl⟩;go_wp2_with fail;go_at_call 138;refine(G6 M.bb 2 2 _ [s,z] (Bn y b.b++Bi y n) _ (Bl o2 F.heap.size 0) (a.o.fresh ((Af _ _).alloc (Ae _) _) 0).buf (Uf F s z) ?_ W.o (by omega)).mono ?_
 ·rintro ad e;injection e with e
  subst e;show Bl o2 F.heap.size 0 F.heap.size≠1;rw [Bo (Ae _)];omega
 rintro e w3 ⟨rfl,o3,O,B⟩;have c:=Hd ((a.o.fresh ((Af _ _).alloc (Ae _) (.cells #[.string ⟨s.toArray⟩,.string ⟨z.toArray⟩] 9)) 0).buf_ B O);have q:=Hd (K.o.trans ((To.fresh (fun i=>i=1) ((Af F.heap.size F).alloc (Ae _) (.cells #[.string ⟨s.toArray⟩,.string ⟨z.toArray⟩] 9)) o2 0).trans B));clear O B k u K a;obtain⟨k,b3,b4,u,b6,b7⟩:=Dd c.o.head;clear b3 b4 b6 b7;by_cases ht:t=5
 ·have T:=Hd ht;have e1:((t:Int)==5)=true:=by rw [ht];rfl
  clear ht;go_wp2_with fail;go_at_call 282;refine(Lv 5 M.tb b.texts s m w3 o3 c.o.texts Z.o R).mono ?_;rintro e w4 ⟨⟨x,rfl⟩,o4,P,C⟩;have H:=Hd (c.o.texts_ C P);have Y:=Hd ((q.o.mono (fun _ h=>Ip h)).trans (C.mono (fun _ h=>Aaw h)));clear P C k u q c;obtain⟨k,_⟩:=Dd H.o.head;go_wp2_with fail;go_at_call 203;refine(Nh M fl _ t y m w4 o4 H.o HS.o).mono ?_;rintro e w5 ⟨rfl,o5,d,f⟩;have l:=Hd d;have r:=Hd (Y.o.trans f);clear d f;go_wp2;go_end0;rw [G.o,if_pos T.o];exact⟨rfl,o5,l.o,r.o⟩
 ·have T:=Hd ht;have e1:((t:Int)==5)=false:=beq_eq_false_iff_ne.mpr (by omega);clear ht;go_wp2_with fail;go_at_call 203;refine(Nh M fl _ t y m w3 o3 c.o HS.o).mono ?_;rintro e w5 ⟨rfl,o5,d,f⟩;have l:=Hd d;have r:=Hd ((q.o.mono (fun _ h=>Ip h)).trans f);clear d f;go_wp2;go_end0;rw [G.o,if_neg T.o];exact⟨rfl,o5,l.o,r.o⟩
theorem Zu(fl:Int)(k:Nat)(hk:k≤4):Go.bits .and .i64 fl (k:Int)=((bits fl&&&k:Nat):Int):=by
 have a:bits fl&&&k≤k:=Nat.and_le_right;have h1:(BitVec.ofInt 64 fl).toNat=bits fl:=by
  rw [BitVec.toNat_ofInt];rfl
 have h2:(BitVec.ofInt 64 (k:Int)).toNat=k:=by
  rw [BitVec.ofInt_natCast,BitVec.toNat_ofNat];exact Nat.mod_eq_of_lt (by omega)
 show IntKind.i64.wrap ((BitVec.ofInt 64 fl&&&BitVec.ofInt 64 (k:Int)).toNat:Int)=_;rw [BitVec.toNat_and,h1,h2];exact Ag _ (by omega)
theorem uY(x i:Nat):x&&&2^i=if x/2^i % 2=1 then 2^i else 0:=by
 refine Nat.eq_of_testBit_eq fun j=>?_
 rw [Nat.testBit_and,Nat.testBit_two_pow];by_cases e:i=j
 ·subst e;rw [Nat.testBit_eq_decide_div_mod_eq];by_cases h:x/2^i % 2=1
  ·rw [if_pos h];simp [h]
  ·rw [if_neg h];simp [h]
 ·split
  ·rw [Nat.testBit_two_pow];simp [e]
  ·simp [e]
theorem zS(fl:Int)(k i:Nat)(hk:k≤4)(hi:k=2^i):(!(Go.bits .and .i64 fl (k:Int)==0))=Kc (bits fl) k:=by
 rw [Zu fl k hk,hi,uY];unfold Kc;by_cases h:bits fl/2^i % 2=1
 ·rw [if_pos h,decide_eq_true h];have h2:0<2^i:=Nat.two_pow_pos i;obtain⟨z,hz⟩:∃z,2^i=z:=⟨_,rfl⟩;rw [hz] at h2⊢;have h3:((z:Nat):Int)≠0:=by omega
  simpa using h3
 ·rw [if_neg h,decide_eq_false h];rfl
theorem Ww(β k i:Nat)(fl:Int)(r:Bool)(w:World)(h:w.cell? ⟨β,3,none⟩=some (.int .i64 fl))(hk:k≤4)(hi:k=2^i)(hr:Kc (bits fl) k=r):
  Calls Ad 281 #[.pointer (some ⟨β,3,none⟩),.int .i64 (k:Int)] w (Ab6 (.bool r) w):=by
 have a:=zS fl k i hk hi;rw [hr] at a;obtain⟨q,b⟩:∃q,Go.bits .and .i64 fl (k:Int)=q:=⟨_,rfl⟩;rw [b] at a;clear hk hi hr;go_enter func281,ntmps281;go_wp2;go_ret;exact⟨by rw [←a];rfl,rfl⟩
structure Ul(M:Bp)(s:List UInt8)(bx bs:Nat)(w:World)(o:Nat→Nat):Prop where
 x:Bb w bx 104 #[Aca M.β]
 s:Bb w bs 9 #[.string ⟨s.toArray⟩]
 ox:o bx=0
 os:o bs=0
theorem Ul.cells(h:Ul M s bx bs w o):w.cell? ⟨bx,0,none⟩=some (Aca M.β)∧w.cell? ⟨bs,0,none⟩=some (.string ⟨s.toArray⟩):=⟨h.x.cell 0,h.s.cell 0⟩
theorem Ul.pure(h:Ul M s bx bs w o)(hb:Below w.heap.size w w'):Ul M s bx bs w' o:=⟨h.x.pure hb,h.s.pure hb,h.ox,h.os⟩
theorem Xm(M:Bp)(s:List UInt8)(w:World)(o:Nat→Nat):Ul M s w.heap.size (w.heap.size+1) ((w.alloc (.cells #[Aca M.β] 104)).alloc (.cells #[.string ⟨s.toArray⟩] 9)) (Bl o w.heap.size 0):=
 ⟨(Bb.new w 104 #[Aca M.β]).alloc _,Cv w _ 9 #[.string ⟨s.toArray⟩],Bo (by omega),Bo (by omega)⟩
theorem uZ(s:List UInt8)(b:Bd):Pe 25 s [] b=b.blob s:=by
 unfold Pe Bd.blob Bd.push;simp
theorem Aaj(f:Nat)(s:List UInt8)(b:Bd):b.str f s=match(if Kc f 2=true then Cj b.texts s else none) with
 |some a=>b.push ⟨5,bWidth s.length,a⟩
 |none=>Pe 5 s [0] b:=by
 unfold Bd.str Pe Bd.push;cases(if Kc f 2=true then Cj b.texts s else none) <;>simp
structure Uk(b:Bd)(s:List UInt8):Prop where
 st:b.s.length<65536
 len:b.b.length+s.length+21≤1048576
 tx:b.texts.length≤1048575
theorem dN(M:Bp)(fl:Int)(b:Bd)(s:List UInt8)(bx bs:Nat)(w:World)(o:Nat→Nat)(h:BM M fl w o b)(hc:Ul M s bx bs w o)(hr:Uk b s):
  Calls Ad 294 #[Aca bx,Aca bs] w (D3 M fl (b.blob s) w o):=by
 have f:=Hd h;have d:=Hd hr;obtain⟨k,i⟩:=hc.cells;have a:=Hd (show b.b.length+s.length+([]:List UInt8).length+20≤1048576 by have:=hr.len;simp;omega);clear h hc hr;go_enter func294,ntmps294;go_wp2_with fail;go_at_call 293;refine(Qo M fl b 25 s [] w o f.o d.o.st a.o d.o.tx).mono ?_;intro e j c;obtain rfl:=c.1;have g:=Hd c;clear c;go_wp2;go_end0;rw [←uZ];exact g.o
theorem iS(M:Bp)(fl:Int)(b:Bd)(s:List UInt8)(w:World)(o:Nat→Nat)(h:BM M fl w o b)(hr:Uk b s):
  Calls Ad 217 #[Aca M.β,.string ⟨s.toArray⟩] w (D3 M fl (b.blob s) w o):=by
 have a:=Hd hr;have c:=Bq w (.cells #[Aca M.β] 104) (.cells #[.string ⟨s.toArray⟩] 9);have g:=Hd c;have f:=Hd (h.fresh c 0);have i:=Hd (Xm M s w o);clear h hr c;go_enter func217,ntmps217;go_wp2_with fail;go_at_call 193;refine(Eb M fl 294 _ _ (Bl o w.heap.size 0) b.vals _ f.o.head Tryz.call294 ((dN M fl b s w.heap.size (w.heap.size+1) _ (Bl o w.heap.size 0) f.o i.o a.o).mono fun e w' h=>⟨h.1,h⟩)).mono ?_;rintro e w' d;obtain rfl:=d.1;have a:=Hd (d.from_fresh g.o);clear d;go_wp2;go_end0;exact a.o
theorem jE(M:Bp)(fl:Int)(b:Bd)(s:List UInt8)(bx bs:Nat)(w:World)(o:Nat→Nat)(h:BM M fl w o b)(hc:Ul M s bx bs w o)(hr:Uk b s):
  Calls Ad 292 #[Aca bx,Aca bs] w (D3 M fl (b.str (bits fl) s) w o):=by
 have HM:=Hd h;have E:=Hd hr;have HC:=Hd hc;obtain⟨n,X⟩:∃n,s.length=n:=⟨_,rfl⟩;obtain⟨y,Y⟩:∃y,bWidth n=y:=⟨_,rfl⟩;have D:=Hd (show n<18446744073709551616 by have:=hr.len;omega);have HW:=Hd (show V9 n=(y:Int) by rw [Wb,Y]);have an:IntKind.u64.wrap (n:Int)=(n:Int):=Ce _ (by have:=hr.len;omega);have al:(⟨s.toArray⟩:ByteArray).size=n:=X;obtain⟨g,d⟩:∃g,Cj b.texts s=g:=⟨_,rfl⟩;obtain⟨q,hq⟩:∃q,Kc (bits fl) 2=q:=⟨_,rfl⟩;have O:=Hd (Aaj (bits fl) s b);obtain⟨gv,u⟩:∃v,g.getD 0=v:=⟨_,rfl⟩;obtain⟨t,f⟩:∃v,g.isSome=v:=⟨_,rfl⟩;have HG:=Hd (show T4 (Cj b.texts s)= .tuple #[.int .i64 (gv:Int),.bool t] by rw [d];unfold T4;rw [u,f]);have C:=Hd d;have P:=Hd (And.intro u f);have T:=Hd hq;have R:=Hd (show bWidth s.length=y by rw [X,Y]);have k:=Hd (show b.b.length+s.length+([0]:List UInt8).length+20≤1048576 by have:=hr.len;simp;omega);have W:=Hd (show b.texts.length≤1048576 by have:=hr.tx;omega);have N:=Hd (show ∀a,g=some a→a≤1048576 by
  intro a ha;obtain⟨A1,A2,n',c1,c2,ks,ns,hL,o1,o2,op,hP⟩:=h.texts.open_;rw [ha,hP.get] at d;unfold Cj at d;rw [Option.map_eq_some_iff] at d;obtain⟨x,hx,rfl⟩:=d;exact hP.at_ _ (List.of_mem_zip (List.mem_of_find?_eq_some hx)).2)
 obtain⟨H,I⟩:=hc.cells;obtain⟨_,J,_,K,_⟩:=Dd h.head;clear h hr hc X Y d hq u f;go_enter func292,ntmps292;go_wp2_with fail;go_region_held3 (fun w'=>w'.cell? ⟨bx,0,none⟩=some (Aca M.β)∧w'.cell? ⟨bs,0,none⟩=some (.string ⟨s.toArray⟩)∧w'.cell? ⟨M.β,3,none⟩=some (.int .i64 fl)∧w'.cell? ⟨M.β,5,none⟩=some (Aca M.tb)) (first|with_reducible exact⟨H,I,J,K⟩|with_reducible exact⟨Bc H,Bc I,Bc J,Bc K⟩|with_reducible exact⟨Z,x1,L,x3⟩) (first|(go_at_call 280;(with_reducible refine(Rv 5 M.tb b.texts s _ o HM.o.drew.texts W.o).mono ?_);rintro e A ⟨rfl,z⟩;rw [HG.o];have Z:=Ba z (Bc H);have x1:=Ba z (Bc I);have L:=Ba z (Bc J);have x3:=Ba z (Bc K);have B:=Hd (B5 (Jt w) z);clear z));have l:=Hd (HM.o.pure B.o);clear H I J K;obtain⟨d,j⟩:=P.o;cases g with
 |none=>
  obtain rfl:t=false:=by rw [←j];rfl
  clear d j;have m:=Hd (show(if Kc (bits fl) 2=true then Cj b.texts s else none)=none by rw [C.o];split <;>rfl);go_wp2_with fail;go_at_call 293;refine(Qo M fl b 5 s [0] A o l.o E.o.st k.o E.o.tx).mono ?_;intro e w2 r;obtain rfl:=r.1;have U:=Hd (r.from_pure B.o);clear r;go_wp2;go_end0;rw [O.o,m.o];exact U.o
 |some a=>
  obtain rfl:t=true:=by rw [←j];rfl
  obtain rfl:gv=a:=by rw [←d];rfl
  have am:IntKind.u64.wrap (gv:Int)=(gv:Int):=Ce _ (by have:=N.o gv rfl;omega);clear d j;go_wp2_with fail;go_at_call 281;refine(Ww M.β 2 1 fl q A L (by omega) rfl T.o).mono ?_;rintro e w' ⟨rfl,rfl⟩;cases q with
  |false=>
   have m:=Hd (show(if Kc (bits fl) 2=true then Cj b.texts s else none)=none by rw [T.o];rfl);go_wp2_with fail;go_at_call 293;refine(Qo M fl b 5 s [0] A o l.o E.o.st k.o E.o.tx).mono ?_;intro e w2 r;obtain rfl:=r.1;have U:=Hd (r.from_pure B.o);clear r;go_wp2;go_end0;rw [O.o,m.o];exact U.o
  |true=>
   have S:=Hd (show Calls Ad 203 #[Aca M.β,.agg #[.int .i64 5,.int .i64 (y:Int),.int .u64 (gv:Int)]] A.drew (D3 M fl (b.push ⟨5,y,gv⟩) A.drew o) from Nh M fl b 5 y gv _ o l.o.drew E.o.st);go_wp2_with fail;go_region_held3 (fun w'=>w'.cell? ⟨bx,0,none⟩=some (Aca M.β)∧w'.cell? ⟨bs,0,none⟩=some (.string ⟨s.toArray⟩)∧w'.cell? ⟨M.β,3,none⟩=some (.int .i64 fl)∧w'.cell? ⟨M.β,5,none⟩=some (Aca M.tb)) (first|with_reducible exact⟨Z,x1,L,x3⟩|with_reducible exact⟨Bc Z,Bc x1,Bc L,Bc x3⟩|with_reducible exact⟨z0,z1,z2,z3⟩) (first|(go_at_call 33;(with_reducible refine(L6 n (y:Int) _ D.o HW.o).mono ?_);rintro e w' ⟨rfl,rfl⟩)|(go_at_call 203;(with_reducible refine S.o.mono ?_);rintro e W3 ⟨rfl,o3,p,i⟩;have Q:=Hd p;have V:=Hd i.from_drew;have c:=((HC.o.pure B.o).pure (Jt A));have G:=c.x.to_ i (by rw [c.ox];exact Co);have F:=c.s.to_ i (by rw [c.os];exact Co);have z0:W3.cell? ⟨bx,0,none⟩=some (Aca M.β):=G.cell 0;have z1:W3.cell? ⟨bs,0,none⟩=some (.string ⟨s.toArray⟩):=F.cell 0;obtain⟨_,z2,_,z3,_⟩:=Dd p.head;clear p i c G F));go_wp2;go_end0;rw [O.o,show(if Kc (bits fl) 2=true then Cj b.texts s else none)=some gv by rw [T.o,C.o];rfl,R.o];exact⟨rfl,o3,Q.o,(To.pure _ B.o o).trans V.o⟩
theorem mE(M:Bp)(fl:Int)(b:Bd)(s:List UInt8)(w:World)(o:Nat→Nat)(h:BM M fl w o b)(hr:Uk b s):
  Calls Ad 216 #[Aca M.β,.string ⟨s.toArray⟩] w (D3 M fl (b.str (bits fl) s) w o):=by
 have a:=Hd hr;have c:=Bq w (.cells #[Aca M.β] 104) (.cells #[.string ⟨s.toArray⟩] 9);have g:=Hd c;have f:=Hd (h.fresh c 0);have i:=Hd (Xm M s w o);clear h hr c;go_enter func216,ntmps216;go_wp2_with fail;go_at_call 193;refine(Eb M fl 292 _ _ (Bl o w.heap.size 0) b.vals _ f.o.head Tryz.call292 ((jE M fl b s w.heap.size (w.heap.size+1) _ (Bl o w.heap.size 0) f.o i.o a.o).mono fun e w' h=>⟨h.1,h⟩)).mono ?_;rintro e w' d;obtain rfl:=d.1;have a:=Hd (d.from_fresh g.o);clear d;go_wp2;go_end0;exact a.o
end Go.Proofs.YtejpbijeifjdeaaGreat
