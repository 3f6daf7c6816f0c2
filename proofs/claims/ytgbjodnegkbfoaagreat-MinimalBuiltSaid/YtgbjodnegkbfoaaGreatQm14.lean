/- Parts of the proof. -/
import Derived.Test.YtgbjodnegkbfoaaGreatQm13
import Derived.ScopeJumps
import Derived.WalkMore
set_option maxHeartbeats 2000000
set_option maxRecDepth 100000
open Go.Value renaming int→Aa
open Go.IntKind renaming i64→Ab
open Nat renaming le_refl→Asp
namespace Go.Proofs.YtgbjodnegkbfoaaGreat
open Go.RowKit Go.Acc
theorem Kk(A:Option Addr)(n c:Nat)(p q t v a b d g er:Int)(l:List UInt8)(w:World)(h:Cd w A n l)(hc:n≤c)(hn:n≤1099511627776)(h1:Et l p q t v=a)(h2:Eu l p q t v=b)(h3:J0 l p q t v=d)(h4:Ev l p q t v=g)(h5:Gh l p q t v=er):
  Calls Tryz.prog 93 #[.slice A n c,.agg #[Aa Ab p,Aa Ab q,Aa Ab t,Aa Ab v]] w fun e w'=>e= .returned (.tuple #[.agg #[Aa Ab a,Aa Ab b,Aa Ab d,Aa Ab g],Aa Ab er])∧Below w.heap.size w w':=by
 subst h1 h2 h3 h4 h5;exact Af3 A n c p q t v l w h hc hn
theorem Oz{w:World}{g i g' j:Nat}{u v:Value}(h:w.cell? ⟨g,i,none⟩=some v)(hne:g≠g'):(w.setCell ⟨g',j,none⟩ u).cell? ⟨g,i,none⟩=some v:=S8 h hne
structure Rq where
 p:Int
 q:Int
 t:Int
 v:Int
abbrev P3:=Int×Int×Int
structure Ay where
 left:Int
 had:List P3
 o:List P3
def Iw(t:Int):Int:=if t=0 then 1 else if t=1 then 2 else if t=2 then 3 else if t=26 then 4 else 5
def Ay.tell(s:Ay)(a b c:Int):Ay:=if a<b then { s with o:=s.o++ [(a,b,c)]} else s
def Ay.burn(s:Ay):Ay:={ s with left:=s.left-1}
def Ay.see(s:Ay)(x:P3):Ay:={ s with had:=s.had++ [x]}
section
variable (l:List UInt8) (go:Rq→Ay→Ay×Int) (r:Rq)
def D9(s:Ay):Ay×Int:=
 if Dj l r.p r.q r.t r.v [4,5,25]≠0 then(s,Dj l r.p r.q r.t r.v [4,5,25])
 else if r.t=4 then(s.tell (Dr l r.p r.q r.t r.v [4,5,25]) (Dr l r.p r.q r.t r.v [4,5,25]+(Ea l r.p r.q r.t r.v [4,5,25]).length+1) 9,0)
 else if r.t=5 then((s.tell (Dr l r.p r.q r.t r.v [4,5,25]-r.v) (Dr l r.p r.q r.t r.v [4,5,25]) 6).tell (Dr l r.p r.q r.t r.v [4,5,25]) (Dr l r.p r.q r.t r.v [4,5,25]+(Ea l r.p r.q r.t r.v [4,5,25]).length+1) 10,0)
 else((s.tell (Dr l r.p r.q r.t r.v [4,5,25]-r.v) (Dr l r.p r.q r.t r.v [4,5,25]) 6).tell (Dr l r.p r.q r.t r.v [4,5,25]) (Dr l r.p r.q r.t r.v [4,5,25]+(Ea l r.p r.q r.t r.v [4,5,25]).length) 11,0)
def En(s:Ay):Ay×Int:=
 if Dk l r.p r.q r.t r.v=0 then(s.tell (E8 l r.p r.q r.t r.v) (E8 l r.p r.q r.t r.v+Fg l r.p r.q r.t r.v) (if r.t=6 then 12 else 13),0)
 else(s,Dk l r.p r.q r.t r.v)
def Cl:Rq:=⟨Et l r.p r.q r.t r.v,Eu l r.p r.q r.t r.v,J0 l r.p r.q r.t r.v,Ev l r.p r.q r.t r.v⟩
def Bw(i:Nat):Rq:=⟨Ij l r.p r.q r.t r.v i,Ik l r.p r.q r.t r.v i,Ih l r.p r.q r.t r.v i,Il l r.p r.q r.t r.v i⟩
def Hr(s:Ay):Ay×Int:=
 if Gh l r.p r.q r.t r.v≠0 then(s,Gh l r.p r.q r.t r.v)
 else if(go (Cl l r) s).2≠0 then go (Cl l r) s
 else((go (Cl l r) s).1.tell (lsFrom l r.p r.q r.t r.v+r.v) (lsFrom l r.p r.q r.t r.v+2*r.v) 7,0)
def Fh(i:Nat)(s:Ay):Ay:=
 if Ce r.t=true then s.tell ((lsAt l r.p r.q r.t r.v:Int)+lsLen l r.p r.q r.t r.v*r.v+i) ((lsAt l r.p r.q r.t r.v:Int)+lsLen l r.p r.q r.t r.v*r.v+i+1) 8 else s
def Ep:Nat→Nat→Ay→Ay×Int
 |0,_,s=>(s,0)
 |k+1,i,s=>
  if Es l r.p r.q r.t r.v i≠0 then(Fh l r i s,Es l r.p r.q r.t r.v i)
  else if(go (Bw l r i) (Fh l r i s)).2≠0 then go (Bw l r i) (Fh l r i s)
  else Ep k (i+1) (go (Bw l r i) (Fh l r i s)).1
def Js(s:Ay):Ay:=if lsFrom l r.p r.q r.t r.v<lsAt l r.p r.q r.t r.v then s.tell ((lsAt l r.p r.q r.t r.v:Int)-r.v) (lsAt l r.p r.q r.t r.v) 6 else s
def Fk(s:Ay):Ay×Int:=if r.t=9 then Hr l go r s else(s,0)
def Fx(s:Ay):Ay×Int:=
 if Bs l r.p r.q r.t r.v≠0 then(s,Bs l r.p r.q r.t r.v)
 else if(Fk l go r s).2≠0 then Fk l go r s
 else Ep l go r (lsLen l r.p r.q r.t r.v) 0 (Js l r (Fk l go r s).1)
def Eo(s:Ay):Ay×Int:=if Hi [4,5,25] r.t=true then D9 l r s else if r.t=6∨r.t=7 then En l r s else Fx l go r s
def Ht:P3:=(Bb l r.p r.q r.t r.v,r.t,r.v)
end
def Cz(r:Rq)(s:Ay):Ay:=s.burn.tell r.p (r.p+r.q) (Iw r.t)
def Bz(l:List UInt8):Nat→Rq→Ay→Ay×Int
 |0,_,s=>(s,260)
 |d+1,r,s=>
  if s.left<1 then(s,260)
  else if Aw r.t=true then(Cz r s,0)
  else if Bh l r.p r.q r.t r.v≠0∨Ht l r∈s.had then(Cz r s,Bh l r.p r.q r.t r.v)
  else Eo l (Bz l d) r ((Cz r s).see (Ht l r))
end Go.Proofs.YtgbjodnegkbfoaaGreat
namespace Go.Acc
open Go.RowKit
def F7(x:Int×Int×Int):Value:= .agg #[Aa Ab x.1,Aa Ab x.2.1,Aa Ab x.2.2]
def Ii(w:World)(b:Nat)(l:List (Int×Int×Int)):Prop:=
 ∃es k,w.heap[b]?=some (.map es k)∧es.toList.map (·.key)=l.map F7∧∀x∈es.toList,x.val= .bool true
theorem Ii.lt{w:World}{b:Nat}{l:List (Int×Int×Int)}(h:Ii w b l):b<w.heap.size:=by
 obtain⟨es,k,hb,_⟩:=h;exact(Array.getElem?_eq_some_iff.1 hb).1
theorem Ii.fr{w w':World}{b:Nat}{l:List (Int×Int×Int)}{S:Nat→Prop}(h:Ii w b l)(hf:Fr S w w')(hs:¬S b):Ii w' b l:=by
 obtain⟨es,k,hb,r⟩:=h;exact⟨es,k,by rw [hf.block b (Array.getElem?_eq_some_iff.1 hb).1 hs];exact hb,r⟩
theorem Ii.pure{w w':World}{b:Nat}{l:List (Int×Int×Int)}(h:Ii w b l)(hf:Below w.heap.size w w'):Ii w' b l:=
 h.fr (Fr.of_below hf fun _=>False) (fun h=>h)
section
variable {P:Program} {mt kt et:TypeId} {fs:Array Field}
theorem Aej(heq:∀(x y:Int×Int×Int) (W:World),(Op.equal kt (F7 x) (F7 y)).run P W= .ok (decide (x=y)) W)(x:Int×Int×Int)(W:World):
  ∀(l:List (Int×Int×Int)) (es:List MapEntry) (i:Nat),es.map (·.key)=l.map F7→(∀y∈es,y.val= .bool true)→
   ∃r:Option (Nat×Value),(Instr.findAsking kt (F7 x) es i).run P W= .ok r W∧r.isSome=decide (x∈l)∧∀p,r=some p→p.2= .bool true
 | [],[],i,_,_=>⟨none,by simp [Instr.findAsking],by simp,by simp⟩
 | [],_::_,_,h,_=>by simp at h
 |_::_,[],_,h,_=>by simp at h
 |y::l,e::es,i,h,hv=>by
  simp only [List.map_cons,List.cons.injEq] at h;by_cases hxy:x=y
  ·refine⟨some (i,e.val),?_,by simp [hxy],fun p hp=>?_⟩
   ·simp only [Instr.findAsking,Sem.run_bind,h.1,heq,Result.andThen_ok,decide_eq_true hxy,if_true,Sem.run_pure]
   ·injection hp with hp;subst hp;exact hv e (by simp)
  ·obtain⟨r,h1,h2,h3⟩:=Aej heq x W l es (i+1) h.2 (fun z hz=>hv z (by simp [hz]));refine⟨r,?_,?_,h3⟩
   ·simp only [Instr.findAsking,Sem.run_bind,h.1,heq,Result.andThen_ok,decide_eq_false hxy];rw [if_neg (by decide)];exact h1
   ·rw [h2];simp [hxy]
theorem Yf(hk:P.underlying kt=some (.struct fs))(heq:∀(x y:Int×Int×Int) (W:World),(Op.equal kt (F7 x) (F7 y)).run P W= .ok (decide (x=y)) W)(x:Int×Int×Int)(W:World)
  (l:List (Int×Int×Int)) (es:List MapEntry) (h:es.map (·.key)=l.map F7) (hv:∀y∈es,y.val= .bool true):
   ∃r:Option (Nat×Value),(Instr.findKey kt (F7 x) es).run P W= .ok r W∧r.isSome=decide (x∈l)∧∀p,r=some p→p.2= .bool true:=by
 obtain⟨r,h1,h2,h3⟩:=Aej heq x W l es 0 h hv;refine⟨r,?_,h2,h3⟩;cases es with
 |nil=>
  simp only [Instr.findAsking,Sem.run_pure] at h1;rw [←h1];simp [Instr.findKey,run_underlying hk,Instr.findNow,Result.andThen]
 |cons e es=>simp [Instr.findKey,run_underlying hk,Instr.findNow,Instr.sameNow,Result.andThen,h1]
theorem M9(hu:P.underlying mt=some (.map kt et))(hk:P.underlying kt=some (.struct fs))(heq:∀(x y:Int×Int×Int) (W:World),(Op.equal kt (F7 x) (F7 y)).run P W= .ok (decide (x=y)) W)
  (hck:∀(x:Int×Int×Int) (e:Bool) (W:World),(Instr.checkKey e 10000 kt (F7 x)).run P W= .ok () W) (hz:∀W,(zeroValue et).run P W= .ok (.bool false) W)
  (b:Nat) (l:List (Int×Int×Int)) (x:Int×Int×Int) (W:World) (h:Ii W b l):(Instr.lookup mt (.map (some b)) (F7 x) false).run P W= .ok (.bool (decide (x∈l))) W:=by
 obtain⟨es,k,hb,h1,h2⟩:=h;obtain⟨r,h3,h4,h5⟩:=Yf hk heq x W l es.toList h1 h2;rw [←h4];cases r with
 |none=>
  simp only [Instr.lookup,Sem.run_bind,run_underlying hu,Result.andThen_ok,MapKept.run_getObj_map hb,hck,h3,hz,Sem.run_pure];rfl
 |some p=>
  obtain⟨i,u⟩:=p;obtain rfl:u= .bool true:=h5 _ rfl;simp only [Instr.lookup,Sem.run_bind,run_underlying hu,Result.andThen_ok,MapKept.run_getObj_map hb,hck,h3,Sem.run_pure];rfl
theorem Abr(hu:P.underlying mt=some (.map kt et))(hk:P.underlying kt=some (.struct fs))(heq:∀(x y:Int×Int×Int) (W:World),(Op.equal kt (F7 x) (F7 y)).run P W= .ok (decide (x=y)) W)
  (hck:∀(x:Int×Int×Int) (e:Bool) (W:World),(Instr.checkKey e 10000 kt (F7 x)).run P W= .ok () W)
  (b:Nat) (l:List (Int×Int×Int)) (x:Int×Int×Int) (W:World) (h:Ii W b l) (hx:x∉l):
  ∃W',(Instr.mapUpdate mt (.map (some b)) (F7 x) (.bool true)).run P W= .ok () W'∧Ii W' b (l++ [x])∧Fr (fun k=>k=b) W W'∧W'.heap.size=W.heap.size:=by
 obtain⟨es,k,hb,h1,h2⟩:=h;obtain⟨r,h3,h4,_⟩:=Yf hk heq x W l es.toList h1 h2;rw [decide_eq_false hx] at h4;obtain rfl:r=none:=by cases r;rfl;cases h4
 have hs:=MapKept.heap_set (w:=W) (o':= .map (es.push { key:=F7 x,val:= .bool true,born:=k}) (k+1)) hb;refine⟨{ W with heap:=W.heap.setIfInBounds b (.map (es.push { key:=F7 x,val:= .bool true,born:=k}) (k+1))},?_,⟨_,_,hs.1,?_,?_⟩,⟨rfl,rfl,rfl,by simp,fun i hi hne=>hs.2 i hne⟩,by simp⟩
 ·simp only [Instr.mapUpdate,Sem.run_bind,run_underlying hu,Result.andThen_ok,MapKept.run_getObj_map hb,hck,h3,MapKept.run_setObj_map _ hb]
 ·simp [h1]
 ·intro y hy;simp only [Array.toList_push,List.mem_append,List.mem_singleton] at hy;rcases hy with hy|rfl
  ·exact h2 y hy
  ·rfl
end
end Go.Acc
namespace Go.Proofs.YtgbjodnegkbfoaaGreat
open Go.RowKit Go.Acc
theorem Wq:∀(x y:Int×Int×Int) (W:World),(Op.equal 148 (F7 x) (F7 y)).run Tryz.prog W= .ok (decide (x=y)) W:=by
 rintro⟨a,b,c⟩ ⟨a',b',c'⟩ W;by_cases h1:a=a' <;>by_cases h2:b=b' <;>by_cases h3:c=c' <;>(simp only [F7];(change (Op.equalIn 10000 _ _ _).run Tryz.prog W=_);go_simp)
theorem Wp:∀(x:Int×Int×Int) (e:Bool) (W:World),(Instr.checkKey e 10000 148 (F7 x)).run Tryz.prog W= .ok () W:=by
 rintro⟨a,b,c⟩ e W
 kernel_rfl
theorem Na:∀W:World,(zeroValue 4).run Tryz.prog W= .ok (.bool false) W:=by
 intro W;go_simp
def Th:Array MapEntry:=#[⟨Aa Ab 0,Aa Ab 1,0⟩,⟨Aa Ab 1,Aa Ab 2,1⟩,⟨Aa Ab 2,Aa Ab 3,2⟩,⟨Aa Ab 26,Aa Ab 4,3⟩]
theorem Ao4(t:Int):∃(k:Int) (b:Bool),(if b=true then k else 5)=Iw t∧∀(W:World) (g:Nat),W.heap[g]?=some (.map Th 4)→
  (Instr.lookup 115 (.map (some g)) (Aa Ab t) true).run Tryz.prog W= .ok (.tuple #[Aa Ab k,.bool b]) W:=by
 have hz:∀W:World,(zeroValue 3).run Tryz.prog W= .ok (Aa Ab 0) W:=by intro W;go_simp
 have key:∀(r:Option (Nat×Value)) (W:World) (g:Nat),Instr.findNow (.int .i64) (Aa Ab t) Th.toList 0=some r→W.heap[g]?=some (.map Th 4)→(Instr.lookup 115 (.map (some g)) (Aa Ab t) true).run Tryz.prog W= .ok (.tuple #[(r.map (·.2)).getD (Aa Ab 0),.bool r.isSome]) W:=by
  intro r W g h hb;exact Ph Tryz.underlying115 Tryz.underlying3 (Aa Ab 0) hz W Th 4 g t true r hb h
 by_cases h0:t=0
 ·subst h0;exact⟨1,true,rfl,fun W g hb=>key (some (0,Aa Ab 1)) W g rfl hb⟩
 by_cases h1:t=1
 ·subst h1;exact⟨2,true,rfl,fun W g hb=>key (some (1,Aa Ab 2)) W g rfl hb⟩
 by_cases h2:t=2
 ·subst h2;exact⟨3,true,rfl,fun W g hb=>key (some (2,Aa Ab 3)) W g rfl hb⟩
 by_cases h3:t=26
 ·subst h3;exact⟨4,true,rfl,fun W g hb=>key (some (3,Aa Ab 4)) W g rfl hb⟩
 refine⟨0,false,by simp [Iw,h0,h1,h2,h3],fun W g hb=>key none W g ?_ hb⟩;have e0:(t==0)=false:=by simpa using h0
 have e1:(t==1)=false:=by simpa using h1
 have e2:(t==2)=false:=by simpa using h2
 have e3:(t==26)=false:=by simpa using h3
 simp only [Th,Instr.findNow,Instr.sameNow,if_true,e0,e1,e2,e3]
theorem Amj(t:Int)(w:World):Calls Tryz.prog 104 #[Aa Ab t] w fun e w'=>e= .returned (Aa Ab (Iw t))∧Below w.heap.size w w':=by
 have h0:=run_makeMap (P:=Tryz.prog) 115;have h1:∀(W:World) (es:Array MapEntry) (c:Nat) (x:Int) (v:Value),Instr.findNow (.int .i64) (.int .i64 x) es.toList 0=some none→(Instr.mapUpdate 115 (.map (some W.heap.size)) (.int .i64 x) v).run Tryz.prog (W.alloc (.map es c))= .ok () (W.alloc (.map (es.push { key:= .int .i64 x,val:=v,born:=c}) (c+1))):=
  fun W es c x v h=>Rx Tryz.underlying115 Tryz.underlying3 W es c _ x v rfl h
 have i0:∀W:World,(Instr.mapUpdate 115 (.map (some W.heap.size)) (.int .i64 0) (.int .i64 1)).run Tryz.prog (W.alloc (.map #[] 0))= .ok () (W.alloc (.map #[⟨.int .i64 0,.int .i64 1,0⟩] 1)):=fun W=>h1 W #[] 0 0 _ rfl
 have i1:∀W:World,(Instr.mapUpdate 115 (.map (some W.heap.size)) (.int .i64 1) (.int .i64 2)).run Tryz.prog (W.alloc (.map #[⟨.int .i64 0,.int .i64 1,0⟩] 1))= .ok () (W.alloc (.map #[⟨.int .i64 0,.int .i64 1,0⟩,⟨.int .i64 1,.int .i64 2,1⟩] 2)):=fun W=>h1 W #[⟨.int .i64 0,.int .i64 1,0⟩] 1 1 _ rfl
 have i2:∀W:World,(Instr.mapUpdate 115 (.map (some W.heap.size)) (.int .i64 2) (.int .i64 3)).run Tryz.prog (W.alloc (.map #[⟨.int .i64 0,.int .i64 1,0⟩,⟨.int .i64 1,.int .i64 2,1⟩] 2))= .ok () (W.alloc (.map #[⟨.int .i64 0,.int .i64 1,0⟩,⟨.int .i64 1,.int .i64 2,1⟩,⟨.int .i64 2,.int .i64 3,2⟩] 3)):=fun W=>h1 W #[⟨.int .i64 0,.int .i64 1,0⟩,⟨.int .i64 1,.int .i64 2,1⟩] 2 2 _ rfl
 have i3:∀W:World,(Instr.mapUpdate 115 (.map (some W.heap.size)) (.int .i64 26) (.int .i64 4)).run Tryz.prog (W.alloc (.map #[⟨.int .i64 0,.int .i64 1,0⟩,⟨.int .i64 1,.int .i64 2,1⟩,⟨.int .i64 2,.int .i64 3,2⟩] 3))= .ok () (W.alloc (.map Th 4)):=fun W=>h1 W #[⟨.int .i64 0,.int .i64 1,0⟩,⟨.int .i64 1,.int .i64 2,1⟩,⟨.int .i64 2,.int .i64 3,2⟩] 3 26 _ rfl
 clear h1;obtain⟨k,b,hk,hl⟩:=Ao4 t;have hl0:=hl (w.alloc (.map Th 4)) w.heap.size (heap_alloc_new w _);rw [←hk];clear hl hk;cases b with
 |true=>
  go_enter Tryz.func104,Tryz.ntmps104;go_wp2;go_ret;exact⟨rfl,(Below.refl _ _).alloc (Asp _) _⟩
 |false=>
  go_enter Tryz.func104,Tryz.ntmps104;go_wp2;go_ret;exact⟨rfl,(Below.refl _ _).alloc (Asp _) _⟩
def pc(x:P3):List Value:=[Aa Ab x.1,Aa Ab x.2.1,Aa Ab x.2.2]
theorem J3(x:P3):(pc x).length=3:=rfl
theorem Ajr(x:P3):∀u∈pc x,u.oneCell'=true:=by
 intro u hu;simp [pc] at hu;rcases hu with rfl|rfl|rfl <;>rfl
abbrev IsP:=Is pc
abbrev I0:=Go.Acc.Own pc 3 49
theorem Aqh:(Tryz.prog.info? 49).map (fun i=>(i.zero,i.size,i.bytes))=some (some (.agg #[Aa Ab 0,Aa Ab 0,Aa Ab 0]),3,24):=by kernel_rfl
def La(w:World)(B b:Nat)(g:Option Nat)(l:List P3):Prop:=∃A n c,Ag w b 45 #[.slice A n c]∧I0 w B A n c l∧A.map (·.block)=g
theorem La.pure{w w':World}{B b:Nat}{g:Option Nat}{l:List P3}(h:La w B b g l)(hb:Below w.heap.size w w'):La w' B b g l:=by
 obtain⟨A,n,c,h1,h2,h3⟩:=h;exact⟨A,n,c,h1.pure hb,h2.pure hb,h3⟩
theorem La.fr{w w':World}{B b:Nat}{g:Option Nat}{l:List P3}{S:Nat→Prop}(h:La w B b g l)(hf:Fr S w w')(h1:¬S b)(h2:∀k,g=some k→¬S k):La w' B b g l:=by
 obtain⟨A,n,c,b1,b2,b3⟩:=h;exact⟨A,n,c,b1.fr hf h1,b2.fr hf (fun ad had=>h2 _ (by rw [←b3,had];rfl)),b3⟩
theorem La.row{w:World}{B b:Nat}{g:Option Nat}{l:List P3}(h:La w B b g l):∀k,g=some k→B≤k∧k<w.heap.size:=by
 obtain⟨A,n,c,_,h2,rfl⟩:=h;intro k hk;cases A with
 |none=>cases hk
 |some ad=>
  injection hk with hk
  subst hk;exact⟨(h2.addr ad rfl).2.1,(h2.addr ad rfl).2.2⟩
def Akx(B b:Nat)(g:Option Nat)(l:List P3)(w w':World):Prop:=∃g',La w' B b g' l∧Fr (fun k=>k=b∨some k=g) w w'∧(g'=g∨∃k,g'=some k∧w.heap.size≤k)
theorem Aok(W:World)(x y z:Int):IsP (W.alloc (.cells #[Aa Ab x,Aa Ab y,Aa Ab z] 49)) (some ⟨W.heap.size,0,none⟩) 1 [(x,y,z)]:=by
 refine⟨rfl,fun j u hu=>⟨_,_,rfl,?_⟩⟩;rw [Nat.zero_add,(Ag.new W _ _).cell j];simpa [pc] using hu
theorem Ana(B b:Nat)(g:Option Nat)(x y z:Int)(l:List P3)(w:World)(h:La w B b g l)(hxy:x<y)(hlen:l.length≤1073741824)(hB:B≤w.heap.size)(hbB:b<B):
  Calls Tryz.prog 60 #[Aa Ab x,Aa Ab y,Aa Ab z,.pointer (some ⟨b,0,none⟩)] w fun e w'=>e= .returned (.tuple #[])∧Akx B b g (l++ [(x,y,z)]) w w':=by
 obtain⟨A,n,c,hb,ho,rfl⟩:=h;rw [ho.1] at hlen;have c0:w.cell? ⟨b,0,none⟩=some (.slice A n c):=hb.cell 0;have HO:=Hd (ho.pure ((Below.refl _ _).alloc (Asp _) (.cells #[Aa Ab x,Aa Ab y,Aa Ab z] 49)));have HB:=Hd (hb.alloc (.cells #[Aa Ab x,Aa Ab y,Aa Ab z] 49));have hne:∀ad,A=some ad→ad.block≠b:=fun ad had=>by have:=(ho.addr ad had).2.1;omega
 have HN:=Hd hne;have HA:=Hd (ho.addr);have hlt:=hb.lt;clear hb ho hne;go_enter Tryz.func60,Tryz.ntmps60;go_wp2_with (at_builtin;refine Dm _ rfl (.tmp 10) (.tmp 15) _ rfl 49 _ 3 24 Tryz.underlying45 Aqh rfl (by omega) J3 Ajr _ _ _ _ _ rfl HO.o _ _ _ _ rfl (Aok w x y z) (by omega) (by simp;omega) ?_;intro A1 c1 w1 hown1 hfr1 hat1;have B1:=HB.o.fr hfr1 (by rintro⟨ad,h,h'⟩;exact HN.o ad h h'.symm);have d0:w1.cell? ⟨b,0,none⟩=some (.slice A n c):=B1.cell 0;have f0:=B1.frozen 0;have HB1:=Hd B1;have HO1:=Hd hown1;have HF1:=Hd hfr1;clear B1 hown1 hfr1);go_end0;have hset:Fr (fun k=>k=b) w1 (w1.setCell ⟨b,0,none⟩ (.slice A1 (n+1) c1)):=Fr.setCell (S:=fun k=>k=b) (Fr.refl _ _) (fun _=>rfl) _;refine⟨rfl,A1.map (·.block),⟨A1,n+1,c1,by simpa using HB1.o.set_ 0 (.slice A1 (n+1) c1),HO1.o.fr hset ?_,rfl⟩,?_,?_⟩
 ·intro ad had e;have:=(HO1.o.addr ad had).2.1;omega
 ·have e0:Fr (fun k=>k=b∨some k=A.map (·.block)) w (w.alloc (.cells #[Aa Ab x,Aa Ab y,Aa Ab z] 49)):=(Fr.refl _ _).alloc _;have e1:Fr (fun k=>k=b∨some k=A.map (·.block)) (w.alloc (.cells #[Aa Ab x,Aa Ab y,Aa Ab z] 49)) w1:=HF1.o.mono (by
   rintro k hk ⟨ad,h1,rfl⟩;exact .inr (by rw [h1];rfl))
  exact(e0.trans e1 fun _ _ h=>h).trans hset (fun k _ h=> .inl h)
 ·rcases hat1 with h|h
  ·exact .inl h
  ·exact .inr ⟨_,h,by simp⟩
theorem Apo(B b:Nat)(g:Option Nat)(x y z:Int)(l:List P3)(w:World)(h:La w B b g l)(hxy:¬x<y):
  Calls Tryz.prog 60 #[Aa Ab x,Aa Ab y,Aa Ab z,.pointer (some ⟨b,0,none⟩)] w fun e w'=>e= .returned (.tuple #[])∧Akx B b g l w w':=by
 have H:=Hd h;clear h;go_enter Tryz.func60,Tryz.ntmps60;go_wp2;go_end0;exact⟨rfl,g,H.o,Fr.refl _ _,.inl rfl⟩
structure Hm where
 B0:Nat
 B2:Nat
 bw:Nat
 bm:Nat
 bl:Nat
 A:Option Addr
 n:Nat
 c:Nat
 l:List UInt8
structure Hm.Ok(E:Hm):Prop where
 hA:∀ad,E.A=some ad→ad.block<E.B0
 l0:E.B0≤E.bl
 l2:E.bl<E.B2
 m0:E.B0≤E.bm
 m2:E.bm<E.B2
 w0:E.B0≤E.bw
 w2:E.bw<E.B2
 lm:E.bl≠E.bm
 lw:E.bl≠E.bw
 mw:E.bm≠E.bw
 hc:E.n≤E.c
 hn:E.n≤4294967296
def Hm.cells(E:Hm)(left:Int):Array Value:=#[.slice E.A E.n E.c,Aa Ab left,.map (some E.bm),.func (.func 60) #[] #[.pointer (some ⟨E.bl,0,none⟩)]]
structure Er(E:Hm)(g:Option Nat)(s:Ay)(w:World):Prop where
 ok:E.Ok
 b:Cd w E.A E.n E.l
 W:Ag w E.bw 98 (E.cells s.left)
 M:Ii w E.bm s.had
 O:La w E.B2 E.bl g s.o
 sz:E.B2≤w.heap.size
def Hm.Free(E:Hm)(g:Option Nat)(k:Nat):Prop:=k≠E.bl∧k≠E.bm∧k≠E.bw∧g≠some k
structure Dq(E:Hm)(g g':Option Nat)(w w':World):Prop where
 fr:Fr (fun k=>¬E.Free g k) w w'
 keep:∀k,k<w.heap.size→E.Free g k→E.Free g' k
section
variable {E:Hm} {s:Ay} {g g' g'':Option Nat} {w w' w'':World}
theorem Dq.refl(E:Hm)(g:Option Nat)(w:World):Dq E g g w w:=⟨Fr.refl _ _,fun _ _ h=>h⟩
theorem Dq.of_below(hb:Below w.heap.size w w'):Dq E g g w w':=⟨Fr.of_below hb _,fun _ _ h=>h⟩
theorem Dq.trans(h:Dq E g g' w w')(h':Dq E g' g'' w' w''):Dq E g g'' w w'':=
 ⟨h.fr.trans h'.fr (fun k hk hn hf=>hn (h.keep k hk hf)),fun k hk hf=>h'.keep k (Nat.lt_of_lt_of_le hk h.fr.size) (h.keep k hk hf)⟩
theorem Dq.below(h:Dq E g g' w w')(hb:Below w'.heap.size w' w''):Dq E g g' w w'':=h.trans (Dq.of_below hb)
theorem Dq.drew(h:Dq E g g' w w'):Dq E g g' w w'.drew:=h.below ((Below.refl _ _).drew)
theorem Dq.alloc(h:Dq E g g' w w')(o:Obj):Dq E g g' w (w'.alloc o):=h.below ((Below.refl _ _).alloc (Asp _) o)
def Hn(E:Hm)(g:Option Nat)(w:World)(k:Nat)(t:TypeId)(cs:Array Value):Prop:=Ag w k t cs∧E.Free g k
theorem Hn.to{k:Nat}{t:TypeId}{cs:Array Value}(h:Hn E g w k t cs)(ht:Dq E g g' w w'):Hn E g' w' k t cs:=⟨h.1.fr ht.fr (fun hn=>hn h.2),ht.keep k h.1.lt h.2⟩
theorem Hn.pure{k:Nat}{t:TypeId}{cs:Array Value}(h:Hn E g w k t cs)(hb:Below w.heap.size w w'):Hn E g w' k t cs:=⟨h.1.pure hb,h.2⟩
theorem Hn.drew{k:Nat}{t:TypeId}{cs:Array Value}(h:Hn E g w k t cs):Hn E g w.drew k t cs:=h
theorem Er.pure(h:Er E g s w)(hb:Below w.heap.size w w'):Er E g s w':=⟨h.ok,h.b.pure hb,h.W.pure hb,h.M.pure hb,h.O.pure hb,Nat.le_trans h.sz hb.size⟩
theorem Er.drew(h:Er E g s w):Er E g s w.drew:=h.pure ((Below.refl _ _).drew)
theorem Er.alloc(h:Er E g s w)(o:Obj):Er E g s (w.alloc o):=h.pure ((Below.refl _ _).alloc (Asp _) o)
theorem Er.len(h:Er E g s w):E.l.length=E.n:=h.b.1
theorem Er.new(h:Er E g s w):E.Free g w.heap.size:=by
 have:=h.sz;have:=h.ok.l2;have:=h.ok.m2;have:=h.ok.w2;refine⟨by omega,by omega,by omega,fun e=>?_⟩;have:=(h.O.row _ e).2;omega
theorem Er.lone(h:Er E g s w)(t:TypeId)(cs:Array Value):Hn E g (w.alloc (.cells cs t)) w.heap.size t cs:=⟨Ag.new w t cs,h.new⟩
theorem Er.low(h:Er E g s w){k:Nat}(hk:k<E.B0):E.Free g k:=by
 have:=h.ok.l0;have:=h.ok.l2;have:=h.ok.m0;have:=h.ok.w0;refine⟨by omega,by omega,by omega,fun e=>?_⟩;have:=(h.O.row _ e).1;omega
theorem Dq.belowB(h:Dq E g g' w w')(hw:Er E g s w):Below E.B0 w w':=by
 refine h.fr.belowB (fun k hk hn=>hn (hw.low hk)) ?_;have:=hw.sz;have:=hw.ok.l0;have:=hw.ok.l2;omega
theorem Er.cells(h:Er E g s w):w.cell? ⟨E.bw,0,none⟩=some (.slice E.A E.n E.c)∧w.cell? ⟨E.bw,1,none⟩=some (Aa Ab s.left)∧w.cell? ⟨E.bw,2,none⟩=some (.map (some E.bm))∧
  w.cell? ⟨E.bw,3,none⟩=some (.func (.func 60) #[] #[.pointer (some ⟨E.bl,0,none⟩)]):=⟨h.W.cell 0,h.W.cell 1,h.W.cell 2,h.W.cell 3⟩
theorem Aeu{l':List P3}(h:Er E g s w)(ht:Akx E.B2 E.bl g l' w w'):∃g',Er E g' { s with o:=l'} w'∧Dq E g g' w w':=by
 have ok:=h.ok;obtain⟨g',hO,hf,hg⟩:=ht;have row:=h.O.row;have hk:∀k,k<E.B2→k≠E.bl→¬(k=E.bl∨some k=g):=by
  rintro k h1 h2 (h3|h3)
  ·exact h2 h3
  ·have:=(row k h3.symm).1;omega
 refine⟨g',⟨ok,h.b.fr hf ?_,h.W.fr hf (hk _ ok.w2 (Ne.symm ok.lw)),h.M.fr hf (hk _ ok.m2 (Ne.symm ok.lm)),hO,Nat.le_trans h.sz hf.size⟩,hf.mono ?_,?_⟩
 ·intro ad had;have:=ok.hA ad had;have:=ok.l0;have:=ok.l2;exact hk _ (by omega) (by omega)
 ·rintro k _ (rfl|e) hF
  ·exact hF.1 rfl
  ·exact hF.2.2.2 e.symm
 ·intro k hk' hF;refine⟨hF.1,hF.2.1,hF.2.2.1,?_⟩;rcases hg with rfl|⟨j,rfl,hj⟩
  ·exact hF.2.2.2
  ·intro e;injection e with e
   omega
theorem Gb(a b c:Int)(h:Er E g s w)(hs:s.o.length≤1073741824):
  Calls Tryz.prog 60 #[Aa Ab a,Aa Ab b,Aa Ab c,.pointer (some ⟨E.bl,0,none⟩)] w fun e w'=>e= .returned (.tuple #[])∧∃g',Er E g' (s.tell a b c) w'∧Dq E g g' w w':=by
 have hB:E.B2≤w.heap.size:=h.sz;by_cases hab:a<b
 ·refine(Ana E.B2 E.bl g a b c s.o w h.O hab hs h.sz h.ok.l2).mono ?_;rintro e w' ⟨rfl,ht⟩;have e:s.tell a b c={ s with o:=s.o++ [(a,b,c)]}:=if_pos hab;rw [e];exact⟨rfl,Aeu h ht⟩
 ·refine(Apo E.B2 E.bl g a b c s.o w h.O hab).mono ?_;rintro e w' ⟨rfl,ht⟩;have e:s.tell a b c=s:=if_neg hab;rw [e];exact⟨rfl,Aeu h ht⟩
end
def Tz(E:Hm)(g:Option Nat)(w:World)(y:Ay×Int)(e:Ending)(w':World):Prop:=e= .returned (Aa Ab y.2)∧∃g',Er E g' y.1 w'∧Dq E g g' w w'
theorem Ah{w:World}{p:Addr}{u:Value}(h:w.cell? p=some u):w.drew.cell? p=some u:=h
theorem Yn(A:Option Addr)(n c:Nat)(p q t v a m er:Int)(l:List UInt8)(w:World)(h:Cd w A n l)(hc:n≤c)(hn:n≤1099511627776)(h0:Dr l p q t v [4,5,25]=a)(h1:((Ea l p q t v [4,5,25]).length:Int)=m)(h2:Dj l p q t v [4,5,25]=er):
  Calls Tryz.prog 187 #[.slice A n c,.agg #[Aa Ab p,Aa Ab q,Aa Ab t,Aa Ab v]] w fun e w'=>e= .returned (.tuple #[Aa Ab a,Aa Ab m,Aa Ab er])∧Below w.heap.size w w':=by
 subst h0 h1 h2;exact Agp A n c p q t v l w h hc hn
theorem Ab2(s:Ay)(a b c:Int):(s.tell a b c).o.length≤s.o.length+1:=by
 unfold Ay.tell;by_cases h:a<b
 ·rw [if_pos h];simp
 ·rw [if_neg h];omega
theorem Lj{l:List UInt8}{p q t v:Int}(h:Dj l p q t v [4,5,25]=0):0≤Dr l p q t v [4,5,25]∧Dr l p q t v [4,5,25]+(Ea l p q t v [4,5,25]).length≤l.length∧0≤v∧v≤8∧Bj l.length p q t v=0:=by
 have hm:Bj l.length p q t v=0:=by
  by_cases g:Bj l.length p q t v=0
  ·exact g
  ·unfold Dj at h;rw [if_pos g] at h;exact absurd h g
 obtain⟨a,h1,_,h3⟩:=Alq h;have hv:=By.1 (Cc.1 (Df.1 hm).1).2.2;refine⟨by omega,by omega,by omega,by omega,hm⟩
theorem Nh(E:Hm)(g:Option Nat)(s:Ay)(p q t v:Int)(w:World)(h:Er E g s w)(hs:s.o.length≤1000000000):
  Calls Tryz.prog 105 #[.pointer (some ⟨E.bw,0,none⟩),.agg #[Aa Ab p,Aa Ab q,Aa Ab t,Aa Ab v]] w (Tz E g w (D9 E.l ⟨p,q,t,v⟩ s)):=by
 have HC:=Hd (h.alloc (.cells #[Aa Ab p,Aa Ab q,Aa Ab t,Aa Ab v] 75));have HX:=Hd (h.lone 75 #[Aa Ab p,Aa Ab q,Aa Ab t,Aa Ab v]);have HB:=Hd ((Dq.refl E g w).alloc (.cells #[Aa Ab p,Aa Ab q,Aa Ab t,Aa Ab v] 75));obtain⟨a,ha⟩:∃a,Dr E.l p q t v [4,5,25]=a:=⟨_,rfl⟩;obtain⟨m,hm⟩:∃m:Int,((Ea E.l p q t v [4,5,25]).length:Int)=m:=⟨_,rfl⟩;obtain⟨er,he⟩:∃a,Dj E.l p q t v [4,5,25]=a:=⟨_,rfl⟩;have HAA:=Hd ha;have HMM:=Hd hm;have HEE:=Hd he;have hcc:=h.ok.hc;have hnn:=h.ok.hn;have hlen:=h.len;clear h ha hm he;obtain⟨c0,c1,c2,c3⟩:=HC.o.cells;have x0:=Al HX.o.1;have x1:=Ak HX.o.1;have x2:=Aj HX.o.1;have x3:=Am HX.o.1;go_enter Tryz.func105,Tryz.ntmps105;go_wp2_with fail;go_region_held3 (fun w'=>w'.cell? ⟨E.bw,0,none⟩=some (.slice E.A E.n E.c)∧w'.cell? ⟨E.bw,3,none⟩=some (.func (.func 60) #[] #[.pointer (some ⟨E.bl,0,none⟩)])∧(w'.cell? ⟨w.heap.size,0,none⟩=some (Aa Ab p)∧w'.cell? ⟨w.heap.size,1,none⟩=some (Aa Ab q)∧w'.cell? ⟨w.heap.size,2,none⟩=some (Aa Ab t)∧w'.cell? ⟨w.heap.size,3,none⟩=some (Aa Ab v))) (first|with_reducible exact⟨c0,c3,x0,x1,x2,x3⟩|with_reducible exact⟨Ah c0,Ah c3,Ah x0,Ah x1,Ah x2,Ah x3⟩) (first|(go_at_call 187;(with_reducible refine(Yn E.A E.n E.c p q t v a m er E.l _ HC.o.drew.b hcc (by omega) HAA.o HMM.o HEE.o).mono ?_);rintro e w1 ⟨rfl,hb1⟩;replace HB:=Hd (HB.o.drew.below hb1);replace HC:=Hd (HC.o.drew.pure hb1);replace HX:=Hd (HX.o.drew.pure hb1);clear c0 c1 c2 c3 x0 x1 x2 x3;clear hb1;obtain⟨c0,c1,c2,c3⟩:=HC.o.cells;have x0:=Al HX.o.1;have x1:=Ak HX.o.1;have x2:=Aj HX.o.1;have x3:=Am HX.o.1));by_cases he:er=0
 ·subst he;obtain⟨b0,b1,b2,b3,_⟩:=Lj HEE.o;rw [HAA.o] at b0 b1;have hm0:0≤m:=by have:=HMM.o;omega
  have hmn:a+m≤4294967296:=by have:=HMM.o;omega
  clear b1 hlen;by_cases h4:t=4
  ·subst h4;go_wp2_with (go_at_call 60;(with_reducible refine(Gb a (a+m+1) 9 HC.o (by omega)).mono ?_);rintro e w2 ⟨rfl,g2,hC2,hT2⟩;replace HB:=Hd (HB.o.trans hT2);replace HX:=Hd (HX.o.to hT2);replace HC:=Hd hC2;clear c0 c1 c2 c3 x0 x1 x2 x3;clear hC2 hT2;obtain⟨c0,c1,c2,c3⟩:=HC.o.cells;have x0:=Al HX.o.1;have x1:=Ak HX.o.1;have x2:=Aj HX.o.1;have x3:=Am HX.o.1);go_ret;have e:D9 E.l ⟨p,q,4,v⟩ s=(s.tell a (a+m+1) 9,0):=by
    unfold D9;rw [HEE.o,HAA.o,HMM.o];rfl
   rw [e];exact⟨rfl,_,HC.o,HB.o⟩
  ·have e4:(t==4)=false:=beq_eq_false_iff_ne.mpr h4;have s1:=Ab2 s (a-v) a 6;have hw:IntKind.i64.wrap (a-v)=a-v:=IntWalk.i64_in _ (by omega);go_wp2_with fail;go_region_held3 (fun w'=>w'.cell? ⟨E.bw,0,none⟩=some (.slice E.A E.n E.c)∧w'.cell? ⟨E.bw,3,none⟩=some (.func (.func 60) #[] #[.pointer (some ⟨E.bl,0,none⟩)])∧(w'.cell? ⟨w.heap.size,0,none⟩=some (Aa Ab p)∧w'.cell? ⟨w.heap.size,1,none⟩=some (Aa Ab q)∧w'.cell? ⟨w.heap.size,2,none⟩=some (Aa Ab t)∧w'.cell? ⟨w.heap.size,3,none⟩=some (Aa Ab v))) (first|with_reducible exact⟨c0,c3,x0,x1,x2,x3⟩|with_reducible exact⟨Ah c0,Ah c3,Ah x0,Ah x1,Ah x2,Ah x3⟩) (first|(go_at_call 60;(with_reducible refine(Gb (a-v) a 6 HC.o.drew (by omega)).mono ?_);rintro e w2 ⟨rfl,g2,hC2,hT2⟩;replace HB:=Hd (HB.o.drew.trans hT2);replace HX:=Hd (HX.o.drew.to hT2);replace HC:=Hd hC2;clear c0 c1 c2 c3 x0 x1 x2 x3;clear hC2 hT2;obtain⟨c0,c1,c2,c3⟩:=HC.o.cells;have x0:=Al HX.o.1;have x1:=Ak HX.o.1;have x2:=Aj HX.o.1;have x3:=Am HX.o.1));by_cases h5:t=5
   ·subst h5;go_wp2_with (go_at_call 60;(with_reducible refine(Gb a (a+m+1) 10 HC.o (by omega)).mono ?_);rintro e w2 ⟨rfl,g2,hC2,hT2⟩;replace HB:=Hd (HB.o.trans hT2);replace HX:=Hd (HX.o.to hT2);replace HC:=Hd hC2;clear c0 c1 c2 c3 x0 x1 x2 x3;clear hC2 hT2;obtain⟨c0,c1,c2,c3⟩:=HC.o.cells;have x0:=Al HX.o.1;have x1:=Ak HX.o.1;have x2:=Aj HX.o.1;have x3:=Am HX.o.1);go_ret;have e:D9 E.l ⟨p,q,5,v⟩ s=((s.tell (a-v) a 6).tell a (a+m+1) 10,0):=by
     unfold D9;rw [HEE.o,HAA.o,HMM.o];rfl
    rw [e];exact⟨rfl,_,HC.o,HB.o⟩
   ·have e5:(t==5)=false:=beq_eq_false_iff_ne.mpr h5;go_wp2_with (go_at_call 60;(with_reducible refine(Gb a (a+m) 11 HC.o (by omega)).mono ?_);rintro e w2 ⟨rfl,g2,hC2,hT2⟩;replace HB:=Hd (HB.o.trans hT2);replace HX:=Hd (HX.o.to hT2);replace HC:=Hd hC2;clear c0 c1 c2 c3 x0 x1 x2 x3;clear hC2 hT2;obtain⟨c0,c1,c2,c3⟩:=HC.o.cells;have x0:=Al HX.o.1;have x1:=Ak HX.o.1;have x2:=Aj HX.o.1;have x3:=Am HX.o.1);go_ret;have e:D9 E.l ⟨p,q,t,v⟩ s=((s.tell (a-v) a 6).tell a (a+m) 11,0):=by
     unfold D9;rw [HEE.o,HAA.o,HMM.o];simp [h4,h5]
    rw [e];exact⟨rfl,_,HC.o,HB.o⟩
 ·have hne:(er != 0)=true:=by simpa using he
  have e:D9 E.l ⟨p,q,t,v⟩ s=(s,er):=by
   unfold D9;rw [HEE.o,if_pos he]
  have HR:=Hd e;clear e he;go_wp2_with fail;go_ret;rw [HR.o];exact⟨rfl,_,HC.o,HB.o⟩
theorem Agq{l:List UInt8}{p q t v:Int}(h:Dk l p q t v=0):0≤E8 l p q t v∧E8 l p q t v≤l.length∧0≤Fg l p q t v∧Fg l p q t v≤8:=by
 unfold E8 Fg;rw [if_pos h,if_pos h];rcases Qz l p q t v with⟨hm,e⟩|⟨hm,_⟩
 ·rw [e] at h;exact absurd h hm
 obtain⟨h1,h2⟩:=Df.1 hm;have h2:=De.1 h2;have hq:=By.1 (Cc.1 h1).2.1;have hv:=By.1 (Cc.1 h1).2.2;by_cases hi:Aw t=true
 ·rw [if_pos hi,if_pos hi];omega
 ·rw [if_neg hi,if_neg hi];have ht:0≤Bb l p q t v∧Bb l p q t v≤l.length:=by
   by_cases g:Bh l p q t v=0
   ·exact Vt g
   ·unfold Bb;rw [if_neg g];omega
  omega
theorem P6(E:Hm)(g:Option Nat)(s:Ay)(p q t v:Int)(w:World)(h:Er E g s w)(hs:s.o.length≤1000000000):
  Calls Tryz.prog 106 #[.pointer (some ⟨E.bw,0,none⟩),.agg #[Aa Ab p,Aa Ab q,Aa Ab t,Aa Ab v]] w (Tz E g w (En E.l ⟨p,q,t,v⟩ s)):=by
 have HC:=Hd (h.alloc (.cells #[Aa Ab p,Aa Ab q,Aa Ab t,Aa Ab v] 75));have HX:=Hd (h.lone 75 #[Aa Ab p,Aa Ab q,Aa Ab t,Aa Ab v]);have HB:=Hd ((Dq.refl E g w).alloc (.cells #[Aa Ab p,Aa Ab q,Aa Ab t,Aa Ab v] 75));obtain⟨a,ha⟩:∃a,E8 E.l p q t v=a:=⟨_,rfl⟩;obtain⟨m,hm⟩:∃m,Fg E.l p q t v=m:=⟨_,rfl⟩;obtain⟨er,he⟩:∃a,Dk E.l p q t v=a:=⟨_,rfl⟩;have HAA:=Hd ha;have HMM:=Hd hm;have HEE:=Hd he;have hcc:=h.ok.hc;have hnn:=h.ok.hn;have hlen:=h.len;clear h ha hm he;obtain⟨c0,c1,c2,c3⟩:=HC.o.cells;have x0:=Al HX.o.1;have x1:=Ak HX.o.1;have x2:=Aj HX.o.1;have x3:=Am HX.o.1;go_enter Tryz.func106,Tryz.ntmps106;go_wp2_with fail;go_region_held3 (fun w'=>w'.cell? ⟨E.bw,0,none⟩=some (.slice E.A E.n E.c)∧w'.cell? ⟨E.bw,3,none⟩=some (.func (.func 60) #[] #[.pointer (some ⟨E.bl,0,none⟩)])∧(w'.cell? ⟨w.heap.size,0,none⟩=some (Aa Ab p)∧w'.cell? ⟨w.heap.size,1,none⟩=some (Aa Ab q)∧w'.cell? ⟨w.heap.size,2,none⟩=some (Aa Ab t)∧w'.cell? ⟨w.heap.size,3,none⟩=some (Aa Ab v))) (first|with_reducible exact⟨c0,c3,x0,x1,x2,x3⟩|with_reducible exact⟨Ah c0,Ah c3,Ah x0,Ah x1,Ah x2,Ah x3⟩) (first|(go_at_call 188;(with_reducible refine(Aqs E.A E.n E.c p q t v E.l a m er _ HC.o.drew.b hcc (by omega) HAA.o HMM.o HEE.o).mono ?_);rintro e w1 ⟨rfl,hb1⟩;replace HB:=Hd (HB.o.drew.below hb1);replace HC:=Hd (HC.o.drew.pure hb1);replace HX:=Hd (HX.o.drew.pure hb1);clear c0 c1 c2 c3 x0 x1 x2 x3;clear hb1;obtain⟨c0,c1,c2,c3⟩:=HC.o.cells;have x0:=Al HX.o.1;have x1:=Ak HX.o.1;have x2:=Aj HX.o.1;have x3:=Am HX.o.1));by_cases he:er=0
 ·subst he;obtain⟨b0,b1,b2,b3⟩:=Agq HEE.o;rw [HAA.o] at b0 b1;rw [HMM.o] at b2 b3;by_cases h6:t=6
  ·subst h6;go_wp2_with (go_at_call 60;(with_reducible refine(Gb a (a+m) 12 HC.o (by omega)).mono ?_);rintro e w2 ⟨rfl,g2,hC2,hT2⟩;replace HB:=Hd (HB.o.trans hT2);replace HX:=Hd (HX.o.to hT2);replace HC:=Hd hC2;clear c0 c1 c2 c3 x0 x1 x2 x3;clear hC2 hT2;obtain⟨c0,c1,c2,c3⟩:=HC.o.cells;have x0:=Al HX.o.1;have x1:=Ak HX.o.1;have x2:=Aj HX.o.1;have x3:=Am HX.o.1);go_ret;have e:En E.l ⟨p,q,6,v⟩ s=(s.tell a (a+m) 12,0):=by
    unfold En;rw [HEE.o,HAA.o,HMM.o];rfl
   rw [e];exact⟨rfl,_,HC.o,HB.o⟩
  ·have e6:(t==6)=false:=beq_eq_false_iff_ne.mpr h6;go_wp2_with (go_at_call 60;(with_reducible refine(Gb a (a+m) 13 HC.o (by omega)).mono ?_);rintro e w2 ⟨rfl,g2,hC2,hT2⟩;replace HB:=Hd (HB.o.trans hT2);replace HX:=Hd (HX.o.to hT2);replace HC:=Hd hC2;clear c0 c1 c2 c3 x0 x1 x2 x3;clear hC2 hT2;obtain⟨c0,c1,c2,c3⟩:=HC.o.cells;have x0:=Al HX.o.1;have x1:=Ak HX.o.1;have x2:=Aj HX.o.1;have x3:=Am HX.o.1);go_ret;have e:En E.l ⟨p,q,t,v⟩ s=(s.tell a (a+m) 13,0):=by
    unfold En;rw [HEE.o,HAA.o,HMM.o];simp [h6]
   rw [e];exact⟨rfl,_,HC.o,HB.o⟩
 ·have hne:(er==0)=false:=beq_eq_false_iff_ne.mpr he;have e:En E.l ⟨p,q,t,v⟩ s=(s,er):=by
   unfold En;rw [HEE.o,if_neg he]
  have HR:=Hd e;clear e he;go_wp2_with fail
  all_goals
   go_ret;rw [HR.o];exact⟨rfl,_,HC.o,HB.o⟩
def Ay.size(s:Ay):Nat:=s.o.length+8*s.left.toNat
theorem Jj(s:Ay)(a b c:Int):(s.tell a b c).left=s.left:=by unfold Ay.tell;split <;>rfl
theorem Am9(s:Ay)(a b c:Int):(s.tell a b c).had=s.had:=by unfold Ay.tell;split <;>rfl
theorem Q7(s:Ay)(a b c:Int):(s.tell a b c).size≤s.size+1:=by
 unfold Ay.size;rw [Jj];have:=Ab2 s a b c;omega
def Ee(k:Nat)(s s':Ay):Prop:=s'.left≤s.left∧s'.size≤s.size+k
theorem Ee.refl(s:Ay):Ee 0 s s:=⟨Int.le_refl _,Asp _⟩
theorem Ee.mono{k j:Nat}{s s':Ay}(h:Ee k s s')(hk:k≤j):Ee j s s':=⟨h.1,by have:=h.2;omega⟩
theorem Ee.trans{k j:Nat}{s s' s'':Ay}(h:Ee k s s')(h':Ee j s' s''):Ee (k+j) s s'':=⟨Int.le_trans h'.1 h.1,by have:=h.2;have:=h'.2;omega⟩
theorem Ge(s:Ay)(a b c:Int):Ee 1 s (s.tell a b c):=⟨by rw [Jj];exact Int.le_refl _,Q7 s a b c⟩
def Pv(go:Rq→Ay→Ay×Int):Prop:=∀r s,Ee 0 s (go r s).1∧((go r s).2=0→(go r s).1.size+4≤s.size)
section
variable {l:List UInt8} {go:Rq→Ay→Ay×Int} (r:Rq)
theorem Akh(s:Ay):Ee 2 s (D9 l r s).1:=by
 unfold D9;split
 ·exact(Ee.refl s).mono (by omega)
 ·split
  ·exact(Ge _ _ _ _).mono (by omega)
  ·split
   ·exact(Ge _ _ _ _).trans (Ge _ _ _ _)
   ·exact(Ge _ _ _ _).trans (Ge _ _ _ _)
theorem Afb(s:Ay):Ee 2 s (En l r s).1:=by
 unfold En;split
 ·exact(Ge _ _ _ _).mono (by omega)
 ·exact(Ee.refl s).mono (by omega)
theorem Aiz(hgo:Pv go)(s:Ay):Ee 0 s (Hr l go r s).1:=by
 unfold Hr;split
 ·exact Ee.refl s
 ·split
  ·exact(hgo _ _).1
  ·rename_i h;have h:=(hgo (Cl l r) s).2 (Decidable.of_not_not h);have h1:=(hgo (Cl l r) s).1;have h2:=Ge (go (Cl l r) s).1 (lsFrom l r.p r.q r.t r.v+r.v) (lsFrom l r.p r.q r.t r.v+2*r.v) 7;exact⟨Int.le_trans h2.1 h1.1,by have:=h2.2;simp only at this ⊢;omega⟩
theorem Tq(i:Nat)(s:Ay):Ee 1 s (Fh l r i s):=by
 unfold Fh;split
 ·exact Ge _ _ _ _
 ·exact(Ee.refl s).mono (by omega)
theorem Aa0(s:Ay):Ee 1 s (Js l r s):=by
 unfold Js;split
 ·exact Ge _ _ _ _
 ·exact(Ee.refl s).mono (by omega)
theorem Uj(hgo:Pv go):∀(k i:Nat) (s:Ay),Ee 1 s (Ep l go r k i s).1
 |0,i,s=>(Ee.refl s).mono (by omega)
 |k+1,i,s=>by
  unfold Ep;split
  ·exact Tq r i s
  ·have ht:=Tq (l:=l) r i s;have hg:=hgo (Bw l r i) (Fh l r i s);split
   ·exact ht.trans hg.1
   ·rename_i h;have h:=hg.2 (Decidable.of_not_not h);have he:=Uj hgo k (i+1) (go (Bw l r i) (Fh l r i s)).1;exact⟨Int.le_trans he.1 (Int.le_trans hg.1.1 ht.1),by have:=he.2;have:=ht.2;omega⟩
theorem Qh(hgo:Pv go)(s:Ay):Ee 0 s (Fk l go r s).1:=by
 unfold Fk;split
 ·exact Aiz r hgo s
 ·exact Ee.refl s
theorem Ai7(hgo:Pv go)(s:Ay):Ee 2 s (Fx l go r s).1:=by
 unfold Fx;split
 ·exact(Ee.refl s).mono (by omega)
 ·split
  ·exact(Qh r hgo s).mono (by omega)
  ·exact((Qh r hgo s).trans (Aa0 r _)).trans (Uj r hgo _ _ _)
theorem Aia(hgo:Pv go)(s:Ay):Ee 2 s (Eo l go r s).1:=by
 unfold Eo;split
 ·exact Akh r s
 ·split
  ·exact Afb r s
  ·exact Ai7 r hgo s
end
theorem Agu(r:Rq)(s:Ay)(h:¬s.left<1):(Cz r s).left≤s.left∧(Cz r s).size+7≤s.size:=by
 unfold Cz;have h1:=Q7 s.burn r.p (r.p+r.q) (Iw r.t);rw [Jj];have e:s.burn.size+8=s.size:=by unfold Ay.size Ay.burn;simp only;omega
 exact⟨by unfold Ay.burn;simp only;omega,by omega⟩
theorem P1(l:List UInt8):∀d,Pv (Bz l d)
 |0,r,s=>⟨Ee.refl s,fun h=>by cases h⟩
 |d+1,r,s=>by
  unfold Bz;split
  ·exact⟨Ee.refl s,fun h=>by cases h⟩
  ·rename_i hl;obtain⟨h1,h2⟩:=Agu r s hl;split
   ·exact⟨⟨h1,by simp only;omega⟩,fun _=>by simp only;omega⟩
   ·split
    ·exact⟨⟨h1,by simp only;omega⟩,fun _=>by simp only;omega⟩
    ·have hd:=Aia (l:=l) r (P1 l d) ((Cz r s).see (Ht l r));have e1:((Cz r s).see (Ht l r)).left=(Cz r s).left:=rfl;have e2:((Cz r s).see (Ht l r)).size=(Cz r s).size:=rfl;rw [Ee,e1,e2] at hd;exact⟨⟨Int.le_trans hd.1 h1,by have:=hd.2;omega⟩,fun _=>by have:=hd.2;omega⟩
def Ly(n:Nat)(r:Rq):Prop:=0≤r.p∧1≤r.q∧r.q≤8∧r.p+r.q≤n
theorem U7{n:Nat}{p q t v:Int}(h:Bj n p q t v=0):Ly n ⟨p,q,t,v⟩∧1≤v∧v≤8:=by
 obtain⟨h1,h2⟩:=Df.1 h;have h2:=De.1 h2;have hq:=By.1 (Cc.1 h1).2.1;have hv:=By.1 (Cc.1 h1).2.2;refine⟨⟨h2.1,?_,?_,h2.2.2⟩,?_,?_⟩ <;>(first|omega|(simp only;omega))
theorem Ajb{l:List UInt8}{p q t v:Int}(h:Bs l p q t v=0):Bj l.length p q t v=0:=by
 rcases Oy l p q t v with⟨g,e⟩|⟨g,_⟩
 ·rw [e] at h;exact absurd h g
 ·exact g
theorem Aos{l:List UInt8}{p q t v:Int}(h:Bs l p q t v=0):lsFrom l p q t v+aheadT t*v.toNat=lsAt l p q t v:=by
 unfold lsFrom lsAt;rw [if_pos h,if_pos h];rcases Oy l p q t v with⟨_,e⟩|⟨_,⟨_,e⟩|⟨_,⟨_,e⟩|⟨_,⟨_,e⟩|⟨_,_,e⟩|⟨_,_,_,e⟩|⟨_,h5,_,_⟩⟩⟩⟩
 ·rw [e] at h;exact absurd h (by assumption)
 ·rw [e] at h;cases h
 ·rw [e] at h;exact absurd h (by assumption)
 ·rw [e] at h;cases h
 ·rw [e] at h;cases h
 ·rw [e] at h;cases h
 ·omega
theorem Kn{l:List UInt8}{p q t v:Int}(h:Bs l p q t v=0):1≤v∧v≤8∧lsFrom l p q t v+aheadT t*v.toNat=lsAt l p q t v∧lsAt l p q t v+lsLen l p q t v*(v.toNat+tgs t)≤l.length:=
 ⟨(U7 (Ajb h)).2.1,(U7 (Ajb h)).2.2,Aos h,(Y4 h).2.2.2.1⟩
theorem Ans{l:List UInt8}{p q t v:Int}(h:Gh l p q t v=0):t=9∧Bs l p q t v=0∧Ly l.length (Cl l ⟨p,q,t,v⟩)∧(lsFrom l p q t v:Int)+3*v≤l.length∧1≤v∧v≤8:=by
 rcases Aat l p q t v with⟨g,e⟩|⟨_,⟨_,e⟩|⟨ht,⟨g,e⟩|⟨hl,_⟩⟩⟩
 ·rw [e] at h;exact absurd h g
 ·rw [e] at h;cases h
 ·rw [e] at h;exact absurd h g
 obtain⟨h1,h2,h3,h4⟩:=Kn hl;have ha:aheadT t=3:=by rw [ht];rfl
 rw [ha] at h3;have h5:(lsFrom l p q t v:Int)+3*v≤l.length:=by omega
 refine⟨ht,hl,?_,h5,h1,h2⟩;unfold Ly Cl Et Eu;simp only [if_pos h];omega
theorem Er.newer{E:Hm}{g:Option Nat}{s:Ay}{w:World}(h:Er E g s w){k:Nat}(hk:w.heap.size≤k):E.Free g k:=by
 have:=h.sz;have:=h.ok.l2;have:=h.ok.m2;have:=h.ok.w2;refine⟨by omega,by omega,by omega,fun e=>?_⟩;have:=(h.O.row _ e).2;omega
def V1(E:Hm)(go:Rq→Ay→Ay×Int)(d:Nat):Prop:=∀(g:Option Nat) (s:Ay) (p q t v:Int) (w:World),Er E g s w→s.left.toNat<d→s.size≤900000000→Ly E.l.length ⟨p,q,t,v⟩→
 Calls Tryz.prog 61 #[.pointer (some ⟨E.bw,0,none⟩),.agg #[Aa Ab p,Aa Ab q,Aa Ab t,Aa Ab v]] w (Tz E g w (go ⟨p,q,t,v⟩ s))
theorem Gp(s:Ay):s.o.length≤s.size:=by unfold Ay.size;omega
theorem Acp(E:Hm)(go:Rq→Ay→Ay×Int)(d:Nat)(hgo:V1 E go d)(hgoes:Pv go)(g:Option Nat)(s:Ay)(p q t v f:Int)(w:World)(h:Er E g s w)(hd:s.left.toNat<d)(hs:s.size≤900000000)(hf:(lsFrom E.l p q t v:Int)=f):
  Calls Tryz.prog 189 #[.pointer (some ⟨E.bw,0,none⟩),.agg #[Aa Ab p,Aa Ab q,Aa Ab t,Aa Ab v],Aa Ab f] w (Tz E g w (Hr E.l go ⟨p,q,t,v⟩ s)):=by
 have HC:=Hd (h.alloc (.cells #[Aa Ab p,Aa Ab q,Aa Ab t,Aa Ab v] 75));have HX:=Hd (h.lone 75 #[Aa Ab p,Aa Ab q,Aa Ab t,Aa Ab v]);have HB:=Hd ((Dq.refl E g w).alloc (.cells #[Aa Ab p,Aa Ab q,Aa Ab t,Aa Ab v] 75));have HGO:=Hd hgo;have HGS:=Hd hgoes;obtain⟨kp,hk1⟩:∃a,Et E.l p q t v=a:=⟨_,rfl⟩;obtain⟨kq,hk2⟩:∃a,Eu E.l p q t v=a:=⟨_,rfl⟩;obtain⟨kt,hk3⟩:∃a,J0 E.l p q t v=a:=⟨_,rfl⟩;obtain⟨kv,hk4⟩:∃a,Ev E.l p q t v=a:=⟨_,rfl⟩;obtain⟨er,he⟩:∃a,Gh E.l p q t v=a:=⟨_,rfl⟩;have HP:=Hd hk1;have HQQ:=Hd hk2;have HT:=Hd hk3;have HV:=Hd hk4;have HEE:=Hd he;have HF:=Hd hf;have hcc:=h.ok.hc;have hnn:=h.ok.hn;have hlen:=h.len;clear h hk1 hk2 hk3 hk4 he hf hgo hgoes;go_enter Tryz.func189,Tryz.ntmps189;go_upto_region 1 with fail
 generalize w.alloc (.cells #[Aa Ab p,Aa Ab q,Aa Ab t,Aa Ab v] 75)=w1 at HC HX HB⊢;go_cut [7,8] (fun u7 u8 wx=>∃wy,wy=wx∧u8= Aa Ab er∧∃k,u7= .pointer (some ⟨k,0,none⟩)∧Ag wx k 75 #[Aa Ab kp,Aa Ab kq,Aa Ab kt,Aa Ab kv]∧w1.heap.size≤k∧Below w1.heap.size w1 wx)
 case first=>
  have HQ:=Hd (Below.refl w1.heap.size w1);have HL:=Hd HC.o.b;have HW:=Hd HC.o.W;have HR:=Hd HX.o.1;have hn1:E.bw≠w1.heap.size:=by have:=HW.o.lt;omega
  have hn2:w.heap.size≠w1.heap.size:=by have:=HR.o.lt;omega
  clear HX HB HC;have c0:_=some (Value.slice E.A E.n E.c):=HW.o.cell 0;have x0:=Al HR.o;have x1:=Ak HR.o;have x2:=Aj HR.o;have x3:=Am HR.o;go_region_held3 (fun w'=>w'.cell? ⟨E.bw,0,none⟩=some (.slice E.A E.n E.c)∧(w'.cell? ⟨w.heap.size,0,none⟩=some (Aa Ab p)∧w'.cell? ⟨w.heap.size,1,none⟩=some (Aa Ab q)∧w'.cell? ⟨w.heap.size,2,none⟩=some (Aa Ab t)∧w'.cell? ⟨w.heap.size,3,none⟩=some (Aa Ab v))) ((with_reducible refine⟨?_,?_,?_,?_,?_⟩) <;>(repeat (first|with_reducible assumption|with_reducible refine Bq ?_|with_reducible refine Fz _ ?_|with_reducible refine Oz ?_ ?_)))
   (first|(go_at_call 93;(first|(with_reducible refine(Kk E.A E.n E.c p q t v kp kq kt kv er E.l _ (HL.o.pure HQ.o.drew) hcc (by omega) HP.o HQQ.o HT.o HV.o HEE.o).mono ?_)|(with_reducible refine(Kk E.A E.n E.c p q t v kp kq kt kv er E.l _ (HL.o.pure (HQ.o.alloc HQ.o.size _).drew) hcc (by omega) HP.o HQQ.o HT.o HV.o HEE.o).mono ?_));rintro e w3 ⟨rfl,hb⟩;(first|(with_reducible replace HQ:=Hd (Ad HQ.o.drew hb))|((with_reducible have HK:=Hd ((Ag.new w1 75 #[Aa Ab 0,Aa Ab 0,Aa Ab 0,Aa Ab 0]).drew.pure hb));(with_reducible replace HQ:=Hd (Ad (HQ.o.alloc HQ.o.size _).drew hb));have q0:=Al HK.o;have q1:=Ak HK.o;have q2:=Aj HK.o;have q3:=Am HK.o;have p0:=HK.o.frozen 0;have p1:=HK.o.frozen 1;have p2:=HK.o.frozen 2;have p3:=HK.o.frozen 3));replace HW:=Hd (HW.o.pure HQ.o);replace HR:=Hd (HR.o.pure HQ.o);clear c0 x0 x1 x2 x3;have c0:_=some (Value.slice E.A E.n E.c):=HW.o.cell 0;have x0:=Al HR.o;have x1:=Ak HR.o;have x2:=Aj HR.o;have x3:=Am HR.o;have hn3:E.bw≠w3.heap.size:=(by have:=HW.o.lt;omega);have hn4:w.heap.size≠w3.heap.size:=(by have:=HR.o.lt;omega);clear hb))
  all_goals
   go_wp2_with fail;go_meet
   first
    |with_reducible exact⟨_,rfl,rfl,_,rfl,Ag.new _ _ _,HQ.o.size,HQ.o.alloc HQ.o.size _⟩
    |exact⟨_,rfl,rfl,_,rfl,(((HK.o.set_ 0 _).set_ 1 _).set_ 2 _).set_ 3 _,Asp _,Cn _ HQ.o (Asp _) _ _ _ _⟩
 case rest=>
 obtain⟨w3,rfl,rfl,k,rfl,hK,hk,hb⟩:=hcut;have HK:=Hd (show Hn E g w3 k 75 #[Aa Ab kp,Aa Ab kq,Aa Ab kt,Aa Ab kv] from⟨hK,HC.o.newer hk⟩);replace HC:=Hd (HC.o.pure hb);replace HX:=Hd (HX.o.pure hb);replace HB:=Hd (HB.o.below hb);clear hK hk hb;by_cases he:er=0
 ·subst he;obtain⟨ht,hl,hok,hle,hv1,hv8⟩:=Ans HEE.o;subst ht;have k0:=Al HK.o.1;have k1:=Ak HK.o.1;have k2:=Aj HK.o.1;have k3:=Am HK.o.1;have HOK:=Hd (show Ly E.l.length ⟨kp,kq,kt,kv⟩ by have:=hok;unfold Cl at this;rw [HP.o,HQQ.o,HT.o,HV.o] at this;exact this);have hek:Cl E.l ⟨p,q,9,v⟩=⟨kp,kq,kt,kv⟩:=by unfold Cl;rw [HP.o,HQQ.o,HT.o,HV.o]
  have hun:Hr E.l go ⟨p,q,9,v⟩ s=if(go ⟨kp,kq,kt,kv⟩ s).2≠0 then go ⟨kp,kq,kt,kv⟩ s else((go ⟨kp,kq,kt,kv⟩ s).1.tell (f+v) (f+2*v) 7,0):=by
   unfold Hr;rw [HEE.o,if_neg (by decide),hek,HF.o]
  obtain⟨y,hy⟩:∃y,go ⟨kp,kq,kt,kv⟩ s=y:=⟨_,rfl⟩;rw [hy] at hun;have hys:y.1.o.length≤900000000:=by
   have h1:=(HGS.o ⟨kp,kq,kt,kv⟩ s).1.2;rw [hy] at h1;have:=Gp y.1;omega
  have HY:=Hd hy;have HUN:=Hd hun;have hf0:0≤f:=by have:=HF.o;omega
  have hf1:f≤4294967296:=by have:=HF.o;omega
  have hcomes:=HGO.o g s kp kq kt kv w3 HC.o hd hs HOK.o;rw [hy] at hcomes;have HCM:=Hd hcomes;clear hok hek hun hy hcomes hl hle;go_wp2_with fail;go_at_call 61;refine HCM.o.mono ?_;rintro e w4 ⟨rfl,g4,hC4,hT4⟩;replace HB:=Hd (HB.o.trans hT4);replace HX:=Hd (HX.o.to hT4);replace HC:=Hd hC4;clear HK hC4 hT4 HCM k0 k1 k2 k3;by_cases hy0:y.2=0
  ·have h1:=HUN.o;rw [hy0,if_neg (by decide)] at h1;rw [hy0];replace HUN:=Hd h1;clear h1 hy0;obtain⟨c0,c1,c2,c3⟩:=HC.o.cells;have x0:=Al HX.o.1;have x1:=Ak HX.o.1;have x2:=Aj HX.o.1;have x3:=Am HX.o.1;have w1:IntKind.i64.wrap (f+v)=f+v:=IntWalk.i64_in _ (by omega);have w2:IntKind.i64.wrap (2*v)=2*v:=IntWalk.i64_in _ (by omega);have w3:IntKind.i64.wrap (f+2*v)=f+2*v:=IntWalk.i64_in _ (by omega);go_wp2_with fail;go_region_held3 (fun w'=>w'.cell? ⟨E.bw,0,none⟩=some (.slice E.A E.n E.c)∧w'.cell? ⟨E.bw,3,none⟩=some (.func (.func 60) #[] #[.pointer (some ⟨E.bl,0,none⟩)])∧(w'.cell? ⟨w.heap.size,0,none⟩=some (Aa Ab p)∧w'.cell? ⟨w.heap.size,1,none⟩=some (Aa Ab q)∧w'.cell? ⟨w.heap.size,2,none⟩=some (Aa Ab 9)∧w'.cell? ⟨w.heap.size,3,none⟩=some (Aa Ab v))) (first|with_reducible exact⟨c0,c3,x0,x1,x2,x3⟩|with_reducible exact⟨Ah c0,Ah c3,Ah x0,Ah x1,Ah x2,Ah x3⟩) (first|(go_at_call 60;(with_reducible refine(Gb (f+v) (f+2*v) 7 HC.o.drew (by omega)).mono ?_);rintro e w2 ⟨rfl,g2,hC2,hT2⟩;replace HB:=Hd (HB.o.drew.trans hT2);replace HX:=Hd (HX.o.drew.to hT2);replace HC:=Hd hC2;clear c0 c1 c2 c3 x0 x1 x2 x3;clear hC2 hT2;obtain⟨c0,c1,c2,c3⟩:=HC.o.cells;have x0:=Al HX.o.1;have x1:=Ak HX.o.1;have x2:=Aj HX.o.1;have x3:=Am HX.o.1));go_wp2_with fail;go_ret;rw [HUN.o];exact⟨rfl,_,HC.o,HB.o⟩
  ·have hne:(y.2==0)=false:=beq_eq_false_iff_ne.mpr hy0;have h1:=HUN.o;rw [if_pos hy0] at h1;replace HUN:=Hd h1;clear h1 hy0;go_wp2_with fail;go_ret;rw [HUN.o];exact⟨rfl,_,HC.o,HB.o⟩
 ·have hne:(er==0)=false:=beq_eq_false_iff_ne.mpr he;have e:Hr E.l go ⟨p,q,t,v⟩ s=(s,er):=by
   unfold Hr;rw [HEE.o,if_pos he]
  have HRR:=Hd e;clear e he;go_wp2_with fail
  all_goals
   go_ret;rw [HRR.o];exact⟨rfl,_,HC.o,HB.o⟩
end Go.Proofs.YtgbjodnegkbfoaaGreat
