/- Parts of the proof. -/
import Derived.Test.YtejpbijeifjdeaaGreatQf05
import Derived.MapKept
import Derived.Carry
set_option maxHeartbeats 4000000
set_option maxRecDepth 100000
open Go.Value renaming int→Aa
open Go.IntKind renaming i64→Ab,u64→Ac
open Nat renaming le_refl→Ae,zero_le→Ak,zero_add→Av
open Go.RowKit.Below renaming refl→Af
open List renaming getElem?_eq_getElem→Ag,length_append→Ah,take_of_length_le→Bb,take_succ_eq_append_getElem→Bc,getD_eq_getElem?_getD→Be
open UInt8 renaming ofNat→An
open Go.Instr renaming mapUpdate→Ba
open Go.Proofs.Tryz
open Go.Proofs.Tryz renaming prog→Ad
namespace Go.Proofs.YtejpbijeifjdeaaGreat
open Go.RowKit Go.Acc
variable {l:List UInt8}{x y:UInt8}{M:Bp}{fl:Int}{w w':World}{o:Nat→Nat}{b:Bd}{v:Bv}{vb:Nat}
theorem Mo{a b c d e:Int}{r:(Int×Int×Int×Int)}{f:Int}(h:r=(a,b,c,d))(h':f=e):
  Ending.returned (.tuple #[.agg (Afg a b c d),Aa Ab e])= .returned (.tuple #[.agg (Afg r.1 r.2.1 r.2.2.1 r.2.2.2),Aa Ab f]):=by
 subst h h';rfl
theorem Ox(h:Gf l≠0):Fx l=(0,0,0,0):=if_neg h
theorem Yk(h:l.length<3):Gf l=210:=if_pos (.inl h)
theorem Yl(hx:l.getD (l.length-1) 0=x)(hw:Bz (x.toNat:Int)=false):Gf l=210:=by
 unfold Gf;rw [hx,if_pos (.inr hw)]
theorem kR(h3:¬l.length<3)(hx:l.getD (l.length-1) 0=x)(hy:l.getD (l.length-2) 0=y)(hw:Bz (x.toNat:Int)=true)(hu:Iv y≠0):Gf l=Iv y:=by
 unfold Gf;rw [hx,hy,if_neg (by rw [hw];simp;omega),if_pos hu]
theorem kS(h3:¬l.length<3)(hx:l.getD (l.length-1) 0=x)(hy:l.getD (l.length-2) 0=y)(hw:Bz (x.toNat:Int)=true)(hu:Iv y=0):
  Gf l=if(l.length:Int)-2-x.toNat<0∨((l.length:Int)-2-x.toNat) % x.toNat≠0 then 210 else 0:=by
 unfold Gf;rw [hx,hy,if_neg (by rw [hw];simp;omega),if_neg (by simpa using hu)]
theorem fO(hx:l.getD (l.length-1) 0=x)(hy:l.getD (l.length-2) 0=y)(he:Gf l=0):Fx l=((l.length:Int)-2-x.toNat,((x.toNat:Nat):Int),Ng y,Nh y):=by
 unfold Fx;rw [if_pos he,hx,hy]
theorem Z1(A:Option Addr)(n c:Nat)(l:List UInt8)(w:World)(hl:Cv w A n l)(hn:n≤9223372036854775807):
  Calls Ad 43 #[.slice A n c] w (Afc (.tuple #[.agg #[Aa Ab (Fx l).1,Aa Ab (Fx l).2.1,Aa Ab (Fx l).2.2.1,Aa Ab (Fx l).2.2.2],Aa Ab (Gf l)]) w):=by
 have r:=hl.1;subst r;by_cases h3:l.length<3
 ·have a:=Hd (Yk h3);have d:=Hd (Ox (by rw [Yk h3];decide));go_enter func43,ntmps43;go_wp2;refine bodyPost_ret (v:= .tuple #[.agg (Afg 0 0 0 0),Aa Ab 210]) (by simp [results,results43,go_sem]) rfl ⟨Mo d.o a.o,?_⟩;exact(Af _ _).alloc (Ae _) _
 ·obtain⟨b,t,rfl,p,E⟩:=Je hl (k:=l.length-1) (by omega);obtain⟨X,O,H,q,u⟩:=Je hl (k:=l.length-2) (by omega);injection H with H
  injection H with e1 e2
  subst e1 e2;have K:l.getD (l.length-1) 0=l[l.length-1]:=by rw [Be,Ag p];rfl
  have L:l.getD (l.length-2) 0=l[l.length-2]:=by rw [Be,Ag q];rfl
  generalize l[l.length-1]=x at K E;generalize l[l.length-2]=y at L u;have U:=x.toNat_lt;have m:=Hd K;have G:=Hd L;have j:=Hd E;have F:=Hd u;have E:(w.alloc (.cells (Afg 0 0 0 0) 70)).cell? ⟨b,t+(l.length-1),none⟩=some (.int .u8 (x.toNat:Int)):=Bl ((Af _ _).alloc (Ae _) _) j.o;clear hl K L p q u;go_enter func43,ntmps43;go_wp2_with fail;go_at_call 76;refine(Ol _ _).mono ?_;rintro e W ⟨rfl,rfl⟩;cases hw:Bz (x.toNat:Int) with
  |false=>
   have a:=Hd (Yl m.o hw);have d:=Hd (Ox (by rw [Yl m.o hw];decide));clear hw;go_wp2;refine bodyPost_ret (v:= .tuple #[.agg (Afg 0 0 0 0),Aa Ab 210]) (by simp [results,results43,go_sem]) rfl ⟨Mo d.o a.o,?_⟩;exact(Af _ _).alloc (Ae _) _
  |true=>
   have N:=Hd hw;have h:1≤x.toNat∧x.toNat≤8:=by have:=Cr.1 hw;omega
   have S:=h.1;have T:=h.2;have u:(w.alloc (.cells (Afg 0 0 0 0) 70)).cell? ⟨b,t+(l.length-2),none⟩=some (.int .u8 (y.toNat:Int)):=Bl ((Af _ _).alloc (Ae _) _) F.o;clear hw h;go_wp2_with fail;go_at_call 50;refine(Mz y _).mono ?_;rintro e W ⟨rfl,I⟩;have i:=Hd (C1 ((Af w.heap.size w).alloc (Ae _) _) I);have M:=Hd ((Bk.new w 70 (Afg 0 0 0 0)).pure I);obtain ⟨z,B,C,D⟩:=M.o.c4;obtain ⟨Y,Z,f2,f3⟩:=M.o.f4;have E:=Bl i.o j.o;clear u I;by_cases g:Iv y=0
   ·have f:=Hd (kS h3 m.o G.o N.o g);rw [g];clear g;by_cases Q:(l.length:Int)-2-x.toNat<0
    ·have a:=Hd (show Gf l=210 by rw [f.o,if_pos (.inl Q)]);have d:=Hd (Ox (by rw [a.o];decide));go_wp2;refine bodyPost_ret (v:= .tuple #[.agg (Afg 0 0 0 0),Aa Ab 210]) (by simp [results,results43,go_sem,z,B,C,D]) rfl ⟨Mo d.o a.o,?_⟩;exact(((i.o.setCell (Ae _) _).setCell (Ae _) _).setCell (Ae _) _).setCell (Ae _) _
    ·have R:0≤(l.length:Int)-2-x.toNat:=by omega
     have V:(x.toNat==0)=false:=by simp;omega
     by_cases s:((l.length:Int)-2-x.toNat) % x.toNat=0
     ·have a:=Hd (show Gf l=0 by rw [f.o,if_neg (by omega)]);have d:=Hd (fO m.o G.o a.o);have J:(((l.length:Int)-2) % (x.toNat:Int) != 0)=false:=by simpa using s
      clear s;go_wp2;refine bodyPost_ret (v:= .tuple #[.agg #[Aa Ab ((l.length:Int)-2-x.toNat),Aa Ab ((x.toNat:Nat):Int),Aa Ab (Ng y),Aa Ab (Nh y)],Aa Ab 0]) (by simp [results,results43,go_sem,z,B,C,D]) rfl ⟨Mo d.o a.o,?_⟩;exact(((i.o.setCell (Ae _) _).setCell (Ae _) _).setCell (Ae _) _).setCell (Ae _) _
     ·have a:=Hd (show Gf l=210 by rw [f.o,if_pos (.inr s)]);have d:=Hd (Ox (by rw [a.o];decide));have J:(((l.length:Int)-2) % (x.toNat:Int) != 0)=true:=by simpa using s
      clear s;go_wp2;refine bodyPost_ret (v:= .tuple #[.agg (Afg 0 0 0 0),Aa Ab 210]) (by simp [results,results43,go_sem,z,B,C,D]) rfl ⟨Mo d.o a.o,?_⟩;exact(((i.o.setCell (Ae _) _).setCell (Ae _) _).setCell (Ae _) _).setCell (Ae _) _
   ·have a:=Hd (kR h3 m.o G.o N.o g);have d:=Hd (Ox (by rw [a.o];exact g));have P:(Iv y != 0)=true:=by simpa using g
    clear g;go_wp2;refine bodyPost_ret (v:= .tuple #[.agg (Afg 0 0 0 0),Aa Ab (Iv y)]) (by simp [results,results43,go_sem,z,B,C,D]) rfl ⟨Mo d.o a.o,?_⟩;exact(((i.o.setCell (Ae _) _).setCell (Ae _) _).setCell (Ae _) _).setCell (Ae _) _
end Go.Proofs.YtejpbijeifjdeaaGreat
namespace Go.Acc
open Go.RowKit
section
variable {P:Program} {mt kt et:TypeId}
theorem Qc(hu:P.underlying mt=some (.map kt et))(hk:P.underlying kt=some (.int .i64))(W:World)(es:Array MapEntry)(c g:Nat)(x:Int)(v:Value)(hg:g=W.heap.size)
  (hn:Instr.findNow (.int .i64) (Aa Ab x) es.toList 0=some none):
  (Ba mt (.map (some g)) (.int .i64 x) v).run P (W.alloc (.map es c))= .ok () (W.alloc (.map (es.push { key:= .int .i64 x,val:=v,born:=c}) (c+1))):=by
 subst hg;have a:(W.alloc (.map es c)).heap[W.heap.size]?=some (.map es c):=heap_alloc_new W _;have e:∀o o':Obj,(W.heap.push o).setIfInBounds W.heap.size o'=W.heap.push o':=by
  intro o o';apply Array.ext_getElem?;intro i;rw [Array.getElem?_setIfInBounds,Array.getElem?_push,Array.getElem?_push];by_cases h:W.heap.size=i
  ·subst h;simp
  ·rw [if_neg h,if_neg (fun e=>h e.symm)];rw [if_neg (fun e=>h e.symm)]
 have h1:(Instr.checkKey false 10000 kt (.int .i64 x)).run P (W.alloc (.map es c))= .ok () (W.alloc (.map es c)):=MapKept.run_checkKey (n:=9999) (k:= .int .i64 x) hk rfl false;have h2:(Instr.findKey kt (.int .i64 x) es.toList).run P (W.alloc (.map es c))= .ok none (W.alloc (.map es c)):=MapKept.run_findKey hk hn;have h3:=MapKept.run_setObj_map (P:=P) (.map (es.push { key:= .int .i64 x,val:=v,born:=c}) (c+1)) a;simp only [Ba,Sem.run_bind,run_underlying hu,Result.andThen_ok,MapKept.run_getObj_map a,h1,h2,h3];simp only [World.alloc,e]
theorem Oy(hu:P.underlying mt=some (.map kt et))(hk:P.underlying kt=some (.int .i64))(z:Value)(hz:∀W,(zeroValue et).run P W= .ok z W)(W:World)(es:Array MapEntry)(c g:Nat)(x:Int)(b:Bool)(r:Option (Nat×Value))
  (hb:W.heap[g]?=some (.map es c)) (hn:Instr.findNow (.int .i64) (Aa Ab x) es.toList 0=some r):
  (Instr.lookup mt (.map (some g)) (Aa Ab x) b).run P W= .ok (if b then .tuple #[(r.map (·.2)).getD z,.bool r.isSome] else(r.map (·.2)).getD z) W:=by
 have h1:(Instr.checkKey es.isEmpty 10000 kt (Aa Ab x)).run P W= .ok () W:=MapKept.run_checkKey (n:=9999) (k:= Aa Ab x) hk rfl _;have h2:(Instr.findKey kt (Aa Ab x) es.toList).run P W= .ok r W:=MapKept.run_findKey hk hn;cases r with
 |none=>
  simp only [Instr.lookup,Sem.run_bind,run_underlying hu,Result.andThen_ok,MapKept.run_getObj_map hb,h1,h2,hz,Sem.run_pure];rfl
 |some p=>
  obtain⟨i,u⟩:=p;simp only [Instr.lookup,Sem.run_bind,run_underlying hu,Result.andThen_ok,MapKept.run_getObj_map hb,h1,h2,Sem.run_pure];rfl
end
end Go.Acc
namespace Go.Proofs.YtejpbijeifjdeaaGreat
open Go.RowKit Go.Acc
variable {l:List UInt8}{x y:UInt8}{M:Bp}{fl:Int}{w w':World}{o:Nat→Nat}{b:Bd}{v:Bv}{vb:Nat}
def fM:Array MapEntry:=#[⟨Aa Ab 0,.func (.func 305) #[] #[],0⟩,⟨Aa Ab 26,.func (.func 306) #[] #[],1⟩,⟨Aa Ab 1,.func (.func 308) #[] #[],2⟩,⟨Aa Ab 6,.func (.func 308) #[] #[],3⟩,⟨Aa Ab 2,.func (.func 307) #[] #[],4⟩,⟨Aa Ab 7,.func (.func 307) #[] #[],5⟩]
def kP(t:Int):Option Value:=if t=0 then some (.func (.func 305) #[] #[]) else if t=26 then some (.func (.func 306) #[] #[]) else if t=1∨t=6 then some (.func (.func 308) #[] #[]) else if t=2∨t=7 then some (.func (.func 307) #[] #[]) else none
theorem Abj(t:Int):∃r,Instr.findNow (.int .i64) (Aa Ab t) fM.toList 0=some r∧r.map (·.2)=kP t:=by
 by_cases h0:t=0
 ·subst h0;exact⟨_,rfl,rfl⟩
 by_cases h1:t=26
 ·subst h1;exact⟨_,rfl,rfl⟩
 by_cases h2:t=1
 ·subst h2;exact⟨_,rfl,rfl⟩
 by_cases h3:t=6
 ·subst h3;exact⟨_,rfl,rfl⟩
 by_cases a:t=2
 ·subst a;exact⟨_,rfl,rfl⟩
 by_cases b:t=7
 ·subst b;exact⟨_,rfl,rfl⟩
 refine⟨none,?_,?_⟩
 ·have c:(t==0)=false:=by simpa using h0
  have d:(t==26)=false:=by simpa using h1
  have e:(t==1)=false:=by simpa using h2
  have f:(t==6)=false:=by simpa using h3
  have g:(t==2)=false:=by simpa using a
  have h:(t==7)=false:=by simpa using b
  simp only [fM,Instr.findNow,Instr.sameNow,if_true,c,d,e,f,g,h]
 ·simp [kP,h0,h1,h2,h3,a,b]
def RdW(w:World)(e:Ending)(w':World):Prop:=∃g,e= .returned (.map (some g))∧w'.heap[g]?=some (.map fM 6)∧Below w.heap.size w w'
theorem fN(w:World):Calls Ad 250 #[] w (RdW w):=by
 have h0:=run_makeMap (P:=Ad) 276;have h1:∀(W:World) (es:Array MapEntry) (c:Nat) (x:Int) (v:Value),Instr.findNow (.int .i64) (.int .i64 x) es.toList 0=some none→(Ba 276 (.map (some W.heap.size)) (.int .i64 x) v).run Ad (W.alloc (.map es c))= .ok () (W.alloc (.map (es.push { key:= .int .i64 x,val:=v,born:=c}) (c+1))):=
  fun W es c x v h=>Qc underlying276 underlying3 W es c _ x v rfl h
 have a:∀W:World,(Ba 276 (.map (some W.heap.size)) (.int .i64 0) (.func (.func 305) #[] #[])).run Ad (W.alloc (.map #[] 0))= .ok () (W.alloc (.map #[⟨.int .i64 0,.func (.func 305) #[] #[],0⟩] 1)):=fun W=>h1 W #[] 0 0 _ rfl
 have b:∀W:World,(Ba 276 (.map (some W.heap.size)) (.int .i64 26) (.func (.func 306) #[] #[])).run Ad (W.alloc (.map #[⟨.int .i64 0,.func (.func 305) #[] #[],0⟩] 1))= .ok () (W.alloc (.map #[⟨.int .i64 0,.func (.func 305) #[] #[],0⟩,⟨.int .i64 26,.func (.func 306) #[] #[],1⟩] 2)):=fun W=>h1 W #[⟨.int .i64 0,.func (.func 305) #[] #[],0⟩] 1 26 _ rfl
 have d:∀W:World,(Ba 276 (.map (some W.heap.size)) (.int .i64 1) (.func (.func 308) #[] #[])).run Ad (W.alloc (.map #[⟨.int .i64 0,.func (.func 305) #[] #[],0⟩,⟨.int .i64 26,.func (.func 306) #[] #[],1⟩] 2))= .ok () (W.alloc (.map #[⟨.int .i64 0,.func (.func 305) #[] #[],0⟩,⟨.int .i64 26,.func (.func 306) #[] #[],1⟩,⟨.int .i64 1,.func (.func 308) #[] #[],2⟩] 3)):=fun W=>h1 W #[⟨.int .i64 0,.func (.func 305) #[] #[],0⟩,⟨.int .i64 26,.func (.func 306) #[] #[],1⟩] 2 1 _ rfl
 have e:∀W:World,(Ba 276 (.map (some W.heap.size)) (.int .i64 6) (.func (.func 308) #[] #[])).run Ad (W.alloc (.map #[⟨.int .i64 0,.func (.func 305) #[] #[],0⟩,⟨.int .i64 26,.func (.func 306) #[] #[],1⟩,⟨.int .i64 1,.func (.func 308) #[] #[],2⟩] 3))= .ok () (W.alloc (.map #[⟨.int .i64 0,.func (.func 305) #[] #[],0⟩,⟨.int .i64 26,.func (.func 306) #[] #[],1⟩,⟨.int .i64 1,.func (.func 308) #[] #[],2⟩,⟨.int .i64 6,.func (.func 308) #[] #[],3⟩] 4)):=fun W=>h1 W #[⟨.int .i64 0,.func (.func 305) #[] #[],0⟩,⟨.int .i64 26,.func (.func 306) #[] #[],1⟩,⟨.int .i64 1,.func (.func 308) #[] #[],2⟩] 3 6 _ rfl
 have f:∀W:World,(Ba 276 (.map (some W.heap.size)) (.int .i64 2) (.func (.func 307) #[] #[])).run Ad (W.alloc (.map #[⟨.int .i64 0,.func (.func 305) #[] #[],0⟩,⟨.int .i64 26,.func (.func 306) #[] #[],1⟩,⟨.int .i64 1,.func (.func 308) #[] #[],2⟩,⟨.int .i64 6,.func (.func 308) #[] #[],3⟩] 4))= .ok () (W.alloc (.map #[⟨.int .i64 0,.func (.func 305) #[] #[],0⟩,⟨.int .i64 26,.func (.func 306) #[] #[],1⟩,⟨.int .i64 1,.func (.func 308) #[] #[],2⟩,⟨.int .i64 6,.func (.func 308) #[] #[],3⟩,⟨.int .i64 2,.func (.func 307) #[] #[],4⟩] 5)):=fun W=>h1 W #[⟨.int .i64 0,.func (.func 305) #[] #[],0⟩,⟨.int .i64 26,.func (.func 306) #[] #[],1⟩,⟨.int .i64 1,.func (.func 308) #[] #[],2⟩,⟨.int .i64 6,.func (.func 308) #[] #[],3⟩] 4 2 _ rfl
 have g:∀W:World,(Ba 276 (.map (some W.heap.size)) (.int .i64 7) (.func (.func 307) #[] #[])).run Ad (W.alloc (.map #[⟨.int .i64 0,.func (.func 305) #[] #[],0⟩,⟨.int .i64 26,.func (.func 306) #[] #[],1⟩,⟨.int .i64 1,.func (.func 308) #[] #[],2⟩,⟨.int .i64 6,.func (.func 308) #[] #[],3⟩,⟨.int .i64 2,.func (.func 307) #[] #[],4⟩] 5))= .ok () (W.alloc (.map #[⟨.int .i64 0,.func (.func 305) #[] #[],0⟩,⟨.int .i64 26,.func (.func 306) #[] #[],1⟩,⟨.int .i64 1,.func (.func 308) #[] #[],2⟩,⟨.int .i64 6,.func (.func 308) #[] #[],3⟩,⟨.int .i64 2,.func (.func 307) #[] #[],4⟩,⟨.int .i64 7,.func (.func 307) #[] #[],5⟩] 6)):=fun W=>h1 W #[⟨.int .i64 0,.func (.func 305) #[] #[],0⟩,⟨.int .i64 26,.func (.func 306) #[] #[],1⟩,⟨.int .i64 1,.func (.func 308) #[] #[],2⟩,⟨.int .i64 6,.func (.func 308) #[] #[],3⟩,⟨.int .i64 2,.func (.func 307) #[] #[],4⟩] 5 7 _ rfl
 clear h1;go_enter func250,ntmps250;go_wp2;go_ret;exact⟨_,rfl,heap_alloc_new w _,(Af _ _).alloc (Ae _) _⟩
def Yi:Array MapEntry:=#[⟨Aa Ab 1,Aa Ab 0,0⟩,⟨Aa Ab 2,Aa Ab 1,1⟩,⟨Aa Ab 4,Aa Ab 2,2⟩,⟨Aa Ab 8,Aa Ab 3,3⟩]
theorem Abf{y:Nat}(h:Bz (y:Int)=true):∃i,Instr.findNow (.int .i64) (Aa Ab (y:Int)) Yi.toList 0=some (some (i,Aa Ab (bCode y:Int))):=by
 rcases D4 h with rfl|rfl|rfl|rfl <;>exact⟨_,rfl⟩
theorem Tb(t y:Nat)(w:World)(ht:Cb (t:Int)=true)(hy:Bz (y:Int)=true):
  Calls Ad 136 #[Aa Ab (t:Int),Aa Ab (y:Int)] w (Afc (.tuple #[.int .u8 ((An (4*t+bCode y)).toNat:Int),Aa Ab 0]) w):=by
 have h0:=run_makeMap (P:=Ad) 184;have h1:∀(W:World) (es:Array MapEntry) (c:Nat) (x:Int) (v:Value),Instr.findNow (.int .i64) (.int .i64 x) es.toList 0=some none→(Ba 184 (.map (some W.heap.size)) (.int .i64 x) v).run Ad (W.alloc (.map es c))= .ok () (W.alloc (.map (es.push { key:= .int .i64 x,val:=v,born:=c}) (c+1))):=
  fun W es c x v h=>Qc underlying184 underlying3 W es c _ x v rfl h
 have q:∀W:World,(Ba 184 (.map (some W.heap.size)) (.int .i64 1) (.int .i64 0)).run Ad (W.alloc (.map #[] 0))= .ok () (W.alloc (.map #[⟨.int .i64 1,.int .i64 0,0⟩] 1)):=fun W=>h1 W #[] 0 1 _ rfl
 have r:∀W:World,(Ba 184 (.map (some W.heap.size)) (.int .i64 2) (.int .i64 1)).run Ad (W.alloc (.map #[⟨.int .i64 1,.int .i64 0,0⟩] 1))= .ok () (W.alloc (.map #[⟨.int .i64 1,.int .i64 0,0⟩,⟨.int .i64 2,.int .i64 1,1⟩] 2)):=fun W=>h1 W _ 1 2 _ rfl
 have s:∀W:World,(Ba 184 (.map (some W.heap.size)) (.int .i64 4) (.int .i64 2)).run Ad (W.alloc (.map #[⟨.int .i64 1,.int .i64 0,0⟩,⟨.int .i64 2,.int .i64 1,1⟩] 2))= .ok () (W.alloc (.map #[⟨.int .i64 1,.int .i64 0,0⟩,⟨.int .i64 2,.int .i64 1,1⟩,⟨.int .i64 4,.int .i64 2,2⟩] 3)):=fun W=>h1 W _ 2 4 _ rfl
 have u:∀W:World,(Ba 184 (.map (some W.heap.size)) (.int .i64 8) (.int .i64 3)).run Ad (W.alloc (.map #[⟨.int .i64 1,.int .i64 0,0⟩,⟨.int .i64 2,.int .i64 1,1⟩,⟨.int .i64 4,.int .i64 2,2⟩] 3))= .ok () (W.alloc (.map Yi 4)):=fun W=>h1 W _ 3 8 _ rfl
 obtain⟨i,f⟩:=Abf hy;have m:∀W:World,(Instr.lookup 184 (.map (some W.heap.size)) (Aa Ab (y:Int)) true).run Ad (W.alloc (.map Yi 4))= .ok (.tuple #[Aa Ab (bCode y:Int),.bool true]) (W.alloc (.map Yi 4)):=fun W=>Oy underlying184 underlying3 (Aa Ab 0) (fun W=>zeroValue3 W) (W.alloc (.map Yi 4)) Yi 4 W.heap.size y true _ (heap_alloc_new W _) f
 have k:=Hd ht;have g:t≤36:=by have:=Hg.1 (Ic ht);omega
 obtain⟨c,a⟩:∃c,bCode y=c:=⟨_,rfl⟩;have l:c≤3:=by rw [←a];unfold bCode;(repeat' split) <;>omega
 rw [a] at m⊢;have j:=Hd (show(4*(t:Int)+c)=((An (4*t+c)).toNat:Int) by
  rw [UInt8.toNat_ofNat'];show(4*(t:Int)+c)=(((4*t+c) % 256:Nat):Int);omega)
 have n:IntKind.i64.wrap (4*(t:Int))=4*(t:Int):=by rw [IntKind.wrap_i64];omega
 have p:IntKind.i64.wrap (4*(t:Int)+c)=4*(t:Int)+c:=by rw [IntKind.wrap_i64];omega
 clear h1 f hy ht a;go_enter func136,ntmps136;go_wp2_with fail;go_at_call 86;refine(Gd (t:Int) _).mono ?_;rw [k.o];rintro e z ⟨rfl,d⟩;have b:=Hd d;clear d;go_wp2_with fail;go_ret2;exact⟨tL j.o,b.o.alloc b.o.size _⟩
theorem wC(x:Int)(h:BM M fl w o b):Calls Ad 131 #[Afh M.β,Aa Ab x] w fun e w'=>e= .returned (.tuple #[])∧To (fun i=>i=2) w o w' o:=by
 have a:=Hd h.head.own;obtain⟨c,d,f,g,j⟩:=h.head.cells;clear h;go_enter func131,ntmps131;go_wp2;go_end0;refine⟨rfl,To.of_fr0 (Fr.setCell (S:=fun k=>k=M.β) (Fr.refl _ w) (fun _=>rfl) _) ?_⟩;rintro k _ rfl;exact a.o
structure lS(l:List UInt8)(v:Bv)(y:Nat):Prop where
 legal:Cb v.t=true
 own:Bz (v.w:Int)=true
 ly:leastW (Dt v l.length 0)=y
 w:Bz (y:Int)=true
 fit:Fb y (Da y (Bm y l).length v)=true
 lt:((Da y (Bm y l).length v:Nat):Int)<18446744073709551616
 le:inl v.t=false→v.n≤(Bm y l).length
 len:l.length+20≤1048576
def Aev(w:World)(o:Nat→Nat)(m:List UInt8)(e:Ending)(w':World):Prop:=
 ∃A n c,e= .returned (.tuple #[.slice A n c,Aa Ab 0])∧I5 w' w.heap.size A n c m∧∃o',To Dd w o w' o'
theorem Adh(v:Bv)(a y:Nat)(w:World)(ha2:a≤1048576)(hy:leastW (Dt v a 0)=y):
  Calls Ad 132 #[.agg #[Aa Ab (v.t:Int),Aa Ab (v.w:Int),Aa Ac (v.n:Int)],Aa Ab (a:Int),Aa Ab 0] w (Afc (Aa Ab (y:Int)) w):=by
 subst hy;exact xD v a 0 w ha2 (by omega)
theorem uH(W:World)(t:UInt8)(y:Nat)(hy:y≤8):Cv (W.alloc (.cells #[.int .u8 (t.toNat:Int),.int .u8 (y:Int)] 5)) (some ⟨W.heap.size,0,none⟩) 2 [t,An y]:=by
 refine⟨rfl,fun j u hu=>⟨_,_,rfl,?_⟩⟩;rw [Av,(Bk.new W _ _).cell j];have e:((An y).toNat:Int)=y:=by rw [UInt8.toNat_ofNat'];omega
 have a: [Value.int .u8 (t.toNat:Int),.int .u8 ((An y).toNat:Int)][j]?=some u:=hu;rw [e] at a;simpa using a
theorem P8(W:World)(s:List UInt8):Fs (W.alloc (.cells #[.string ⟨s.toArray⟩] 9)) (some ⟨W.heap.size,0,none⟩) 1 [s]:=by
 refine⟨rfl,fun j u hu=>⟨_,_,rfl,?_⟩⟩;rw [Av,(Bk.new W _ _).cell j];simpa [Ke] using hu
structure Kh(M:Bp)(fl:Int)(b:Bd)(v:Bv)(vb:Nat)(w:World)(o:Nat→Nat):Prop where
 m:BM M fl w o b
 x:Bk w vb 169 #[Aa Ab (v.t:Int),Aa Ab (v.w:Int),Aa Ac (v.n:Int)]
 ox:o vb=0
theorem Kh.pure(h:Kh M fl b v vb w o)(hb:Below w.heap.size w w'):Kh M fl b v vb w' o:=⟨h.m.pure hb,h.x.pure hb,h.ox⟩
theorem Kh.fresh(h:Kh M fl b v vb w o)(hb:Below w.heap.size w w'):Kh M fl b v vb w' (Br o w.heap.size 0):=⟨h.m.fresh hb 0,h.x.pure hb,by rw [B4 h.x.lt];exact h.ox⟩
theorem Kh.drew(h:Kh M fl b v vb w o):Kh M fl b v vb w.drew o:=h.pure (Af _ _).drew
theorem Kh.buf_{o':Nat→Nat}(h:Kh M fl b v vb w o)(ht:To (fun i=>i=1) w o w' o')(hb:Dm w' o' M.bb l):Kh M fl { b with b:=l} v vb w' o':=
 ⟨h.m.buf_ ht hb,h.x.to_ ht (by rw [h.ox];omega),by rw [ht.ow _ h.x.lt];exact h.ox⟩
theorem Kh.cells(h:Kh M fl b v vb w o):
  w.cell? ⟨vb,0,none⟩=some (Aa Ab (v.t:Int))∧w.cell? ⟨vb,1,none⟩=some (Aa Ab (v.w:Int))∧w.cell? ⟨vb,2,none⟩=some (Aa Ac (v.n:Int))∧w.cell? ⟨M.β,0,none⟩=some (Afh M.bb):=
 ⟨h.x.cell 0,h.x.cell 1,h.x.cell 2,h.m.head.cells.1⟩
theorem iP(M:Bp)(fl:Int)(b:Bd)(v:Bv)(y:Nat)(w:World)(o:Nat→Nat)(h:BM M fl w o b)(hs:b.s=[v])(hf:lS b.b v y):
  Calls Ad 71 #[Afh M.β] w (Aev w o (Bm y b.b++Bn y (Da y (Bm y b.b).length v)++ [Dl y v,An y])):=by
 have HM:=Hd h;have z:=Hd hf;have HS:=Hd hs;obtain⟨b0,b1,b2,b9,f2⟩:=h.head.cells;have HK:=Hd (show(0:Nat)≤b.s.length from Ak _);obtain⟨a,ha⟩:∃a,b.b.length=a:=⟨_,rfl⟩;have HA:=Hd ha;have bi:=Hd (show a≤1048576 by have:=hf.len;omega);have bn:=Hd (show leastW (Dt v a 0)=y by rw [←ha];exact hf.ly);have ao:=Hd (show b.b.length+7≤1048576 by have:=hf.len;omega);clear h hs hf f2 ha;go_enter func71,ntmps71;go_wp2_with (go_at_call 129;refine(Qr M.β _ (by assumption)).mono ?_;rintro e w' ⟨rfl,rfl⟩);refine(fR M.sb 0 b.s _ o HM.o.stk HK.o).mono ?_;rw [List.drop_zero,HS.o];rintro e p ⟨A,n,c,rfl,hO,hB⟩;have hn:n=1:=by rw [←hO.1];rfl
 have am:=Hd (show Fh p A 1 [vv v] by have h:=hO.is;rw [hn] at h;exact h);have P:=Hd (HM.o.pure hB);obtain⟨d0,d1,d2,d9,f2⟩:=P.o.head.cells;have ak:=Hd hB;subst hn;obtain⟨g,ai,rfl,hk,h0,h1,h2⟩:=rU am.o (Nat.zero_lt_one);simp only [Nat.zero_mul,Nat.add_zero] at h0 h1 h2;have v0:p.cell? ⟨g,ai,none⟩=some (Aa Ab (v.t:Int)):=h0;have v1:p.cell? ⟨g,ai+1,none⟩=some (Aa Ab (v.w:Int)):=h1;have v2:p.cell? ⟨g,ai+2,none⟩=some (Aa Ac (v.n:Int)):=h2;clear hO hB b0 b1 b2 b9 f2 d9 h0 h1 h2 hk;have V:Below p.heap.size p (p.alloc (.cells #[Aa Ab (v.t:Int),Aa Ab (v.w:Int),Aa Ac (v.n:Int)] 169)):=(Af _ _).alloc (Ae _) _;have l:=Hd (show Kh M fl b v p.heap.size (p.alloc (.cells #[Aa Ab (v.t:Int),Aa Ab (v.w:Int),Aa Ac (v.n:Int)] 169)) (Br o p.heap.size 0) from⟨P.o.fresh V 0,Bk.new _ _ _,Bt (Ae _)⟩);have R:=Hd (show To Dd w o (p.alloc (.cells #[Aa Ab (v.t:Int),Aa Ab (v.w:Int),Aa Ac (v.n:Int)] 169)) (Br o p.heap.size 0) from To.from_pure ak.o (To.fresh _ V o 0));clear V;go_upto_region 9 with fail
 generalize p.alloc (.cells #[Aa Ab (v.t:Int),Aa Ab (v.w:Int),Aa Ac (v.n:Int)] 169)=W2 at l R⊢;generalize Br o p.heap.size 0=o2 at l R;have cr:=Hd ak.o.size;generalize p.heap.size=vb at l⊢;clear am P d0 d1 d2 v0 v1 v2;obtain⟨i,j,k,d⟩:=l.o.cells;go_region_held3 (fun w'=>w'.cell? ⟨vb,0,none⟩=some (Aa Ab (v.t:Int))∧w'.cell? ⟨vb,1,none⟩=some (Aa Ab (v.w:Int))∧w'.cell? ⟨vb,2,none⟩=some (Aa Ac (v.n:Int))∧w'.cell? ⟨M.β,0,none⟩=some (Afh M.bb)) (first|with_reducible exact⟨i,j,k,d⟩|with_reducible exact⟨Bj i,Bj j,Bj k,Bj d⟩|with_reducible exact⟨D9 _ i,D9 _ j,D9 _ k,D9 _ d⟩|with_reducible exact⟨y0,y1,y2,y3⟩) (first|(go_at_call 133;(with_reducible refine(Ea a l.o.drew.m.buf HA.o).mono ?_);rintro e w' ⟨rfl,rfl⟩)|(go_at_call 132;(with_reducible refine(Adh v a y _ bi.o bn.o).mono ?_);rintro e W3 ⟨rfl,r⟩;have S:=Hd (l.o.drew.pure r);obtain⟨y0,y1,y2,y3⟩:=S.o.cells;have bu:=Hd (R.o.trans (To.pure Dd r o2).from_drew);clear r));clear i j k d l;go_wp2_with fail;go_at_call 134;refine(Ik M.bb y b.b _ o2 S.o.m.buf z.o.w ao.o).mono ?_;rintro e W4 ⟨rfl,o4,a3,Z⟩;have az:=Hd (S.o.buf_ Z a3);have bv:=Hd (bu.o.trans (Z.mono fun _ h=>Jj h));obtain⟨i,j,k,d⟩:=az.o.cells;clear a3 Z y0 y1 y2 y3;go_wp2_with fail;go_at_call 78;refine(Cz (v.t:Int) _).mono ?_;obtain⟨iv,ab⟩:∃x,Bq (v.t:Int)=x:=⟨_,rfl⟩;have an:=Hd ab;rw [ab];clear ab;rintro e W5 ⟨rfl,r⟩;have T:=Hd (az.o.pure r);have bw:=Hd (bv.o.trans (To.pure Dd r o4));clear r i j k d;obtain⟨i,j,k,d⟩:=T.o.cells;obtain⟨m,hm⟩:∃m,(Bm y b.b).length=m:=⟨_,rfl⟩;have H:=Hd hm;obtain⟨q,hq⟩:∃q,Da y m v=q:=⟨_,rfl⟩;have HQ:=Hd hq;have bj:=Hd (show Fb y q=true by rw [←hq,←hm];exact z.o.fit);have bm:=Hd (show(q:Int)<18446744073709551616 by rw [←hq,←hm];exact z.o.lt);clear hm hq;obtain⟨ow,a7⟩:∃x,(if inl v.t=true then y else v.w)=x:=⟨_,rfl⟩;have I:=Hd a7;clear a7;go_upto_if 65 with fail
 go_cut [8,9] (fun u8 u9 wx=>∃wy,wy=wx∧u8= Aa Ab (ow:Int)∧u9= Aa Ac (q:Int)∧Below W5.heap.size W5 wx)
 case first=>
  cases iv with
  |true=>
   have u:inl v.t=true:=an.o;have bs:=Hd (show v.n % 2^(8*y)=q by rw [←HQ.o];unfold Da;rw [if_pos u]);have Q:=Hd (show ow=y by rw [←I.o,if_pos u]);clear u;go_wp2_with (go_at_call 135;(refine(sK v.n y q _ z.o.w bs.o).mono ?_);rintro e w' ⟨rfl,rfl⟩);go_meet;exact⟨_,rfl,by rw [Q.o],rfl,Af _ _⟩
  |false=>
   have u:inl v.t=false:=an.o;have ae:¬inl v.t=true:=by rw [u];decide
   have c4:v.n≤m:=by rw [←H.o];exact z.o.le u
   have c5:m≤1048576:=by
    have h1:=D2 b.b (show y≤8 by have h2:=D4 z.o.w;omega);have h2:=ao.o;have h3:=H.o;omega
   have cd:m-v.n=q:=by rw [←HQ.o];unfold Da;rw [if_neg ae]
   have Q:=Hd (show ow=v.w by rw [←I.o,if_neg ae]);have e1:IntKind.u64.wrap (m:Int)=m:=De _ (by omega);have e2:(m:Int)-(v.n:Int)=q:=by omega
   have e3:IntKind.u64.wrap (q:Int)=q:=De _ (by omega);clear u ae cd;go_wp2_with fail;go_region_held3 (fun w'=>w'.cell? ⟨vb,0,none⟩=some (Aa Ab (v.t:Int))∧w'.cell? ⟨vb,1,none⟩=some (Aa Ab (v.w:Int))∧w'.cell? ⟨vb,2,none⟩=some (Aa Ac (v.n:Int))∧w'.cell? ⟨M.β,0,none⟩=some (Afh M.bb)) (first|with_reducible exact⟨i,j,k,d⟩|with_reducible exact⟨Bj i,Bj j,Bj k,Bj d⟩|with_reducible exact⟨D9 _ i,D9 _ j,D9 _ k,D9 _ d⟩|with_reducible exact⟨y0,y1,y2,y3⟩) (first|(go_at_call 133;(with_reducible refine(Ea m T.o.drew.m.buf H.o).mono ?_);rintro e w' ⟨rfl,rfl⟩));go_wp2_with fail;go_meet;exact⟨_,rfl,by rw [Q.o],rfl,(Af _ _).drew⟩
 case rest=>
 obtain⟨w6,rfl,rfl,rfl,r⟩:=hcut;have a0:=Hd (T.o.pure r);have bx:=Hd (bw.o.trans (To.pure Dd r o4));clear r i j k d;obtain⟨i,j,k,d⟩:=a0.o.cells;have bq:=Hd (show Bz (ow:Int)=true by rw [←I.o];split;exact z.o.w;exact z.o.own);obtain⟨tb,ag⟩:∃x,An (4*v.t+bCode ow)=x:=⟨_,rfl⟩;have b5:=Hd ag;have af:=Tb v.t ow w6 z.o.legal bq.o;rw [ag] at af;have bp:=Hd af;clear ag af;go_wp2_with fail;go_at_call 136;refine bp.o.mono ?_;rintro e W7 ⟨rfl,r⟩;have U:=Hd (a0.o.pure r);have bz:=Hd (bx.o.trans (To.pure Dd r o4));clear r i j k d;obtain⟨i,j,k,d⟩:=U.o.cells;have bl:=Hd (show(Bm y b.b).length+y≤1048576 by
  have h2:=D4 z.o.w;have h1:=D2 b.b (show y≤8 by omega);have h3:=z.o.len;omega)
 go_wp2_with fail;go_at_call 137;refine(Fl M.bb y q (Bm y b.b) _ o4 U.o.m.buf z.o.w bj.o bm.o bl.o).mono ?_;rintro e B ⟨rfl,o8,a4,aa⟩;have a1:=Hd (U.o.buf_ aa a4);have b3:=Hd (bz.o.trans (aa.mono fun _ h=>Jj h));clear a4 aa i j k d;obtain⟨i,j,k,d⟩:=a1.o.cells;go_upto_region 17 with fail
 have a8:y≤8:=by have h2:=D4 z.o.w;omega
 have e8:IntKind.u8.wrap (y:Int)=y:=by show(y:Int) % 256=y;omega
 have X:=uH B tb y a8;have a5:=Lb (c:=2) X;have a6:=Lb (c:=2) (w:=(B.alloc (.cells #[.int .u8 (tb.toNat:Int),.int .u8 (y:Int)] 5)).drew) X;have W:Below B.heap.size B (((B.alloc (.cells #[.int .u8 (tb.toNat:Int),.int .u8 (y:Int)] 5)).alloc (.cells #[.string ⟨[tb,An y].toArray⟩] 9))).drew:=(Bu _ _ _).drew;have a2:=Hd (a1.o.fresh W);have b4:=Hd (b3.o.trans (To.fresh Dd W o8 0));have Y:=P8 (B.alloc (.cells #[.int .u8 (tb.toNat:Int),.int .u8 (y:Int)] 5)) [tb,An y];have eS:(B.alloc (.cells #[.int .u8 (tb.toNat:Int),.int .u8 (y:Int)] 5)).heap.size=B.heap.size+1:=by simp
 rw [eS] at Y;have bt:=Hd (show Fs (((B.alloc (.cells #[.int .u8 (tb.toNat:Int),.int .u8 (y:Int)] 5)).alloc (.cells #[.string ⟨[tb,An y].toArray⟩] 9))).drew (some ⟨B.heap.size+1,0,none⟩) 1 [[tb,An y]] from Y);have bo:=Hd (show ∀ad,(some ⟨B.heap.size+1,0,none⟩:Option Addr)=some ad→Br o8 B.heap.size 0 ad.block≠1 from fun ad h=>by injection h with h;subst h;rw [Bt (by show B.heap.size≤B.heap.size+1;omega)];omega);have ap:=Hd (show(Bm y b.b++Bn y q).length+ [[tb,An y]].flatten.length≤1048576 by
  have h1:=D2 b.b a8;have h3:=z.o.len;rw [Ah,Bo];show _+2≤_;omega)
 have n0:=Nat.ne_of_lt (B3 i);have n3:=Nat.ne_of_lt (B3 d);simp only at n0 n3;clear X W Y eS;have z3:=Bs (.cells #[.int .u8 (tb.toNat:Int),.int .u8 (y:Int)] 5) d;have z4:=Bs (.cells #[.string ⟨[tb,An y].toArray⟩] 9) z3;go_region_with (first|(go_at_call 138;(with_reducible refine(Hx M.bb 1 _ _ [[tb,An y]] (Bm y b.b++Bn y q) _ _ a2.o.m.buf bt.o bo.o ap.o (by omega)).mono ?_);rintro e b6 ⟨rfl,ah,N,F⟩;have f:=Hd (a2.o.buf_ F N);have L:=Hd (b4.o.trans (F.mono fun _ h=>Jj h));clear N F))
 all_goals
  have f:=f;clear z3 z4 a5 a6 n0 n3;obtain⟨y0,y1,y2,y3⟩:=f.o.cells;have bk:=Hd (show(Bm y b.b++Bn y q++ [[tb,An y]].flatten).length≤1048576 by have:=ap.o;rw [Ah];omega);go_wp2_with fail;go_at_call 139;refine(gY M.bb _ _ ah f.o.m.buf bk.o).mono ?_;rintro e cs ⟨aj,ce,b7,rfl,E,D⟩;have ax:=Hd (f.o.m.fresh D 0);have au:=Hd (L.o.trans (To.fresh Dd D ah 0));have K:=Hd E;have J:=Hd (show Of (Br ah b6.heap.size 0) aj 0 from fun ad h=>Bt (E.addr ad h).2.1);clear y0 y1 y2 y3 E D;go_wp2_with fail;go_at_call 131;refine(Iq ax.o).mono ?_;rintro e ct ⟨rfl,cf,O,C⟩;have ay:=Hd O;have av:=Hd (au.o.trans C);have aq:=Hd (K.o.to_ J.o C Cl);have al:=Hd (J.o.to_ K.o C);clear O C;go_wp2_with fail;go_at_call 131;refine(wC 140 ay.o).mono ?_;rintro e cu ⟨rfl,G⟩;have aw:=Hd (av.o.trans (G.mono fun _ h=>by subst h;exact⟨by omega,by omega⟩));have ar:=Hd (aq.o.to_ al.o G (by omega));clear G;go_wp2_with fail;go_ret2;refine⟨aj,ce,b7,rfl,?_,cf,aw.o⟩;have h:=ar.o.rebase (B':=w.heap.size) L.o.size;have e:Dl y v=tb:=by unfold Dl;rw [I.o,b5.o]
  rw [H.o,HQ.o,e];exact h
theorem Te(w:World):
  Calls Ad 107 #[] w fun e w'=>∃b,e= .returned (Afh b)∧Bk w' b 220 #[.slice none 0 0,.slice none 0 0,.bool true]∧w.heap.size≤b∧Below w.heap.size w w':=by
 go_enter func107,ntmps107;go_wp2;go_ret;exact⟨_,rfl,Bk.new w _ _,Ae _,(Af _ _).alloc (Ae _) _⟩
theorem Abu(w:World):
  Calls Ad 106 #[] w fun e w'=>∃b,e= .returned (Afh b)∧Bk w' b 216 #[.slice none 0 0,.bool true]∧w.heap.size≤b∧Below w.heap.size w w':=by
 go_enter func106,ntmps106;go_wp2;go_ret;exact⟨_,rfl,Bk.new w _ _,Ae _,(Af _ _).alloc (Ae _) _⟩
def Ja(o:Nat→Nat)(N bb sb kb tb lb mb β:Nat):Nat→Nat:=fun k=>if k<N then o k else if k=bb then 1 else if k=sb then 3 else if k=kb then 4 else if k=tb then 5 else if k=lb then 6 else if k=mb then 7 else if k=β then 2 else 0
theorem Vp{i p:Nat}(h:Bk w p 220 #[.slice none 0 0,.slice none 0 0,.bool true])(ho:o p=i):Hn w o i p []:=
 ⟨none,none,0,0,0,[],[],h,Own.nil _ _,Own.nil _ _,Of.none_ _,Of.none_ _,ho,List.Pairwise.nil,fun _=>rfl,Ae _,fun a h=>by cases h⟩
theorem qG(fl:Int)(w:World)(o:Nat→Nat):
  Calls Ad 69 #[Aa Ab fl,Aa Ab 1048576] w fun e w'=>∃M o',e= .returned (Afh M.β)∧BM M fl w' o' Bd.new∧To (fun _=>False) w o w' o':=by
 have h0:=run_makeMap (P:=Ad) 143;go_enter func69,ntmps69;go_wp2_with fail;go_at_call 105;refine(pV _).mono ?_;rintro e Z ⟨c,rfl,l,u,b⟩;have HB:=Hd b;have i:=Hd l;have E:=Hd (And.intro u l.lt);clear b l u;go_wp2_with fail;go_at_call 106;refine(Abu _).mono ?_;rintro e w2 ⟨f,rfl,m,v,b⟩;replace HB:=Hd (Bi HB.o b);have j:=Hd m;replace i:=Hd (i.o.pure b);have F:=Hd (And.intro v m.lt);clear b m v;go_wp2_with fail;go_at_call 107;refine(Te _).mono ?_;rintro e w3 ⟨d,rfl,n,x,b⟩;replace HB:=Hd (Bi HB.o b);have t:=Hd n;replace i:=Hd (i.o.pure b);replace j:=Hd (j.o.pure b);have G:=Hd (And.intro x n.lt);clear b n x;go_wp2_with fail;go_at_call 107;refine(Te _).mono ?_;rintro e w4 ⟨g,rfl,p,y,b⟩;replace HB:=Hd (Bi HB.o b);have A:=Hd p;replace i:=Hd (i.o.pure b);replace j:=Hd (j.o.pure b);replace t:=Hd (t.o.pure b);have I:=Hd (And.intro y p.lt);clear b p y;go_wp2_with fail;go_at_call 107;refine(Te _).mono ?_;rintro e r ⟨lb,rfl,q,z,b⟩;replace HB:=Hd (Bi HB.o b);have D:=Hd q;replace i:=Hd (i.o.pure b);replace j:=Hd (j.o.pure b);replace t:=Hd (t.o.pure b);replace A:=Hd (A.o.pure b);have J:=Hd (And.intro z q.lt);clear b q z;go_wp2_with fail;go_ret;have b:=Bu r (.map #[] 0) (.cells #[Afh c,Afh f,.int .i64 0,.int .i64 fl,Afh d,Afh g,Afh lb,.map (some r.heap.size),.slice none 0 0,.bool true] 148);have B:=World.ownsMap_made (H:=Unit) r Ad 26 (plainElem Ad 9);have C:=Db r (.map #[] 0) 148 #[Afh c,Afh f,.int .i64 0,.int .i64 fl,Afh d,Afh g,Afh lb,.map (some r.heap.size),.slice none 0 0,.bool true];have U:=E.o;have V:=F.o;have W:=G.o;have X:=I.o;have Y:=J.o;obtain⟨N,hN⟩:∃N,r.heap.size=N:=⟨_,rfl⟩;have K:Ja o w.heap.size c f d g lb N (N+1) c=1:=by unfold Ja;rw [if_neg (by omega),if_pos rfl]
 have L:Ja o w.heap.size c f d g lb N (N+1) f=3:=by unfold Ja;rw [if_neg (by omega),if_neg (by omega),if_pos rfl]
 have O:Ja o w.heap.size c f d g lb N (N+1) d=4:=by unfold Ja;rw [if_neg (by omega),if_neg (by omega),if_neg (by omega),if_pos rfl]
 have Q:Ja o w.heap.size c f d g lb N (N+1) g=5:=by unfold Ja;rw [if_neg (by omega),if_neg (by omega),if_neg (by omega),if_neg (by omega),if_pos rfl]
 have R:Ja o w.heap.size c f d g lb N (N+1) lb=6:=by unfold Ja;rw [if_neg (by omega),if_neg (by omega),if_neg (by omega),if_neg (by omega),if_neg (by omega),if_pos rfl]
 have S:Ja o w.heap.size c f d g lb N (N+1) N=7:=by unfold Ja;rw [if_neg (by omega),if_neg (by omega),if_neg (by omega),if_neg (by omega),if_neg (by omega),if_neg (by omega),if_pos rfl]
 have T:Ja o w.heap.size c f d g lb N (N+1) (N+1)=2:=by unfold Ja;rw [if_neg (by omega),if_neg (by omega),if_neg (by omega),if_neg (by omega),if_neg (by omega),if_neg (by omega),if_neg (by omega),if_pos rfl]
 rw [hN] at b B C⊢;refine⟨⟨N+1,c,f,d,g,lb,N⟩,Ja o w.heap.size c f d g lb N (N+1),rfl,⟨⟨none,0,0,C,Own.nil _ _,Of.none_ _,T⟩,⟨none,0,0,(i.o.alloc _).alloc _,Own.nil _ _,Of.none_ _,K⟩,⟨none,⟨none,0,0,(j.o.alloc _).alloc _,Own.nil _ _,rfl,by omega,Ak _⟩,L,fun k h=>by cases h⟩,
  Vp ((t.o.alloc _).alloc _) O,Vp ((A.o.alloc _).alloc _) Q,Vp ((D.o.alloc _).alloc _) R,S,0,.map [],B.alloc _,Ae _,fun a s h=>by cases h⟩,⟨Fr.of_below (Bi HB.o (by rw [hN];exact b)) _,fun k hk=>if_pos hk⟩⟩
theorem gS(k n:Int)(u:Nat)(s:List UInt8)(A:Option Addr)(an ac:Nat)(B:Option Addr)(bn bc:Nat)(w:World):
  Calls Ad 116 #[.agg (Aff k n u s A an ac B bn bc)] w (Afc (.bool (decide (n=1))) w):=by
 go_enter func116,ntmps116;go_wp2_with fail;go_ret;exact⟨rfl,(Af _ _).alloc (Ae _) _⟩
theorem nP(M:Bp)(fl:Int)(f:Nat)(b:Bd)(k n:Int)(u:Nat)(s:List UInt8)(A:Option Addr)(an ac:Nat)(B:Option Addr)(bn bc:Nat)(w:World)(o:Nat→Nat)(h:BM M fl w o b)(hs:b.s.length<65536)(hm:b.b.length+15≤1048576)
  (hn: -9223372036854775808≤n∧n≤9223372036854775807) (hu:u<18446744073709551616) (hk:k=1∨k=2∨k=3∨k=4∨k=8∨k=9):
  Calls Ad 128 #[Afh M.β,.agg (Aff k n u s A an ac B bn bc)] w (Dq M fl (b.leaf f k n u s) w o):=by
 have d:=Hd (show Below w.heap.size w (w.alloc (.cells (Aff k n u s A an ac B bn bc) 34)) from(Af _ _).alloc (Ae _) _);have g:=Hd (h.pure d.o);have i:=Hd hs;have r:=Hd hm;have t:=Hd hn;have v:=Hd hu;clear h hs hm hn hu;rcases hk with rfl|rfl|rfl|rfl|rfl|rfl
 ·go_enter func128,ntmps128;go_wp2_with fail;go_at_call 210;refine(mQ M fl b _ o g.o i.o).mono ?_;rintro e l a;obtain rfl:=a.1;have c:=Hd (a.from_pure d.o);clear a;go_wp2_with fail;go_end0;have h:=c.o;unfold Bd.leaf;simpa using h
 ·go_enter func128,ntmps128;go_wp2_with fail;go_at_call 116;refine(gS 2 n u s A an ac B bn bc _).mono ?_;rintro e y ⟨rfl,q⟩;have p:=Hd (g.o.pure q);have m:=Hd (Bi d.o q);clear q;generalize j:decide (n=1)=tt at*;have x:=Hd j;clear j;go_wp2_with fail;go_at_call 211;refine(mI M fl b n tt _ o p.o i.o x.o).mono ?_;rintro e l a;obtain rfl:=a.1;have c:=Hd (a.from_pure m.o);clear a;go_wp2_with fail;go_end0;have h:=c.o;unfold Bd.leaf;simpa using h
 ·go_enter func128,ntmps128;go_wp2_with fail;go_at_call 212;refine(qE M fl b n _ o g.o i.o t.o).mono ?_;rintro e l a;obtain rfl:=a.1;have c:=Hd (a.from_pure d.o);clear a;go_wp2_with fail;go_end0;have h:=c.o;unfold Bd.leaf;simpa using h
 ·go_enter func128,ntmps128;go_wp2_with fail;go_at_call 213;refine(mW M fl b u _ o g.o i.o v.o).mono ?_;rintro e l a;obtain rfl:=a.1;have c:=Hd (a.from_pure d.o);clear a;go_wp2_with fail;go_end0;have h:=c.o;unfold Bd.leaf;simpa using h
 ·go_enter func128,ntmps128;go_wp2_with fail;go_at_call 214;refine(mL M fl b n _ o g.o i.o r.o t.o).mono ?_;rintro e l a;obtain rfl:=a.1;have c:=Hd (a.from_pure d.o);clear a;go_wp2_with fail;go_end0;have h:=c.o;unfold Bd.leaf;simpa using h
 ·go_enter func128,ntmps128;go_wp2_with fail;go_at_call 215;refine(iB M fl b u _ o g.o i.o r.o v.o).mono ?_;rintro e l a;obtain rfl:=a.1;have c:=Hd (a.from_pure d.o);clear a;go_wp2_with fail;go_end0;have h:=c.o;unfold Bd.leaf;simpa using h
theorem X3(M:Bp)(fl:Int)(b':Bd)(k n:Int)(u:Nat)(s:List UInt8)(A:Option Addr)(an ac:Nat)(B:Option Addr)(bn bc:Nat)(w:World)(o:Nat→Nat)(hk:1≤k∧k≤9)
  (hL:∀W,Below w.heap.size w W→Calls Ad 128 #[Afh M.β,.agg (Aff k n u s A an ac B bn bc)] W (Dq M fl b' W o)):
  Calls Ad 70 #[Afh M.β,.agg (Aff k n u s A an ac B bn bc)] w (Dq M fl b' w o):=by
 have j:=Bu w (.cells #[Afh M.β] 104) (.cells (Aff k n u s A an ac B bn bc) 34);have m:=Hd j;have p:=Hd (hL _ j);have a:(k==10)=false:=by simp;omega
 have b:(k==11)=false:=by simp;omega
 have c:(k==12)=false:=by simp;omega
 have d:(k==13)=false:=by simp;omega
 have f:(k==14)=false:=by simp;omega
 have g:(k==15)=false:=by simp;omega
 have h:(k==16)=false:=by simp;omega
 have i:(k==17)=false:=by simp;omega
 clear j hL hk;go_enter func70,ntmps70;go_wp2_with fail;go_at_call 128;refine p.o.mono ?_;rintro e r l;obtain rfl:=l.1;have q:=Hd (l.from_pure m.o);clear l a b c d f g h i;go_wp2_with fail;go_end0;exact q.o
def kD(x:Int):List Value:=[Aa Ab x]
def lJ(x:Nat):List Value:=[Aa Ac (x:Int)]
def pP(x:Bool):List Value:=[.bool x]
theorem Rg{u:Value}(h:u.oneCell'=true):∀v∈ [u],v.oneCell'=true:=by
 intro v hv;simp at hv;subst hv;exact h
theorem S0{α:Type}{f:α→List Value}(W:World)(t:TypeId)(x:α)(u:Value)(h:f x=[u]):Is f (W.alloc (.cells #[u] t)) (some ⟨W.heap.size,0,none⟩) 1 [x]:=by
 refine⟨rfl,fun j y hy=>⟨_,_,rfl,?_⟩⟩;rw [Av,(Bk.new W t _).cell j];have e: [x].flatMap f=[u]:=by simp [h]
 rw [e] at hy;simpa using hy
theorem Ac8:(Ad.info? 2).map (fun i=>(i.zero,i.size,i.bytes))=some (some (Aa Ab 0),1,8):=by kernel_rfl
theorem Ada:(Ad.info? 26).map (fun i=>(i.zero,i.size,i.bytes))=some (some (Aa Ac 0),1,8):=by kernel_rfl
theorem Aar:(Ad.info? 4).map (fun i=>(i.zero,i.size,i.bytes))=some (some (.bool false),1,1):=by kernel_rfl
theorem T3:(Ad.info? 9).map (fun i=>(i.zero,i.size,i.bytes))=some (some (.string ⟨#[]⟩),1,16):=by kernel_rfl
theorem qW(x:Nv)(w:World):Calls Ad 110 #[.agg (Afe x)] w (Afc (Aa Ab x.n) w):=by
 go_enter func110,ntmps110;go_wp2_with fail;go_ret;exact⟨rfl,(Af _ _).alloc (Ae _) _⟩
theorem qY(x:Nv)(w:World):Calls Ad 113 #[.agg (Afe x)] w (Afc (Aa Ac (x.u:Int)) w):=by
 go_enter func113,ntmps113;go_wp2_with fail;go_ret;exact⟨rfl,(Af _ _).alloc (Ae _) _⟩
theorem nE(x:Nv)(w:World):Calls Ad 119 #[.agg (Afe x)] w (Afc (.string ⟨x.s.toArray⟩) w):=by
 go_enter func119,ntmps119;go_wp2_with fail;go_ret;exact⟨rfl,(Af _ _).alloc (Ae _) _⟩
theorem qZ(x:Nv)(w:World):Calls Ad 116 #[.agg (Afe x)] w (Afc (.bool (decide (x.n=1))) w):=gS x.k x.n x.u x.s x.A x.an x.ac x.B x.bn x.bc w
def aM{α:Type}(f:α→List Value)(t:TypeId)(w:World)(n:Nat)(l:List α)(e:Ending)(w':World):Prop:=
 ∃A c,e= .returned (.slice A n c)∧Go.Acc.Own f 1 t w' w.heap.size A n c l∧Below w.heap.size w w'
theorem Xr(x:Nv)(vs:List Nv)(w:World)(hI:Gj w x.B x.bn vs)(hn:x.bn≤1000000):Calls Ad 109 #[.agg (Afe x),.func (.func 110) #[] #[]] w (aM kD 2 w x.bn (vs.map Nv.n)):=by
 have N:=Hd hI;have l:=Hd (show Below w.heap.size w (w.alloc (.cells (Afe x) 34)) from(Af _ _).alloc (Ae _) _);have J:=Hd hI.1;clear hI;go_enter func109,ntmps109;go_wp2_with fail;go_loopw [4,10] (fun s u wr=>∃k:Nat,k≤x.bn∧u= Aa Ab k∧∃A c,s= .slice A k c∧Go.Acc.Own kD 1 2 wr w.heap.size A k c ((vs.take k).map Nv.n)∧Below w.heap.size w wr) (fun _ u _=>x.bn-(intOf u).toNat)
 case atStart=>exact⟨0,Ak _,rfl,none,0,rfl,Own.nil _ _,l.o⟩
 case round=>
  obtain⟨k,hk,rfl,A,c,rfl,K,i⟩:=hrel;have C:=Hd K;have d:=Hd i;have h:=N.o.pure i;clear K i l;by_cases T:k<x.bn
  ·obtain⟨v,H⟩:∃v,vs[k]?=some v:=⟨_,Ag (by have:=J.o;omega)⟩;obtain⟨g,U,e,X,Y,Z,v3,v4,v5⟩:=H9 h H;have O:=Hd (show(vs.take (k+1)).map Nv.n=(vs.take k).map Nv.n++ [v.n] by
    obtain⟨V,W⟩:=List.getElem?_eq_some_iff.1 H;rw [Bc V,W,List.map_append];rfl)
   have R:(0:Int)≤(k:Int):=by omega
   have S:(k:Int)<(x.bn:Int):=by omega
   have y:=Hd (d.o.alloc d.o.size (.cells (Afe v) 34));have F:=Hd (C.o.pure ((Af wr.heap.size wr).alloc (Ae _) (.cells (Afe v) 34)));rw [e];clear h H e;go_wp2_with fail;go_at_call 110;refine(qW v _).mono ?_;rintro e I ⟨rfl,G⟩;have m:=Hd (Bi y.o G);have D:=Hd (F.o.pure G);clear G X Y Z v3 v4 v5;have p:=Hd (m.o.alloc m.o.size (.cells #[Aa Ab v.n] 2));have q:=Hd (D.o.pure ((Af I.heap.size I).alloc (Ae _) (.cells #[Aa Ab v.n] 2)));have z:=Hd (S0 (f:=kD) I 2 (v.n) (Aa Ab v.n) rfl);go_wp2_with (at_builtin;refine Eb _ rfl (.tmp 14) (.tmp 18) _ rfl 2 _ 1 _ underlying150 Ac8 rfl (by omega) (fun _=>rfl) (fun _=>Rg rfl) _ _ _ _ _ rfl q.o _ _ _ _ rfl z.o (by omega) p.o.size ?_;intro L Q w1 a b r);have E:=Hd a;have t:=Hd (Cq p.o b (by rintro j ⟨P,e,rfl⟩;exact(q.o.addr P e).2.1));clear a b r;go_wp2_with fail;go_roundw
   case rel=>exact⟨k+1,by omega,by go_num,L,Q,rfl,by rw [O.o];exact E.o,t.o⟩
   case measure=>simp [intOf];omega
  ·obtain rfl:k=x.bn:=by omega
   have M:=Hd (show vs.take x.bn=vs from Bb (by have:=J.o;omega));rw [M.o] at C;clear h;go_wp2_with fail;go_ret;exact⟨A,c,rfl,C.o,d.o⟩
theorem Xs(x:Nv)(vs:List Nv)(w:World)(hI:Gj w x.B x.bn vs)(hn:x.bn≤1000000):Calls Ad 112 #[.agg (Afe x),.func (.func 113) #[] #[]] w (aM lJ 26 w x.bn (vs.map Nv.u)):=by
 have M:=Hd hI;have l:=Hd (show Below w.heap.size w (w.alloc (.cells (Afe x) 34)) from(Af _ _).alloc (Ae _) _);have I:=Hd hI.1;clear hI;go_enter func112,ntmps112;go_wp2_with fail;go_loopw [4,10] (fun s u wr=>∃k:Nat,k≤x.bn∧u= Aa Ab k∧∃A c,s= .slice A k c∧Go.Acc.Own lJ 1 26 wr w.heap.size A k c ((vs.take k).map Nv.u)∧Below w.heap.size w wr) (fun _ u _=>x.bn-(intOf u).toNat)
 case atStart=>exact⟨0,Ak _,rfl,none,0,rfl,Own.nil _ _,l.o⟩
 case round=>
  obtain⟨k,hk,rfl,A,c,rfl,J,i⟩:=hrel;have z:=Hd J;have d:=Hd i;have h:=M.o.pure i;clear J i l;by_cases S:k<x.bn
  ·obtain⟨v,G⟩:∃v,vs[k]?=some v:=⟨_,Ag (by have:=I.o;omega)⟩;obtain⟨g,T,e,W,X,Y,Z,v4,v5⟩:=H9 h G;have N:=Hd (show(vs.take (k+1)).map Nv.u=(vs.take k).map Nv.u++ [v.u] by
    obtain⟨U,V⟩:=List.getElem?_eq_some_iff.1 G;rw [Bc U,V,List.map_append];rfl)
   have Q:(0:Int)≤(k:Int):=by omega
   have R:(k:Int)<(x.bn:Int):=by omega
   have t:=Hd (d.o.alloc d.o.size (.cells (Afe v) 34));have E:=Hd (z.o.pure ((Af wr.heap.size wr).alloc (Ae _) (.cells (Afe v) 34)));rw [e];clear h G e;go_wp2_with fail;go_at_call 113;refine(qY v _).mono ?_;rintro e H ⟨rfl,F⟩;have m:=Hd (Bi t.o F);have C:=Hd (E.o.pure F);clear F W X Y Z v4 v5;have n:=Hd (m.o.alloc m.o.size (.cells #[Aa Ac (v.u:Int)] 26));have p:=Hd (C.o.pure ((Af H.heap.size H).alloc (Ae _) (.cells #[Aa Ac (v.u:Int)] 26)));have y:=Hd (S0 (f:=lJ) H 26 (v.u) (Aa Ac (v.u:Int)) rfl);go_wp2_with (at_builtin;refine Eb _ rfl (.tmp 14) (.tmp 18) _ rfl 26 _ 1 _ underlying28 Ada rfl (by omega) (fun _=>rfl) (fun _=>Rg rfl) _ _ _ _ _ rfl p.o _ _ _ _ rfl y.o (by omega) n.o.size ?_;intro K P w1 a b q);have D:=Hd a;have r:=Hd (Cq n.o b (by rintro j ⟨O,e,rfl⟩;exact(p.o.addr O e).2.1));clear a b q;go_wp2_with fail;go_roundw
   case rel=>exact⟨k+1,by omega,by go_num,K,P,rfl,by rw [N.o];exact D.o,r.o⟩
   case measure=>simp [intOf];omega
  ·obtain rfl:k=x.bn:=by omega
   have L:=Hd (show vs.take x.bn=vs from Bb (by have:=I.o;omega));rw [L.o] at z;clear h;go_wp2_with fail;go_ret;exact⟨A,c,rfl,z.o,d.o⟩
theorem oS(x:Nv)(vs:List Nv)(w:World)(hI:Gj w x.B x.bn vs)(hn:x.bn≤1000000):Calls Ad 115 #[.agg (Afe x),.func (.func 116) #[] #[]] w (aM pP 4 w x.bn (vs.map fun v:Nv=>decide (v.n=1))):=by
 have N:=Hd hI;have l:=Hd (show Below w.heap.size w (w.alloc (.cells (Afe x) 34)) from(Af _ _).alloc (Ae _) _);have J:=Hd hI.1;clear hI;go_enter func115,ntmps115;go_wp2_with fail;go_loopw [4,10] (fun s u wr=>∃k:Nat,k≤x.bn∧u= Aa Ab k∧∃A c,s= .slice A k c∧Go.Acc.Own pP 1 4 wr w.heap.size A k c ((vs.take k).map (fun v:Nv=>decide (v.n=1)))∧Below w.heap.size w wr) (fun _ u _=>x.bn-(intOf u).toNat)
 case atStart=>exact⟨0,Ak _,rfl,none,0,rfl,Own.nil _ _,l.o⟩
 case round=>
  obtain⟨k,hk,rfl,A,c,rfl,K,i⟩:=hrel;have C:=Hd K;have d:=Hd i;have h:=N.o.pure i;clear K i l;by_cases T:k<x.bn
  ·obtain⟨v,H⟩:∃v,vs[k]?=some v:=⟨_,Ag (by have:=J.o;omega)⟩;obtain⟨g,U,e,X,Y,Z,v3,v4,v5⟩:=H9 h H;have O:=Hd (show(vs.take (k+1)).map (fun v:Nv=>decide (v.n=1))=(vs.take k).map (fun v:Nv=>decide (v.n=1))++ [decide (v.n=1)] by
    obtain⟨V,W⟩:=List.getElem?_eq_some_iff.1 H;rw [Bc V,W,List.map_append];rfl)
   have R:(0:Int)≤(k:Int):=by omega
   have S:(k:Int)<(x.bn:Int):=by omega
   have y:=Hd (d.o.alloc d.o.size (.cells (Afe v) 34));have F:=Hd (C.o.pure ((Af wr.heap.size wr).alloc (Ae _) (.cells (Afe v) 34)));rw [e];clear h H e;go_wp2_with fail;go_at_call 116;refine(qZ v _).mono ?_;rintro e I ⟨rfl,G⟩;have m:=Hd (Bi y.o G);have D:=Hd (F.o.pure G);clear G X Y Z v3 v4 v5;have p:=Hd (m.o.alloc m.o.size (.cells #[.bool (decide (v.n=1))] 4));have q:=Hd (D.o.pure ((Af I.heap.size I).alloc (Ae _) (.cells #[.bool (decide (v.n=1))] 4)));have z:=Hd (S0 (f:=pP) I 4 (decide (v.n=1)) (.bool (decide (v.n=1))) rfl);go_wp2_with (at_builtin;refine Eb _ rfl (.tmp 14) (.tmp 18) _ rfl 4 _ 1 _ underlying157 Aar rfl (by omega) (fun _=>rfl) (fun _=>Rg rfl) _ _ _ _ _ rfl q.o _ _ _ _ rfl z.o (by omega) p.o.size ?_;intro L Q w1 a b r);have E:=Hd a;have t:=Hd (Cq p.o b (by rintro j ⟨P,e,rfl⟩;exact(q.o.addr P e).2.1));clear a b r;go_wp2_with fail;go_roundw
   case rel=>exact⟨k+1,by omega,by go_num,L,Q,rfl,by rw [O.o];exact E.o,t.o⟩
   case measure=>simp [intOf];omega
  ·obtain rfl:k=x.bn:=by omega
   have M:=Hd (show vs.take x.bn=vs from Bb (by have:=J.o;omega));rw [M.o] at C;clear h;go_wp2_with fail;go_ret;exact⟨A,c,rfl,C.o,d.o⟩
theorem oT(x:Nv)(vs:List Nv)(w:World)(hI:Gj w x.B x.bn vs)(hn:x.bn≤1000000):Calls Ad 118 #[.agg (Afe x),.func (.func 119) #[] #[]] w (aM Ke 9 w x.bn (vs.map Nv.s)):=by
 have M:=Hd hI;have l:=Hd (show Below w.heap.size w (w.alloc (.cells (Afe x) 34)) from(Af _ _).alloc (Ae _) _);have I:=Hd hI.1;clear hI;go_enter func118,ntmps118;go_wp2_with fail;go_loopw [4,10] (fun s u wr=>∃k:Nat,k≤x.bn∧u= Aa Ab k∧∃A c,s= .slice A k c∧Go.Acc.Own Ke 1 9 wr w.heap.size A k c ((vs.take k).map Nv.s)∧Below w.heap.size w wr) (fun _ u _=>x.bn-(intOf u).toNat)
 case atStart=>exact⟨0,Ak _,rfl,none,0,rfl,Own.nil _ _,l.o⟩
 case round=>
  obtain⟨k,hk,rfl,A,c,rfl,J,i⟩:=hrel;have z:=Hd J;have d:=Hd i;have h:=M.o.pure i;clear J i l;by_cases S:k<x.bn
  ·obtain⟨v,G⟩:∃v,vs[k]?=some v:=⟨_,Ag (by have:=I.o;omega)⟩;obtain⟨g,T,e,W,X,Y,Z,v4,v5⟩:=H9 h G;have N:=Hd (show(vs.take (k+1)).map Nv.s=(vs.take k).map Nv.s++ [v.s] by
    obtain⟨U,V⟩:=List.getElem?_eq_some_iff.1 G;rw [Bc U,V,List.map_append];rfl)
   have Q:(0:Int)≤(k:Int):=by omega
   have R:(k:Int)<(x.bn:Int):=by omega
   have t:=Hd (d.o.alloc d.o.size (.cells (Afe v) 34));have E:=Hd (z.o.pure ((Af wr.heap.size wr).alloc (Ae _) (.cells (Afe v) 34)));rw [e];clear h G e;go_wp2_with fail;go_at_call 119;refine(nE v _).mono ?_;rintro e H ⟨rfl,F⟩;have m:=Hd (Bi t.o F);have C:=Hd (E.o.pure F);clear F W X Y Z v4 v5;have n:=Hd (m.o.alloc m.o.size (.cells #[.string ⟨v.s.toArray⟩] 9));have p:=Hd (C.o.pure ((Af H.heap.size H).alloc (Ae _) (.cells #[.string ⟨v.s.toArray⟩] 9)));have y:=Hd (S0 (f:=Ke) H 9 (v.s) (.string ⟨v.s.toArray⟩) rfl);go_wp2_with (at_builtin;refine Eb _ rfl (.tmp 14) (.tmp 18) _ rfl 9 _ 1 _ underlying31 T3 rfl (by omega) (fun _=>rfl) (fun _=>Rg rfl) _ _ _ _ _ rfl p.o _ _ _ _ rfl y.o (by omega) n.o.size ?_;intro K P w1 a b q);have D:=Hd a;have r:=Hd (Cq n.o b (by rintro j ⟨O,e,rfl⟩;exact(p.o.addr O e).2.1));clear a b q;go_wp2_with fail;go_roundw
   case rel=>exact⟨k+1,by omega,by go_num,K,P,rfl,by rw [N.o];exact D.o,r.o⟩
   case measure=>simp [intOf];omega
  ·obtain rfl:k=x.bn:=by omega
   have L:=Hd (show vs.take x.bn=vs from Bb (by have:=I.o;omega));rw [L.o] at z;clear h;go_wp2_with fail;go_ret;exact⟨A,c,rfl,z.o,d.o⟩
end Go.Proofs.YtejpbijeifjdeaaGreat
