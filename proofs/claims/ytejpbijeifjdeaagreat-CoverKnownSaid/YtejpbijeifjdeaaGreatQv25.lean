/- Parts of the proof. -/
import Derived.Test.YtejpbijeifjdeaaGreatQv21
import Derived.Maps.Views
import Derived.Maps.Ext
import Derived.ScopeJumps
import Derived.WalkMore
set_option maxHeartbeats 1000000
set_option maxRecDepth 100000
open Go.Value renaming int→Aa
open Go.IntKind renaming i64→Ab,u64→Ac
open Nat renaming le_refl→Ae,lt_of_lt_of_le→Ar
open Go.RowKit.Below renaming refl→Af
open Go.IntWalk renaming i64_in→Ag
open List renaming getElem?_eq_getElem→Ai
open Go.Proofs.Tryz
open Go.Proofs.Tryz renaming prog→Ad
namespace Go.Proofs.YtejpbijeifjdeaaGreat
variable {L:List UInt8}{w u z:Nat}{n:Int}{v:Bv}{vs:List Bv}
section
open Go.RowKit Go.Acc
theorem G5(k n:Int)(u:Nat)(s:List UInt8)(A B:Option Addr)(ac bc:Nat)(w:World):
  Calls Ad 270 #[.agg (Ab8 k n u s A 0 ac B 0 bc),.agg (Ab8 k n u s none 0 0 none 0 0)] w (Ab5 (.bool true) w):=by
 have d:=Hd (Bq w (.cells (Ab8 k n u s A 0 ac B 0 bc) 34) (.cells (Ab8 k n u s none 0 0 none 0 0) 34));have b:=Hd ((Bb.new w 34 (Ab8 k n u s A 0 ac B 0 bc)).alloc (.cells (Ab8 k n u s none 0 0 none 0 0) 34));have a:=Hd (Bb.new_ (w:=w.alloc (.cells (Ab8 k n u s A 0 ac B 0 bc) 34)) (g:=w.heap.size+1) (by simp) 34 (Ab8 k n u s none 0 0 none 0 0));go_enter func270,ntmps270;go_upto_region 1 with fail
 generalize (w.alloc (.cells (Ab8 k n u s A 0 ac B 0 bc) 34)).alloc (.cells (Ab8 k n u s none 0 0 none 0 0) 34)=w1 at d b a⊢;generalize c:w.heap.size=bt at b a⊢;generalize bt+1=bs at a⊢;clear c;obtain ⟨e,f,h,i,j,l⟩:=b.o.c6;obtain ⟨m,p,q,r⟩:=a.o.c4;go_wp2_with fail;go_ret;exact⟨rfl,d.o⟩
theorem J5(A:Option Addr)(n c:Nat)(a x:Int)(u:Nat)(l:List UInt8)(w:World)(hl:B4 w A n l)(hc:n≤c)(hn:n≤4294967296)(h1:Bz n a x=0)(h2:loadU l a x=u)(hu:u<4294967296):
  Calls Ad 160 #[.slice A n c,Aa Ab a,Aa Ab x] w (Ab5 (.tuple #[Aa Ab (u:Int),.bool true]) w):=by
 have b:=Hd (Ee A n c a x l w 0 u hl hc (by omega) h1 h2);have h:((u:Int)≤9007199254740992):=by omega
 have i:IntKind.i64.wrap (u:Int)=(u:Int):=Ag _ (by omega);have f:min (u:Int) 9007199254740992=(u:Int):=Int.min_eq_left h;clear hl h1 h2;go_enter func160,ntmps160;go_wp2_with fail;go_at_call 149;refine b.o.mono ?_;rintro e j ⟨rfl,d⟩;have g:=Hd d;clear d b;go_wp2_with fail;go_ret2;exact⟨rfl,g.o⟩
theorem cR{w:World}{A:Option Addr}{n c:Nat}{l:List UInt8}(h:B4 w A n l):(convert 119 9 (.slice A n c)).run Ad w= .ok (.string ⟨l.toArray⟩) w:=by
 rcases Nat.eq_zero_or_pos n with h0|h0
 ·subst h0;obtain rfl:l=[]:=List.eq_nil_of_length_eq_zero h.1;rw [run_convert_bytes_string w 119 9 5 A 0 c underlying119 underlying5 underlying9];cases A with
  |none=>simp [Conv.bytesToString];rfl
  |some a=>
   have:=run_bytesToString (P:=Ad) w a 0 c [] (by simp [loadCells,loadCellsFrom]);rw [this];rfl
 ·obtain⟨b,d,rfl,_⟩:=h.some_ C0 (by omega) h0;have:=run_convert_bytes_arg (P:=Ad) w 119 5 underlying119 underlying5 b d n c (l.map fun x=>(x.toNat:Int)) (by simp [h.1]) (fun i hi=>by
   obtain⟨o,f,e,k,j⟩:=Ep h hi;injection e with e;injection e with e1 e2;subst e1 e2
   rw [j];simp [List.getD,Ai k]) 9 underlying9
  have g:∀m:List UInt8,(m.map fun x:UInt8=>(x.toNat:Int)).map (fun n=>UInt8.ofNat n.toNat)=m:=by
   intro m
   induction m with
   |nil=>rfl
   |cons x m ih=>rw [List.map_cons,List.map_cons,ih,Int.toNat_natCast,UInt8.ofNat_toNat]
  have e:strOfNums (l.map fun x:UInt8=>(x.toNat:Int))=⟨l.toArray⟩:=by
   unfold strOfNums;rw [g]
  rw [this,e]
theorem Tg(A:Option Addr)(n c a:Nat)(s l:List UInt8)(w:World)(hl:B4 w A n l)(hc:n≤c)(hn:n≤4294967296)(ha:At l a s):
  Calls Ad 320 #[.slice A n c,Aa Ab (a:Int),.string ⟨s.toArray⟩] w (Ab5 (.bool true) w):=by
 have g:=ha.le;have h:=hl.1;have f:=ha.take;have o:B4 w (A.map (·.add a)) s.length s:=by
  have:=M3 hl (k:=a) (x:=s.length) (by omega)
  rwa [f] at this
 have i:∀c,(convert 119 9 (.slice (A.map fun x=>x.add a) s.length c)).run Ad w= .ok (.string ⟨s.toArray⟩) w:=fun c=>cR (c:=c) o
 have b:c=a→s=[]∧(convert 119 9 (.slice A s.length 0)).run Ad w= .ok (.string ⟨s.toArray⟩) w:=by
  intro e;have h0:s=[]:=List.eq_nil_of_length_eq_zero (by omega);subst h0;exact⟨rfl,cR (c:=0) (Is.nil _ _)⟩
 have m:(⟨s.toArray⟩:ByteArray).size=s.length:=rfl;have h0:(0:Int)≤(a:Int):=by omega
 have h1:(s.length:Int)≤(n:Int)-(a:Int):=by omega
 have q:IntKind.i64.wrap ((n:Int)-(a:Int))=(n:Int)-(a:Int):=Ag _ (by omega);have r:IntKind.i64.wrap ((a:Int)+(s.length:Int))=((a+s.length:Nat):Int):=by rw [Ag _ (by omega)];norm_cast
 clear hl ha o f g h;by_cases d:c=a
 ·obtain⟨p,j⟩:=b d;subst d p;have j:(convert 119 9 (.slice A 0 0)).run Ad w= .ok (.string ⟨#[]⟩) w:=j;clear i b;go_enter func320,ntmps320;go_wp2_with fail;go_ret;exact⟨rfl,Af _ _⟩
 ·clear b;go_enter func320,ntmps320;go_wp2_with fail;go_ret;exact⟨rfl,Af _ _⟩
theorem Z5(A:Option Addr)(n c:Nat)(p q t v:Int)(l:List UInt8)(w:World)(hl:B4 w A n l)(hc:n≤c)(hn:n≤4294967296)(h1:Bz n p q=0):
  Calls Ad 318 #[.slice A n c,.agg (Ab9 p q t v)] w (Ab5 (.bool true) w):=by
 have a:=(Af w.heap.size w).alloc (Ae _) (.cells (Ab9 p q t v) 70);have f:=Hd a;have d:=Hd (Bb.new w 70 (Ab9 p q t v));have g:=Hd (Ee A n c p q l _ 0 _ (hl.pure a) hc (by omega) h1 rfl);clear hl a h1;go_enter func318,ntmps318;go_upto_region 1 with fail
 generalize w.alloc (.cells (Ab9 p q t v) 70)=w1 at f d g⊢;generalize w.heap.size=bt at d⊢;obtain ⟨i,j⟩:=d.o.c2;go_wp2_with fail;go_at_call 149;refine g.o.mono ?_;rintro e h ⟨rfl,a⟩;have b:=Hd (A6 f.o a);clear a;go_wp2_with fail;go_ret;exact⟨rfl,b.o⟩
theorem X6(A:Option Addr)(n c:Nat)(a x sg us z:Int)(y:Nat)(XA XB:Option Addr)(xac xbc:Nat)(l:List UInt8)(w:World)(hl:B4 w A n l)(hc:n≤c)(hn:n≤4294967296)(h1:Bz n a x=0)(h2:loadU l a x=y)(h3:Jg l a x=z):
  Calls Ad 319 #[.slice A n c,Aa Ab a,Aa Ab x,Aa Ab sg,Aa Ab us,.agg #[Aa Ab sg,Aa Ab z,Aa Ac 0,.string ⟨#[]⟩,.slice XA 0 xac,.slice XB 0 xbc]] w (Ab5 (.bool true) w):=by
 have b:=(Af w.heap.size w).alloc (Ae _) (.cells #[Aa Ab sg,Aa Ab z,Aa Ac 0,.string ⟨#[]⟩,.slice XA 0 xac,.slice XB 0 xbc] 34);have d:=Hd b;have g:=Hd (Bb.new w 34 #[Aa Ab sg,Aa Ab z,Aa Ac 0,.string ⟨#[]⟩,.slice XA 0 xac,.slice XB 0 xbc]);have i:=Hd (Ee A n c a x l _ 0 y (hl.pure b) hc (by omega) h1 h2);have f:=Hd (hl.pure b);have j:=Hd (And.intro h1 h3);clear hl b h1 h2 h3;go_enter func319,ntmps319;go_upto_region 1 with fail
 generalize w.alloc (.cells #[Aa Ab sg,Aa Ab z,Aa Ac 0,.string ⟨#[]⟩,.slice XA 0 xac,.slice XB 0 xbc] 34)=w1 at d g i f⊢;generalize w.heap.size=bt at g⊢;go_wp2_with fail;go_at_call 149;refine i.o.mono ?_;rintro e k ⟨rfl,b⟩;have h:=Hd (bC A n c a x l k z 0 (f.o.pure b) hc (by omega) j.o.2 j.o.1);replace d:=Hd (A6 d.o b);replace g:=Hd (g.o.pure b);clear b i f;go_wp2_with fail;go_at_call 168;refine h.o.mono ?_;rintro e m ⟨rfl,b⟩;replace d:=Hd (A6 d.o b);replace g:=Hd (g.o.pure b);clear b h;obtain ⟨p,q,r,s,t,u⟩:=g.o.c6;go_wp2_with fail;go_at_call 270;refine(G5 sg z 0 [] XA XB xac xbc m).mono ?_;rintro e v ⟨rfl,b⟩;replace d:=Hd (A6 d.o b);clear b;go_wp2_with fail;go_ret;exact⟨rfl,d.o⟩
theorem X7(A:Option Addr)(n c:Nat)(a x sg us z:Int)(y:Nat)(XA XB:Option Addr)(xac xbc:Nat)(l:List UInt8)(w:World)(hl:B4 w A n l)(hc:n≤c)(hn:n≤4294967296)(h1:Bz n a x=0)(h2:loadU l a x=y)(h3:Jg l a x=z)(hne:us≠sg):
  Calls Ad 319 #[.slice A n c,Aa Ab a,Aa Ab x,Aa Ab sg,Aa Ab us,.agg #[Aa Ab us,Aa Ab 0,Aa Ac (y:Int),.string ⟨#[]⟩,.slice XA 0 xac,.slice XB 0 xbc]] w (Ab5 (.bool true) w):=by
 have k:(us==sg)=false:=beq_eq_false_iff_ne.mpr hne;clear hne;have b:=(Af w.heap.size w).alloc (Ae _) (.cells #[Aa Ab us,Aa Ab 0,Aa Ac (y:Int),.string ⟨#[]⟩,.slice XA 0 xac,.slice XB 0 xbc] 34);have d:=Hd b;have g:=Hd (Bb.new w 34 #[Aa Ab us,Aa Ab 0,Aa Ac (y:Int),.string ⟨#[]⟩,.slice XA 0 xac,.slice XB 0 xbc]);have i:=Hd (Ee A n c a x l _ 0 y (hl.pure b) hc (by omega) h1 h2);have f:=Hd (hl.pure b);have j:=Hd (And.intro h1 h3);clear hl b h1 h2 h3;go_enter func319,ntmps319;go_upto_region 1 with fail
 generalize w.alloc (.cells #[Aa Ab us,Aa Ab 0,Aa Ac (y:Int),.string ⟨#[]⟩,.slice XA 0 xac,.slice XB 0 xbc] 34)=w1 at d g i f⊢;generalize w.heap.size=bt at g⊢;go_wp2_with fail;go_at_call 149;refine i.o.mono ?_;rintro e m ⟨rfl,b⟩;have h:=Hd (bC A n c a x l m z 0 (f.o.pure b) hc (by omega) j.o.2 j.o.1);replace d:=Hd (A6 d.o b);replace g:=Hd (g.o.pure b);clear b i f;go_wp2_with fail;go_at_call 168;refine h.o.mono ?_;rintro e p ⟨rfl,b⟩;replace d:=Hd (A6 d.o b);replace g:=Hd (g.o.pure b);clear b h;obtain ⟨q,r,s,t,u,v⟩:=g.o.c6;go_wp2_with fail;go_at_call 270;refine(G5 us 0 y [] XA XB xac xbc p).mono ?_;rintro e B ⟨rfl,b⟩;replace d:=Hd (A6 d.o b);clear b;go_wp2_with fail;go_ret;exact⟨rfl,d.o⟩
theorem mM(A:Option Addr)(n c:Nat)(p q t v at_ z:Int)(XA XB:Option Addr)(xac xbc:Nat)(l:List UInt8)(w:World)(hl:B4 w A n l)(hc:n≤c)(hn:n≤4294967296)(h1:Bz n p q=0)(h3:Jg l p q=z):
  Calls Ad 263 #[.slice A n c,.agg (Ab9 p q t v),Aa Ab at_,.agg #[Aa Ab 3,Aa Ab z,Aa Ac 0,.string ⟨#[]⟩,.slice XA 0 xac,.slice XB 0 xbc]] w (Ab5 (.bool true) w):=by
 have a:=Bq w (.cells (Ab9 p q t v) 70) (.cells #[Aa Ab 3,Aa Ab z,Aa Ac 0,.string ⟨#[]⟩,.slice XA 0 xac,.slice XB 0 xbc] 34);have i:=Hd a;have f:=Hd ((Bb.new w 70 (Ab9 p q t v)).alloc (.cells #[Aa Ab 3,Aa Ab z,Aa Ac 0,.string ⟨#[]⟩,.slice XA 0 xac,.slice XB 0 xbc] 34));have b:=Hd (Bb.new_ (w:=w.alloc (.cells (Ab9 p q t v) 70)) (g:=w.heap.size+1) (by simp) 34 #[Aa Ab 3,Aa Ab z,Aa Ac 0,.string ⟨#[]⟩,.slice XA 0 xac,.slice XB 0 xbc]);have j:=Hd (hl.pure a);clear hl a;go_enter func263,ntmps263;go_upto_region 1 with fail
 generalize (w.alloc (.cells (Ab9 p q t v) 70)).alloc (.cells #[Aa Ab 3,Aa Ab z,Aa Ac 0,.string ⟨#[]⟩,.slice XA 0 xac,.slice XB 0 xbc] 34)=w1 at i f b j⊢;generalize h:w.heap.size=bt at f b⊢;generalize bt+1=bs at b⊢;clear h;obtain ⟨y,B,C,D⟩:=f.o.c4;obtain ⟨k,m,r,s,u,x⟩:=b.o.c6;go_wp2_with fail;go_at_call 319;refine(X6 A n c p q 3 4 z _ XA XB xac xbc l w1 j.o hc hn h1 rfl h3).mono ?_;rintro e E ⟨rfl,a⟩;have d:=Hd (A6 i.o a);clear a;go_wp2_with fail;go_ret;exact⟨rfl,d.o⟩
theorem jJ(A:Option Addr)(n c:Nat)(p q t v at_:Int)(y:Nat)(XA XB:Option Addr)(xac xbc:Nat)(l:List UInt8)(w:World)(hl:B4 w A n l)(hc:n≤c)(hn:n≤4294967296)(h1:Bz n p q=0)(h2:loadU l p q=y):
  Calls Ad 264 #[.slice A n c,.agg (Ab9 p q t v),Aa Ab at_,.agg #[Aa Ab 4,Aa Ab 0,Aa Ac (y:Int),.string ⟨#[]⟩,.slice XA 0 xac,.slice XB 0 xbc]] w (Ab5 (.bool true) w):=by
 have a:=Bq w (.cells (Ab9 p q t v) 70) (.cells #[Aa Ab 4,Aa Ab 0,Aa Ac (y:Int),.string ⟨#[]⟩,.slice XA 0 xac,.slice XB 0 xbc] 34);have i:=Hd a;have f:=Hd ((Bb.new w 70 (Ab9 p q t v)).alloc (.cells #[Aa Ab 4,Aa Ab 0,Aa Ac (y:Int),.string ⟨#[]⟩,.slice XA 0 xac,.slice XB 0 xbc] 34));have b:=Hd (Bb.new_ (w:=w.alloc (.cells (Ab9 p q t v) 70)) (g:=w.heap.size+1) (by simp) 34 #[Aa Ab 4,Aa Ab 0,Aa Ac (y:Int),.string ⟨#[]⟩,.slice XA 0 xac,.slice XB 0 xbc]);have j:=Hd (hl.pure a);clear hl a;go_enter func264,ntmps264;go_upto_region 1 with fail
 generalize (w.alloc (.cells (Ab9 p q t v) 70)).alloc (.cells #[Aa Ab 4,Aa Ab 0,Aa Ac (y:Int),.string ⟨#[]⟩,.slice XA 0 xac,.slice XB 0 xbc] 34)=w1 at i f b j⊢;generalize h:w.heap.size=bt at f b⊢;generalize bt+1=bs at b⊢;clear h;obtain ⟨z,B,C,D⟩:=f.o.c4;obtain ⟨k,m,r,s,u,x⟩:=b.o.c6;go_wp2_with fail;go_at_call 319;refine(X7 A n c p q 3 4 _ y XA XB xac xbc l w1 j.o hc hn h1 h2 rfl (by decide)).mono ?_;rintro e E ⟨rfl,a⟩;have d:=Hd (A6 i.o a);clear a;go_wp2_with fail;go_ret;exact⟨rfl,d.o⟩
theorem jI(A:Option Addr)(n c:Nat)(p q t v at_:Int)(XA XB:Option Addr)(xac xbc:Nat)(l:List UInt8)(w:World)(hl:B4 w A n l)(hc:n≤c)(hn:n≤4294967296)(h1:Bz n p q=0):
  Calls Ad 262 #[.slice A n c,.agg (Ab9 p q t v),Aa Ab at_,.agg #[Aa Ab 1,Aa Ab 0,Aa Ac 0,.string ⟨#[]⟩,.slice XA 0 xac,.slice XB 0 xbc]] w (Ab5 (.bool true) w):=by
 have a:=Bq w (.cells (Ab9 p q t v) 70) (.cells #[Aa Ab 1,Aa Ab 0,Aa Ac 0,.string ⟨#[]⟩,.slice XA 0 xac,.slice XB 0 xbc] 34);have d:=Hd a;have h:=Hd ((Bb.new w 70 (Ab9 p q t v)).alloc (.cells #[Aa Ab 1,Aa Ab 0,Aa Ac 0,.string ⟨#[]⟩,.slice XA 0 xac,.slice XB 0 xbc] 34));have b:=Hd (Bb.new_ (w:=w.alloc (.cells (Ab9 p q t v) 70)) (g:=w.heap.size+1) (by simp) 34 #[Aa Ab 1,Aa Ab 0,Aa Ac 0,.string ⟨#[]⟩,.slice XA 0 xac,.slice XB 0 xbc]);have j:=Hd (hl.pure a);clear hl a;go_enter func262,ntmps262;go_upto_region 1 with fail
 generalize (w.alloc (.cells (Ab9 p q t v) 70)).alloc (.cells #[Aa Ab 1,Aa Ab 0,Aa Ac 0,.string ⟨#[]⟩,.slice XA 0 xac,.slice XB 0 xbc] 34)=w1 at d h b j⊢;generalize i:w.heap.size=bt at h b⊢;generalize bt+1=bs at b⊢;clear i;obtain ⟨y,z,B,C⟩:=h.o.c4;obtain ⟨k,m,r,s,u,x⟩:=b.o.c6;go_wp2_with fail;go_at_call 318;refine(Z5 A n c p q t v l w1 j.o hc hn h1).mono ?_;rintro e D ⟨rfl,a⟩;replace d:=Hd (A6 d.o a);replace b:=Hd (b.o.pure a);clear a k m r s u x y z B C;obtain ⟨k,m,r,s,u,x⟩:=b.o.c6;go_wp2_with fail;go_at_call 270;refine(G5 1 0 0 [] XA XB xac xbc D).mono ?_;rintro e E ⟨rfl,a⟩;have f:=Hd (A6 d.o a);clear a;go_wp2_with fail;go_ret;exact⟨rfl,f.o⟩
theorem rI(A:Option Addr)(n c:Nat)(p q v:Int)(a z:Int)(XA XB:Option Addr)(xac xbc:Nat)(l:List UInt8)(w:World)(hl:B4 w A n l)(hc:n≤c)(hn:n≤4294967296)(h1:Bz n a v=0)(h0:0≤a)(hv:1≤v∧v≤8)(hm:a % v=0)(h3:Jg l a v=z):
  Calls Ad 268 #[.slice A n c,.agg (Ab9 p q 6 v),Aa Ab a,.agg #[Aa Ab 8,Aa Ab z,Aa Ac 0,.string ⟨#[]⟩,.slice XA 0 xac,.slice XB 0 xbc]] w (Ab5 (.bool true) w):=by
 have m:a.tmod v=0:=by rw [Int.tmod_eq_emod_of_nonneg h0];exact hm
 have r:(v==0)=false:=beq_eq_false_iff_ne.mpr (by omega);clear hm;have b:=Bq w (.cells (Ab9 p q 6 v) 70) (.cells #[Aa Ab 8,Aa Ab z,Aa Ac 0,.string ⟨#[]⟩,.slice XA 0 xac,.slice XB 0 xbc] 34);have j:=Hd b;have h:=Hd ((Bb.new w 70 (Ab9 p q 6 v)).alloc (.cells #[Aa Ab 8,Aa Ab z,Aa Ac 0,.string ⟨#[]⟩,.slice XA 0 xac,.slice XB 0 xbc] 34));have d:=Hd (Bb.new_ (w:=w.alloc (.cells (Ab9 p q 6 v) 70)) (g:=w.heap.size+1) (by simp) 34 #[Aa Ab 8,Aa Ab z,Aa Ac 0,.string ⟨#[]⟩,.slice XA 0 xac,.slice XB 0 xbc]);have k:=Hd (hl.pure b);clear hl b;go_enter func268,ntmps268;go_upto_region 1 with fail
 generalize (w.alloc (.cells (Ab9 p q 6 v) 70)).alloc (.cells #[Aa Ab 8,Aa Ab z,Aa Ac 0,.string ⟨#[]⟩,.slice XA 0 xac,.slice XB 0 xbc] 34)=w1 at j h d k⊢;generalize i:w.heap.size=bt at h d⊢;generalize bt+1=bs at d⊢;clear i;obtain ⟨C,D,E,F⟩:=h.o.c4;obtain ⟨s,t,u,x,y,B⟩:=d.o.c6;go_wp2_with fail;go_at_call 319;refine(X6 A n c a v 8 9 z _ XA XB xac xbc l w1 k.o hc hn h1 rfl h3).mono ?_;rintro e G ⟨rfl,b⟩;have f:=Hd (A6 j.o b);clear b;go_wp2_with fail;go_ret;exact⟨rfl,f.o⟩
theorem rJ(A:Option Addr)(n c:Nat)(p q v:Int)(a:Int)(y:Nat)(XA XB:Option Addr)(xac xbc:Nat)(l:List UInt8)(w:World)(hl:B4 w A n l)(hc:n≤c)(hn:n≤4294967296)(h1:Bz n a v=0)(h0:0≤a)(hv:1≤v∧v≤8)(hm:a % v=0)(h2:loadU l a v=y):
  Calls Ad 268 #[.slice A n c,.agg (Ab9 p q 7 v),Aa Ab a,.agg #[Aa Ab 9,Aa Ab 0,Aa Ac (y:Int),.string ⟨#[]⟩,.slice XA 0 xac,.slice XB 0 xbc]] w (Ab5 (.bool true) w):=by
 have m:a.tmod v=0:=by rw [Int.tmod_eq_emod_of_nonneg h0];exact hm
 have r:(v==0)=false:=beq_eq_false_iff_ne.mpr (by omega);clear hm;have b:=Bq w (.cells (Ab9 p q 7 v) 70) (.cells #[Aa Ab 9,Aa Ab 0,Aa Ac (y:Int),.string ⟨#[]⟩,.slice XA 0 xac,.slice XB 0 xbc] 34);have j:=Hd b;have h:=Hd ((Bb.new w 70 (Ab9 p q 7 v)).alloc (.cells #[Aa Ab 9,Aa Ab 0,Aa Ac (y:Int),.string ⟨#[]⟩,.slice XA 0 xac,.slice XB 0 xbc] 34));have d:=Hd (Bb.new_ (w:=w.alloc (.cells (Ab9 p q 7 v) 70)) (g:=w.heap.size+1) (by simp) 34 #[Aa Ab 9,Aa Ab 0,Aa Ac (y:Int),.string ⟨#[]⟩,.slice XA 0 xac,.slice XB 0 xbc]);have k:=Hd (hl.pure b);clear hl b;go_enter func268,ntmps268;go_upto_region 1 with fail
 generalize (w.alloc (.cells (Ab9 p q 7 v) 70)).alloc (.cells #[Aa Ab 9,Aa Ab 0,Aa Ac (y:Int),.string ⟨#[]⟩,.slice XA 0 xac,.slice XB 0 xbc] 34)=w1 at j h d k⊢;generalize i:w.heap.size=bt at h d⊢;generalize bt+1=bs at d⊢;clear i;obtain ⟨C,D,E,F⟩:=h.o.c4;obtain ⟨s,t,u,x,z,B⟩:=d.o.c6;go_wp2_with fail;go_at_call 319;refine(X7 A n c a v 8 9 _ y XA XB xac xbc l w1 k.o hc hn h1 h2 rfl (by decide)).mono ?_;rintro e G ⟨rfl,b⟩;have f:=Hd (A6 j.o b);clear b;go_wp2_with fail;go_ret;exact⟨rfl,f.o⟩
theorem nN(s:List UInt8)(w:World)(hz:Cl s=false):Calls Ad 279 #[.string ⟨s.toArray⟩] w (Ab6 (Aa Ab 0) w):=by
 obtain⟨r,hr⟩:∃r,Lib.indexByte s 0=r:=⟨_,rfl⟩;have HR:=Hd hr;have hd:decide ((0:Int)≤r)=false:=by rw [←hr,Pw];exact hz
 clear hr hz;go_enter func279,ntmps279;go_wp2_with (go_at_call 239;refine(Tq s r _ HR.o).mono ?_;rintro e w' ⟨rfl,rfl⟩);go_ret;exact⟨rfl,rfl⟩
theorem mN(A:Option Addr)(n c a:Nat)(p q t v:Int)(s:List UInt8)(XA XB:Option Addr)(xac xbc:Nat)(l:List UInt8)(w:World)(hl:B4 w A n l)(hc:n≤c)(hn:n≤4294967296)(hz:Cl s=false)(ha:At l a (s++ [0])):
  Calls Ad 266 #[.slice A n c,.agg (Ab9 p q t v),Aa Ab (a:Int),.agg #[Aa Ab 5,Aa Ab 0,Aa Ac 0,.string ⟨s.toArray⟩,.slice XA 0 xac,.slice XB 0 xbc]] w (Ab5 (.bool true) w):=by
 have D:=Hd ha;have E:=Hd hz;have F:¬9223372036854775807<s.length+1:=by
  have h1:=ha.le;have h2:=hl.1;rw [List.length_append] at h1;omega
 have m:(⟨s.toArray⟩:ByteArray)++⟨#[0]⟩=⟨(s++ [0]).toArray⟩:=by
  apply ByteArray.ext;simp
 clear ha hz;have b:=Bq w (.cells (Ab9 p q t v) 70) (.cells #[Aa Ab 5,Aa Ab 0,Aa Ac 0,.string ⟨s.toArray⟩,.slice XA 0 xac,.slice XB 0 xbc] 34);have f:=Hd b;have j:=Hd ((Bb.new w 70 (Ab9 p q t v)).alloc (.cells #[Aa Ab 5,Aa Ab 0,Aa Ac 0,.string ⟨s.toArray⟩,.slice XA 0 xac,.slice XB 0 xbc] 34));have d:=Hd (Bb.new_ (w:=w.alloc (.cells (Ab9 p q t v) 70)) (g:=w.heap.size+1) (by simp) 34 #[Aa Ab 5,Aa Ab 0,Aa Ac 0,.string ⟨s.toArray⟩,.slice XA 0 xac,.slice XB 0 xbc]);have h:=Hd (hl.pure b);clear hl b;go_enter func266,ntmps266;go_upto_region 1 with fail
 generalize (w.alloc (.cells (Ab9 p q t v) 70)).alloc (.cells #[Aa Ab 5,Aa Ab 0,Aa Ac 0,.string ⟨s.toArray⟩,.slice XA 0 xac,.slice XB 0 xbc] 34)=w1 at f j d h⊢;generalize k:w.heap.size=bt at j d⊢;generalize bt+1=bs at d⊢;clear k;obtain ⟨G,H,I,J⟩:=j.o.c4;obtain ⟨r,u,x,y,z,B⟩:=d.o.c6;go_wp2_with fail;go_at_call 270;refine(G5 5 0 0 s XA XB xac xbc w1).mono ?_;rintro e C ⟨rfl,b⟩;replace f:=Hd (A6 f.o b);replace d:=Hd (d.o.pure b);replace h:=Hd (h.o.pure b);clear b r u x y z B G H I J;obtain ⟨r,u,x,y,z,B⟩:=d.o.c6;go_wp2_with fail;go_at_call 279;refine(nN s C E.o).mono ?_;rintro e K ⟨rfl,rfl⟩;go_wp2_with fail;go_at_call 320;refine(Tg A n c a (s++ [0]) l C h.o hc hn D.o).mono ?_;rintro e L ⟨rfl,b⟩;have i:=Hd (A6 f.o b);clear b;go_wp2_with fail;go_ret;exact⟨rfl,i.o⟩
theorem vI(A:Option Addr)(n c:Nat)(p q t v at_:Int)(XA XB:Option Addr)(xac xbc:Nat)(l:List UInt8)(w:World)(hl:B4 w A n l)(hc:n≤c)(hn:n≤4294967296)(h1:Bz n p q=0)(h2:loadU l p q=0):
  Calls Ad 265 #[.slice A n c,.agg (Ab9 p q t v),Aa Ab at_,.agg #[Aa Ab 2,Aa Ab 0,Aa Ac 0,.string ⟨#[]⟩,.slice XA 0 xac,.slice XB 0 xbc]] w (Ab5 (.bool true) w):=by
 have b:=Bq w (.cells (Ab9 p q t v) 70) (.cells #[Aa Ab 2,Aa Ab 0,Aa Ac 0,.string ⟨#[]⟩,.slice XA 0 xac,.slice XB 0 xbc] 34);have d:=Hd b;have h:=Hd ((Bb.new w 70 (Ab9 p q t v)).alloc (.cells #[Aa Ab 2,Aa Ab 0,Aa Ac 0,.string ⟨#[]⟩,.slice XA 0 xac,.slice XB 0 xbc] 34));have a:=Hd (Bb.new_ (w:=w.alloc (.cells (Ab9 p q t v) 70)) (g:=w.heap.size+1) (by simp) 34 #[Aa Ab 2,Aa Ab 0,Aa Ac 0,.string ⟨#[]⟩,.slice XA 0 xac,.slice XB 0 xbc]);have k:=Hd (hl.pure b);clear hl b;go_enter func265,ntmps265;go_upto_region 1 with fail
 generalize (w.alloc (.cells (Ab9 p q t v) 70)).alloc (.cells #[Aa Ab 2,Aa Ab 0,Aa Ac 0,.string ⟨#[]⟩,.slice XA 0 xac,.slice XB 0 xbc] 34)=w1 at d h a k⊢;generalize u:w.heap.size=bt at h a⊢;generalize bt+1=bs at a⊢;clear u;obtain ⟨F,G,H,I⟩:=h.o.c4;obtain ⟨y,z,B,C,D,E⟩:=a.o.c6;have x:=Hd (Ee A n c p q l w1 0 0 k.o hc (by omega) h1 h2);clear h1 h2;go_wp2_with fail;go_at_call 149;refine x.o.mono ?_;rintro e f ⟨rfl,b⟩;have r:=Hd (Ar a.o.lt b.size);replace d:=Hd (A6 d.o b);have i:=Hd d.o.size;replace a:=Hd (a.o.pure b);clear b x k h y z B C D E F G H I;go_upto_region 3 with fail
 replace d:=Hd (d.o.alloc d.o.size (.cells #[Aa Ab 2,Aa Ab 0,Aa Ac 0,.string ⟨#[]⟩,.slice none 0 0,.slice none 0 0] 34));replace a:=Hd (a.o.alloc (.cells #[Aa Ab 2,Aa Ab 0,Aa Ac 0,.string ⟨#[]⟩,.slice none 0 0,.slice none 0 0] 34));have s:=Hd (Bb.new f 34 #[Aa Ab 2,Aa Ab 0,Aa Ac 0,.string ⟨#[]⟩,.slice none 0 0,.slice none 0 0]);have m:=Hd (show w.heap.size≤f.heap.size∧bs<f.heap.size from⟨i.o,r.o⟩);generalize f.alloc (.cells #[Aa Ab 2,Aa Ab 0,Aa Ac 0,.string ⟨#[]⟩,.slice none 0 0,.slice none 0 0] 34)=w3 at d a s⊢;generalize f.heap.size=bw at s m⊢;obtain ⟨y,z,B,C,D,E⟩:=a.o.c6;obtain ⟨K,L,M,N,O,P⟩:=s.o.c6;go_wp2_with fail;go_at_call 270;refine(G5 2 0 0 [] XA XB xac xbc w3).mono ?_;rintro e J ⟨rfl,b⟩;have j:=Hd (A6 d.o b);clear b;go_wp2_with fail;go_ret;exact⟨rfl,j.o⟩
theorem vJ(A:Option Addr)(n c:Nat)(p q t v at_:Int)(XA XB:Option Addr)(xac xbc:Nat)(l:List UInt8)(w:World)(hl:B4 w A n l)(hc:n≤c)(hn:n≤4294967296)(h1:Bz n p q=0)(h2:loadU l p q=1):
  Calls Ad 265 #[.slice A n c,.agg (Ab9 p q t v),Aa Ab at_,.agg #[Aa Ab 2,Aa Ab 1,Aa Ac 0,.string ⟨#[]⟩,.slice XA 0 xac,.slice XB 0 xbc]] w (Ab5 (.bool true) w):=by
 have d:=Bq w (.cells (Ab9 p q t v) 70) (.cells #[Aa Ab 2,Aa Ab 1,Aa Ac 0,.string ⟨#[]⟩,.slice XA 0 xac,.slice XB 0 xbc] 34);have b:=Hd d;have k:=Hd ((Bb.new w 70 (Ab9 p q t v)).alloc (.cells #[Aa Ab 2,Aa Ab 1,Aa Ac 0,.string ⟨#[]⟩,.slice XA 0 xac,.slice XB 0 xbc] 34));have a:=Hd (Bb.new_ (w:=w.alloc (.cells (Ab9 p q t v) 70)) (g:=w.heap.size+1) (by simp) 34 #[Aa Ab 2,Aa Ab 1,Aa Ac 0,.string ⟨#[]⟩,.slice XA 0 xac,.slice XB 0 xbc]);have C:=Hd (hl.pure d);clear hl d;go_enter func265,ntmps265;go_upto_region 1 with fail
 generalize (w.alloc (.cells (Ab9 p q t v) 70)).alloc (.cells #[Aa Ab 2,Aa Ab 1,Aa Ac 0,.string ⟨#[]⟩,.slice XA 0 xac,.slice XB 0 xbc] 34)=w1 at b k a C⊢;generalize E:w.heap.size=bt at k a⊢;generalize bt+1=bs at a⊢;clear E;obtain ⟨O,P,Q,R⟩:=k.o.c4;obtain ⟨m,r,s,u,x,y⟩:=a.o.c6;have G:=Hd (Ee A n c p q l w1 0 1 C.o hc (by omega) h1 h2);clear h1 h2;go_wp2_with fail;go_at_call 149;refine G.o.mono ?_;rintro e i ⟨rfl,d⟩;have D:=Hd (Ar a.o.lt d.size);replace b:=Hd (A6 b.o d);have z:=Hd b.o.size;replace a:=Hd (a.o.pure d);clear d G C k m r s u x y O P Q R;go_upto_region 3 with fail
 replace b:=Hd (b.o.alloc b.o.size (.cells #[Aa Ab 2,Aa Ab 0,Aa Ac 0,.string ⟨#[]⟩,.slice none 0 0,.slice none 0 0] 34));replace a:=Hd (a.o.alloc (.cells #[Aa Ab 2,Aa Ab 0,Aa Ac 0,.string ⟨#[]⟩,.slice none 0 0,.slice none 0 0] 34));have f:=Hd (Bb.new i 34 #[Aa Ab 2,Aa Ab 0,Aa Ac 0,.string ⟨#[]⟩,.slice none 0 0,.slice none 0 0]);have h:=Hd (show w.heap.size≤i.heap.size∧bs<i.heap.size from⟨z.o,D.o⟩);generalize i.alloc (.cells #[Aa Ab 2,Aa Ab 0,Aa Ac 0,.string ⟨#[]⟩,.slice none 0 0,.slice none 0 0] 34)=w3 at b a f⊢;generalize i.heap.size=bw at f h⊢;obtain ⟨m,r,s,u,x,y⟩:=a.o.c6;obtain ⟨H,I,J,K,L,M⟩:=f.o.c6;have N:w3.frozen? ⟨bw,1,none⟩=false:=f.o.frozen 1;go_upto_region 5 with fail
 have F:Fr (fun j=>j=bw) w3 (w3.setCell ⟨bw,1,none⟩ (Aa Ab 1)):=(Fr.refl (fun j=>j=bw) w3).setCell (p:=⟨bw,1,none⟩) (fun _=>rfl) _;replace b:=Hd (Cf b.o F (by rintro j rfl;exact h.o.1));replace a:=Hd (a.o.fr F (fun e=>by have:=h.o.2;omega));replace f:=Hd (f.o.set_ 1 (Aa Ab 1));clear F N m r s u x y H I J K L M;generalize w3.setCell ⟨bw,1,none⟩ (Aa Ab 1)=w4 at b a f⊢;obtain ⟨m,r,s,u,x,y⟩:=a.o.c6;obtain ⟨H,I,J,K,L,M⟩:=f.o.c6;go_wp2_with fail;go_at_call 270;refine(G5 2 1 0 [] XA XB xac xbc w4).mono ?_;rintro e S ⟨rfl,d⟩;have B:=Hd (A6 b.o d);clear d;go_wp2_with fail;go_ret;exact⟨rfl,B.o⟩
theorem vN(A:Option Addr)(n c a:Nat)(p q v:Int)(s:List UInt8)(XA XB:Option Addr)(xac xbc:Nat)(l:List UInt8)(w:World)(hl:B4 w A n l)(hc:n≤c)(hn:n≤4294967296)(hv:1≤v∧v≤8)(hm:(a:Int) % v=0)(h1:Bz n ((a:Int)-v) v=0)(h2:loadU l ((a:Int)-v) v=s.length)(hsl:s.length<4294967296)(ha:At l a (s++ [0])):
  Calls Ad 267 #[.slice A n c,.agg (Ab9 p q 5 v),Aa Ab (a:Int),.agg #[Aa Ab 6,Aa Ab 0,Aa Ac 0,.string ⟨s.toArray⟩,.slice XA 0 xac,.slice XB 0 xbc]] w (Ab5 (.bool true) w):=by
 have I:¬9223372036854775807<s.length+1:=by omega
 have F:(⟨s.toArray⟩:ByteArray)++⟨#[0]⟩=⟨(s++ [0]).toArray⟩:=by
  apply ByteArray.ext;simp
 have H:=Hd ha;have G:(a:Int).tmod v=0:=by rw [Int.tmod_eq_emod_of_nonneg (by omega)];exact hm
 have J:(v==0)=false:=beq_eq_false_iff_ne.mpr (by omega);have K:IntKind.i64.wrap ((a:Int)-v)=(a:Int)-v:=Ag _ (by have h1:=ha.le;have h2:=hl.1;omega);clear ha hm;have b:=Bq w (.cells (Ab9 p q 5 v) 70) (.cells #[Aa Ab 6,Aa Ab 0,Aa Ac 0,.string ⟨s.toArray⟩,.slice XA 0 xac,.slice XB 0 xbc] 34);have i:=Hd b;have f:=Hd ((Bb.new w 70 (Ab9 p q 5 v)).alloc (.cells #[Aa Ab 6,Aa Ab 0,Aa Ac 0,.string ⟨s.toArray⟩,.slice XA 0 xac,.slice XB 0 xbc] 34));have d:=Hd (Bb.new_ (w:=w.alloc (.cells (Ab9 p q 5 v) 70)) (g:=w.heap.size+1) (by simp) 34 #[Aa Ab 6,Aa Ab 0,Aa Ac 0,.string ⟨s.toArray⟩,.slice XA 0 xac,.slice XB 0 xbc]);have h:=Hd (hl.pure b);clear hl b;go_enter func267,ntmps267;go_upto_region 1 with fail
 generalize (w.alloc (.cells (Ab9 p q 5 v) 70)).alloc (.cells #[Aa Ab 6,Aa Ab 0,Aa Ac 0,.string ⟨s.toArray⟩,.slice XA 0 xac,.slice XB 0 xbc] 34)=w1 at i f d h⊢;generalize E:w.heap.size=bt at f d⊢;generalize bt+1=bs at d⊢;clear E;obtain ⟨y,z,B,C⟩:=f.o.c4;obtain ⟨k,m,r,t,u,x⟩:=d.o.c6;have j:=Hd (J5 A n c ((a:Int)-v) v s.length l w1 h.o hc hn h1 h2 hsl);clear h1 h2 hsl;go_wp2_with fail;go_at_call 160;refine j.o.mono ?_;rintro e L ⟨rfl,b⟩;replace i:=Hd (A6 i.o b);replace f:=Hd (f.o.pure b);replace d:=Hd (d.o.pure b);replace h:=Hd (h.o.pure b);clear b k m r t u x y z B C j;obtain ⟨y,z,B,C⟩:=f.o.c4;obtain ⟨k,m,r,t,u,x⟩:=d.o.c6;go_wp2_with fail;go_at_call 270;refine(G5 6 0 0 s XA XB xac xbc L).mono ?_;rintro e M ⟨rfl,b⟩;replace i:=Hd (A6 i.o b);replace f:=Hd (f.o.pure b);replace d:=Hd (d.o.pure b);replace h:=Hd (h.o.pure b);clear b k m r t u x y z B C;obtain ⟨y,z,B,C⟩:=f.o.c4;obtain ⟨k,m,r,t,u,x⟩:=d.o.c6;go_wp2_with fail;go_at_call 320;refine(Tg A n c a (s++ [0]) l M h.o hc hn H.o).mono ?_;rintro e N ⟨rfl,b⟩;have D:=Hd (A6 i.o b);clear b;go_wp2_with fail;go_ret;exact⟨rfl,D.o⟩
theorem vM(A:Option Addr)(n c a:Nat)(p q v:Int)(s:List UInt8)(XA XB:Option Addr)(xac xbc:Nat)(l:List UInt8)(w:World)(hl:B4 w A n l)(hc:n≤c)(hn:n≤4294967296)(hv:1≤v∧v≤8)(hm:(a:Int) % v=0)(h1:Bz n ((a:Int)-v) v=0)(h2:loadU l ((a:Int)-v) v=s.length)(hsl:s.length<4294967296)(ha:At l a s):
  Calls Ad 267 #[.slice A n c,.agg (Ab9 p q 25 v),Aa Ab (a:Int),.agg #[Aa Ab 7,Aa Ab 0,Aa Ac 0,.string ⟨s.toArray⟩,.slice XA 0 xac,.slice XB 0 xbc]] w (Ab5 (.bool true) w):=by
 have G:=Hd ha;have F:(a:Int).tmod v=0:=by rw [Int.tmod_eq_emod_of_nonneg (by omega)];exact hm
 have H:(v==0)=false:=beq_eq_false_iff_ne.mpr (by omega);have I:IntKind.i64.wrap ((a:Int)-v)=(a:Int)-v:=Ag _ (by have h1:=ha.le;have h2:=hl.1;omega);clear ha hm;have b:=Bq w (.cells (Ab9 p q 25 v) 70) (.cells #[Aa Ab 7,Aa Ab 0,Aa Ac 0,.string ⟨s.toArray⟩,.slice XA 0 xac,.slice XB 0 xbc] 34);have i:=Hd b;have f:=Hd ((Bb.new w 70 (Ab9 p q 25 v)).alloc (.cells #[Aa Ab 7,Aa Ab 0,Aa Ac 0,.string ⟨s.toArray⟩,.slice XA 0 xac,.slice XB 0 xbc] 34));have d:=Hd (Bb.new_ (w:=w.alloc (.cells (Ab9 p q 25 v) 70)) (g:=w.heap.size+1) (by simp) 34 #[Aa Ab 7,Aa Ab 0,Aa Ac 0,.string ⟨s.toArray⟩,.slice XA 0 xac,.slice XB 0 xbc]);have h:=Hd (hl.pure b);clear hl b;go_enter func267,ntmps267;go_upto_region 1 with fail
 generalize (w.alloc (.cells (Ab9 p q 25 v) 70)).alloc (.cells #[Aa Ab 7,Aa Ab 0,Aa Ac 0,.string ⟨s.toArray⟩,.slice XA 0 xac,.slice XB 0 xbc] 34)=w1 at i f d h⊢;generalize E:w.heap.size=bt at f d⊢;generalize bt+1=bs at d⊢;clear E;obtain ⟨y,z,B,C⟩:=f.o.c4;obtain ⟨k,m,r,t,u,x⟩:=d.o.c6;have j:=Hd (J5 A n c ((a:Int)-v) v s.length l w1 h.o hc hn h1 h2 hsl);clear h1 h2 hsl;go_wp2_with fail;go_at_call 160;refine j.o.mono ?_;rintro e J ⟨rfl,b⟩;replace i:=Hd (A6 i.o b);replace f:=Hd (f.o.pure b);replace d:=Hd (d.o.pure b);replace h:=Hd (h.o.pure b);clear b k m r t u x y z B C j;obtain ⟨y,z,B,C⟩:=f.o.c4;obtain ⟨k,m,r,t,u,x⟩:=d.o.c6;go_wp2_with fail;go_at_call 270;refine(G5 7 0 0 s XA XB xac xbc J).mono ?_;rintro e K ⟨rfl,b⟩;replace i:=Hd (A6 i.o b);replace f:=Hd (f.o.pure b);replace d:=Hd (d.o.pure b);replace h:=Hd (h.o.pure b);clear b k m r t u x y z B C;obtain ⟨y,z,B,C⟩:=f.o.c4;obtain ⟨k,m,r,t,u,x⟩:=d.o.c6;go_wp2_with fail;go_at_call 320;refine(Tg A n c a s l K h.o hc hn G.o).mono ?_;rintro e L ⟨rfl,b⟩;have D:=Hd (A6 i.o b);clear b;go_wp2_with fail;go_ret;exact⟨rfl,D.o⟩
attribute [local go_sem] Oper.semAt_some
def F4(t:Int):Int:=if t=9 then 3 else if t=4∨t=6∨t=7∨0<Cr t then 0 else 1
theorem Sv(t:Int)(w:World):Calls Ad 161 #[Aa Ab t] w (Ab5 (Aa Ab (F4 t)) w):=by
 obtain⟨r,d⟩:∃r,F4 t=r:=⟨_,rfl⟩;rw [d];have j:=Hd (J6 t w);by_cases c:t=9
 ·have a:r=3:=by rw [←d];unfold F4;rw [if_pos c]
  have q:(t==9)=true:=by simp [c]
  subst a;clear c d;go_enter func161,ntmps161;go_wp2_with fail;go_at_call 272;refine j.o.mono ?_;rintro e l ⟨rfl,b⟩;have f:=Hd b;clear b;go_wp2_with fail;go_ret;exact⟨rfl,f.o⟩
 have q:(t==9)=false:=beq_eq_false_iff_ne.mpr c;by_cases g:t=4
 ·have a:r=0:=by rw [←d];unfold F4;rw [if_neg c,if_pos (.inl g)]
  have m:(t==4)=true:=by simp [g]
  subst a;clear c d g;go_enter func161,ntmps161;go_wp2_with fail;go_at_call 272;refine j.o.mono ?_;rintro e l ⟨rfl,b⟩;have f:=Hd b;clear b;go_wp2_with fail;go_ret;exact⟨rfl,f.o⟩
 have m:(t==4)=false:=beq_eq_false_iff_ne.mpr g;by_cases i:t=6
 ·have a:r=0:=by rw [←d];unfold F4;rw [if_neg c,if_pos (.inr (.inl i))]
  have n:(t==6)=true:=by simp [i]
  subst a;clear c d g i;go_enter func161,ntmps161;go_wp2_with fail;go_at_call 272;refine j.o.mono ?_;rintro e l ⟨rfl,b⟩;have f:=Hd b;clear b;go_wp2_with fail;go_ret;exact⟨rfl,f.o⟩
 have n:(t==6)=false:=beq_eq_false_iff_ne.mpr i;by_cases k:t=7
 ·have a:r=0:=by rw [←d];unfold F4;rw [if_neg c,if_pos (.inr (.inr (.inl k)))]
  have p:(t==7)=true:=by simp [k]
  subst a;clear c d g i k;go_enter func161,ntmps161;go_wp2_with fail;go_at_call 272;refine j.o.mono ?_;rintro e l ⟨rfl,b⟩;have f:=Hd b;clear b;go_wp2_with fail;go_ret;exact⟨rfl,f.o⟩
 have p:(t==7)=false:=beq_eq_false_iff_ne.mpr k;by_cases s:0<Cr t
 ·have a:r=0:=by rw [←d];unfold F4;rw [if_neg c,if_pos (.inr (.inr (.inr s)))]
  subst a;clear c d g i k;go_enter func161,ntmps161;go_wp2_with fail;go_at_call 272;refine j.o.mono ?_;rintro e l ⟨rfl,b⟩;have f:=Hd b;clear b;go_wp2_with fail;go_ret;exact⟨rfl,f.o⟩
 ·have a:r=1:=by rw [←d];unfold F4;rw [if_neg c,if_neg (by rintro(h|h|h|h) <;>contradiction)]
  subst a;clear c d g i k;go_enter func161,ntmps161;go_wp2_with fail;go_at_call 272;refine j.o.mono ?_;rintro e l ⟨rfl,b⟩;have f:=Hd b;clear b;go_wp2_with fail;go_ret;exact⟨rfl,f.o⟩
end
section
open Go.Acc
mutual
def Tr.sz:Tr→Nat
 | .mk _ _ _ _ _ l=>1+Tr.szL l
def Tr.szL:List Tr→Nat
 | []=>0
 |t::r=>t.sz+Tr.szL r
end
mutual
def Tr.high:Tr→Nat
 | .mk _ _ _ _ _ l=>1+Tr.highL l
def Tr.highL:List Tr→Nat
 | []=>0
 |t::r=>max t.high (Tr.highL r)
end
structure Mb(L:List UInt8)(s:Nat)(vs:List Bv)(v:Bv):Prop where
 w:Br (v.w:Int)=true
 typ:Iq (v.t:Int)=true
 md:(s+v.n) % v.w=0
 ah:aheadT (v.t:Int)*v.w≤s+v.n
 n1:0<Cr (v.t:Int)→Cr (v.t:Int)=(vs.length:Int)
 n2:¬0<Cr (v.t:Int)→loadU L (((s+v.n:Nat):Int)-(v.w:Int)) (v.w:Int)=vs.length
 sp:s+v.n+vs.length*(v.w+tgs (v.t:Int))≤L.length
 tags:Dk (v.t:Int)=true→At L (s+v.n+vs.length*v.w) (vs.map (D2 v.w))
 el:∀(i:Nat) y,vs[i]?=some y→At L (s+v.n+i*v.w) (Bi v.w (Dc v.w (v.n+i*v.w) y))∧Qu v.w (v.n+i*v.w) y
theorem bB{a:Nat}(hw:Br (w:Int)=true)(h:At L a (Bi w u))(hu:u<2^(8*w)):loadU L (a:Int) (w:Int)=u:=by
 rw [h.load hw,Jr,Nat.mod_eq_of_lt hu]
end
section
open Go.RowKit Go.Acc
theorem Aa7(hw:Br (w:Int)=true)(h:bWidthI n≤w)(h64: -9223372036854775808≤n∧n≤9223372036854775807):sx w (bits n % 2^(8*w))=n:=by
 unfold sx bits;unfold bWidthI at h;rcases Dl hw with rfl|rfl|rfl|rfl
 ·split at h
  ·split <;>simp at* <;>omega
  ·exfalso;(repeat' split at h) <;>omega
 ·split at h
  ·split <;>simp at* <;>omega
  ·split at h
   ·split <;>simp at* <;>omega
   ·exfalso;(repeat' split at h) <;>omega
 ·split at h
  ·split <;>simp at* <;>omega
  ·split at h
   ·split <;>simp at* <;>omega
   ·split at h
    ·split <;>simp at* <;>omega
    ·omega
 ·split <;>simp at* <;>omega
theorem zO(hw:Br (w:Int)=true)(h:bWidth u≤w)(hu:u<18446744073709551616):u % 2^(8*w)=u:=by
 refine Nat.mod_eq_of_lt ?_;exact Gk hw hu h
end
section
open Go.Acc
structure Fa(L:List UInt8)(z w:Nat)(v:Bv):Prop where
 sw:Br (w:Int)=true
 at_:At L z (Bi w (Dc w z v))
 el:Qu w z v
theorem Fa.le(h:Fa L z w v):z+w≤L.length:=by
 have:=h.at_.le
 rwa [B3] at this
theorem Fa.load(h:Fa L z w v)(hi:inl v.t=false):loadU L (z:Int) (w:Int)=z-v.n∧v.n≤z:=by
 obtain⟨h1,h2⟩:=h.el.2 hi;refine⟨?_,h1⟩;rw [h.at_.load h.sw,Jr];have e:Dc w z v=z-v.n:=by unfold Dc;rw [if_neg (by rw [hi];decide)]
 rw [e,Nat.mod_eq_of_lt h2]
theorem Fa.num(h:Fa L z w v)(hi:inl v.t=true):loadU L (z:Int) (w:Int)=v.n % 2^(8*w)∧v.w≤w:=by
 refine⟨?_,h.el.1 hi⟩;rw [h.at_.load h.sw,Jr];have e:Dc w z v=v.n % 2^(8*w):=by unfold Dc;rw [if_pos hi]
 rw [e,Nat.mod_mod]
theorem Mb.slot(h:Mb L 0 vs v){i:Nat}{y:Bv}(hy:vs[i]?=some y):Fa L (v.n+i*v.w) v.w y:=by
 obtain⟨h1,h2⟩:=h.el i y hy;rw [Nat.zero_add] at h1;exact⟨h.w,h1,h2⟩
end
section
open Go.RowKit Go.Acc
theorem aZ{a:Int}(hw:Br (w:Int)=true)(hb:bWidthI n≤w)(hn: -9223372036854775808≤n∧n≤9223372036854775807)(hl:loadU L a w=bits n % 2^(8*w))(h0:0≤a)(h1:a+w≤L.length):Jg L a w=n:=by
 unfold Jg;rw [if_pos ⟨hw,h0,h1⟩,hl,show(w:Int).toNat=w from rfl];exact Aa7 hw hb hn
def Prp(y:Bv):Prop:=y=⟨0,1,0⟩∨(∃n,y=E3 n)∨(∃n:Int,(-9223372036854775808≤n∧n≤9223372036854775807)∧y=Gs n)∨(∃u,u<18446744073709551616∧y=Ds u)∨inl y.t=false
def O9(T:Int)(vs:List Bv):Prop:=∀y∈vs,Prp y∧Ch (y.t:Int)=true∧Br (y.w:Int)=true∧(Dk T=false→Fh T=(y.t:Int))
theorem rM{T:Int}{ks:List (List UInt8)}(h:F2 L ks vs)(hT:Fh T=4):O9 T vs:=by
 intro y e;obtain⟨i,b,rfl⟩:=List.mem_iff_getElem.1 e;have d:ks[i]?=some (ks[i]'(by rw [←h.1];exact b)):=Ai (by rw [←h.1];exact b);obtain⟨a,c,_⟩:=h.2 i _ vs[i] d (Ai b);refine⟨.inr (.inr (.inr (.inr (by rw [a];decide)))),by rw [a];decide,by rw [c];decide,fun _=>by rw [hT,a];rfl⟩
end
end Go.Proofs.YtejpbijeifjdeaaGreat
