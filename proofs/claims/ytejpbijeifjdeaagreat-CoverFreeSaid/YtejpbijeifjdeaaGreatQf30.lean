/- Parts of the proof. -/
import Derived.Test.YtejpbijeifjdeaaGreatQf29
import Derived.Maps.Views
import Derived.Maps.Ext
set_option maxHeartbeats 1000000
set_option maxRecDepth 100000
open Go.Value renaming int→Aa
open Go.IntKind renaming i64→Ab,u64→Ac
open List renaming getElem?_eq_getElem→Ag,length_append→Ah,mem_append_left→Ar,length_map→As,length_cons→Au,length_nil→Aw,length_take→Az,mem_append_right→Bf,getElem?_append_left→Bh
open Go.IntWalk renaming i64_in→Ao
open Nat renaming lt_of_lt_of_le→Ax
open Go.Proofs.Tryz
open Go.Proofs.Tryz renaming prog→Ad
namespace Go.Proofs.YtejpbijeifjdeaaGreat
open Go.RowKit Go.Acc
variable {l m L L' s:List UInt8}{a w t:Nat}{x c m':Int}{v y:Bv}{ks:List (List UInt8)}{vs:List Bv}{log:List P3}
theorem Zb(A:Option Addr)(n c:Nat)(a x sg us z:Int)(y:Nat)(XA XB:Option Addr)(xac xbc:Nat)(l:List UInt8)(w:World)(hl:Cv w A n l)(hc:n≤c)(hn:n≤4294967296)(h1:Cy n a x=0)(h2:loadU l a x=y)(h3:I9 l a x=z):
  Calls Ad 319 #[.slice A n c,Aa Ab a,Aa Ab x,Aa Ab sg,Aa Ab us,.agg #[Aa Ab sg,Aa Ab z,Aa Ac 0,.string ⟨#[]⟩,.slice XA 0 xac,.slice XB 0 xbc]] w (Afc (.bool true) w):=by
 have b:=(Below.refl w.heap.size w).alloc (Nat.le_refl _) (.cells #[Aa Ab sg,Aa Ab z,Aa Ac 0,.string ⟨#[]⟩,.slice XA 0 xac,.slice XB 0 xbc] 34);have d:=Hd b;have g:=Hd (Bk.new w 34 #[Aa Ab sg,Aa Ab z,Aa Ac 0,.string ⟨#[]⟩,.slice XA 0 xac,.slice XB 0 xbc]);have i:=Hd (Ff A n c a x l _ 0 y (hl.pure b) hc (by omega) h1 h2);have f:=Hd (hl.pure b);have j:=Hd (And.intro h1 h3);clear hl b h1 h2 h3;go_enter func319,ntmps319;go_upto_region 1 with fail
 generalize w.alloc (.cells #[Aa Ab sg,Aa Ab z,Aa Ac 0,.string ⟨#[]⟩,.slice XA 0 xac,.slice XB 0 xbc] 34)=w1 at d g i f⊢;generalize w.heap.size=bt at g⊢;go_wp2_with fail;go_at_call 149;refine i.o.mono ?_;rintro e k ⟨rfl,b⟩;have h:=Hd (eM A n c a x l k z 0 (f.o.pure b) hc (by omega) j.o.2 j.o.1);replace d:=Hd (Bi d.o b);replace g:=Hd (g.o.pure b);clear b i f;go_wp2_with fail;go_at_call 168;refine h.o.mono ?_;rintro e m ⟨rfl,b⟩;replace d:=Hd (Bi d.o b);replace g:=Hd (g.o.pure b);clear b h;obtain ⟨p,q,r,s,t,u⟩:=g.o.c6;go_wp2_with fail;go_at_call 270;refine(Hw sg z 0 [] XA XB xac xbc m).mono ?_;rintro e v ⟨rfl,b⟩;replace d:=Hd (Bi d.o b);clear b;go_wp2_with fail;go_ret;exact⟨rfl,d.o⟩
theorem Zc(A:Option Addr)(n c:Nat)(a x sg us z:Int)(y:Nat)(XA XB:Option Addr)(xac xbc:Nat)(l:List UInt8)(w:World)(hl:Cv w A n l)(hc:n≤c)(hn:n≤4294967296)(h1:Cy n a x=0)(h2:loadU l a x=y)(h3:I9 l a x=z)(hne:us≠sg):
  Calls Ad 319 #[.slice A n c,Aa Ab a,Aa Ab x,Aa Ab sg,Aa Ab us,.agg #[Aa Ab us,Aa Ab 0,Aa Ac (y:Int),.string ⟨#[]⟩,.slice XA 0 xac,.slice XB 0 xbc]] w (Afc (.bool true) w):=by
 have k:(us==sg)=false:=beq_eq_false_iff_ne.mpr hne;clear hne;have b:=(Below.refl w.heap.size w).alloc (Nat.le_refl _) (.cells #[Aa Ab us,Aa Ab 0,Aa Ac (y:Int),.string ⟨#[]⟩,.slice XA 0 xac,.slice XB 0 xbc] 34);have d:=Hd b;have g:=Hd (Bk.new w 34 #[Aa Ab us,Aa Ab 0,Aa Ac (y:Int),.string ⟨#[]⟩,.slice XA 0 xac,.slice XB 0 xbc]);have i:=Hd (Ff A n c a x l _ 0 y (hl.pure b) hc (by omega) h1 h2);have f:=Hd (hl.pure b);have j:=Hd (And.intro h1 h3);clear hl b h1 h2 h3;go_enter func319,ntmps319;go_upto_region 1 with fail
 generalize w.alloc (.cells #[Aa Ab us,Aa Ab 0,Aa Ac (y:Int),.string ⟨#[]⟩,.slice XA 0 xac,.slice XB 0 xbc] 34)=w1 at d g i f⊢;generalize w.heap.size=bt at g⊢;go_wp2_with fail;go_at_call 149;refine i.o.mono ?_;rintro e m ⟨rfl,b⟩;have h:=Hd (eM A n c a x l m z 0 (f.o.pure b) hc (by omega) j.o.2 j.o.1);replace d:=Hd (Bi d.o b);replace g:=Hd (g.o.pure b);clear b i f;go_wp2_with fail;go_at_call 168;refine h.o.mono ?_;rintro e p ⟨rfl,b⟩;replace d:=Hd (Bi d.o b);replace g:=Hd (g.o.pure b);clear b h;obtain ⟨q,r,s,t,u,v⟩:=g.o.c6;go_wp2_with fail;go_at_call 270;refine(Hw us 0 y [] XA XB xac xbc p).mono ?_;rintro e B ⟨rfl,b⟩;replace d:=Hd (Bi d.o b);clear b;go_wp2_with fail;go_ret;exact⟨rfl,d.o⟩
theorem qR(A:Option Addr)(n c:Nat)(p q t v at_ z:Int)(XA XB:Option Addr)(xac xbc:Nat)(l:List UInt8)(w:World)(hl:Cv w A n l)(hc:n≤c)(hn:n≤4294967296)(h1:Cy n p q=0)(h3:I9 l p q=z):
  Calls Ad 263 #[.slice A n c,.agg (Afg p q t v),Aa Ab at_,.agg #[Aa Ab 3,Aa Ab z,Aa Ac 0,.string ⟨#[]⟩,.slice XA 0 xac,.slice XB 0 xbc]] w (Afc (.bool true) w):=by
 have a:=Bu w (.cells (Afg p q t v) 70) (.cells #[Aa Ab 3,Aa Ab z,Aa Ac 0,.string ⟨#[]⟩,.slice XA 0 xac,.slice XB 0 xbc] 34);have i:=Hd a;have f:=Hd ((Bk.new w 70 (Afg p q t v)).alloc (.cells #[Aa Ab 3,Aa Ab z,Aa Ac 0,.string ⟨#[]⟩,.slice XA 0 xac,.slice XB 0 xbc] 34));have b:=Hd (Bk.new_ (w:=w.alloc (.cells (Afg p q t v) 70)) (g:=w.heap.size+1) (by simp) 34 #[Aa Ab 3,Aa Ab z,Aa Ac 0,.string ⟨#[]⟩,.slice XA 0 xac,.slice XB 0 xbc]);have j:=Hd (hl.pure a);clear hl a;go_enter func263,ntmps263;go_upto_region 1 with fail
 generalize (w.alloc (.cells (Afg p q t v) 70)).alloc (.cells #[Aa Ab 3,Aa Ab z,Aa Ac 0,.string ⟨#[]⟩,.slice XA 0 xac,.slice XB 0 xbc] 34)=w1 at i f b j⊢;generalize h:w.heap.size=bt at f b⊢;generalize bt+1=bs at b⊢;clear h;obtain ⟨y,B,C,D⟩:=f.o.c4;obtain ⟨k,m,r,s,u,x⟩:=b.o.c6;go_wp2_with fail;go_at_call 319;refine(Zb A n c p q 3 4 z _ XA XB xac xbc l w1 j.o hc hn h1 rfl h3).mono ?_;rintro e E ⟨rfl,a⟩;have d:=Hd (Bi i.o a);clear a;go_wp2_with fail;go_ret;exact⟨rfl,d.o⟩
theorem nB(A:Option Addr)(n c:Nat)(p q t v at_:Int)(y:Nat)(XA XB:Option Addr)(xac xbc:Nat)(l:List UInt8)(w:World)(hl:Cv w A n l)(hc:n≤c)(hn:n≤4294967296)(h1:Cy n p q=0)(h2:loadU l p q=y):
  Calls Ad 264 #[.slice A n c,.agg (Afg p q t v),Aa Ab at_,.agg #[Aa Ab 4,Aa Ab 0,Aa Ac (y:Int),.string ⟨#[]⟩,.slice XA 0 xac,.slice XB 0 xbc]] w (Afc (.bool true) w):=by
 have a:=Bu w (.cells (Afg p q t v) 70) (.cells #[Aa Ab 4,Aa Ab 0,Aa Ac (y:Int),.string ⟨#[]⟩,.slice XA 0 xac,.slice XB 0 xbc] 34);have i:=Hd a;have f:=Hd ((Bk.new w 70 (Afg p q t v)).alloc (.cells #[Aa Ab 4,Aa Ab 0,Aa Ac (y:Int),.string ⟨#[]⟩,.slice XA 0 xac,.slice XB 0 xbc] 34));have b:=Hd (Bk.new_ (w:=w.alloc (.cells (Afg p q t v) 70)) (g:=w.heap.size+1) (by simp) 34 #[Aa Ab 4,Aa Ab 0,Aa Ac (y:Int),.string ⟨#[]⟩,.slice XA 0 xac,.slice XB 0 xbc]);have j:=Hd (hl.pure a);clear hl a;go_enter func264,ntmps264;go_upto_region 1 with fail
 generalize (w.alloc (.cells (Afg p q t v) 70)).alloc (.cells #[Aa Ab 4,Aa Ab 0,Aa Ac (y:Int),.string ⟨#[]⟩,.slice XA 0 xac,.slice XB 0 xbc] 34)=w1 at i f b j⊢;generalize h:w.heap.size=bt at f b⊢;generalize bt+1=bs at b⊢;clear h;obtain ⟨z,B,C,D⟩:=f.o.c4;obtain ⟨k,m,r,s,u,x⟩:=b.o.c6;go_wp2_with fail;go_at_call 319;refine(Zc A n c p q 3 4 _ y XA XB xac xbc l w1 j.o hc hn h1 h2 rfl (by decide)).mono ?_;rintro e E ⟨rfl,a⟩;have d:=Hd (Bi i.o a);clear a;go_wp2_with fail;go_ret;exact⟨rfl,d.o⟩
theorem mZ(A:Option Addr)(n c:Nat)(p q t v at_:Int)(XA XB:Option Addr)(xac xbc:Nat)(l:List UInt8)(w:World)(hl:Cv w A n l)(hc:n≤c)(hn:n≤4294967296)(h1:Cy n p q=0):
  Calls Ad 262 #[.slice A n c,.agg (Afg p q t v),Aa Ab at_,.agg #[Aa Ab 1,Aa Ab 0,Aa Ac 0,.string ⟨#[]⟩,.slice XA 0 xac,.slice XB 0 xbc]] w (Afc (.bool true) w):=by
 have a:=Bu w (.cells (Afg p q t v) 70) (.cells #[Aa Ab 1,Aa Ab 0,Aa Ac 0,.string ⟨#[]⟩,.slice XA 0 xac,.slice XB 0 xbc] 34);have d:=Hd a;have h:=Hd ((Bk.new w 70 (Afg p q t v)).alloc (.cells #[Aa Ab 1,Aa Ab 0,Aa Ac 0,.string ⟨#[]⟩,.slice XA 0 xac,.slice XB 0 xbc] 34));have b:=Hd (Bk.new_ (w:=w.alloc (.cells (Afg p q t v) 70)) (g:=w.heap.size+1) (by simp) 34 #[Aa Ab 1,Aa Ab 0,Aa Ac 0,.string ⟨#[]⟩,.slice XA 0 xac,.slice XB 0 xbc]);have j:=Hd (hl.pure a);clear hl a;go_enter func262,ntmps262;go_upto_region 1 with fail
 generalize (w.alloc (.cells (Afg p q t v) 70)).alloc (.cells #[Aa Ab 1,Aa Ab 0,Aa Ac 0,.string ⟨#[]⟩,.slice XA 0 xac,.slice XB 0 xbc] 34)=w1 at d h b j⊢;generalize i:w.heap.size=bt at h b⊢;generalize bt+1=bs at b⊢;clear i;obtain ⟨y,z,B,C⟩:=h.o.c4;obtain ⟨k,m,r,s,u,x⟩:=b.o.c6;go_wp2_with fail;go_at_call 318;refine(cQ A n c p q t v l w1 j.o hc hn h1).mono ?_;rintro e D ⟨rfl,a⟩;replace d:=Hd (Bi d.o a);replace b:=Hd (b.o.pure a);clear a k m r s u x y z B C;obtain ⟨k,m,r,s,u,x⟩:=b.o.c6;go_wp2_with fail;go_at_call 270;refine(Hw 1 0 0 [] XA XB xac xbc D).mono ?_;rintro e E ⟨rfl,a⟩;have f:=Hd (Bi d.o a);clear a;go_wp2_with fail;go_ret;exact⟨rfl,f.o⟩
theorem vS(A:Option Addr)(n c:Nat)(p q v:Int)(a z:Int)(XA XB:Option Addr)(xac xbc:Nat)(l:List UInt8)(w:World)(hl:Cv w A n l)(hc:n≤c)(hn:n≤4294967296)(h1:Cy n a v=0)(h0:0≤a)(hv:1≤v∧v≤8)(hm:a % v=0)(h3:I9 l a v=z):
  Calls Ad 268 #[.slice A n c,.agg (Afg p q 6 v),Aa Ab a,.agg #[Aa Ab 8,Aa Ab z,Aa Ac 0,.string ⟨#[]⟩,.slice XA 0 xac,.slice XB 0 xbc]] w (Afc (.bool true) w):=by
 have m:a.tmod v=0:=by rw [Int.tmod_eq_emod_of_nonneg h0];exact hm
 have r:(v==0)=false:=beq_eq_false_iff_ne.mpr (by omega);clear hm;have b:=Bu w (.cells (Afg p q 6 v) 70) (.cells #[Aa Ab 8,Aa Ab z,Aa Ac 0,.string ⟨#[]⟩,.slice XA 0 xac,.slice XB 0 xbc] 34);have j:=Hd b;have h:=Hd ((Bk.new w 70 (Afg p q 6 v)).alloc (.cells #[Aa Ab 8,Aa Ab z,Aa Ac 0,.string ⟨#[]⟩,.slice XA 0 xac,.slice XB 0 xbc] 34));have d:=Hd (Bk.new_ (w:=w.alloc (.cells (Afg p q 6 v) 70)) (g:=w.heap.size+1) (by simp) 34 #[Aa Ab 8,Aa Ab z,Aa Ac 0,.string ⟨#[]⟩,.slice XA 0 xac,.slice XB 0 xbc]);have k:=Hd (hl.pure b);clear hl b;go_enter func268,ntmps268;go_upto_region 1 with fail
 generalize (w.alloc (.cells (Afg p q 6 v) 70)).alloc (.cells #[Aa Ab 8,Aa Ab z,Aa Ac 0,.string ⟨#[]⟩,.slice XA 0 xac,.slice XB 0 xbc] 34)=w1 at j h d k⊢;generalize i:w.heap.size=bt at h d⊢;generalize bt+1=bs at d⊢;clear i;obtain ⟨C,D,E,F⟩:=h.o.c4;obtain ⟨s,t,u,x,y,B⟩:=d.o.c6;go_wp2_with fail;go_at_call 319;refine(Zb A n c a v 8 9 z _ XA XB xac xbc l w1 k.o hc hn h1 rfl h3).mono ?_;rintro e G ⟨rfl,b⟩;have f:=Hd (Bi j.o b);clear b;go_wp2_with fail;go_ret;exact⟨rfl,f.o⟩
theorem vU(A:Option Addr)(n c:Nat)(p q v:Int)(a:Int)(y:Nat)(XA XB:Option Addr)(xac xbc:Nat)(l:List UInt8)(w:World)(hl:Cv w A n l)(hc:n≤c)(hn:n≤4294967296)(h1:Cy n a v=0)(h0:0≤a)(hv:1≤v∧v≤8)(hm:a % v=0)(h2:loadU l a v=y):
  Calls Ad 268 #[.slice A n c,.agg (Afg p q 7 v),Aa Ab a,.agg #[Aa Ab 9,Aa Ab 0,Aa Ac (y:Int),.string ⟨#[]⟩,.slice XA 0 xac,.slice XB 0 xbc]] w (Afc (.bool true) w):=by
 have m:a.tmod v=0:=by rw [Int.tmod_eq_emod_of_nonneg h0];exact hm
 have r:(v==0)=false:=beq_eq_false_iff_ne.mpr (by omega);clear hm;have b:=Bu w (.cells (Afg p q 7 v) 70) (.cells #[Aa Ab 9,Aa Ab 0,Aa Ac (y:Int),.string ⟨#[]⟩,.slice XA 0 xac,.slice XB 0 xbc] 34);have j:=Hd b;have h:=Hd ((Bk.new w 70 (Afg p q 7 v)).alloc (.cells #[Aa Ab 9,Aa Ab 0,Aa Ac (y:Int),.string ⟨#[]⟩,.slice XA 0 xac,.slice XB 0 xbc] 34));have d:=Hd (Bk.new_ (w:=w.alloc (.cells (Afg p q 7 v) 70)) (g:=w.heap.size+1) (by simp) 34 #[Aa Ab 9,Aa Ab 0,Aa Ac (y:Int),.string ⟨#[]⟩,.slice XA 0 xac,.slice XB 0 xbc]);have k:=Hd (hl.pure b);clear hl b;go_enter func268,ntmps268;go_upto_region 1 with fail
 generalize (w.alloc (.cells (Afg p q 7 v) 70)).alloc (.cells #[Aa Ab 9,Aa Ab 0,Aa Ac (y:Int),.string ⟨#[]⟩,.slice XA 0 xac,.slice XB 0 xbc] 34)=w1 at j h d k⊢;generalize i:w.heap.size=bt at h d⊢;generalize bt+1=bs at d⊢;clear i;obtain ⟨C,D,E,F⟩:=h.o.c4;obtain ⟨s,t,u,x,z,B⟩:=d.o.c6;go_wp2_with fail;go_at_call 319;refine(Zc A n c a v 8 9 _ y XA XB xac xbc l w1 k.o hc hn h1 h2 rfl (by decide)).mono ?_;rintro e G ⟨rfl,b⟩;have f:=Hd (Bi j.o b);clear b;go_wp2_with fail;go_ret;exact⟨rfl,f.o⟩
theorem rV(s:List UInt8)(w:World)(hz:Ci s=false):Calls Ad 279 #[.string ⟨s.toArray⟩] w (Afd (Aa Ab 0) w):=by
 obtain⟨r,hr⟩:∃r,Lib.indexByte s 0=r:=⟨_,rfl⟩;have HR:=Hd hr;have hd:decide ((0:Int)≤r)=false:=by rw [←hr,Qw];exact hz
 clear hr hz;go_enter func279,ntmps279;go_wp2_with (go_at_call 239;refine(U9 s r _ HR.o).mono ?_;rintro e w' ⟨rfl,rfl⟩);go_ret;exact⟨rfl,rfl⟩
theorem qS(A:Option Addr)(n c a:Nat)(p q t v:Int)(s:List UInt8)(XA XB:Option Addr)(xac xbc:Nat)(l:List UInt8)(w:World)(hl:Cv w A n l)(hc:n≤c)(hn:n≤4294967296)(hz:Ci s=false)(ha:At l a (s++ [0])):
  Calls Ad 266 #[.slice A n c,.agg (Afg p q t v),Aa Ab (a:Int),.agg #[Aa Ab 5,Aa Ab 0,Aa Ac 0,.string ⟨s.toArray⟩,.slice XA 0 xac,.slice XB 0 xbc]] w (Afc (.bool true) w):=by
 have D:=Hd ha;have E:=Hd hz;have F:¬9223372036854775807<s.length+1:=by
  have h1:=ha.le;have h2:=hl.1;rw [Ah] at h1;omega
 have m:(⟨s.toArray⟩:ByteArray)++⟨#[0]⟩=⟨(s++ [0]).toArray⟩:=by
  apply ByteArray.ext;simp
 clear ha hz;have b:=Bu w (.cells (Afg p q t v) 70) (.cells #[Aa Ab 5,Aa Ab 0,Aa Ac 0,.string ⟨s.toArray⟩,.slice XA 0 xac,.slice XB 0 xbc] 34);have f:=Hd b;have j:=Hd ((Bk.new w 70 (Afg p q t v)).alloc (.cells #[Aa Ab 5,Aa Ab 0,Aa Ac 0,.string ⟨s.toArray⟩,.slice XA 0 xac,.slice XB 0 xbc] 34));have d:=Hd (Bk.new_ (w:=w.alloc (.cells (Afg p q t v) 70)) (g:=w.heap.size+1) (by simp) 34 #[Aa Ab 5,Aa Ab 0,Aa Ac 0,.string ⟨s.toArray⟩,.slice XA 0 xac,.slice XB 0 xbc]);have h:=Hd (hl.pure b);clear hl b;go_enter func266,ntmps266;go_upto_region 1 with fail
 generalize (w.alloc (.cells (Afg p q t v) 70)).alloc (.cells #[Aa Ab 5,Aa Ab 0,Aa Ac 0,.string ⟨s.toArray⟩,.slice XA 0 xac,.slice XB 0 xbc] 34)=w1 at f j d h⊢;generalize k:w.heap.size=bt at j d⊢;generalize bt+1=bs at d⊢;clear k;obtain ⟨G,H,I,J⟩:=j.o.c4;obtain ⟨r,u,x,y,z,B⟩:=d.o.c6;go_wp2_with fail;go_at_call 270;refine(Hw 5 0 0 s XA XB xac xbc w1).mono ?_;rintro e C ⟨rfl,b⟩;replace f:=Hd (Bi f.o b);replace d:=Hd (d.o.pure b);replace h:=Hd (h.o.pure b);clear b r u x y z B G H I J;obtain ⟨r,u,x,y,z,B⟩:=d.o.c6;go_wp2_with fail;go_at_call 279;refine(rV s C E.o).mono ?_;rintro e K ⟨rfl,rfl⟩;go_wp2_with fail;go_at_call 320;refine(U3 A n c a (s++ [0]) l C h.o hc hn D.o).mono ?_;rintro e L ⟨rfl,b⟩;have i:=Hd (Bi f.o b);clear b;go_wp2_with fail;go_ret;exact⟨rfl,i.o⟩
theorem Aaj(A:Option Addr)(n c:Nat)(p q t v at_:Int)(XA XB:Option Addr)(xac xbc:Nat)(l:List UInt8)(w:World)(hl:Cv w A n l)(hc:n≤c)(hn:n≤4294967296)(h1:Cy n p q=0)(h2:loadU l p q=0):
  Calls Ad 265 #[.slice A n c,.agg (Afg p q t v),Aa Ab at_,.agg #[Aa Ab 2,Aa Ab 0,Aa Ac 0,.string ⟨#[]⟩,.slice XA 0 xac,.slice XB 0 xbc]] w (Afc (.bool true) w):=by
 have b:=Bu w (.cells (Afg p q t v) 70) (.cells #[Aa Ab 2,Aa Ab 0,Aa Ac 0,.string ⟨#[]⟩,.slice XA 0 xac,.slice XB 0 xbc] 34);have d:=Hd b;have h:=Hd ((Bk.new w 70 (Afg p q t v)).alloc (.cells #[Aa Ab 2,Aa Ab 0,Aa Ac 0,.string ⟨#[]⟩,.slice XA 0 xac,.slice XB 0 xbc] 34));have a:=Hd (Bk.new_ (w:=w.alloc (.cells (Afg p q t v) 70)) (g:=w.heap.size+1) (by simp) 34 #[Aa Ab 2,Aa Ab 0,Aa Ac 0,.string ⟨#[]⟩,.slice XA 0 xac,.slice XB 0 xbc]);have k:=Hd (hl.pure b);clear hl b;go_enter func265,ntmps265;go_upto_region 1 with fail
 generalize (w.alloc (.cells (Afg p q t v) 70)).alloc (.cells #[Aa Ab 2,Aa Ab 0,Aa Ac 0,.string ⟨#[]⟩,.slice XA 0 xac,.slice XB 0 xbc] 34)=w1 at d h a k⊢;generalize u:w.heap.size=bt at h a⊢;generalize bt+1=bs at a⊢;clear u;obtain ⟨F,G,H,I⟩:=h.o.c4;obtain ⟨y,z,B,C,D,E⟩:=a.o.c6;have x:=Hd (Ff A n c p q l w1 0 0 k.o hc (by omega) h1 h2);clear h1 h2;go_wp2_with fail;go_at_call 149;refine x.o.mono ?_;rintro e f ⟨rfl,b⟩;have r:=Hd (Ax a.o.lt b.size);replace d:=Hd (Bi d.o b);have i:=Hd d.o.size;replace a:=Hd (a.o.pure b);clear b x k h y z B C D E F G H I;go_upto_region 3 with fail
 replace d:=Hd (d.o.alloc d.o.size (.cells #[Aa Ab 2,Aa Ab 0,Aa Ac 0,.string ⟨#[]⟩,.slice none 0 0,.slice none 0 0] 34));replace a:=Hd (a.o.alloc (.cells #[Aa Ab 2,Aa Ab 0,Aa Ac 0,.string ⟨#[]⟩,.slice none 0 0,.slice none 0 0] 34));have s:=Hd (Bk.new f 34 #[Aa Ab 2,Aa Ab 0,Aa Ac 0,.string ⟨#[]⟩,.slice none 0 0,.slice none 0 0]);have m:=Hd (show w.heap.size≤f.heap.size∧bs<f.heap.size from⟨i.o,r.o⟩);generalize f.alloc (.cells #[Aa Ab 2,Aa Ab 0,Aa Ac 0,.string ⟨#[]⟩,.slice none 0 0,.slice none 0 0] 34)=w3 at d a s⊢;generalize f.heap.size=bw at s m⊢;obtain ⟨y,z,B,C,D,E⟩:=a.o.c6;obtain ⟨K,L,M,N,O,P⟩:=s.o.c6;go_wp2_with fail;go_at_call 270;refine(Hw 2 0 0 [] XA XB xac xbc w3).mono ?_;rintro e J ⟨rfl,b⟩;have j:=Hd (Bi d.o b);clear b;go_wp2_with fail;go_ret;exact⟨rfl,j.o⟩
theorem Aak(A:Option Addr)(n c:Nat)(p q t v at_:Int)(XA XB:Option Addr)(xac xbc:Nat)(l:List UInt8)(w:World)(hl:Cv w A n l)(hc:n≤c)(hn:n≤4294967296)(h1:Cy n p q=0)(h2:loadU l p q=1):
  Calls Ad 265 #[.slice A n c,.agg (Afg p q t v),Aa Ab at_,.agg #[Aa Ab 2,Aa Ab 1,Aa Ac 0,.string ⟨#[]⟩,.slice XA 0 xac,.slice XB 0 xbc]] w (Afc (.bool true) w):=by
 have d:=Bu w (.cells (Afg p q t v) 70) (.cells #[Aa Ab 2,Aa Ab 1,Aa Ac 0,.string ⟨#[]⟩,.slice XA 0 xac,.slice XB 0 xbc] 34);have b:=Hd d;have k:=Hd ((Bk.new w 70 (Afg p q t v)).alloc (.cells #[Aa Ab 2,Aa Ab 1,Aa Ac 0,.string ⟨#[]⟩,.slice XA 0 xac,.slice XB 0 xbc] 34));have a:=Hd (Bk.new_ (w:=w.alloc (.cells (Afg p q t v) 70)) (g:=w.heap.size+1) (by simp) 34 #[Aa Ab 2,Aa Ab 1,Aa Ac 0,.string ⟨#[]⟩,.slice XA 0 xac,.slice XB 0 xbc]);have C:=Hd (hl.pure d);clear hl d;go_enter func265,ntmps265;go_upto_region 1 with fail
 generalize (w.alloc (.cells (Afg p q t v) 70)).alloc (.cells #[Aa Ab 2,Aa Ab 1,Aa Ac 0,.string ⟨#[]⟩,.slice XA 0 xac,.slice XB 0 xbc] 34)=w1 at b k a C⊢;generalize E:w.heap.size=bt at k a⊢;generalize bt+1=bs at a⊢;clear E;obtain ⟨O,P,Q,R⟩:=k.o.c4;obtain ⟨m,r,s,u,x,y⟩:=a.o.c6;have G:=Hd (Ff A n c p q l w1 0 1 C.o hc (by omega) h1 h2);clear h1 h2;go_wp2_with fail;go_at_call 149;refine G.o.mono ?_;rintro e i ⟨rfl,d⟩;have D:=Hd (Ax a.o.lt d.size);replace b:=Hd (Bi b.o d);have z:=Hd b.o.size;replace a:=Hd (a.o.pure d);clear d G C k m r s u x y O P Q R;go_upto_region 3 with fail
 replace b:=Hd (b.o.alloc b.o.size (.cells #[Aa Ab 2,Aa Ab 0,Aa Ac 0,.string ⟨#[]⟩,.slice none 0 0,.slice none 0 0] 34));replace a:=Hd (a.o.alloc (.cells #[Aa Ab 2,Aa Ab 0,Aa Ac 0,.string ⟨#[]⟩,.slice none 0 0,.slice none 0 0] 34));have f:=Hd (Bk.new i 34 #[Aa Ab 2,Aa Ab 0,Aa Ac 0,.string ⟨#[]⟩,.slice none 0 0,.slice none 0 0]);have h:=Hd (show w.heap.size≤i.heap.size∧bs<i.heap.size from⟨z.o,D.o⟩);generalize i.alloc (.cells #[Aa Ab 2,Aa Ab 0,Aa Ac 0,.string ⟨#[]⟩,.slice none 0 0,.slice none 0 0] 34)=w3 at b a f⊢;generalize i.heap.size=bw at f h⊢;obtain ⟨m,r,s,u,x,y⟩:=a.o.c6;obtain ⟨H,I,J,K,L,M⟩:=f.o.c6;have N:w3.frozen? ⟨bw,1,none⟩=false:=f.o.frozen 1;go_upto_region 5 with fail
 have F:Fr (fun j=>j=bw) w3 (w3.setCell ⟨bw,1,none⟩ (Aa Ab 1)):=(Fr.refl (fun j=>j=bw) w3).setCell (p:=⟨bw,1,none⟩) (fun _=>rfl) _;replace b:=Hd (Cq b.o F (by rintro j rfl;exact h.o.1));replace a:=Hd (a.o.fr F (fun e=>by have:=h.o.2;omega));replace f:=Hd (f.o.set_ 1 (Aa Ab 1));clear F N m r s u x y H I J K L M;generalize w3.setCell ⟨bw,1,none⟩ (Aa Ab 1)=w4 at b a f⊢;obtain ⟨m,r,s,u,x,y⟩:=a.o.c6;obtain ⟨H,I,J,K,L,M⟩:=f.o.c6;go_wp2_with fail;go_at_call 270;refine(Hw 2 1 0 [] XA XB xac xbc w4).mono ?_;rintro e S ⟨rfl,d⟩;have B:=Hd (Bi b.o d);clear d;go_wp2_with fail;go_ret;exact⟨rfl,B.o⟩
theorem Aao(A:Option Addr)(n c a:Nat)(p q v:Int)(s:List UInt8)(XA XB:Option Addr)(xac xbc:Nat)(l:List UInt8)(w:World)(hl:Cv w A n l)(hc:n≤c)(hn:n≤4294967296)(hv:1≤v∧v≤8)(hm:(a:Int) % v=0)(h1:Cy n ((a:Int)-v) v=0)(h2:loadU l ((a:Int)-v) v=s.length)(hsl:s.length<4294967296)(ha:At l a (s++ [0])):
  Calls Ad 267 #[.slice A n c,.agg (Afg p q 5 v),Aa Ab (a:Int),.agg #[Aa Ab 6,Aa Ab 0,Aa Ac 0,.string ⟨s.toArray⟩,.slice XA 0 xac,.slice XB 0 xbc]] w (Afc (.bool true) w):=by
 have I:¬9223372036854775807<s.length+1:=by omega
 have F:(⟨s.toArray⟩:ByteArray)++⟨#[0]⟩=⟨(s++ [0]).toArray⟩:=by
  apply ByteArray.ext;simp
 have H:=Hd ha;have G:(a:Int).tmod v=0:=by rw [Int.tmod_eq_emod_of_nonneg (by omega)];exact hm
 have J:(v==0)=false:=beq_eq_false_iff_ne.mpr (by omega);have K:IntKind.i64.wrap ((a:Int)-v)=(a:Int)-v:=Ao _ (by have h1:=ha.le;have h2:=hl.1;omega);clear ha hm;have b:=Bu w (.cells (Afg p q 5 v) 70) (.cells #[Aa Ab 6,Aa Ab 0,Aa Ac 0,.string ⟨s.toArray⟩,.slice XA 0 xac,.slice XB 0 xbc] 34);have i:=Hd b;have f:=Hd ((Bk.new w 70 (Afg p q 5 v)).alloc (.cells #[Aa Ab 6,Aa Ab 0,Aa Ac 0,.string ⟨s.toArray⟩,.slice XA 0 xac,.slice XB 0 xbc] 34));have d:=Hd (Bk.new_ (w:=w.alloc (.cells (Afg p q 5 v) 70)) (g:=w.heap.size+1) (by simp) 34 #[Aa Ab 6,Aa Ab 0,Aa Ac 0,.string ⟨s.toArray⟩,.slice XA 0 xac,.slice XB 0 xbc]);have h:=Hd (hl.pure b);clear hl b;go_enter func267,ntmps267;go_upto_region 1 with fail
 generalize (w.alloc (.cells (Afg p q 5 v) 70)).alloc (.cells #[Aa Ab 6,Aa Ab 0,Aa Ac 0,.string ⟨s.toArray⟩,.slice XA 0 xac,.slice XB 0 xbc] 34)=w1 at i f d h⊢;generalize E:w.heap.size=bt at f d⊢;generalize bt+1=bs at d⊢;clear E;obtain ⟨y,z,B,C⟩:=f.o.c4;obtain ⟨k,m,r,t,u,x⟩:=d.o.c6;have j:=Hd (K1 A n c ((a:Int)-v) v s.length l w1 h.o hc hn h1 h2 hsl);clear h1 h2 hsl;go_wp2_with fail;go_at_call 160;refine j.o.mono ?_;rintro e L ⟨rfl,b⟩;replace i:=Hd (Bi i.o b);replace f:=Hd (f.o.pure b);replace d:=Hd (d.o.pure b);replace h:=Hd (h.o.pure b);clear b k m r t u x y z B C j;obtain ⟨y,z,B,C⟩:=f.o.c4;obtain ⟨k,m,r,t,u,x⟩:=d.o.c6;go_wp2_with fail;go_at_call 270;refine(Hw 6 0 0 s XA XB xac xbc L).mono ?_;rintro e M ⟨rfl,b⟩;replace i:=Hd (Bi i.o b);replace f:=Hd (f.o.pure b);replace d:=Hd (d.o.pure b);replace h:=Hd (h.o.pure b);clear b k m r t u x y z B C;obtain ⟨y,z,B,C⟩:=f.o.c4;obtain ⟨k,m,r,t,u,x⟩:=d.o.c6;go_wp2_with fail;go_at_call 320;refine(U3 A n c a (s++ [0]) l M h.o hc hn H.o).mono ?_;rintro e N ⟨rfl,b⟩;have D:=Hd (Bi i.o b);clear b;go_wp2_with fail;go_ret;exact⟨rfl,D.o⟩
theorem Aan(A:Option Addr)(n c a:Nat)(p q v:Int)(s:List UInt8)(XA XB:Option Addr)(xac xbc:Nat)(l:List UInt8)(w:World)(hl:Cv w A n l)(hc:n≤c)(hn:n≤4294967296)(hv:1≤v∧v≤8)(hm:(a:Int) % v=0)(h1:Cy n ((a:Int)-v) v=0)(h2:loadU l ((a:Int)-v) v=s.length)(hsl:s.length<4294967296)(ha:At l a s):
  Calls Ad 267 #[.slice A n c,.agg (Afg p q 25 v),Aa Ab (a:Int),.agg #[Aa Ab 7,Aa Ab 0,Aa Ac 0,.string ⟨s.toArray⟩,.slice XA 0 xac,.slice XB 0 xbc]] w (Afc (.bool true) w):=by
 have G:=Hd ha;have F:(a:Int).tmod v=0:=by rw [Int.tmod_eq_emod_of_nonneg (by omega)];exact hm
 have H:(v==0)=false:=beq_eq_false_iff_ne.mpr (by omega);have I:IntKind.i64.wrap ((a:Int)-v)=(a:Int)-v:=Ao _ (by have h1:=ha.le;have h2:=hl.1;omega);clear ha hm;have b:=Bu w (.cells (Afg p q 25 v) 70) (.cells #[Aa Ab 7,Aa Ab 0,Aa Ac 0,.string ⟨s.toArray⟩,.slice XA 0 xac,.slice XB 0 xbc] 34);have i:=Hd b;have f:=Hd ((Bk.new w 70 (Afg p q 25 v)).alloc (.cells #[Aa Ab 7,Aa Ab 0,Aa Ac 0,.string ⟨s.toArray⟩,.slice XA 0 xac,.slice XB 0 xbc] 34));have d:=Hd (Bk.new_ (w:=w.alloc (.cells (Afg p q 25 v) 70)) (g:=w.heap.size+1) (by simp) 34 #[Aa Ab 7,Aa Ab 0,Aa Ac 0,.string ⟨s.toArray⟩,.slice XA 0 xac,.slice XB 0 xbc]);have h:=Hd (hl.pure b);clear hl b;go_enter func267,ntmps267;go_upto_region 1 with fail
 generalize (w.alloc (.cells (Afg p q 25 v) 70)).alloc (.cells #[Aa Ab 7,Aa Ab 0,Aa Ac 0,.string ⟨s.toArray⟩,.slice XA 0 xac,.slice XB 0 xbc] 34)=w1 at i f d h⊢;generalize E:w.heap.size=bt at f d⊢;generalize bt+1=bs at d⊢;clear E;obtain ⟨y,z,B,C⟩:=f.o.c4;obtain ⟨k,m,r,t,u,x⟩:=d.o.c6;have j:=Hd (K1 A n c ((a:Int)-v) v s.length l w1 h.o hc hn h1 h2 hsl);clear h1 h2 hsl;go_wp2_with fail;go_at_call 160;refine j.o.mono ?_;rintro e J ⟨rfl,b⟩;replace i:=Hd (Bi i.o b);replace f:=Hd (f.o.pure b);replace d:=Hd (d.o.pure b);replace h:=Hd (h.o.pure b);clear b k m r t u x y z B C j;obtain ⟨y,z,B,C⟩:=f.o.c4;obtain ⟨k,m,r,t,u,x⟩:=d.o.c6;go_wp2_with fail;go_at_call 270;refine(Hw 7 0 0 s XA XB xac xbc J).mono ?_;rintro e K ⟨rfl,b⟩;replace i:=Hd (Bi i.o b);replace f:=Hd (f.o.pure b);replace d:=Hd (d.o.pure b);replace h:=Hd (h.o.pure b);clear b k m r t u x y z B C;obtain ⟨y,z,B,C⟩:=f.o.c4;obtain ⟨k,m,r,t,u,x⟩:=d.o.c6;go_wp2_with fail;go_at_call 320;refine(U3 A n c a s l K h.o hc hn G.o).mono ?_;rintro e L ⟨rfl,b⟩;have D:=Hd (Bi i.o b);clear b;go_wp2_with fail;go_ret;exact⟨rfl,D.o⟩
attribute [local go_sem] Oper.semAt_some
def G9(t:Int):Int:=if t=9 then 3 else if t=4∨t=6∨t=7∨0<Df t then 0 else 1
theorem Uh(t:Int)(w:World):Calls Ad 161 #[Aa Ab t] w (Afc (Aa Ab (G9 t)) w):=by
 obtain⟨r,d⟩:∃r,G9 t=r:=⟨_,rfl⟩;rw [d];have j:=Hd (K2 t w);by_cases c:t=9
 ·have a:r=3:=by rw [←d];unfold G9;rw [if_pos c]
  have q:(t==9)=true:=by simp [c]
  subst a;clear c d;go_enter func161,ntmps161;go_wp2_with fail;go_at_call 272;refine j.o.mono ?_;rintro e l ⟨rfl,b⟩;have f:=Hd b;clear b;go_wp2_with fail;go_ret;exact⟨rfl,f.o⟩
 have q:(t==9)=false:=beq_eq_false_iff_ne.mpr c;by_cases g:t=4
 ·have a:r=0:=by rw [←d];unfold G9;rw [if_neg c,if_pos (.inl g)]
  have m:(t==4)=true:=by simp [g]
  subst a;clear c d g;go_enter func161,ntmps161;go_wp2_with fail;go_at_call 272;refine j.o.mono ?_;rintro e l ⟨rfl,b⟩;have f:=Hd b;clear b;go_wp2_with fail;go_ret;exact⟨rfl,f.o⟩
 have m:(t==4)=false:=beq_eq_false_iff_ne.mpr g;by_cases i:t=6
 ·have a:r=0:=by rw [←d];unfold G9;rw [if_neg c,if_pos (.inr (.inl i))]
  have n:(t==6)=true:=by simp [i]
  subst a;clear c d g i;go_enter func161,ntmps161;go_wp2_with fail;go_at_call 272;refine j.o.mono ?_;rintro e l ⟨rfl,b⟩;have f:=Hd b;clear b;go_wp2_with fail;go_ret;exact⟨rfl,f.o⟩
 have n:(t==6)=false:=beq_eq_false_iff_ne.mpr i;by_cases k:t=7
 ·have a:r=0:=by rw [←d];unfold G9;rw [if_neg c,if_pos (.inr (.inr (.inl k)))]
  have p:(t==7)=true:=by simp [k]
  subst a;clear c d g i k;go_enter func161,ntmps161;go_wp2_with fail;go_at_call 272;refine j.o.mono ?_;rintro e l ⟨rfl,b⟩;have f:=Hd b;clear b;go_wp2_with fail;go_ret;exact⟨rfl,f.o⟩
 have p:(t==7)=false:=beq_eq_false_iff_ne.mpr k;by_cases s:0<Df t
 ·have a:r=0:=by rw [←d];unfold G9;rw [if_neg c,if_pos (.inr (.inr (.inr s)))]
  subst a;clear c d g i k;go_enter func161,ntmps161;go_wp2_with fail;go_at_call 272;refine j.o.mono ?_;rintro e l ⟨rfl,b⟩;have f:=Hd b;clear b;go_wp2_with fail;go_ret;exact⟨rfl,f.o⟩
 ·have a:r=1:=by rw [←d];unfold G9;rw [if_neg c,if_neg (by rintro(h|h|h|h) <;>contradiction)]
  subst a;clear c d g i k;go_enter func161,ntmps161;go_wp2_with fail;go_at_call 272;refine j.o.mono ?_;rintro e l ⟨rfl,b⟩;have f:=Hd b;clear b;go_wp2_with fail;go_ret;exact⟨rfl,f.o⟩
theorem Aec(hle:a+m.length≤l.length)(h:∀i,i<m.length→l[a+i]?=m[i]?):At l a m:=by
 refine⟨l.take a,l.drop (a+m.length),?_,by rw [Az];omega⟩;apply List.ext_getElem?;intro i;by_cases h1:i<a
 ·rw [Bh (by rw [Ah,Az];omega),Bh (by rw [Az];omega),List.getElem?_take_of_lt h1]
 by_cases h2:i<a+m.length
 ·rw [Bh (by rw [Ah,Az];omega),List.getElem?_append_right (by rw [Az];omega),Az,show min a l.length=a by omega,←h (i-a) (by omega),show a+(i-a)=i by omega]
 ·rw [List.getElem?_append_right (by rw [Ah,Az];omega),Ah,Az,List.getElem?_drop,show a+m.length+(i-(min a l.length+m.length))=i by omega]
def Kj(L L':List UInt8)(x:P3):Prop:=∀i:Nat,x.1≤(i:Int)→(i:Int)<x.2.1→L'[i]?=L[i]?
theorem At.agr(h:At L a m)(hl:L'.length=L.length)(hg:∀i:Nat,a≤i→i<a+m.length→L'[i]?=L[i]?):At L' a m:=
 Aec (by rw [hl];exact h.le) fun i hi=>by rw [hg _ (by omega) (by omega),h.get hi]
theorem At.part(h:At L a m)(hl:L'.length=L.length){y:Int}(hs:Kj L L' (x,y,c))(hx:x≤a)(hy:(a:Int)+m.length≤y):At L' a m:=
 h.agr hl fun i h1 h2=>hs i (by simp only;omega) (by simp only;omega)
theorem Cn.agr{z:Nat}(h:Cn L z w v)(hl:L'.length=L.length){y:Int}(hs:Kj L L' (x,y,c))(hx:x≤z)(hy:(z:Int)+w≤y):Cn L' z w v:=
 ⟨h.sw,h.at_.part hl hs hx (by rw [Bo];omega),h.el⟩
theorem Gc.agr(h:Gc L s v)(hl:L'.length=L.length)(hs:Kj L L' (Nl s v)):Gc L' s v:=
 ⟨h.1,h.2.1,h.2.2.part hl hs (by omega) (by rw [Ah];simp only [Au,Aw];omega)⟩
theorem Dp.agr(h:Dp L ks vs)(hl:L'.length=L.length)(hs:∀x∈Hp ks vs,Kj L L' x):Dp L' ks vs:=
 ⟨h.1,fun i s v h1 h2=>(h.2 i s v h1 h2).agr hl (hs _ ((Pb _ _ _).2 ⟨i,s,v,h1,h2,rfl⟩))⟩
theorem Gi.agr{n:Nat}(h:Gi L t w n v)(hl:L'.length=L.length)(hs:Kj L L' (Rc v c)):Gi L' t w n v:=
 ⟨h.1,h.2.1,h.2.2.1.part hl hs (by omega) (by rw [Bo,h.2.1];omega),h.2.2.2⟩
theorem D3.agr{T:Nat}{z:List UInt8}(h:D3 L T s z v)(hl:L'.length=L.length)(hs:∀x∈Jc t s v,Kj L L' x)(hz:(t=5∧z=[0])∨(t=25∧z=[])):D3 L' T s z v:=by
 obtain⟨h1,h2,c,h3,b,d⟩:=h;refine⟨h1,h2,c,h3,b.agr hl fun i i1 i2=>?_,d⟩;rw [Ah,Ah,Bo] at i2;unfold Jc at hs;by_cases f:i<v.n
 ·exact hs _ (List.mem_cons_self ..) i (by simp only;omega) (by simp only;omega)
 ·rcases hz with⟨rfl,rfl⟩|⟨rfl,rfl⟩
  ·simp only [Au,Aw] at i2;exact hs (((v.n:Nat):Int),((v.n+s.length+1:Nat):Int),10) (by simp) i (by simp only;omega) (by simp only;omega)
  ·simp only [Aw] at i2;have a:s≠ []:=fun e=>by rw [e] at i2;simp only [Aw] at i2;omega
   exact hs (((v.n:Nat):Int),((v.n+s.length:Nat):Int),11) (by simp [a]) i (by simp only;omega) (by simp only;omega)
theorem sI(hl:L'.length=L.length)(hg:∀i:Nat,a≤i→i<a+w→L'[i]?=L[i]?):loadU L' (a:Int) (w:Int)=loadU L (a:Int) (w:Int):=by
 have e:∀l:List UInt8,((l.drop a).take w)=((l.drop a).take w):=fun _=>rfl
 have h:(L'.drop a).take w=(L.drop a).take w:=by
  apply List.ext_getElem?;intro i;by_cases b:i<w
  ·rw [List.getElem?_take_of_lt b,List.getElem?_take_of_lt b,List.getElem?_drop,List.getElem?_drop,hg _ (by omega) (by omega)]
  ·rw [List.getElem?_take_eq_none (by omega),List.getElem?_take_eq_none (by omega)]
 unfold loadU;simp only [hl,Int.toNat_natCast,h]
theorem Fk.agr(h:Fk L 0 vs v)(hl:L'.length=L.length)(hs:∀x∈Iu v.w v.n vs,Kj L L' x)(ht:Cj (v.t:Int)=true→∀x∈Ih (v.n+vs.length*v.w) vs.length,Kj L L' x)
  (hn:¬0<Df (v.t:Int)→Kj L L' (((v.n-v.w:Nat):Int),(v.n:Int),(6:Int))):Fk L' 0 vs v:=by
 refine⟨h.w,h.typ,h.md,h.ah,h.n1,fun hm=>?_,by rw [hl];exact h.sp,fun hT=>?_,fun i y hy=>?_⟩
 ·have a:v.w≤v.n:=by
   have:=h.ah;have h1:1≤aheadT (v.t:Int):=by unfold aheadT;split <;>omega
   have h2:=Nat.mul_le_mul_right v.w h1;omega
  have e:(((0+v.n:Nat):Int)-(v.w:Int))=((v.n-v.w:Nat):Int):=by omega
  have:=h.n2 hm;rw [e] at this⊢;rw [sI hl fun i h1 h2=>hn hm i (by simp only;omega) (by simp only;omega)];exact this
 ·have:=h.tags hT;rw [Nat.zero_add] at this⊢;refine this.agr hl fun i h1 h2=>?_
  rw [As] at h2;refine ht hT (((v.n+vs.length*v.w+(i-(v.n+vs.length*v.w)):Nat):Int),((v.n+vs.length*v.w+(i-(v.n+vs.length*v.w))+1:Nat):Int),8) ((Vi _ _ _).2 ⟨i-(v.n+vs.length*v.w),by omega,rfl⟩) i (by simp only;omega) (by simp only;omega)
 ·obtain⟨h1,h2⟩:=h.el i y hy;rw [Nat.zero_add] at h1⊢;exact⟨h1.part hl (hs _ ((Nb _ _ _ _).2 ⟨i,y,hy,rfl⟩)) (by omega) (by rw [Bo];omega),h2⟩
def M1(f:Int)(y:Bv):Prop:=inl y.t=false→(y.n:Int)-G9 y.t*(y.w:Int)<f
def aX(ks:List (List UInt8)):Prop:=∀(i:Nat) s t,ks[i]?=some s→ks[i+1]?=some t→Op.bytesLess s t=true
inductive Dn(L:List UInt8):Bv→Tr→Prop
 |null:Dn L ⟨0,1,0⟩ (.mk 1 0 0 [] [] [])
 |truth {n:Int} (h:n=0∨n=1):Dn L (Dh n) (.mk 2 n 0 [] [] [])
 |int {n:Int} (h: -9223372036854775808≤n∧n≤9223372036854775807):Dn L (C5 n) (.mk 3 n 0 [] [] [])
 |uint {u:Nat} (h:u<18446744073709551616):Dn L (C9 u) (.mk 4 0 u [] [] [])
 |key {v:Bv} {s:List UInt8} (h:Gc L s v) (h0:Ci s=false):Dn L v (.mk 5 0 0 s [] [])
 |str {v:Bv} {s:List UInt8} (h:D3 L 5 s [0] v):Dn L v (.mk 6 0 0 s [] [])
 |blob {v:Bv} {s:List UInt8} (h:D3 L 25 s [] v):Dn L v (.mk 7 0 0 s [] [])
 |indInt {v:Bv} {n:Int} (h:Gi L 6 (bWidthI n) (bits n) v) (hn: -9223372036854775808≤n∧n≤9223372036854775807):Dn L v (.mk 8 n 0 [] [] [])
 |indUint {v:Bv} {u:Nat} (h:Gi L 7 (bWidth u) u v) (hu:u<18446744073709551616):Dn L v (.mk 9 0 u [] [] [])
 |list {v:Bv} {k:Int} {c:List Tr} {vs:List Bv} (hk:Cs (v.t:Int)=k) (h10:10≤k∧k≤16) (hl:Fk L 0 vs v) (hlen:vs.length=c.length) (he:Ji v.t vs) (hlow:∀y∈vs,M1 ((v.n:Int)-aheadT (v.t:Int)*v.w) y)
   (hr:∀(i:Nat) y t,vs[i]?=some y→c[i]?=some t→Dn L y t):Dn L v (.mk k 0 0 [] [] c)
 |map {v kv:Bv} {c:List Tr} {vs kvs:List Bv} {ks:List (List UInt8)} {cc:Nat} (h9:v.t=9) (hl:Fk L 0 vs v) (hlen:vs.length=c.length) (he:Ji v.t vs) (hlow:∀y∈vs,M1 (cc:Int) y) (hcc:v.n=cc+3*v.w)
   (h14:kv.t=14) (hkl:Fk L 0 kvs kv) (hks:Dp L ks kvs) (hkn:ks.length=c.length) (h0:∀s∈ks,Ci s=false) (hri:aX ks) (hkw:∀y∈kvs,M1 ((kv.n:Int)-kv.w) y) (hsl:Cn L cc v.w kv) (hwd:At L (cc+v.w) (Bn v.w kv.w))
   (hr:∀(i:Nat) y t,vs[i]?=some y→c[i]?=some t→Dn L y t):Dn L v (.mk 17 0 0 [] ks c)
theorem zC:∀{a b:List UInt8},a<b→Op.bytesLess a b=true
 | [],[],h=>absurd h (List.lt_irrefl _)
 | [],_::_,_=>rfl
 |_::_,[],h=>by cases h
 |x::a,y::b,h=>by
  rcases List.cons_lt_cons_iff.1 h with h1|⟨rfl,h2⟩
  ·unfold Op.bytesLess;simp [h1]
  ·have:=zC h2;unfold Op.bytesLess;simp [this]
theorem E3{k n:Int}{u:Nat}{c:List Tr}(h:Ft (.mk k n u s ks c)):(k=2∨k=3∨k=8∨n=0)∧(k=4∨k=9∨u=0)∧(k=5∨k=6∨k=7∨s=[])∧(k=17∨ks=[])∧(k=2→n=0∨n=1)∧(k≤9→c=[]):=by
 cases h with
 |mk h1 h2 h3 h4 hl=>
  simp only [Ep,Bool.and_eq_true,decide_eq_true_eq] at h1;obtain⟨⟨⟨⟨⟨⟨⟨⟨⟨l,m⟩,e⟩,f⟩,g⟩,i⟩,j⟩,_⟩,_⟩,d⟩:=h1;refine⟨e,f,g,i,j,fun h9=>?_⟩;cases c with
  |nil=>rfl
  |cons x r=>
   have:=of_decide_eq_true (List.all_eq_true.1 d x (List.mem_cons_self ..));have a:B5 k= -1:=by
    unfold B5;rw [if_neg (by omega),if_neg (by omega),if_neg (by omega),if_neg (by omega),if_neg (by omega)]
   have hx:=hl x (List.mem_cons_self ..);cases hx with
   |mk e1=>
    simp only [Ep,Bool.and_eq_true,decide_eq_true_eq] at e1;obtain⟨⟨⟨⟨⟨⟨⟨⟨⟨b,_⟩,_⟩,_⟩,_⟩,_⟩,_⟩,_⟩,_⟩,_⟩:=e1;have b:(1:Int)≤_:=b;have this:B5 k=0∨_=B5 k:=this;rw [a] at this;rcases this with h|h
    ·cases h
    ·have h:_=(-1:Int):=h;omega
inductive Yz:Tr→Prop
 |mk {k n:Int} {u:Nat} {s:List UInt8} {ks:List (List UInt8)} {l:List Tr} (h:k=17→aX ks) (hc:∀t∈l,Yz t):Yz (.mk k n u s ks l)
theorem Abm(h:ks.Pairwise (· < ·)):aX ks:=by
 intro i s t hs ht;obtain⟨h1,e1⟩:=List.getElem?_eq_some_iff.1 hs;obtain⟨h2,e2⟩:=List.getElem?_eq_some_iff.1 ht;rw [←e1,←e2];exact zC (List.pairwise_iff_getElem.1 h i (i+1) h1 h2 (by omega))
theorem Ab4{t:Tr}(h:Ft t):Yz (By t):=by
 induction h with
 |mk h1 h2 h3 h4 hl ih=>
  rename_i k n u s ks l;have c:∀t∈Cp l,Yz t:=by
   intro t ht;rw [Cx] at ht;obtain⟨x,f,rfl⟩:=List.mem_map.1 ht;exact ih x f
  rw [By];by_cases b:k=17
  ·rw [if_pos b];simp only [Ep,Bool.and_eq_true,decide_eq_true_eq] at h1;obtain⟨⟨⟨_,a⟩,_⟩,_⟩:=h1;have a:ks.length=l.length:=a b;have e:(Cp l).length=l.length:=by rw [Cx,As]
   have d:(ks.zip (Cp l)).map (·.1)=ks:=List.map_fst_zip (by omega);refine .mk (fun _=>Abm ?_) (fun t ht=>?_)
   ·exact List.pairwise_map.2 (O0 _ (by rw [d];exact h4))
   ·obtain⟨y,g,rfl⟩:=List.mem_map.1 ht;exact c _ (List.of_mem_zip ((Eo _).mem_iff.1 g)).2
  ·rw [if_neg b];exact .mk (fun h=>absurd h b) c
theorem lM{len tags:Bool}(h:Dc l t len tags vs v):∀y∈vs,inl y.t=false→y.n+(if len=true then v.w else 0)≤v.n:=by
 obtain⟨b,m,_,rfl,hf⟩:=h;intro y hy hi;have:=(hf y hy).2 hi;simp only [Cd,Bm,Ah];cases len
 ·simp only [Bool.false_eq_true,if_false,Aw];omega
 ·simp only [if_true,Bo];omega
theorem Aa9{k:Bv}(h:G5 l k vs v):∀y∈vs,inl y.t=false→y.n+3*v.w≤v.n:=by
 obtain⟨b,m,_,rfl,_,hf⟩:=h;intro y hy hi;have:=(hf y hy).2 hi;simp only [Ef,Bm,Ah,Bo];omega
theorem S7{m:Int}{a:Int}(ha:G9 y.t=a)(h1:a=1∨a=3)(hw:Bz (y.w:Int)=true)(hle:inl y.t=false→(y.n:Int)≤m):M1 m y:=by
 intro hi;have:=hle hi;have h8:=Cr.1 hw;rw [ha];rcases h1 with rfl|rfl <;>omega
theorem Yd(hap:∀x∈log,∀y∈log,x.1=y.1→x=y){m:Int}{e d:Int}(ha:G9 y.t=0)(hp:((y.n:Int),e,d)∈log)(hm:(m,m',c)∈log)(hd:d≠c)(hle:inl y.t=false→(y.n:Int)≤m):M1 m y:=by
 intro hi;have:=hle hi;rw [ha];have hne:(y.n:Int)≠m:=by
  intro e1;have:=hap _ hp _ hm e1;injection this with _ h
  injection h with _ h
  exact hd h
 omega
theorem cS(hap:∀x∈log,∀y∈log,x.1=y.1→x=y){t:Tr}{ps:List P3}(hr:Rp L y t ps)(hin:∀x∈ps,x∈log)(hf:Hb t){m:Int}(hm:(m,m',c)∈log)(hc:c=5∨c=6)(hle:inl y.t=false→(y.n:Int)≤m):M1 m y:=by
 cases hr with
 |null=>exact fun h=>absurd h (by decide)
 |truth=>exact fun h=>absurd h (by decide:¬inl 26=false)
 |int=>exact fun h=>absurd h (by decide:¬inl 1=false)
 |uint=>exact fun h=>absurd h (by decide:¬inl 2=false)
 |key n u ks c h=>exact Yd hap (by rw [h.1];decide) (hin _ (List.mem_singleton.2 rfl)) hm (by omega) hle
 |str n u ks c h=>exact S7 (a:=1) (by rw [h.1];decide) (.inl rfl) (by rw [h.2.1];exact Dy _) hle
 |blob n u ks c h=>exact S7 (a:=1) (by rw [h.1];decide) (.inl rfl) (by rw [h.2.1];exact Dy _) hle
 |indInt u s ks c h=>exact Yd hap (by rw [h.1];decide) (hin _ (List.mem_singleton.2 rfl)) hm (by omega) hle
 |indUint n s ks c h=>exact Yd hap (by rw [h.1];decide) (hin _ (List.mem_singleton.2 rfl)) hm (by omega) hle
 |ints n u s ks h=>exact S7 (a:=1) (by rw [h.width.1];decide) (.inl rfl) h.width.2 hle
 |uints n u s ks h=>exact S7 (a:=1) (by rw [h.width.1];decide) (.inl rfl) h.width.2 hle
 |bools n u s ks h=>exact S7 (a:=1) (by rw [h.width.1];decide) (.inl rfl) h.width.2 hle
 |keys n u s ks hk h=>exact S7 (a:=1) (by rw [h.width.1];decide) (.inl rfl) h.width.2 hle
 | @fixInts v c n u s ks h=>
  have b:=(Ce hf).2.2.2.1 (.inl rfl);have d:(c.map fun t=>C5 t.n)[0]?=some (C5 (c[0]'(by omega)).n):=by rw [List.getElem?_map,Ag (by omega)];rfl
  exact Yd hap (by rw [h.width.1];rcases b with e|e|e <;>rw [e] <;>decide) (hin _ (by
   unfold Gh;exact Ar _ (Bf _ ((Nb _ _ _ _).2 ⟨0,_,d,by rw [Nat.zero_mul,Nat.add_zero]⟩)))) hm (by show(2:Int)≠_;omega) hle
 | @fixUints v c n u s ks h=>
  have b:=(Ce hf).2.2.2.1 (.inr rfl);have d:(c.map fun t=>C9 t.u)[0]?=some (C9 (c[0]'(by omega)).u):=by rw [List.getElem?_map,Ag (by omega)];rfl
  exact Yd hap (by rw [h.width.1];rcases b with e|e|e <;>rw [e] <;>decide) (hin _ (by
   unfold Gh;exact Ar _ (Bf _ ((Nb _ _ _ _).2 ⟨0,_,d,by rw [Nat.zero_mul,Nat.add_zero]⟩)))) hm (by show(3:Int)≠_;omega) hle
 |vec n u s ks hl hp hr h=>exact S7 (a:=1) (by rw [h.width.1];decide) (.inl rfl) h.width.2 hle
 |map n u s hk hv hl hp hr h=>exact S7 (a:=3) (by rw [h.width.1];decide) (.inr rfl) h.width.2 hle
end Go.Proofs.YtejpbijeifjdeaaGreat
