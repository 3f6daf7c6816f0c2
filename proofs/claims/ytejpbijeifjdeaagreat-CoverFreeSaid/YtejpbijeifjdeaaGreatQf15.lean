/- Parts of the proof. -/
import Derived.Test.YtejpbijeifjdeaaGreatQf14
set_option maxHeartbeats 4000000
set_option maxRecDepth 100000
open Go.Value renaming int→Aa
open Go.IntKind renaming i64→Ab,u64→Ac
open Nat renaming le_refl→Ae,lt_of_lt_of_le→Ax
open Go.RowKit.Below renaming refl→Af
open List renaming getElem?_eq_getElem→Ag,mem_of_getElem?→Aq
open Go.Proofs.Tryz
open Go.Proofs.Tryz renaming prog→Ad
namespace Go.Proofs.YtejpbijeifjdeaaGreat
open Go.RowKit Go.Acc
variable {w:World}{p:Nat→Prop}{x:Nv}{t:Tr}
theorem yI(k n:Int)(u:Nat)(s:List UInt8)(A:Option Addr)(an ac:Nat)(B:Option Addr)(bn bc:Nat)(w:World)(h:¬(1≤k∧k≤17)):Calls Ad 143 #[.agg (Aff k n u s A an ac B bn bc)] w (Afc (.bool false) w):=by
 have a:=Hd (show Below w.heap.size w (w.alloc (.cells (Aff k n u s A an ac B bn bc) 34)) from(Af _ _).alloc (Ae _) _);by_cases h1:k<1
 ·have b:decide (k<1)=true:=decide_eq_true h1;clear h h1;go_enter func143,ntmps143;go_wp2_with fail;go_ret;exact⟨rfl,a.o⟩
 ·have b:decide (k<1)=false:=decide_eq_false h1;have c:decide (17<k)=true:=decide_eq_true (by omega);clear h h1;go_enter func143,ntmps143;go_wp2_with fail;go_ret;exact⟨rfl,a.o⟩
theorem N5(k n:Int)(u:Nat)(s:List UInt8)(A:Option Addr)(an ac:Nat)(B:Option Addr)(bn bc:Nat)(vs:List Nv)(p:Int)(w:World)(hI:Gj w B bn vs)(hbn:bn≤1099511627776)(h1:1≤k)(h17:k≤17)(hU:L7 k=0)(hp:B5 k=p)
  (e2:(k==2)=false) (e17:(k==17)=false) (e15:(k==15)=false) (e16:(k==16)=false):
  Calls Ad 143 #[.agg (Aff k n u s A an ac B bn bc)] w (Afc (.bool (if(n != 0)=true then false else if((u:Int) != 0)=true then false else if(s== [])=false then false else if decide (0<an)=true then false else !(vs.any fun v=>Ge p v.k))) w):=by
 have F:=Hd (show Below w.heap.size w (w.alloc (.cells (Aff k n u s A an ac B bn bc) 34)) from(Af _ _).alloc (Ae _) _);have q:=Hd (Bk.new w 34 (Aff k n u s A an ac B bn bc));have l:=Hd hI;have I:=Hd hU;have H:=Hd hp;have m:=Hd (And.intro h1 h17);have J:decide (k<1)=false:=decide_eq_false (by omega);have C:decide (17<k)=false:=decide_eq_false (by omega);clear hI hU hp h1 h17;go_enter func143,ntmps143;go_upto_region 3 with fail
 have d:=l.o.alloc (.cells (Aff k n u s A an ac B bn bc) 34);replace l:=Hd d;clear d J C;generalize w.alloc (.cells (Aff k n u s A an ac B bn bc) 34)=w1 at F q l⊢;generalize w.heap.size=g at q⊢;have c:w1.cell? ⟨g,0,none⟩=some (Aa Ab k):=q.o.cell 0;have j:=Nat.ne_of_lt (B3 c);simp only at j;go_cut [3,4] (fun u3 u4 wx=>∃wy,wy=wx∧u3= Aa Ab 0∧(∃h,u4= Afh h∧Bk wx h 3 #[Aa Ab p])∧Below w1.heap.size w1 wx)
 case first=>
  have T:(0:Int)=0:=rfl;go_region_held3 (fun w'=>w'.cell? ⟨g,0,none⟩=some (Aa Ab k)) (first|with_reducible exact c|with_reducible exact Bj c|with_reducible exact D9 _ c|with_reducible exact Bj (Bs _ c)|with_reducible exact D9 _ (Bs _ c)) (first|(go_at_call 234;(with_reducible refine(I0 k 0 _ m.o.1 m.o.2 I.o).mono ?_);rintro e w' ⟨rfl,rfl⟩)|(go_at_call 235;(with_reducible refine(K9 k p _ m.o.1 m.o.2 H.o).mono ?_);rintro e w' ⟨rfl,rfl⟩))
  all_goals
   go_wp2_with fail;go_meet;exact⟨_,rfl,rfl,⟨_,rfl,(Bk.new _ _ _).drew⟩,((Af _ _).alloc (Ae _) _).drew⟩
 case rest=>
 obtain⟨U,rfl,rfl,⟨h,rfl,i⟩,r⟩:=hcut;have z:=Hd (q.o.pure r);have y:=Hd (l.o.pure r);have a:=Hd (Bi F.o r);have x:=Hd i;obtain ⟨N,O,P,Q,R,S⟩:=z.o.c6;have E:(s== [])=decide (s=[]):=by cases s <;>rfl
 obtain⟨bN,K⟩:∃b,(n != 0)=b:=⟨_,rfl⟩;obtain⟨bU,M⟩:∃b,((u:Int) != 0)=b:=⟨_,rfl⟩;obtain⟨bS,L⟩:∃b,(s== [])=b:=⟨_,rfl⟩;obtain⟨bA,D⟩:∃b,decide (0<an)=b:=⟨_,rfl⟩;have G:decide ((0:Int)<(an:Int))=bA:=by rw [←D];exact decide_eq_decide.2 (by omega)
 clear r i c j E;cases bN with
 |true=>
  go_wp2_with fail;go_ret;exact⟨rfl,a.o⟩
 |false=>
 cases bU with
 |true=>
  go_wp2_with fail;go_ret;exact⟨rfl,a.o⟩
 |false=>
 cases bS with
 |false=>
  go_wp2_with fail;go_ret;exact⟨rfl,a.o⟩
 |true=>
 cases bA with
 |true=>
  go_wp2_with fail;go_ret;exact⟨rfl,a.o⟩
 |false=>
  go_wp2_with fail;go_at_call 237;refine(Hy h p B bn bc vs _ y.o hbn x.o).mono ?_;rintro e V ⟨rfl,f⟩;have t:=Hd (Bi a.o f);clear f N O P Q R S;go_wp2_with fail;go_ret;exact⟨rfl,t.o⟩
theorem yJ(k n:Int)(u:Nat)(s:List UInt8)(A:Option Addr)(an ac:Nat)(B:Option Addr)(bn bc:Nat)(vs:List Nv)(p:Int)(w:World)(hI:Gj w B bn vs)(hbn:bn≤1099511627776)(h1:1≤k)(h17:k≤17)(hU:L7 k=1)(hp:B5 k=p)
  (e2:(k==2)=true) (e17:(k==17)=false) (e15:(k==15)=false) (e16:(k==16)=false):
  Calls Ad 143 #[.agg (Aff k n u s A an ac B bn bc)] w (Afc (.bool (if((u:Int) != 0)=true then false else if(s== [])=false then false else if decide (0<an)=true then false else if(n != 0&&n != 1)=true then false else !(vs.any fun v=>Ge p v.k))) w):=by
 have F:=Hd (show Below w.heap.size w (w.alloc (.cells (Aff k n u s A an ac B bn bc) 34)) from(Af _ _).alloc (Ae _) _);have x:=Hd (Bk.new w 34 (Aff k n u s A an ac B bn bc));have r:=Hd hI;have O:=Hd hU;have N:=Hd hp;have t:=Hd (And.intro h1 h17);have P:decide (k<1)=false:=decide_eq_false (by omega);have C:decide (17<k)=false:=decide_eq_false (by omega);clear hI hU hp h1 h17;go_enter func143,ntmps143;go_upto_region 3 with fail
 have l:=r.o.alloc (.cells (Aff k n u s A an ac B bn bc) 34);replace r:=Hd l;clear l P C;generalize w.alloc (.cells (Aff k n u s A an ac B bn bc) 34)=w1 at F x r⊢;generalize w.heap.size=g at x⊢;have f:w1.cell? ⟨g,0,none⟩=some (Aa Ab k):=x.o.cell 0;have q:=Nat.ne_of_lt (B3 f);simp only at q;go_cut [3,4] (fun u3 u4 wx=>∃wy,wy=wx∧u3= Aa Ab 1∧(∃h,u4= Afh h∧Bk wx h 3 #[Aa Ab p])∧Below w1.heap.size w1 wx)
 case first=>
  have V:(0:Int)=0:=rfl;go_region_held3 (fun w'=>w'.cell? ⟨g,0,none⟩=some (Aa Ab k)) (first|with_reducible exact f|with_reducible exact Bj f|with_reducible exact D9 _ f|with_reducible exact Bj (Bs _ f)|with_reducible exact D9 _ (Bs _ f)) (first|(go_at_call 234;(with_reducible refine(I0 k 1 _ t.o.1 t.o.2 O.o).mono ?_);rintro e w' ⟨rfl,rfl⟩)|(go_at_call 235;(with_reducible refine(K9 k p _ t.o.1 t.o.2 N.o).mono ?_);rintro e w' ⟨rfl,rfl⟩))
  all_goals
   go_wp2_with fail;go_meet;exact⟨_,rfl,rfl,⟨_,rfl,(Bk.new _ _ _).drew⟩,((Af _ _).alloc (Ae _) _).drew⟩
 case rest=>
 obtain⟨W,rfl,rfl,⟨h,rfl,m⟩,y⟩:=hcut;have z:=Hd (x.o.pure y);have j:=Hd (r.o.pure y);have a:=Hd (Bi F.o y);have i:=Hd m;obtain ⟨H,I,J,K,L,M⟩:=z.o.c6;have E:(s== [])=decide (s=[]):=by cases s <;>rfl
 obtain⟨bN,R⟩:∃b,(n != 0)=b:=⟨_,rfl⟩;obtain⟨bU,T⟩:∃b,((u:Int) != 0)=b:=⟨_,rfl⟩;obtain⟨bS,S⟩:∃b,(s== [])=b:=⟨_,rfl⟩;obtain⟨bA,D⟩:∃b,decide (0<an)=b:=⟨_,rfl⟩;have G:decide ((0:Int)<(an:Int))=bA:=by rw [←D];exact decide_eq_decide.2 (by omega)
 clear y m f q E;obtain⟨b1,Q⟩:∃b,(n != 1)=b:=⟨_,rfl⟩;cases bU with
 |true=>
  go_wp2_with fail;go_ret;exact⟨rfl,a.o⟩
 |false=>
 cases bS with
 |false=>
  go_wp2_with fail;go_ret;exact⟨rfl,a.o⟩
 |true=>
 cases bA with
 |true=>
  go_wp2_with fail;go_ret;exact⟨rfl,a.o⟩
 |false=>
 cases bN with
 |false=>
  go_wp2_with fail;go_at_call 237;refine(Hy h p B bn bc vs _ j.o hbn i.o).mono ?_;rintro e U ⟨rfl,c⟩;have d:=Hd (Bi a.o c);clear c H I J K L M;go_wp2_with fail;go_ret;exact⟨rfl,d.o⟩
 |true=>
 cases b1 with
 |true=>
  go_wp2_with fail;go_ret;exact⟨rfl,a.o⟩
 |false=>
  go_wp2_with fail;go_at_call 237;refine(Hy h p B bn bc vs _ j.o hbn i.o).mono ?_;rintro e U ⟨rfl,c⟩;have d:=Hd (Bi a.o c);clear c H I J K L M;go_wp2_with fail;go_ret;exact⟨rfl,d.o⟩
theorem lE(k n:Int)(u:Nat)(s:List UInt8)(A:Option Addr)(an ac:Nat)(B:Option Addr)(bn bc:Nat)(vs:List Nv)(p:Int)(w:World)(hI:Gj w B bn vs)(hbn:bn≤1099511627776)(h1:1≤k)(h17:k≤17)(hU:L7 k=1)(hp:B5 k=p)
  (e2:(k==2)=false) (e17:(k==17)=false) (e15:(k==15)=false) (e16:(k==16)=false):
  Calls Ad 143 #[.agg (Aff k n u s A an ac B bn bc)] w (Afc (.bool (if((u:Int) != 0)=true then false else if(s== [])=false then false else if decide (0<an)=true then false else !(vs.any fun v=>Ge p v.k))) w):=by
 have F:=Hd (show Below w.heap.size w (w.alloc (.cells (Aff k n u s A an ac B bn bc) 34)) from(Af _ _).alloc (Ae _) _);have q:=Hd (Bk.new w 34 (Aff k n u s A an ac B bn bc));have l:=Hd hI;have I:=Hd hU;have H:=Hd hp;have m:=Hd (And.intro h1 h17);have J:decide (k<1)=false:=decide_eq_false (by omega);have C:decide (17<k)=false:=decide_eq_false (by omega);clear hI hU hp h1 h17;go_enter func143,ntmps143;go_upto_region 3 with fail
 have d:=l.o.alloc (.cells (Aff k n u s A an ac B bn bc) 34);replace l:=Hd d;clear d J C;generalize w.alloc (.cells (Aff k n u s A an ac B bn bc) 34)=w1 at F q l⊢;generalize w.heap.size=g at q⊢;have c:w1.cell? ⟨g,0,none⟩=some (Aa Ab k):=q.o.cell 0;have j:=Nat.ne_of_lt (B3 c);simp only at j;go_cut [3,4] (fun u3 u4 wx=>∃wy,wy=wx∧u3= Aa Ab 1∧(∃h,u4= Afh h∧Bk wx h 3 #[Aa Ab p])∧Below w1.heap.size w1 wx)
 case first=>
  have U:(0:Int)=0:=rfl;go_region_held3 (fun w'=>w'.cell? ⟨g,0,none⟩=some (Aa Ab k)) (first|with_reducible exact c|with_reducible exact Bj c|with_reducible exact D9 _ c|with_reducible exact Bj (Bs _ c)|with_reducible exact D9 _ (Bs _ c)) (first|(go_at_call 234;(with_reducible refine(I0 k 1 _ m.o.1 m.o.2 I.o).mono ?_);rintro e w' ⟨rfl,rfl⟩)|(go_at_call 235;(with_reducible refine(K9 k p _ m.o.1 m.o.2 H.o).mono ?_);rintro e w' ⟨rfl,rfl⟩))
  all_goals
   go_wp2_with fail;go_meet;exact⟨_,rfl,rfl,⟨_,rfl,(Bk.new _ _ _).drew⟩,((Af _ _).alloc (Ae _) _).drew⟩
 case rest=>
 obtain⟨V,rfl,rfl,⟨h,rfl,i⟩,r⟩:=hcut;have z:=Hd (q.o.pure r);have y:=Hd (l.o.pure r);have a:=Hd (Bi F.o r);have x:=Hd i;obtain ⟨N,O,P,Q,R,S⟩:=z.o.c6;have E:(s== [])=decide (s=[]):=by cases s <;>rfl
 obtain⟨T,K⟩:∃b,(n != 0)=b:=⟨_,rfl⟩;obtain⟨bU,M⟩:∃b,((u:Int) != 0)=b:=⟨_,rfl⟩;obtain⟨bS,L⟩:∃b,(s== [])=b:=⟨_,rfl⟩;obtain⟨bA,D⟩:∃b,decide (0<an)=b:=⟨_,rfl⟩;have G:decide ((0:Int)<(an:Int))=bA:=by rw [←D];exact decide_eq_decide.2 (by omega)
 clear r i c j E;cases bU with
 |true=>
  go_wp2_with fail;go_ret;exact⟨rfl,a.o⟩
 |false=>
 cases bS with
 |false=>
  go_wp2_with fail;go_ret;exact⟨rfl,a.o⟩
 |true=>
 cases bA with
 |true=>
  go_wp2_with fail;go_ret;exact⟨rfl,a.o⟩
 |false=>
 go_wp2_with fail;go_at_call 237;refine(Hy h p B bn bc vs _ y.o hbn x.o).mono ?_;rintro e W ⟨rfl,f⟩;have t:=Hd (Bi a.o f);clear f N O P Q R S;go_wp2_with fail;go_ret;exact⟨rfl,t.o⟩
theorem lF(k n:Int)(u:Nat)(s:List UInt8)(A:Option Addr)(an ac:Nat)(B:Option Addr)(bn bc:Nat)(vs:List Nv)(p:Int)(w:World)(hI:Gj w B bn vs)(hbn:bn≤1099511627776)(h1:1≤k)(h17:k≤17)(hU:L7 k=2)(hp:B5 k=p)
  (e2:(k==2)=false) (e17:(k==17)=false) (e15:(k==15)=false) (e16:(k==16)=false):
  Calls Ad 143 #[.agg (Aff k n u s A an ac B bn bc)] w (Afc (.bool (if(n != 0)=true then false else if(s== [])=false then false else if decide (0<an)=true then false else !(vs.any fun v=>Ge p v.k))) w):=by
 have F:=Hd (show Below w.heap.size w (w.alloc (.cells (Aff k n u s A an ac B bn bc) 34)) from(Af _ _).alloc (Ae _) _);have q:=Hd (Bk.new w 34 (Aff k n u s A an ac B bn bc));have l:=Hd hI;have I:=Hd hU;have H:=Hd hp;have m:=Hd (And.intro h1 h17);have J:decide (k<1)=false:=decide_eq_false (by omega);have C:decide (17<k)=false:=decide_eq_false (by omega);clear hI hU hp h1 h17;go_enter func143,ntmps143;go_upto_region 3 with fail
 have d:=l.o.alloc (.cells (Aff k n u s A an ac B bn bc) 34);replace l:=Hd d;clear d J C;generalize w.alloc (.cells (Aff k n u s A an ac B bn bc) 34)=w1 at F q l⊢;generalize w.heap.size=g at q⊢;have c:w1.cell? ⟨g,0,none⟩=some (Aa Ab k):=q.o.cell 0;have j:=Nat.ne_of_lt (B3 c);simp only at j;go_cut [3,4] (fun u3 u4 wx=>∃wy,wy=wx∧u3= Aa Ab 2∧(∃h,u4= Afh h∧Bk wx h 3 #[Aa Ab p])∧Below w1.heap.size w1 wx)
 case first=>
  have U:(0:Int)=0:=rfl;go_region_held3 (fun w'=>w'.cell? ⟨g,0,none⟩=some (Aa Ab k)) (first|with_reducible exact c|with_reducible exact Bj c|with_reducible exact D9 _ c|with_reducible exact Bj (Bs _ c)|with_reducible exact D9 _ (Bs _ c)) (first|(go_at_call 234;(with_reducible refine(I0 k 2 _ m.o.1 m.o.2 I.o).mono ?_);rintro e w' ⟨rfl,rfl⟩)|(go_at_call 235;(with_reducible refine(K9 k p _ m.o.1 m.o.2 H.o).mono ?_);rintro e w' ⟨rfl,rfl⟩))
  all_goals
   go_wp2_with fail;go_meet;exact⟨_,rfl,rfl,⟨_,rfl,(Bk.new _ _ _).drew⟩,((Af _ _).alloc (Ae _) _).drew⟩
 case rest=>
 obtain⟨V,rfl,rfl,⟨h,rfl,i⟩,r⟩:=hcut;have z:=Hd (q.o.pure r);have y:=Hd (l.o.pure r);have a:=Hd (Bi F.o r);have x:=Hd i;obtain ⟨N,O,P,Q,R,S⟩:=z.o.c6;have E:(s== [])=decide (s=[]):=by cases s <;>rfl
 obtain⟨bN,K⟩:∃b,(n != 0)=b:=⟨_,rfl⟩;obtain⟨T,M⟩:∃b,((u:Int) != 0)=b:=⟨_,rfl⟩;obtain⟨bS,L⟩:∃b,(s== [])=b:=⟨_,rfl⟩;obtain⟨bA,D⟩:∃b,decide (0<an)=b:=⟨_,rfl⟩;have G:decide ((0:Int)<(an:Int))=bA:=by rw [←D];exact decide_eq_decide.2 (by omega)
 clear r i c j E;cases bN with
 |true=>
  go_wp2_with fail;go_ret;exact⟨rfl,a.o⟩
 |false=>
 cases bS with
 |false=>
  go_wp2_with fail;go_ret;exact⟨rfl,a.o⟩
 |true=>
 cases bA with
 |true=>
  go_wp2_with fail;go_ret;exact⟨rfl,a.o⟩
 |false=>
 go_wp2_with fail;go_at_call 237;refine(Hy h p B bn bc vs _ y.o hbn x.o).mono ?_;rintro e W ⟨rfl,f⟩;have t:=Hd (Bi a.o f);clear f N O P Q R S;go_wp2_with fail;go_ret;exact⟨rfl,t.o⟩
theorem Yp(k n:Int)(u:Nat)(s:List UInt8)(A:Option Addr)(an ac:Nat)(B:Option Addr)(bn bc:Nat)(vs:List Nv)(p:Int)(w:World)(hI:Gj w B bn vs)(hbn:bn≤1099511627776)(h1:1≤k)(h17:k≤17)(hU:L7 k=4)(hp:B5 k=p)
  (e2:(k==2)=false) (e17:(k==17)=false) (e15:(k==15)=false) (e16:(k==16)=false):
  Calls Ad 143 #[.agg (Aff k n u s A an ac B bn bc)] w (Afc (.bool (if(n != 0)=true then false else if((u:Int) != 0)=true then false else if decide (0<an)=true then false else !(vs.any fun v=>Ge p v.k))) w):=by
 have F:=Hd (show Below w.heap.size w (w.alloc (.cells (Aff k n u s A an ac B bn bc) 34)) from(Af _ _).alloc (Ae _) _);have q:=Hd (Bk.new w 34 (Aff k n u s A an ac B bn bc));have l:=Hd hI;have I:=Hd hU;have H:=Hd hp;have m:=Hd (And.intro h1 h17);have J:decide (k<1)=false:=decide_eq_false (by omega);have C:decide (17<k)=false:=decide_eq_false (by omega);clear hI hU hp h1 h17;go_enter func143,ntmps143;go_upto_region 3 with fail
 have d:=l.o.alloc (.cells (Aff k n u s A an ac B bn bc) 34);replace l:=Hd d;clear d J C;generalize w.alloc (.cells (Aff k n u s A an ac B bn bc) 34)=w1 at F q l⊢;generalize w.heap.size=g at q⊢;have c:w1.cell? ⟨g,0,none⟩=some (Aa Ab k):=q.o.cell 0;have j:=Nat.ne_of_lt (B3 c);simp only at j;go_cut [3,4] (fun u3 u4 wx=>∃wy,wy=wx∧u3= Aa Ab 4∧(∃h,u4= Afh h∧Bk wx h 3 #[Aa Ab p])∧Below w1.heap.size w1 wx)
 case first=>
  have U:(0:Int)=0:=rfl;go_region_held3 (fun w'=>w'.cell? ⟨g,0,none⟩=some (Aa Ab k)) (first|with_reducible exact c|with_reducible exact Bj c|with_reducible exact D9 _ c|with_reducible exact Bj (Bs _ c)|with_reducible exact D9 _ (Bs _ c)) (first|(go_at_call 234;(with_reducible refine(I0 k 4 _ m.o.1 m.o.2 I.o).mono ?_);rintro e w' ⟨rfl,rfl⟩)|(go_at_call 235;(with_reducible refine(K9 k p _ m.o.1 m.o.2 H.o).mono ?_);rintro e w' ⟨rfl,rfl⟩))
  all_goals
   go_wp2_with fail;go_meet;exact⟨_,rfl,rfl,⟨_,rfl,(Bk.new _ _ _).drew⟩,((Af _ _).alloc (Ae _) _).drew⟩
 case rest=>
 obtain⟨V,rfl,rfl,⟨h,rfl,i⟩,r⟩:=hcut;have z:=Hd (q.o.pure r);have y:=Hd (l.o.pure r);have a:=Hd (Bi F.o r);have x:=Hd i;obtain ⟨N,O,P,Q,R,S⟩:=z.o.c6;have E:(s== [])=decide (s=[]):=by cases s <;>rfl
 obtain⟨bN,K⟩:∃b,(n != 0)=b:=⟨_,rfl⟩;obtain⟨bU,M⟩:∃b,((u:Int) != 0)=b:=⟨_,rfl⟩;obtain⟨T,L⟩:∃b,(s== [])=b:=⟨_,rfl⟩;obtain⟨bA,D⟩:∃b,decide (0<an)=b:=⟨_,rfl⟩;have G:decide ((0:Int)<(an:Int))=bA:=by rw [←D];exact decide_eq_decide.2 (by omega)
 clear r i c j E;cases bN with
 |true=>
  go_wp2_with fail;go_ret;exact⟨rfl,a.o⟩
 |false=>
 cases bU with
 |true=>
  go_wp2_with fail;go_ret;exact⟨rfl,a.o⟩
 |false=>
 cases bA with
 |true=>
  go_wp2_with fail;go_ret;exact⟨rfl,a.o⟩
 |false=>
 go_wp2_with fail;go_at_call 237;refine(Hy h p B bn bc vs _ y.o hbn x.o).mono ?_;rintro e W ⟨rfl,f⟩;have t:=Hd (Bi a.o f);clear f N O P Q R S;go_wp2_with fail;go_ret;exact⟨rfl,t.o⟩
theorem Abw(k n:Int)(u:Nat)(s:List UInt8)(A:Option Addr)(an ac:Nat)(B:Option Addr)(bn bc:Nat)(vs:List Nv)(p:Int)(w:World)(hI:Gj w B bn vs)(hbn:bn≤1099511627776)(h1:1≤k)(h17:k≤17)(hU:L7 k=8)(hp:B5 k=p)
  (e2:(k==2)=false) (e17:(k==17)=true) (e15:(k==15)=false) (e16:(k==16)=false):
  Calls Ad 143 #[.agg (Aff k n u s A an ac B bn bc)] w (Afc (.bool (if(n != 0)=true then false else if((u:Int) != 0)=true then false else if(s== [])=false then false else if decide (an=bn)=false then false else !(vs.any fun v=>Ge p v.k))) w):=by
 have G:=Hd (show Below w.heap.size w (w.alloc (.cells (Aff k n u s A an ac B bn bc) 34)) from(Af _ _).alloc (Ae _) _);have r:=Hd (Bk.new w 34 (Aff k n u s A an ac B bn bc));have m:=Hd hI;have L:=Hd hU;have K:=Hd hp;have q:=Hd (And.intro h1 h17);have M:decide (k<1)=false:=decide_eq_false (by omega);have D:decide (17<k)=false:=decide_eq_false (by omega);clear hI hU hp h1 h17;go_enter func143,ntmps143;go_upto_region 3 with fail
 have d:=m.o.alloc (.cells (Aff k n u s A an ac B bn bc) 34);replace m:=Hd d;clear d M D;generalize w.alloc (.cells (Aff k n u s A an ac B bn bc) 34)=w1 at G r m⊢;generalize w.heap.size=g at r⊢;have c:w1.cell? ⟨g,0,none⟩=some (Aa Ab k):=r.o.cell 0;have l:=Nat.ne_of_lt (B3 c);simp only at l;go_cut [3,4] (fun u3 u4 wx=>∃wy,wy=wx∧u3= Aa Ab 8∧(∃h,u4= Afh h∧Bk wx h 3 #[Aa Ab p])∧Below w1.heap.size w1 wx)
 case first=>
  have W:(0:Int)=0:=rfl;go_region_held3 (fun w'=>w'.cell? ⟨g,0,none⟩=some (Aa Ab k)) (first|with_reducible exact c|with_reducible exact Bj c|with_reducible exact D9 _ c|with_reducible exact Bj (Bs _ c)|with_reducible exact D9 _ (Bs _ c)) (first|(go_at_call 234;(with_reducible refine(I0 k 8 _ q.o.1 q.o.2 L.o).mono ?_);rintro e w' ⟨rfl,rfl⟩)|(go_at_call 235;(with_reducible refine(K9 k p _ q.o.1 q.o.2 K.o).mono ?_);rintro e w' ⟨rfl,rfl⟩))
  all_goals
   go_wp2_with fail;go_meet;exact⟨_,rfl,rfl,⟨_,rfl,(Bk.new _ _ _).drew⟩,((Af _ _).alloc (Ae _) _).drew⟩
 case rest=>
 obtain⟨X,rfl,rfl,⟨h,rfl,j⟩,t⟩:=hcut;have C:=Hd (r.o.pure t);have z:=Hd (m.o.pure t);have a:=Hd (Bi G.o t);have y:=Hd j;obtain ⟨Q,R,S,T,U,V⟩:=C.o.c6;have F:(s== [])=decide (s=[]):=by cases s <;>rfl
 obtain⟨bN,N⟩:∃b,(n != 0)=b:=⟨_,rfl⟩;obtain⟨bU,P⟩:∃b,((u:Int) != 0)=b:=⟨_,rfl⟩;obtain⟨bS,O⟩:∃b,(s== [])=b:=⟨_,rfl⟩;obtain⟨bA,E⟩:∃b,decide (0<an)=b:=⟨_,rfl⟩;have H:decide ((0:Int)<(an:Int))=bA:=by rw [←E];exact decide_eq_decide.2 (by omega)
 clear t j c l F;obtain⟨bE,i⟩:∃b,decide (an=bn)=b:=⟨_,rfl⟩;have I:((an:Int) != (bn:Int))=!bE:=by
  rw [←i,Bool.eq_iff_iff];simp only [bne_iff_ne,ne_eq,Bool.not_eq_true',decide_eq_false_iff_not];omega
 have J:((an:Int)==(bn:Int))=bE:=by
  rw [←i,Bool.eq_iff_iff];simp only [beq_iff_eq,decide_eq_true_eq];omega
 cases bN with
 |true=>
  go_wp2_with fail;go_ret;exact⟨rfl,a.o⟩
 |false=>
 cases bU with
 |true=>
  go_wp2_with fail;go_ret;exact⟨rfl,a.o⟩
 |false=>
 cases bS with
 |false=>
  go_wp2_with fail;go_ret;exact⟨rfl,a.o⟩
 |true=>
 cases bE with
 |false=>
  go_wp2_with fail;go_ret;exact⟨rfl,a.o⟩
 |true=>
  go_wp2_with fail;go_at_call 237;refine(Hy h p B bn bc vs _ z.o hbn y.o).mono ?_;rintro e Y ⟨rfl,f⟩;have x:=Hd (Bi a.o f);clear f Q R S T U V;go_wp2_with fail;go_ret;exact⟨rfl,x.o⟩
theorem yG(k n:Int)(u:Nat)(s:List UInt8)(A:Option Addr)(an ac:Nat)(B:Option Addr)(bn bc:Nat)(vs:List Nv)(p:Int)(w:World)(hI:Gj w B bn vs)(hbn:bn≤1099511627776)(h1:1≤k)(h17:k≤17)(hU:L7 k=0)(hp:B5 k=p)
  (e2:(k==2)=false) (e17:(k==17)=false) (e15:(k==15)=true) (_e16:(k==16)=false):
  Calls Ad 143 #[.agg (Aff k n u s A an ac B bn bc)] w (Afc (.bool (if(n != 0)=true then false else if((u:Int) != 0)=true then false else if(s== [])=false then false else if decide (0<an)=true then false else if decide (bn<2)=true then false else if decide (4<bn)=true then false else !(vs.any fun v=>Ge p v.k))) w):=by
 have H:=Hd (show Below w.heap.size w (w.alloc (.cells (Aff k n u s A an ac B bn bc) 34)) from(Af _ _).alloc (Ae _) _);have q:=Hd (Bk.new w 34 (Aff k n u s A an ac B bn bc));have l:=Hd hI;have M:=Hd hU;have L:=Hd hp;have m:=Hd (And.intro h1 h17);have N:decide (k<1)=false:=decide_eq_false (by omega);have C:decide (17<k)=false:=decide_eq_false (by omega);clear hI hU hp h1 h17;go_enter func143,ntmps143;go_upto_region 3 with fail
 have d:=l.o.alloc (.cells (Aff k n u s A an ac B bn bc) 34);replace l:=Hd d;clear d N C;generalize w.alloc (.cells (Aff k n u s A an ac B bn bc) 34)=w1 at H q l⊢;generalize w.heap.size=g at q⊢;have c:w1.cell? ⟨g,0,none⟩=some (Aa Ab k):=q.o.cell 0;have j:=Nat.ne_of_lt (B3 c);simp only at j;go_cut [3,4] (fun u3 u4 wx=>∃wy,wy=wx∧u3= Aa Ab 0∧(∃h,u4= Afh h∧Bk wx h 3 #[Aa Ab p])∧Below w1.heap.size w1 wx)
 case first=>
  have X:(0:Int)=0:=rfl;go_region_held3 (fun w'=>w'.cell? ⟨g,0,none⟩=some (Aa Ab k)) (first|with_reducible exact c|with_reducible exact Bj c|with_reducible exact D9 _ c|with_reducible exact Bj (Bs _ c)|with_reducible exact D9 _ (Bs _ c)) (first|(go_at_call 234;(with_reducible refine(I0 k 0 _ m.o.1 m.o.2 M.o).mono ?_);rintro e w' ⟨rfl,rfl⟩)|(go_at_call 235;(with_reducible refine(K9 k p _ m.o.1 m.o.2 L.o).mono ?_);rintro e w' ⟨rfl,rfl⟩))
  all_goals
   go_wp2_with fail;go_meet;exact⟨_,rfl,rfl,⟨_,rfl,(Bk.new _ _ _).drew⟩,((Af _ _).alloc (Ae _) _).drew⟩
 case rest=>
 obtain⟨Y,rfl,rfl,⟨h,rfl,i⟩,r⟩:=hcut;have z:=Hd (q.o.pure r);have y:=Hd (l.o.pure r);have a:=Hd (Bi H.o r);have x:=Hd i;obtain ⟨R,S,T,U,V,W⟩:=z.o.c6;have G:(s== [])=decide (s=[]):=by cases s <;>rfl
 obtain⟨bN,O⟩:∃b,(n != 0)=b:=⟨_,rfl⟩;obtain⟨bU,Q⟩:∃b,((u:Int) != 0)=b:=⟨_,rfl⟩;obtain⟨bS,P⟩:∃b,(s== [])=b:=⟨_,rfl⟩;obtain⟨bA,D⟩:∃b,decide (0<an)=b:=⟨_,rfl⟩;have I:decide ((0:Int)<(an:Int))=bA:=by rw [←D];exact decide_eq_decide.2 (by omega)
 clear r i c j G;obtain⟨bl,F⟩:∃b,decide (bn<2)=b:=⟨_,rfl⟩;obtain⟨bg,E⟩:∃b,decide (4<bn)=b:=⟨_,rfl⟩;have K:decide ((bn:Int)<2)=bl:=by rw [←F];exact decide_eq_decide.2 (by omega)
 have J:decide (4<(bn:Int))=bg:=by rw [←E];exact decide_eq_decide.2 (by omega)
 cases bN with
 |true=>
  go_wp2_with fail;go_ret;exact⟨rfl,a.o⟩
 |false=>
 cases bU with
 |true=>
  go_wp2_with fail;go_ret;exact⟨rfl,a.o⟩
 |false=>
 cases bS with
 |false=>
  go_wp2_with fail;go_ret;exact⟨rfl,a.o⟩
 |true=>
 cases bA with
 |true=>
  go_wp2_with fail;go_ret;exact⟨rfl,a.o⟩
 |false=>
 cases bl with
 |true=>
  go_wp2_with fail;go_ret;exact⟨rfl,a.o⟩
 |false=>
 cases bg with
 |true=>
  go_wp2_with fail;go_ret;exact⟨rfl,a.o⟩
 |false=>
  go_wp2_with fail;go_at_call 237;refine(Hy h p B bn bc vs _ y.o hbn x.o).mono ?_;rintro e Z ⟨rfl,f⟩;have t:=Hd (Bi a.o f);clear f R S T U V W;go_wp2_with fail;go_ret;exact⟨rfl,t.o⟩
theorem yH(k n:Int)(u:Nat)(s:List UInt8)(A:Option Addr)(an ac:Nat)(B:Option Addr)(bn bc:Nat)(vs:List Nv)(p:Int)(w:World)(hI:Gj w B bn vs)(hbn:bn≤1099511627776)(h1:1≤k)(h17:k≤17)(hU:L7 k=0)(hp:B5 k=p)
  (e2:(k==2)=false) (e17:(k==17)=false) (e15:(k==15)=false) (e16:(k==16)=true):
  Calls Ad 143 #[.agg (Aff k n u s A an ac B bn bc)] w (Afc (.bool (if(n != 0)=true then false else if((u:Int) != 0)=true then false else if(s== [])=false then false else if decide (0<an)=true then false else if decide (bn<2)=true then false else if decide (4<bn)=true then false else !(vs.any fun v=>Ge p v.k))) w):=by
 have H:=Hd (show Below w.heap.size w (w.alloc (.cells (Aff k n u s A an ac B bn bc) 34)) from(Af _ _).alloc (Ae _) _);have q:=Hd (Bk.new w 34 (Aff k n u s A an ac B bn bc));have l:=Hd hI;have M:=Hd hU;have L:=Hd hp;have m:=Hd (And.intro h1 h17);have N:decide (k<1)=false:=decide_eq_false (by omega);have C:decide (17<k)=false:=decide_eq_false (by omega);clear hI hU hp h1 h17;go_enter func143,ntmps143;go_upto_region 3 with fail
 have d:=l.o.alloc (.cells (Aff k n u s A an ac B bn bc) 34);replace l:=Hd d;clear d N C;generalize w.alloc (.cells (Aff k n u s A an ac B bn bc) 34)=w1 at H q l⊢;generalize w.heap.size=g at q⊢;have c:w1.cell? ⟨g,0,none⟩=some (Aa Ab k):=q.o.cell 0;have j:=Nat.ne_of_lt (B3 c);simp only at j;go_cut [3,4] (fun u3 u4 wx=>∃wy,wy=wx∧u3= Aa Ab 0∧(∃h,u4= Afh h∧Bk wx h 3 #[Aa Ab p])∧Below w1.heap.size w1 wx)
 case first=>
  have X:(0:Int)=0:=rfl;go_region_held3 (fun w'=>w'.cell? ⟨g,0,none⟩=some (Aa Ab k)) (first|with_reducible exact c|with_reducible exact Bj c|with_reducible exact D9 _ c|with_reducible exact Bj (Bs _ c)|with_reducible exact D9 _ (Bs _ c)) (first|(go_at_call 234;(with_reducible refine(I0 k 0 _ m.o.1 m.o.2 M.o).mono ?_);rintro e w' ⟨rfl,rfl⟩)|(go_at_call 235;(with_reducible refine(K9 k p _ m.o.1 m.o.2 L.o).mono ?_);rintro e w' ⟨rfl,rfl⟩))
  all_goals
   go_wp2_with fail;go_meet;exact⟨_,rfl,rfl,⟨_,rfl,(Bk.new _ _ _).drew⟩,((Af _ _).alloc (Ae _) _).drew⟩
 case rest=>
 obtain⟨Y,rfl,rfl,⟨h,rfl,i⟩,r⟩:=hcut;have z:=Hd (q.o.pure r);have y:=Hd (l.o.pure r);have a:=Hd (Bi H.o r);have x:=Hd i;obtain ⟨R,S,T,U,V,W⟩:=z.o.c6;have G:(s== [])=decide (s=[]):=by cases s <;>rfl
 obtain⟨bN,O⟩:∃b,(n != 0)=b:=⟨_,rfl⟩;obtain⟨bU,Q⟩:∃b,((u:Int) != 0)=b:=⟨_,rfl⟩;obtain⟨bS,P⟩:∃b,(s== [])=b:=⟨_,rfl⟩;obtain⟨bA,D⟩:∃b,decide (0<an)=b:=⟨_,rfl⟩;have I:decide ((0:Int)<(an:Int))=bA:=by rw [←D];exact decide_eq_decide.2 (by omega)
 clear r i c j G;obtain⟨bl,F⟩:∃b,decide (bn<2)=b:=⟨_,rfl⟩;obtain⟨bg,E⟩:∃b,decide (4<bn)=b:=⟨_,rfl⟩;have K:decide ((bn:Int)<2)=bl:=by rw [←F];exact decide_eq_decide.2 (by omega)
 have J:decide (4<(bn:Int))=bg:=by rw [←E];exact decide_eq_decide.2 (by omega)
 cases bN with
 |true=>
  go_wp2_with fail;go_ret;exact⟨rfl,a.o⟩
 |false=>
 cases bU with
 |true=>
  go_wp2_with fail;go_ret;exact⟨rfl,a.o⟩
 |false=>
 cases bS with
 |false=>
  go_wp2_with fail;go_ret;exact⟨rfl,a.o⟩
 |true=>
 cases bA with
 |true=>
  go_wp2_with fail;go_ret;exact⟨rfl,a.o⟩
 |false=>
 cases bl with
 |true=>
  go_wp2_with fail;go_ret;exact⟨rfl,a.o⟩
 |false=>
 cases bg with
 |true=>
  go_wp2_with fail;go_ret;exact⟨rfl,a.o⟩
 |false=>
  go_wp2_with fail;go_at_call 237;refine(Hy h p B bn bc vs _ y.o hbn x.o).mono ?_;rintro e Z ⟨rfl,f⟩;have t:=Hd (Bi a.o f);clear f R S T U V W;go_wp2_with fail;go_ret;exact⟨rfl,t.o⟩
theorem pN{vs:List Nv}{l:List Tr}{q:Int}(hl:vs.length=l.length)(hc:∀(i:Nat) v t,vs[i]?=some v→l[i]?=some t→Ck w p v t):
  (!(vs.any fun v=>Ge q v.k))=l.all fun x=>decide (q=0∨x.k=q):=by
 have d:∀i (h1:i<vs.length) (h2:i<l.length),vs[i].k=l[i].k:=by
  intro i h1 h2;exact(hc i _ _ (Ag h1) (Ag h2)).fields.1.symm
 have c:vs.map (·.k)=l.map Tr.k:=by
  apply List.ext_getElem (by simpa using hl);intro i h1 h2;rw [List.getElem_map,List.getElem_map];exact d i _ _
 have a:(vs.any fun v=>Ge q v.k)=(vs.map (·.k)).any (Ge q):=by rw [List.any_map];rfl
 have b:(l.all fun x=>decide (q=0∨x.k=q))=(l.map Tr.k).all fun y=>decide (q=0∨y=q):=by rw [List.all_map];rfl
 rw [a,b,c];clear a b c d hl hc
 induction l.map Tr.k with
 |nil=>rfl
 |cons y r ih=>
  rw [List.any_cons,List.all_cons,Bool.not_or,ih]
  congr 1
  unfold Ge;by_cases h1:q=0 <;>by_cases h2:y=q <;>simp [h1,h2]
theorem Ab6{k:Int}(h1:1≤k)(h17:k≤17):k=2∨(L7 k=1∧(k=3∨k=8))∨(k=4∨k=9)∨(k=5∨k=6∨k=7)∨k=17∨k=15∨k=16∨(k=1∨k=10∨k=11∨k=12∨k=13∨k=14):=by
 by_cases h:k=3∨k=8
 ·exact .inr (.inl ⟨by rcases h with rfl|rfl <;>rfl,h⟩)
 ·omega
theorem Gp{α:World→World→Prop}{P:Program}{f:Nat}{args:Array Value}{a b:Bool}(h:Calls P f args w fun e w'=>e= .returned (.bool a)∧α w w')(hab:a=b):Calls P f args w fun e w'=>e= .returned (.bool b)∧α w w':=by
 subst hab;exact h
theorem E0(k n:Int)(u:Nat)(s:List UInt8)(ks:List (List UInt8))(l:List Tr):Ep (.mk k n u s ks l)=
  (decide (1≤k∧k≤17)&&decide (k=2∨k=3∨k=8∨n=0)&&decide (k=4∨k=9∨u=0)&&decide (k=5∨k=6∨k=7∨s=[])&&decide (k=17∨ks=[])&&decide (k=2→n=0∨n=1)&&decide (k=17→ks.length=l.length)&&decide (k=15∨k=16→2≤l.length∧l.length≤4)&&l.all fun x=>decide (B5 k=0∨x.k=B5 k)):=rfl
theorem tZ(h:Ck w p x t):Calls Ad 143 #[.agg (Afe x)] w (Afc (.bool (Ep t)) w):=by
 cases h with
 | @mk _ ks l vs h1 ha hac hx h2 hb hbc hy hl hc=>
  obtain⟨k,n,u,s,A,an,o,B,bn,bc⟩:=x;simp only at h1 ha hac hx h2 hb hbc hy;have b:ks.length=an:=h1.1;have f:l.length=bn:=by rw [←hl];exact h2.1
  have C:(ks=[])↔an=0:=by rw [←b];exact List.length_eq_zero_iff.symm
  have m:(s== [])=decide (s=[]):=by cases s <;>rfl
  have e:(ks=[])=(an=0):=propext C;by_cases D:1≤k∧k≤17
  ·obtain⟨r,c⟩:=D;have v:=fun q=>pN (q:=q) hl hc
   have d:bn≤1099511627776:=by omega
   rcases Ab6 r c with rfl|⟨g,rfl|rfl⟩|(rfl|rfl)|(rfl|rfl|rfl)|rfl|rfl|rfl|(rfl|rfl|rfl|rfl|rfl|rfl)
   ·refine Gp (yJ 2 n u s A an o B bn bc vs (B5 2) w h2 d r c rfl rfl rfl rfl rfl rfl) ?_;rw [v,E0];generalize (l.all fun x=>decide (B5 2=0∨x.k=B5 2))=al;rw [b,f];simp only [e];by_cases i:n=0 <;>by_cases g:u=0 <;>by_cases j:s=[] <;>by_cases a:an=0 <;>simp [i,g,j,a,m]
   ·refine Gp (lE 3 n u s A an o B bn bc vs (B5 3) w h2 d r c rfl rfl rfl rfl rfl rfl) ?_;rw [v,E0];generalize (l.all fun x=>decide (B5 3=0∨x.k=B5 3))=al;rw [b,f];simp only [e];by_cases i:n=0 <;>by_cases g:u=0 <;>by_cases j:s=[] <;>by_cases a:an=0 <;>simp [i,g,j,a,m]
   ·refine Gp (lE 8 n u s A an o B bn bc vs (B5 8) w h2 d r c rfl rfl rfl rfl rfl rfl) ?_;rw [v,E0];generalize (l.all fun x=>decide (B5 8=0∨x.k=B5 8))=al;rw [b,f];simp only [e];by_cases i:n=0 <;>by_cases g:u=0 <;>by_cases j:s=[] <;>by_cases a:an=0 <;>simp [i,g,j,a,m]
   ·refine Gp (lF 4 n u s A an o B bn bc vs (B5 4) w h2 d r c rfl rfl rfl rfl rfl rfl) ?_;rw [v,E0];generalize (l.all fun x=>decide (B5 4=0∨x.k=B5 4))=al;rw [b,f];simp only [e];by_cases i:n=0 <;>by_cases g:u=0 <;>by_cases j:s=[] <;>by_cases a:an=0 <;>simp [i,g,j,a,m]
   ·refine Gp (lF 9 n u s A an o B bn bc vs (B5 9) w h2 d r c rfl rfl rfl rfl rfl rfl) ?_;rw [v,E0];generalize (l.all fun x=>decide (B5 9=0∨x.k=B5 9))=al;rw [b,f];simp only [e];by_cases i:n=0 <;>by_cases g:u=0 <;>by_cases j:s=[] <;>by_cases a:an=0 <;>simp [i,g,j,a,m]
   ·refine Gp (Yp 5 n u s A an o B bn bc vs (B5 5) w h2 d r c rfl rfl rfl rfl rfl rfl) ?_;rw [v,E0];generalize (l.all fun x=>decide (B5 5=0∨x.k=B5 5))=al;rw [b,f];simp only [e];by_cases i:n=0 <;>by_cases g:u=0 <;>by_cases j:s=[] <;>by_cases a:an=0 <;>simp [i,g,j,a]
   ·refine Gp (Yp 6 n u s A an o B bn bc vs (B5 6) w h2 d r c rfl rfl rfl rfl rfl rfl) ?_;rw [v,E0];generalize (l.all fun x=>decide (B5 6=0∨x.k=B5 6))=al;rw [b,f];simp only [e];by_cases i:n=0 <;>by_cases g:u=0 <;>by_cases j:s=[] <;>by_cases a:an=0 <;>simp [i,g,j,a]
   ·refine Gp (Yp 7 n u s A an o B bn bc vs (B5 7) w h2 d r c rfl rfl rfl rfl rfl rfl) ?_;rw [v,E0];generalize (l.all fun x=>decide (B5 7=0∨x.k=B5 7))=al;rw [b,f];simp only [e];by_cases i:n=0 <;>by_cases g:u=0 <;>by_cases j:s=[] <;>by_cases a:an=0 <;>simp [i,g,j,a]
   ·refine Gp (Abw 17 n u s A an o B bn bc vs (B5 17) w h2 d r c rfl rfl rfl rfl rfl rfl) ?_;rw [v,E0];generalize (l.all fun x=>decide (B5 17=0∨x.k=B5 17))=al;rw [b,f];simp only [e];by_cases i:n=0 <;>by_cases g:u=0 <;>by_cases j:s=[] <;>by_cases a:an=0 <;>simp [i,g,j,a,m]
   ·refine Gp (yG 15 n u s A an o B bn bc vs (B5 15) w h2 d r c rfl rfl rfl rfl rfl rfl) ?_;rw [v,E0];generalize (l.all fun x=>decide (B5 15=0∨x.k=B5 15))=al;rw [b,f];simp only [e];by_cases i:n=0 <;>by_cases g:u=0 <;>by_cases j:s=[] <;>by_cases a:an=0 <;>by_cases y:bn<2 <;>by_cases z:4<bn <;>simp [i,g,j,a,m,y,z] <;>omega
   ·refine Gp (yH 16 n u s A an o B bn bc vs (B5 16) w h2 d r c rfl rfl rfl rfl rfl rfl) ?_;rw [v,E0];generalize (l.all fun x=>decide (B5 16=0∨x.k=B5 16))=al;rw [b,f];simp only [e];by_cases i:n=0 <;>by_cases g:u=0 <;>by_cases j:s=[] <;>by_cases a:an=0 <;>by_cases y:bn<2 <;>by_cases z:4<bn <;>simp [i,g,j,a,m,y,z] <;>omega
   ·refine Gp (N5 1 n u s A an o B bn bc vs (B5 1) w h2 d r c rfl rfl rfl rfl rfl rfl) ?_;rw [v,E0];generalize (l.all fun x=>decide (B5 1=0∨x.k=B5 1))=al;rw [b,f];simp only [e];by_cases i:n=0 <;>by_cases g:u=0 <;>by_cases j:s=[] <;>by_cases a:an=0 <;>simp [i,g,j,a,m]
   ·refine Gp (N5 10 n u s A an o B bn bc vs (B5 10) w h2 d r c rfl rfl rfl rfl rfl rfl) ?_;rw [v,E0];generalize (l.all fun x=>decide (B5 10=0∨x.k=B5 10))=al;rw [b,f];simp only [e];by_cases i:n=0 <;>by_cases g:u=0 <;>by_cases j:s=[] <;>by_cases a:an=0 <;>simp [i,g,j,a,m]
   ·refine Gp (N5 11 n u s A an o B bn bc vs (B5 11) w h2 d r c rfl rfl rfl rfl rfl rfl) ?_;rw [v,E0];generalize (l.all fun x=>decide (B5 11=0∨x.k=B5 11))=al;rw [b,f];simp only [e];by_cases i:n=0 <;>by_cases g:u=0 <;>by_cases j:s=[] <;>by_cases a:an=0 <;>simp [i,g,j,a,m]
   ·refine Gp (N5 12 n u s A an o B bn bc vs (B5 12) w h2 d r c rfl rfl rfl rfl rfl rfl) ?_;rw [v,E0];generalize (l.all fun x=>decide (B5 12=0∨x.k=B5 12))=al;rw [b,f];simp only [e];by_cases i:n=0 <;>by_cases g:u=0 <;>by_cases j:s=[] <;>by_cases a:an=0 <;>simp [i,g,j,a,m]
   ·refine Gp (N5 13 n u s A an o B bn bc vs (B5 13) w h2 d r c rfl rfl rfl rfl rfl rfl) ?_;rw [v,E0];generalize (l.all fun x=>decide (B5 13=0∨x.k=B5 13))=al;rw [b,f];simp only [e];by_cases i:n=0 <;>by_cases g:u=0 <;>by_cases j:s=[] <;>by_cases a:an=0 <;>simp [i,g,j,a,m]
   ·refine Gp (N5 14 n u s A an o B bn bc vs (B5 14) w h2 d r c rfl rfl rfl rfl rfl rfl) ?_;rw [v,E0];generalize (l.all fun x=>decide (B5 14=0∨x.k=B5 14))=al;rw [b,f];simp only [e];by_cases i:n=0 <;>by_cases g:u=0 <;>by_cases j:s=[] <;>by_cases a:an=0 <;>simp [i,g,j,a,m]
  ·refine Gp (yI k n u s A an o B bn bc w D) ?_;unfold Ep;simp [Tr.k,D]
mutual
theorem kM:∀(t:Tr) (d:Nat) (x:Nat×Tr),x∈Tr.pre d t→x.1+1≤d+(Tr.pre d t).length
 | .mk k n u s ks l,d,x,h=>by
  rw [Tr.pre] at h⊢;rw [List.length_cons];rcases List.mem_cons.1 h with rfl|h
  ·simp only;omega
  ·have:=fG l (d+1) x h;omega
theorem fG:∀(l:List Tr) (d:Nat) (x:Nat×Tr),x∈Tr.pre.Tr.preL d l→x.1+1≤d+(Tr.pre.Tr.preL d l).length
 | [],d,x,h=>by rw [Tr.pre.Tr.preL] at h;simp at h
 |t::r,d,x,h=>by
  rw [Tr.pre.Tr.preL] at h⊢;rw [List.length_append];rcases List.mem_append.1 h with h|h
  ·have:=kM t d x h;omega
  ·have:=fG r d x h;omega
end
theorem Wb(h:Ck w p x t)(hp:∀k,p k→k<w.heap.size)(hks:∀y∈Tr.pre 0 t,∀s∈y.2.ks,s.length≤1048576)(hm:(Tr.pre 0 t).length≤1048576):
  Calls Ad 73 #[.agg (Afe x)] w (Afc (Aa Ab (Gk H0 0 t 0).1) w):=by
 obtain⟨Y,m⟩:=h.ord 0;have c:=m.nodes;have e:∀W,Hi (fun k=>w.heap.size≤k) w W→∀k,p k→¬(w.heap.size≤k):=fun W _ k hk=>by have:=hp k hk;omega
 refine qC x t Y p w (fun i=>match(Tr.pre 0 t)[i]? with|some y=>Ep y.2|none=>false) (fun i=>match(Tr.pre 0 t)[i]? with|some y=>It 70 71 y.2|none=>0) (Gk H0 0 t 0).1 m hp (by rw [c.1];omega) ?_ ?_ ?_ ?_
 ·intro y b;obtain⟨i,o,rfl⟩:=List.getElem_of_mem b;obtain⟨j,a,_⟩:=c.2 i _ (Ag o);have:=kM t 0 _ (Aq a);omega
 ·intro i y W b d;obtain⟨j,a,f⟩:=c.2 i y b;rw [a];exact tZ (Xh f d (e W d))
 ·intro i y W b d;obtain⟨j,a,f⟩:=c.2 i y b;rw [a];have hr2:=Xh f d (e W d);have g:=hks _ (Aq a);obtain⟨q,r,u,v,_⟩:=hr2.fields;cases hr2 with
  | @mk _ ks l vs h1 ha hac hx h2 hb hbc hy' hl hc=>
   exact nM y.2 ks _ W h1 (by omega) g rfl
 ·rw [vZ c.1 ?_,(jP t 0 0).1];intro i y z b n;obtain⟨j,a,f⟩:=c.2 i y b;rw [n] at a;injection a with a
  subst a;simp [n]
theorem Oa:H0.Ok:=⟨by decide,by decide,by decide,by decide,by decide⟩
def R4(t:Tr):Prop:=(∀y∈Tr.pre 0 t,∀s∈y.2.ks,s.length≤1048576)∧(Tr.pre 0 t).length≤1048576
theorem dH(h:t.cost≤1000000):R4 t:=⟨fun y hy s hs=>by have:=fJ t 0 y hy s hs;omega,by have:=fI t 0;omega⟩
def SdW(w:World)(t:Tr)(e:Ending)(w':World):Prop:=
 ∃y:Nv,e= .returned (.tuple #[.agg (Afe y),Aa Ab 0])∧Ck w' (fun b=>w.heap.size≤b∧b<w'.heap.size) y (By t)∧Below w.heap.size w w'
theorem Qg{er:Int}(h:Ck w p x t)(hp:∀k,p k→k<w.heap.size)(hfk:R4 t)(he:(Gk H0 0 t 0).1=er)(hne:er≠0):
  Calls Ad 40 #[.agg (Afe x)] w (Afc (.tuple #[.agg #[Aa Ab 0,Aa Ab 0,Aa Ac 0,.string ⟨#[]⟩,.slice none 0 0,.slice none 0 0],Aa Ab er]) w):=by
 obtain⟨z,A,B,xs,u,d,c,y,i,f⟩:=x;have b:=Bu w (.cells (Aff z A B xs u d c y i f) 34) (.cells #[Aa Ab 0,Aa Ab 0,Aa Ac 0,.string ⟨#[]⟩,.slice none 0 0,.slice none 0 0] 34);have D:=Hd ((Bk.new w 34 (Aff z A B xs u d c y i f)).alloc (.cells #[Aa Ab 0,Aa Ab 0,Aa Ac 0,.string ⟨#[]⟩,.slice none 0 0,.slice none 0 0] 34));have s:=Hd (Bk.new_ (w:=w.alloc (.cells (Aff z A B xs u d c y i f) 34)) (g:=w.heap.size+1) (by simp) 34 #[Aa Ab 0,Aa Ab 0,Aa Ac 0,.string ⟨#[]⟩,.slice none 0 0,.slice none 0 0]);have E:=Hd b;have l:=Hd (Wb (h.pure b) (fun k hk=>Ax (hp k hk) b.size) hfk.1 hfk.2);rw [he] at l;have hb:(er != 0)=true:=by simpa using hne
 clear h hp hfk he hne b;go_enter func40,ntmps40;go_upto_region 1 with fail
 generalize (w.alloc (.cells (Aff z A B xs u d c y i f) 34)).alloc (.cells #[Aa Ab 0,Aa Ab 0,Aa Ac 0,.string ⟨#[]⟩,.slice none 0 0,.slice none 0 0] 34)=w1 at D s E l⊢;generalize r:w.heap.size=bt at D s⊢;generalize q:bt+1=br at s⊢;have G:=Hd (And.intro r q);clear r q;obtain ⟨H,I,J,K,L,M⟩:=D.o.c6;go_wp2_with fail;go_at_call 73;refine l.o.mono ?_;rintro e F ⟨rfl,m⟩;have C:=Hd (Bi E.o m);have n:=Hd (s.o.pure m);clear m H I J K L M;obtain ⟨O,P,Q,R,S,T⟩:=n.o.c6;have a:∀j,F.frozen? ⟨br,j,none⟩=false:=fun j=>n.o.frozen j
 have U:=a 0;have V:=a 1;have W:=a 2;have X:=a 3;have Y:=a 4;have Z:=a 5;clear a;go_wp2_with fail;refine bodyPost_ret (v:= .tuple #[.agg #[Aa Ab 0,Aa Ab 0,Aa Ac 0,.string ⟨#[]⟩,.slice none 0 0,.slice none 0 0],Aa Ab er]) (by simp [results,results40,go_sem,O,P,Q,R,S,T]) rfl ?_;have N:=G6 F br (Aa Ab 0) (Aa Ab 0) (Aa Ac 0) (.string ⟨#[]⟩) (.slice none 0 0) (.slice none 0 0);exact⟨rfl,Cq C.o N (by rintro j rfl;have:=G.o;omega)⟩
theorem R1(h:Ck w p x t)(hp:∀k,p k→k<w.heap.size)(hc:t.cost≤1000000)(he:(Gk H0 0 t 0).1=0):
  Calls Ad 40 #[.agg (Afe x)] w (SdW w t):=by
 have HV:=Hd (Kx Oa t 0 0 he);have G:=dH hc;have X:=Hd hc;obtain⟨S,T,U,xs,Q,q,m,R,C,r⟩:=x;have l:=Bu w (.cells (Aff S T U xs Q q m R C r) 34) (.cells #[Aa Ab 0,Aa Ab 0,Aa Ac 0,.string ⟨#[]⟩,.slice none 0 0,.slice none 0 0] 34);have P:=Hd ((Bk.new w 34 (Aff S T U xs Q q m R C r)).alloc (.cells #[Aa Ab 0,Aa Ab 0,Aa Ac 0,.string ⟨#[]⟩,.slice none 0 0,.slice none 0 0] 34));have O:=Hd (Bk.new_ (w:=w.alloc (.cells (Aff S T U xs Q q m R C r) 34)) (g:=w.heap.size+1) (by simp) 34 #[Aa Ab 0,Aa Ab 0,Aa Ac 0,.string ⟨#[]⟩,.slice none 0 0,.slice none 0 0]);have HB:=Hd l;have E:=Hd (Wb (h.pure l) (fun k hk=>Ax (hp k hk) l.size) G.1 G.2);rw [he] at E;have HN:=Hd h;clear h hp hc G he l;go_enter func40,ntmps40;go_upto_region 1 with fail
 generalize (w.alloc (.cells (Aff S T U xs Q q m R C r) 34)).alloc (.cells #[Aa Ab 0,Aa Ab 0,Aa Ac 0,.string ⟨#[]⟩,.slice none 0 0,.slice none 0 0] 34)=w1 at P O HB E⊢;generalize N:w.heap.size=bt at P O⊢;generalize M:bt+1=br at O⊢;have HT:=Hd (And.intro N M);clear N M;obtain ⟨c0,c1,c2,c3,c4,c5⟩:=P.o.c6;go_wp2_with fail;go_at_call 73;refine E.o.mono ?_;rintro e w2 ⟨rfl,i⟩;have D:=Hd (Bi HB.o i);have H:=Hd (O.o.pure i);have L:=P.o.pure i;clear i c0 c1 c2 c3 c4 c5;obtain ⟨c0,c1,c2,c3,c4,c5⟩:=L.c6;have Y:=Hd (qK HN.o w2 D.o);clear L;go_wp2_with fail;go_at_call 75;refine Y.o.mono ?_;rintro e w3 ⟨y,rfl,F,d⟩;have aw:=Hd F;have V:=Hd (Bi D.o d);have ab:=Hd (H.o.pure d);have J:=Hd (show br<w2.heap.size∧w2.heap.size≤w3.heap.size from⟨H.o.lt,d.size⟩);have ad:=Hd (iY F (fun k hk=>hk.2) HV.o (Nat.le_trans X.o (by decide)) w3 (fun _ _=>rfl) (Ae _));clear F d c0 c1 c2 c3 c4 c5;go_wp2_with fail;go_at_call 74;refine ad.o.mono ?_;rintro e w4 ⟨z,rfl,K,f⟩;have aa:=Hd K;have Z:=Hd f;have hs:=J.o;have W:=Hd (Cq V.o f (fun k hk=>by have h1:=D.o.size;omega));have I:=Hd (ab.o.fr f (fun hk=>by omega));clear K f hs;obtain ⟨r0,r1,r2,r3,r4,r5⟩:=I.o.c6;have c:∀j,w4.frozen? ⟨br,j,none⟩=false:=fun j=>I.o.frozen j
 have f0:=c 0;have f1:=c 1;have f2:=c 2;have f3:=c 3;have f4:=c 4;have f5:=c 5;clear c;go_wp2_with fail;refine bodyPost_ret (v:= .tuple #[.agg (Afe z),Aa Ab 0]) (by simp [results,results40,go_sem,r0,r1,r2,r3,r4,r5]) rfl ?_;have hf:=G6 w4 br (Aa Ab z.k) (Aa Ab z.n) (Aa Ac (z.u:Int)) (.string ⟨z.s.toArray⟩) (.slice z.A z.an z.ac) (.slice z.B z.bn z.bc);have hs:=J.o;have ht:=HT.o;have h4:=Z.o.size;have h5:=hf.size;exact⟨z,rfl,(aa.o.keep fun a u hc hp=>C0 hf hc (by rcases hp with hp|hp <;>omega)).mono fun b hb=>by rcases hb with hb|hb <;>exact⟨by omega,by omega⟩,Cq W.o hf (by rintro j rfl;omega)⟩
end Go.Proofs.YtejpbijeifjdeaaGreat
