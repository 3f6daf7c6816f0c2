/- Parts of the proof. -/
import Derived.Test.YtejpbijeifjdeaaGreatQv16
import Derived.Lib.BytesEntry
set_option maxHeartbeats 4000000
set_option maxRecDepth 100000
open Go.Value renaming int→Aa
open Go.IntKind renaming i64→Ab,u64→Ac
open Nat renaming le_refl→Ae,le_succ→Aj,lt_of_lt_of_le→Ar
open Go.RowKit.Below renaming refl→Af
open Go.IntWalk renaming i64_in→Ag
open List renaming getElem?_eq_getElem→Ai,replicate→An,length_take→Au,take_of_length_le→Aw,take_succ_eq_append_getElem→Az
open Int renaming toNat_natCast→Ao
open UInt8 renaming ofNat→Aq
open Go.Proofs.Tryz
open Go.Proofs.Tryz renaming prog→Ad
namespace Go.Proofs.YtejpbijeifjdeaaGreat
open Go.RowKit Go.Acc
variable {l:List UInt8}{k n a:Nat}{w:World}{A:Option Addr}{ts:List Nat}{t p q v:Int}{x:Nv}
theorem Y1(n:Int)(u:Nat)(s:List UInt8)(ks:List (List UInt8))(c:List Tr)(hkc:ks.length=c.length)(h0:∀x∈ks,Cl x=false)(hu:ks.Pairwise (· < ·))(hO:∀t∈c,F0 t)(hD:∀t∈c,Ew t):Ew (.mk 17 n u s ks c):=by
 intro M fl b x w o p h hg hn hR hp hm;obtain⟨f,hf⟩:∃f,bits fl=f:=⟨_,rfl⟩;rw [hf];obtain⟨hk,_,_,_,_,I⟩:=hR.fields;have hk:17=x.k:=hk;have I:c.length=x.bn:=I;have N:b.size+Ci ks+Tr.costL c≤65000:=by unfold Tr.cost at hm;omega
 have a6:=J4 c;generalize ht:Tr.mk 17 n u s ks c=t0 at hR;cases hR with
 | @mk _ ks' l' vs G L _ _ hI P _ _ hl hc=>
  injection ht with e1 e2 e3 e4 e5 e6
  subst e5 e6;obtain⟨k,r,y,xs,g,xan,a,l,xbn,d⟩:=x;obtain rfl:17=k:=hk;clear e1 e2 e3 e4;have I:c.length=xbn:=I;have hI:It w l xbn vs:=hI;have P:∀ad,l=some ad→p ad.block:=P;have HI:=Hd hI;have G:Fm w g xan ks:=G;have L:∀ad,g=some ad→p ad.block:=L;have az:=Hd G;have Z:=Hd L;have R:=Hd (show ks.length=c.length from hkc);have a4:=Hd (show ks.length=xan by have:=G.1;simpa using this);have HZ:=Hd h0;have ay:=Hd (show ∀(i:Nat) v t,vs[i]?=some v→c[i]?=some t→B7 w p v t from hc);have HD:=Hd hD;have HP:=Hd hp;have aa:=Hd P;have HF:=Hd hf;have F:=Hd I;have a3:=Hd hl;have a2:=Hd (fun j=>aC f hkc hO hg hn N j);have b2:=Hd (show b.s.length≤65000 by unfold Bd.size at N;omega);have hB:=Bq w (.cells #[.pointer (some ⟨M.β,0,none⟩)] 104) (.cells #[Aa Ab (⟨17,r,y,xs,g,xan,a,l,xbn,d⟩:Nv).k,Aa Ab (⟨17,r,y,xs,g,xan,a,l,xbn,d⟩:Nv).n,Aa Ac ((⟨17,r,y,xs,g,xan,a,l,xbn,d⟩:Nv).u:Int),.string ⟨(⟨17,r,y,xs,g,xan,a,l,xbn,d⟩:Nv).s.toArray⟩,.slice (⟨17,r,y,xs,g,xan,a,l,xbn,d⟩:Nv).A (⟨17,r,y,xs,g,xan,a,l,xbn,d⟩:Nv).an (⟨17,r,y,xs,g,xan,a,l,xbn,d⟩:Nv).ac,.slice (⟨17,r,y,xs,g,xan,a,l,xbn,d⟩:Nv).B (⟨17,r,y,xs,g,xan,a,l,xbn,d⟩:Nv).bn (⟨17,r,y,xs,g,xan,a,l,xbn,d⟩:Nv).bc] 34);have U:=Hd (To.fresh Dg hB o 0);have K:=Hd (h.fresh hB 0);have D:=Hd (Wk M ⟨17,r,y,xs,g,xan,a,l,xbn,d⟩ w o);obtain⟨m,O⟩:∃m,b.s.length=m:=⟨_,rfl⟩;have a0:=Hd O;have cb:xbn≤65000:=by omega
  obtain⟨bg,bi,X⟩:=Aax f hkc h0 hu hO hg hn N;rw [O] at X;have av:=Hd X;have aw:=Hd (show Bd.calls f (.mk 17 r y xs ks c) b=(Bd.callsM f ks c b).endMap f ks m by rw [Bd.calls,if_neg (by omega),if_pos rfl,O]);clear h hg hn hp hm hI P hl hc hD hO hf hB O X N a6 G L h0 hu hkc;go_enter func70,ntmps70;go_upto_region 1 with fail
  generalize (w.alloc (.cells #[.pointer (some ⟨M.β,0,none⟩)] 104)).alloc (.cells #[Aa Ab (⟨17,r,y,xs,g,xan,a,l,xbn,d⟩:Nv).k,Aa Ab (⟨17,r,y,xs,g,xan,a,l,xbn,d⟩:Nv).n,Aa Ac ((⟨17,r,y,xs,g,xan,a,l,xbn,d⟩:Nv).u:Int),.string ⟨(⟨17,r,y,xs,g,xan,a,l,xbn,d⟩:Nv).s.toArray⟩,.slice (⟨17,r,y,xs,g,xan,a,l,xbn,d⟩:Nv).A (⟨17,r,y,xs,g,xan,a,l,xbn,d⟩:Nv).an (⟨17,r,y,xs,g,xan,a,l,xbn,d⟩:Nv).ac,.slice (⟨17,r,y,xs,g,xan,a,l,xbn,d⟩:Nv).B (⟨17,r,y,xs,g,xan,a,l,xbn,d⟩:Nv).bn (⟨17,r,y,xs,g,xan,a,l,xbn,d⟩:Nv).bc] 34)=w1 at U K D⊢;generalize Bl o w.heap.size 0=o1 at U K D;generalize w.heap.size+1=bn at D⊢;generalize w.heap.size=bx at D⊢;obtain⟨x0,x1,x2,x3,x4,x5,x6⟩:=D.o.cells;go_wp2_with fail;go_at_call 124;refine(mA M fl b m _ o1 K.o a0.o).mono ?_;rintro e w' ⟨rfl,rfl⟩;go_wp2_with fail;go_loopw [77] (fun uu wr=>∃j:Nat,j≤xbn∧uu= Aa Ab (j:Int)∧∃o',BM M fl wr o' (Bd.callsM f (ks.take j) (c.take j) b)∧To Dg w o wr o'∧Ui M ⟨17,r,y,xs,g,xan,a,l,xbn,d⟩ bx bn wr o') (fun uu _=>xbn-(intOf uu).toNat)
  case atStart=>exact⟨0,Nat.zero_le _,rfl,o1,by rw [List.take_zero,List.take_zero];exact K.o,U.o,D.o⟩
  case round=>
   obtain⟨j,hj,rfl,o',ah,ai,ae⟩:=hrel;have T:=Hd ah;have z:=Hd ai;have Q:=Hd ae;clear ah ai ae x0 x1 x2 x3 x4 x5 x6;obtain⟨x0,x1,x2,x3,x4,x5,x6⟩:=Q.o.cells;by_cases bd:j<xbn
   ·obtain⟨v,hv⟩:∃v,vs[j]?=some v:=⟨_,Ai (by have h1:=a3.o;have h2:=F.o;omega)⟩;obtain⟨t,ht⟩:∃t,c[j]?=some t:=⟨_,Ai (by have h2:=F.o;omega)⟩;have C:∀q,p q→q<w.heap.size∧o q=0:=HP.o;have af:It wr l xbn vs:=HI.o.fr z.o.fr (fun ad e=>by rw [(C _ (aa.o ad e)).2];exact Co);have ag:Fm wr g xan ks:=az.o.fr z.o.fr (fun ad e=>by rw [(C _ (Z.o ad e)).2];exact Co);have ak:j<xan:=by have h1:=a4.o;have h2:=R.o;have h3:=F.o;omega
    obtain⟨g2,o2,e,v0,v1,v2,v3,v4,v5⟩:=Hp af hv;obtain⟨g1,bh,eA,al,hs⟩:=Gc ag ak;have Y:ks[j]?=some ks[j]:=Ai al;have J:=a2.o j;have hE:=jL M fl (Bd.callsM f (ks.take j) (c.take j) b) ⟨17,r,y,xs,g,xan,a,l,xbn,d⟩ v t ks[j] j g1 bh g2 o2 bx bn wr o' p T.o J.1 J.2.1 Q.o (fun q hq=>⟨Ar (C q hq).1 z.o.size,(z.o.ow _ (C q hq).1).trans (C q hq).2⟩) eA e (Z.o _ eA) (aa.o _ e) ak bd hs
     (fun i u hu=>by match i,hu with
      |0,hu=>simp at hu;rw [←hu];exact v0
      |1,hu=>simp at hu;rw [←hu];exact v1
      |2,hu=>simp at hu;rw [←hu];exact v2
      |3,hu=>simp at hu;rw [←hu];exact v3
      |4,hu=>simp at hu;rw [←hu];exact v4
      |5,hu=>simp at hu;rw [←hu];exact v5
      |i+6,hu=>simp at hu)
     ((ay.o j v t hv ht).to_ z.o (fun q hq=>by rw [(C q hq).2];exact Co)) (HD.o t (List.mem_of_getElem? ht)) (HZ.o _ (List.getElem_mem _)) (J.2.2 t _ ht Y).1 (by rw [HF.o];exact(J.2.2 t _ ht Y).2)
    rw [HF.o] at hE;have ar:=Hd hE;have a1:=Hd (show Bd.callsM f (ks.take (j+1)) (c.take (j+1)) b=Bd.calls f t ((Bd.callsM f (ks.take j) (c.take j) b).key f ks[j]) by
     obtain⟨q1,q2⟩:=List.getElem?_eq_some_iff.1 ht;rw [Az q1,q2,Az al,Su f _ _ _ _ _ (by rw [Au,Au,R.o])])
    have b9:(0:Int)≤(j:Int):=by omega
    have ca:(j:Int)<(xbn:Int):=by omega
    clear hv ht C af ag hE J Y hs v0 v1 v2 v3 v4 v5 e eA;go_wp2_with fail;go_at_call 125;refine ar.o.mono ?_;rintro e w2 ⟨rfl,o2,H,E⟩;have S:=Hd H;have V:=Hd (z.o.trans E);have aq:=Hd (Q.o.to_ E Co);clear H E x0 x1 x2 x3 x4 x5 x6;go_wp2_with fail;go_roundw
    case rel=>exact⟨j+1,by omega,by go_num,o2,by rw [a1.o];exact S.o,V.o,aq.o⟩
    case measure=>simp [intOf];omega
   ·obtain rfl:j=xbn:=by omega
    have aj:c.take j=c:=Aw (by have h2:=F.o;omega);have am:ks.take j=ks:=Aw (by have h2:=F.o;have h3:=R.o;omega);rw [aj,am] at T;clear aj am;have W:=eC M fl (Bd.callsM f ks c b) ks bg bi m wr o' T.o av.o;rw [HF.o] at W;have au:=Hd W;clear W;go_wp2_with fail;go_at_call 127;refine au.o.mono ?_;rintro e w2 ⟨rfl,o2,H,E⟩;have S:=Hd H;have V:=Hd (z.o.trans E);clear H E;go_wp2_with fail;go_end0;exact⟨rfl,o2,by rw [aw.o];exact S.o,V.o⟩
def zeroAt(l:List UInt8)(a:Nat):Nat:=a+(l.drop a).findIdx (· ==0)
theorem We(hk:k<l.length)(h:l[k]=0):zeroAt l k=k:=by
 unfold zeroAt;rw [List.drop_eq_getElem_cons hk,List.findIdx_cons,h];rfl
theorem Td(hk:k<l.length)(h:l[k]≠0):zeroAt l (k+1)=zeroAt l k:=by
 unfold zeroAt;rw [List.drop_eq_getElem_cons hk,List.findIdx_cons];have:(l[k]==0)=false:=by simpa using h
 rw [this];simp only [cond_false];omega
theorem Wd(l:List UInt8):zeroAt l l.length=l.length:=by
 unfold zeroAt;simp
theorem R4(hk:k≤l.length):k≤zeroAt l k∧zeroAt l k≤l.length:=by
 unfold zeroAt;have:=List.findIdx_le_length (xs:=l.drop k) (p:=(· ==0));rw [List.length_drop] at this;omega
theorem Th(A:Option Addr)(n c a:Nat)(l:List UInt8)(w:World)(h:B4 w A n l)(ha:a≤n)(hn:n≤9223372036854775807):
  Calls Ad 347 #[.slice A n c,Aa Ab a] w (Ab6 (.tuple #[Aa Ab (zeroAt l a:Nat),.bool (decide (zeroAt l a<n))]) w):=by
 have g:=h.1;subst g;have p:=Hd h;clear h;go_enter func347,ntmps347;go_wp2;go_step3;go_wp2;go_step3;go_wp2;go_loop [6] (fun i=>∃k:Nat,k≤l.length∧i= Aa Ab k∧zeroAt l k=zeroAt l a) (fun i=>l.length-(intOf i).toNat)
 case atStart=>exact⟨a,ha,rfl,rfl⟩
 case round=>
  obtain⟨k,u,rfl,m⟩:=hrel;have j:=Hd m;clear m;by_cases d:k<l.length
  ·obtain⟨b,s,rfl,r,q⟩:=Ep p.o d;by_cases h0:l[k]=0
   ·have f:=Hd (show zeroAt l a=k by rw [←j.o,We d h0]);rw [h0] at q;clear h0;go_wp2
    try rw [Exit.noGoto_ret]
    go_ret2;rw [f.o];exact⟨by simp [d],rfl⟩
   ·have f:=Hd ((Td d h0).trans j.o);have t:(l[k].toNat==0)=false:=by
     rw [beq_eq_false_iff_ne];intro e;exact h0 (UInt8.toNat_inj.1 e)
    clear h0;go_wp2;go_round
    case rel=>exact⟨k+1,by omega,by go_num,f.o⟩
    case measure=>simp [intOf];omega
  ·obtain rfl:l.length=k:=by omega
   have f:=Hd (show zeroAt l a=l.length by rw [←j.o,Wd]);go_wp2
   try rw [Exit.noGoto_ret]
   go_ret2;rw [f.o];exact⟨by simp,rfl⟩
theorem Sr(A B:Option Addr)(n n' c d:Nat)(l m:List UInt8)(w:World)(ha:B4 w A n l)(hb:B4 w B n' m):
  Calls Ad 348 #[.slice A n c,.slice B n' d] w (Ab6 (.bool (U4 l m)) w):=by
 have h1:=Im (c:=c) ha;have h2:=Im (c:=d) hb;have H:=Hd (show(l==m)=U4 l m by unfold U4;rw [Bool.eq_iff_iff];simp);clear ha hb;go_enter func348,ntmps348;go_wp2;go_ret;exact⟨Ck H.o,rfl⟩
theorem zC(l:List UInt8)(c:UInt8): -1≤Lib.indexByte l c:=by
 induction l with
 |nil=>simp [Lib.indexByte]
 |cons b l ih=>
  unfold Lib.indexByte;split
  ·omega
  ·split <;>omega
theorem vR(l:List UInt8)(c:UInt8):decide (Lib.indexByte l c<0)=!(l.contains c):=by
 induction l with
 |nil=>simp [Lib.indexByte]
 |cons b l ih=>
  have g:=zC l c;unfold Lib.indexByte;by_cases a:b=c
  ·subst a;simp
  ·have d:(b==c)=false:=by simpa using a
   have f:(c==b)=false:=by simpa using fun e:c=b=>a e.symm
   rw [d,List.contains_cons,f,Bool.false_or,←ih,if_neg (by simp)];split
   ·rename_i h;simp only [beq_iff_eq] at h;rw [h]
   ·rename_i h;simp only [beq_iff_eq] at h;rw [Bool.eq_iff_iff];simp only [decide_eq_true_eq];omega
theorem lP(A:Option Addr)(n c:Nat)(l:List UInt8)(x:UInt8)(v:Int)(w:World)(h:B4 w A n l)(hn:0<n)(hv:v=(x.toNat:Int)):
  Calls Ad 301 #[.slice A n c,.int .u8 v] w (Ab6 (Aa Ab (Lib.indexByte l x)) w):=by
 subst hv;have a:=h.1;subst a;obtain⟨b,d,rfl,_⟩:=Ep h hn;have j:∀i,i<l.length→w.cell? ⟨b,d+i,none⟩=some (.int .u8 ((l.map fun x:UInt8=>(x.toNat:Int)).getD i 0)):=by
  intro i o;obtain⟨q,m,e,p,j⟩:=Ep h o;injection e with e
  injection e with f g
  subst f g;rw [j];simp [List.getD_eq_getElem?_getD,p]
 have k:=Lib.run_indexByteSlice (P:=Ad) w b d l.length c (l.map fun x:UInt8=>(x.toNat:Int)) (by simp) j (x.toNat:Int);have f:Lib.bytesOf (l.map fun x:UInt8=>(x.toNat:Int))=l:=by
  unfold Lib.bytesOf;rw [List.map_map]
  conv=>rhs;rw [←List.map_id l]
  exact List.map_congr_left (fun x _=>by simp)
 have g:((x.toNat:Int)).toNat.toUInt8=x:=by simp
 rw [f,g] at k;clear j f g h;go_enter func301,ntmps301;go_wp2;rw [run_callFunc_extern func346 (by kernel_rfl) (by kernel_rfl) (by kernel_rfl) (e:=Extern.BytealgIndexByte.indexByte) (by kernel_rfl),k];simp only [Result.andThen];rw [Oper.upon_value];go_wp2;go_ret;exact⟨rfl,rfl⟩
def tc(x:Nat):List Value:=[Aa Ab (x:Int)]
theorem Aa8{l:List Nat}(h:Is tc w A n l)(hk:k<n):∃b off,A=some ⟨b,off,none⟩∧∃hk:k<l.length,w.cell? ⟨b,off+k,none⟩=some (Aa Ab (l[k]:Nat)):=by
 obtain⟨b,off,e,hk',hc⟩:=h.at_ (fun _=>rfl) (sz:=1) (by omega) hk;have:=hc 0 (by omega);rw [Nat.mul_one,Nat.add_zero] at this;exact⟨b,off,e,hk',this⟩
theorem qY(A:Option Addr)(n c:Nat)(ts:List Nat)(w:World)(h:Is tc w A n ts)(hn:n≤100)(ht:∀t∈ts,t<256):
  Calls Ad 302 #[.slice A n c] w (R5 w (ts.map Aq)):=by
 have l:=h.1;subst l;have z:=Hd h;have B:=Hd ht;clear h ht;go_enter func302,ntmps302;go_wp2;go_loopw [2,4,7] (fun o _ i wr=>∃(k:Nat) (A0:Option Addr) (c0:Nat),k≤ts.length∧i= Aa Ab k∧o= .slice A0 k c0∧Gp wr w.heap.size A0 k c0 ((ts.take k).map Aq)∧Below w.heap.size w wr) (fun _ _ i _=>ts.length-(intOf i).toNat)
 case atStart=>exact⟨0,none,0,by omega,rfl,rfl,Own.nil _ _,Af _ _⟩
 case round=>
  obtain⟨k,A0,c0,I,rfl,rfl,x,v⟩:=hrel;have p:=Hd x;have a:=Hd v;clear x v;by_cases u:k<ts.length
  ·obtain⟨b,H,rfl,g,E⟩:=Aa8 (z.o.pure a.o) u;have G:=B.o ts[k] (List.getElem_mem g);have m:(ts.take (k+1)).map Aq=(ts.take k).map Aq++ [Aq ts[k]]:=by
    rw [Az g,List.map_append];rfl
   have e:=Hd m;clear m;generalize ts[k]=t at E G e;have F:IntKind.u8.wrap (t:Int)=((Aq t).toNat:Int):=by
    rw [IntKind.wrap_u8,UInt8.toNat_ofNat'];omega
   go_wp2_with (at_builtin;refine Fl _ rfl (.tmp 11) (.tmp 14) _ rfl 5 _ 1 1 underlying22 Oq rfl (by omega) C0 Q6 _ _ _ _ _ rfl (p.o.pure ((Af _ _).alloc (Ae _) _)) _ _ _ _ rfl (vU _ _ (Aq t) F) (by omega) (by have:=a.o.size;simp;omega) ?_;intro y D J d f s;have r:=Hd d;have q:=Hd f;clear d f s);exact⟨⟨k+1,y,D,by omega,by go_num,rfl,by rw [e.o];exact r.o,Cf (a.o.alloc a.o.size _) q.o (by rintro j ⟨C,h,rfl⟩;exact(p.o.addr C h).2.1)⟩,by simp [intOf];omega⟩
  ·obtain rfl:k=ts.length:=by omega
   go_wp2;go_ret;rw [List.take_length] at p;exact⟨A0,_,c0,rfl,p.o,a.o⟩
def I0(l:List UInt8)(a:Nat):Int:=if zeroAt l a<l.length then 0 else 213
def Fv(l:List UInt8)(a v k:Nat):Int:=
 if a % v≠0 then 212 else if a<v then 211 else if l.length<a+loadU l ((a:Int)-v) v+k then 211
 else if((l.drop (a+loadU l ((a:Int)-v) v)).take k)=An k 0 then 0 else 213
def cntL(l:List UInt8)(a v:Nat):List UInt8:=(l.drop a).take (loadU l ((a:Int)-v) v)
def La(l:List UInt8)(a:Nat):List UInt8:=(l.drop a).take (zeroAt l a-a)
def Qw(w:World)(A0:Option Addr)(n0:Nat)(l:List UInt8)(a:Int)(m:List UInt8)(er:Int)(e:Ending)(w':World):Prop:=
 ∃A n c,e= .returned (.tuple #[.agg #[Aa Ab a,.slice A n c],Aa Ab er])∧(∀w0,B4 w0 A0 n0 l→B4 w0 A n m)∧n≤c∧Below w.heap.size w w'
theorem vW(h:¬zeroAt l a<l.length):I0 l a=213:=if_neg h
theorem rY(h:zeroAt l a<l.length):I0 l a=0:=if_pos h
theorem sA(A:Option Addr)(n c a:Nat)(l:List UInt8)(w:World)(h:B4 w A n l)(hc:n≤c)(ha:a≤n)(hn:n≤9223372036854775807):
  Calls Ad 303 #[.slice A n c,Aa Ab a] w (Qw w A n l (if I0 l a=0 then a else 0) (if I0 l a=0 then La l a else []) (I0 l a)):=by
 have g:=h.1;subst g;have j:=Hd (h.alloc (.cells #[Aa Ab 0,.slice none 0 0] 271));have r:=Hd h;clear h;by_cases k:zeroAt l a<l.length
 ·rw [rY k,if_pos rfl,if_pos rfl];have i:=R4 (l:=l) ha;have m:=i.1;have s:=Hd (show La l a=(l.drop a).take (zeroAt l a-a) from rfl);rw [s.o];obtain⟨z,b⟩:∃z,zeroAt l a=z:=⟨_,rfl⟩;have d:=Hd b;rw [b] at k m⊢;clear i b;by_cases f:z=a
  ·subst f;go_enter func303,ntmps303;go_wp2_with fail;go_at_call 347;refine(Th A _ c z l _ j.o ha hn).mono ?_;rw [d.o];rintro e q ⟨rfl,rfl⟩;go_wp2;refine bodyPost_ret (v:= .tuple #[.agg #[Aa Ab z,.slice A 0 0],Aa Ab 0]) (by simp [results,results303,go_sem]) rfl ⟨A,0,0,rfl,?_,Ae _,?_⟩
   ·rw [Nat.sub_self,List.take_zero];exact fun _ _=>Is.nil _ _
   ·exact(Af _ _).alloc (Ae _) _
  ·have t:a<z:=by omega
   have u:¬z=a:=f;go_enter func303,ntmps303;go_wp2_with fail;go_at_call 347;refine(Th A _ c a l _ j.o ha hn).mono ?_;rw [d.o];rintro e q ⟨rfl,rfl⟩;go_wp2;refine bodyPost_ret (v:= .tuple #[.agg #[Aa Ab a,.slice (A.map fun p=>p.add a) (z-a) (z-a)],Aa Ab 0]) (by simp [results,results303,go_sem]) rfl ⟨_,_,_,rfl,?_,Ae _,?_⟩
   ·exact fun _ h=>M3 h (by omega)
   ·exact(Af _ _).alloc (Ae _) _
 ·rw [vW k,if_neg (by decide),if_neg (by decide)];go_enter func303,ntmps303;go_wp2_with fail;go_at_call 347;refine(Th A _ c a l _ j.o ha hn).mono ?_;rintro e q ⟨rfl,rfl⟩;go_wp2;refine bodyPost_ret (v:= .tuple #[.agg #[Aa Ab 0,.slice none 0 0],Aa Ab 213]) (by simp [results,results303,go_sem]) rfl ⟨none,0,0,rfl,fun _ _=>Is.nil _ _,Ae _,?_⟩;exact(Af _ _).alloc (Ae _) _
theorem cut_run(A:Option Addr)(n c M:Nat)(h:M≤c)(w:World):(Instr.sliceAt 22 (.slice A n c) none (some (Aa Ab M)) none).run Ad w= .ok (.slice A M c) w:=by
 have ht:Ad.underlying 22=some (.slice (Ad.elem 22)):=by kernel_rfl
 have a:(sizeOf (Ad.elem 22)).run Ad w= .ok 1 w:=by kernel_rfl
 rw [run_sliceAt_slice (h:=ht),run_slice_h (ht:=ht) (h0:=by omega) (h2:=by omega),a];simp [Result.andThen,sliced];intro _;cases A <;>simp [Addr.add]
theorem mF(A:Option Addr)(n c B:Nat)(b:Int)(hb:b=B)(hc:n≤c):∃M:Nat,M≤n∧M≤B∧(if b<(n:Int) then b else(n:Int))=(M:Int)∧
  ∀w,(Instr.sliceAt 22 (.slice A n c) none (some (Aa Ab M)) none).run Ad w= .ok (.slice A M c) w:=by
 subst hb;by_cases h:n≤B
 ·exact⟨n,Ae _,h,if_neg (by omega),fun w=>cut_run A n c n hc w⟩
 ·exact⟨B,by omega,Ae _,if_pos (by omega),fun w=>cut_run A n c B (by omega) w⟩
theorem fM(A:Option Addr)(n c lo hi:Nat)(h1:lo≤hi)(h2:hi≤n)(hc:n≤c):∃X,(∀w,(Instr.sliceAt 22 (.slice A n c) (some (Aa Ab lo)) (some (Aa Ab hi)) none).run Ad w= .ok (.slice X (hi-lo) (c-lo)) w)∧
  ∀w l,B4 w A n l→B4 w X (hi-lo) ((l.drop lo).take (hi-lo)):=by
 refine⟨if c=lo then A else A.map (·.add lo),fun w=>?_,fun w l h=>?_⟩
 ·have ht:Ad.underlying 22=some (.slice (Ad.elem 22)):=by kernel_rfl
  have a:(sizeOf (Ad.elem 22)).run Ad w= .ok 1 w:=by kernel_rfl
  rw [run_sliceAt_slice (h:=ht),run_slice_lh (ht:=ht) (h0:=by omega) (h1:=by omega) (h2:=by omega),a];simp [Result.andThen,sliced]
 ·split
  ·have e:hi-lo=0:=by omega
   rw [e,List.take_zero];exact Is.nil _ _
  ·exact M3 h (by omega)
theorem Z2(A:Option Addr)(n c lo hi:Nat)(h1:lo≤hi)(h2:hi≤n)(hc:n≤c):∃X,(∀w,(Instr.sliceAt 22 (.slice A n c) (some (Aa Ab lo)) (some (Aa Ab hi)) (some (Aa Ab hi))).run Ad w= .ok (.slice X (hi-lo) (hi-lo)) w)∧
  ∀w l,B4 w A n l→B4 w X (hi-lo) ((l.drop lo).take (hi-lo)):=by
 refine⟨if hi=lo then A else A.map (·.add lo),fun w=>?_,fun w l h=>?_⟩
 ·have ht:Ad.underlying 22=some (.slice (Ad.elem 22)):=by kernel_rfl
  have a:(sizeOf (Ad.elem 22)).run Ad w= .ok 1 w:=by kernel_rfl
  rw [run_sliceAt_slice (h:=ht),run_slice_lhm (ht:=ht) (h0:=by omega) (h1:=by omega) (h2:=by omega) (h3:=by omega),a];simp [Result.andThen,sliced]
 ·split
  ·have e:hi-lo=0:=by omega
   rw [e,List.take_zero];exact Is.nil _ _
  ·exact M3 h (by omega)
theorem fV{α:Type}{f:α→List Value}{l:List α}(h:Is f w A n l):Is f w.drew A n l:=h
theorem Q8(l:List UInt8)(a v k u:Nat)(hu:loadU l ((a:Int)-v) v=u):
  (a % v≠0∧Fv l a v k=212)∨(a % v=0∧a<v∧Fv l a v k=211)∨(a % v=0∧v≤a∧l.length<a+u+k∧Fv l a v k=211)∨
  (a % v=0∧v≤a∧a+u+k≤l.length∧(l.drop (a+u)).take k=An k 0∧Fv l a v k=0)∨(a % v=0∧v≤a∧a+u+k≤l.length∧¬(l.drop (a+u)).take k=An k 0∧Fv l a v k=213):=by
 unfold Fv;rw [hu];by_cases h1:a % v=0
 ·rw [if_neg (by simpa using h1)];by_cases h2:a<v
  ·rw [if_pos h2];exact .inr (.inl ⟨h1,h2,rfl⟩)
  ·rw [if_neg h2];by_cases h3:l.length<a+u+k
   ·rw [if_pos h3];exact .inr (.inr (.inl ⟨h1,by omega,h3,rfl⟩))
   ·rw [if_neg h3];by_cases b:(l.drop (a+u)).take k=An k 0
    ·rw [if_pos b];exact .inr (.inr (.inr (.inl ⟨h1,by omega,by omega,b,rfl⟩)))
    ·rw [if_neg b];exact .inr (.inr (.inr (.inr ⟨h1,by omega,by omega,b,rfl⟩)))
 ·rw [if_pos h1];exact .inl ⟨h1,rfl⟩
theorem Z1(A:Option Addr)(n c a v k:Nat)(l:List UInt8)(w:World)(h:B4 w A n l)(hc:n≤c)(ha:a≤n)(hn:n≤1099511627776)(hv:Br (v:Int)=true)(hk:k≤1):
  Calls Ad 304 #[.slice A n c,Aa Ab a,Aa Ab v,Aa Ab k] w (Qw w A n l (if Fv l a v k=0 then a else 0) (if Fv l a v k=0 then cntL l a v else []) (Fv l a v k)):=by
 have aa:=h.1;subst aa;have x:=Hd (h.alloc (.cells #[Aa Ab 0,.slice none 0 0] 271));have g:=Hd ((Af w.heap.size w).alloc (Ae _) (.cells #[Aa Ab 0,.slice none 0 0] 271));have m:=Hd (Bb.new w 271 #[Aa Ab 0,.slice none 0 0]);clear h;obtain⟨u,hu⟩:∃u,loadU l ((a:Int)-v) v=u:=⟨_,rfl⟩;have HU:=Hd hu;have M:1≤v∧v≤8:=by have:=B6.1 hv;omega
 have a3:=M.1;have a4:=M.2;have aq:=Q8 l a v k u hu;clear hu M;have a5:(v==0)=false:=beq_eq_false_iff_ne.mpr (by omega);rcases aq with⟨h1,t⟩|⟨h1,h2,t⟩|⟨h1,h2,h3,t⟩|⟨h1,h2,h3,W,t⟩|⟨h1,h2,h3,W,t⟩
 ·rw [t,if_neg (by decide),if_neg (by decide)];have hm:((a:Int) % (v:Int) != 0)=true:=by simp;omega
  clear t h1;go_enter func304,ntmps304;go_wp2;refine bodyPost_ret (v:= .tuple #[.agg #[Aa Ab 0,.slice none 0 0],Aa Ab 212]) (by simp [results,results304,go_sem]) rfl ⟨none,0,0,rfl,fun _ _=>Is.nil _ _,Ae _,g.o⟩
 ·rw [t,if_neg (by decide),if_neg (by decide)];have hm:((a:Int) % (v:Int) != 0)=false:=by simp;omega
  clear t h1;go_enter func304,ntmps304;go_wp2;refine bodyPost_ret (v:= .tuple #[.agg #[Aa Ab 0,.slice none 0 0],Aa Ab 211]) (by simp [results,results304,go_sem]) rfl ⟨none,0,0,rfl,fun _ _=>Is.nil _ _,Ae _,g.o⟩
 ·rw [t,if_neg (by decide),if_neg (by decide)];clear t;have hm:((a:Int) % (v:Int) != 0)=false:=by simp;omega
  have hx:decide ((a:Int)<(v:Int))=false:=by simp;omega
  clear h1;go_enter func304,ntmps304;go_wp2_with fail;go_at_call 149;refine(Ka A _ c ((a:Int)-v) v l _ x.o hc (by omega)).mono ?_;rw [HU.o];obtain⟨er,d⟩:∃er,Bz l.length ((a:Int)-v) v=er:=⟨_,rfl⟩;rw [d];rintro e Q ⟨rfl,s⟩;have g:=Hd (A6 g.o s);have x:=Hd (x.o.pure s);have m:=Hd (m.o.pure s);obtain ⟨q,r⟩:=m.o.c2;obtain ⟨f0,f1⟩:=m.o.f2;have f:l.length≤9223372036854775807:=by omega
  have y:=Hd (Ce (l.length:Int) (by omega));clear s d;by_cases ab:l.length<u
  ·have P:=y.o;have hd:decide ((l.length:Int)<(u:Int))=true:=by simpa using ab
   go_wp2;refine bodyPost_ret (v:= .tuple #[.agg #[Aa Ab 0,.slice none 0 0],Aa Ab 211]) (by simp [results,results304,go_sem,q,r]) rfl ⟨none,0,0,rfl,fun _ _=>Is.nil _ _,Ae _,((g.o.setCell (Ae _) _).setCell (Ae _) _)⟩
  ·have hd:decide ((l.length:Int)<(u:Int))=false:=by simpa using ab
   have U:=Hd (C8 (u:Int) (by omega));have V:=Hd (C8 ((u:Int)+k) (by omega));have z:=Hd (show Gz l.length a ((u:Int)+k)=false from decide_eq_false (by omega));have ad:=U.o;have F:=V.o;have P:=y.o;go_wp2_with fail;go_at_call 246;refine(Hj A _ c a ((u:Int)+k) _ f).mono ?_;rw [z.o];rintro e w2 ⟨rfl,rfl⟩;go_wp2;refine bodyPost_ret (v:= .tuple #[.agg #[Aa Ab 0,.slice none 0 0],Aa Ab 211]) (by simp [results,results304,go_sem,q,r]) rfl ⟨none,0,0,rfl,fun _ _=>Is.nil _ _,Ae _,((g.o.setCell (Ae _) _).setCell (Ae _) _)⟩
 ·rw [t,if_pos rfl,if_pos rfl];clear t;have R:=Hd (show U4 ((l.drop (a+u)).take k) (An k 0)=true from decide_eq_true W);clear W;have hm:((a:Int) % (v:Int) != 0)=false:=by simp;omega
  have hx:decide ((a:Int)<(v:Int))=false:=by simp;omega
  clear h1;go_enter func304,ntmps304;go_wp2_with fail;go_at_call 149;refine(Ka A _ c ((a:Int)-v) v l _ x.o hc (by omega)).mono ?_;rw [HU.o];obtain⟨er,d⟩:∃er,Bz l.length ((a:Int)-v) v=er:=⟨_,rfl⟩;rw [d];rintro e Q ⟨rfl,s⟩;have g:=Hd (A6 g.o s);have x:=Hd (x.o.pure s);have m:=Hd (m.o.pure s);obtain ⟨q,r⟩:=m.o.c2;obtain ⟨f0,f1⟩:=m.o.f2;have f:l.length≤9223372036854775807:=by omega
  have y:=Hd (Ce (l.length:Int) (by omega));clear s d;have hd:decide (l.length<u)=false:=decide_eq_false (by omega);have au:u≤l.length:=by omega
  obtain⟨T,K⟩:∃T,T=a+u:=⟨_,rfl⟩;obtain⟨T2,B⟩:∃T2,T2=T+k:=⟨_,rfl⟩;obtain⟨Z,L,E,av⟩:=bF k (by omega);obtain⟨X,C,i⟩:=fM A l.length c T T2 (by omega) (by omega) hc;obtain⟨Y,D,j⟩:=Z2 A l.length c a T (by omega) (by omega) hc;have z:=Hd (show Gz l.length a ((u:Int)+k)=true from Em.2 ⟨by omega,by omega,by omega⟩);have U:=Hd (C8 (u:Int) (by omega));have V:=Hd (C8 ((u:Int)+k) (by omega));have W4:=Hd ((C8 ((a:Int)+u) (by omega)).trans (show(a:Int)+u=(T:Int) by omega));have W5:=Hd ((Ag ((T:Int)+(k:Int)) (by omega)).trans (show(T:Int)+k=(T2:Int) by omega));have W6:=Hd ((C8 ((T:Int)+(k:Int)) (by omega)).trans (show(T:Int)+k=(T2:Int) by omega));have s0:(0:Int)≤T:=by omega
  have s1:(T:Int)≤T2:=by omega
  have s2:(T2:Int)≤c:=by omega
  have s3:(0:Int)≤k:=by omega
  rw [show T2-T=k by omega] at C i;rw [show T-a=u by omega] at D j;have I:=Hd i;have S:=Hd j;have J:=Hd E;have G:=Hd (show(a:Int)+u=(T:Int) by omega);have HT:=Hd K;rw [←K] at R;have ak:=Hd B;clear i j L E K B h3;have ad:=U.o;have F:=V.o;have P:=y.o;go_wp2_with fail;go_at_call 246;refine(Hj A _ c a ((u:Int)+k) _ f).mono ?_;rw [z.o];rintro e w2 ⟨rfl,rfl⟩;clear F;have ax:=W4.o;have N:=W5.o;have O:=W6.o;go_wp2_with fail;rw [←G.o] at C D N O;have H:=Hd (fV x.o);go_region_held3 (fun w'=>w'.cell? ⟨w.heap.size,0,none⟩=some (Aa Ab 0)∧w'.cell? ⟨w.heap.size,1,none⟩=some (.slice none 0 0)) (first|assumption|exact⟨q,r⟩|exact⟨Ba ((Af _ _).alloc (Ae _) _).drew q,Ba ((Af _ _).alloc (Ae _) _).drew r⟩|exact⟨Ba ((Af _ _).alloc (Ae _) _) q,Ba ((Af _ _).alloc (Ae _) _) r⟩)
   (first|(go_at_call 348;refine(Sr X _ k k _ _ ((l.drop T).take k) (An k 0) _ (I.o _ _ (H.o.alloc _)) (fW _ Z (An k 0) k (by simp) J.o)).mono ?_;rw [R.o];rintro e w5 ⟨rfl,rfl⟩))
  have b:=(Af Q.heap.size Q).alloc (Ae _) (.cells Z 5);have d0:=Ba b (p:=⟨w.heap.size,0,none⟩) (u:= Aa Ab 0) q;have d1:=Ba b (p:=⟨w.heap.size,1,none⟩) (u:= .slice none 0 0) r;have HF:=Hd (m.o.pure b);obtain ⟨g0,g1⟩:=HF.o.f2;have g:=Hd (A6 g.o b.drew);have aj:=Hd (x.o.pure b.drew);clear b q r f0 f1;go_wp2;refine bodyPost_ret (v:= .tuple #[.agg #[Aa Ab a,.slice Y u u],Aa Ab 0]) (by simp [results,results304,go_sem,d0,d1]) rfl ⟨Y,u,u,rfl,?_,Ae _,(g.o.setCell (Ae _) _).setCell (Ae _) _⟩;unfold cntL;rw [HU.o];exact fun _ h=>S.o _ _ h
 ·rw [t,if_neg (by decide),if_neg (by decide)];clear t;have R:=Hd (show U4 ((l.drop (a+u)).take k) (An k 0)=false from decide_eq_false W);clear W;have hm:((a:Int) % (v:Int) != 0)=false:=by simp;omega
  have hx:decide ((a:Int)<(v:Int))=false:=by simp;omega
  clear h1;go_enter func304,ntmps304;go_wp2_with fail;go_at_call 149;refine(Ka A _ c ((a:Int)-v) v l _ x.o hc (by omega)).mono ?_;rw [HU.o];obtain⟨er,d⟩:∃er,Bz l.length ((a:Int)-v) v=er:=⟨_,rfl⟩;rw [d];rintro e Q ⟨rfl,s⟩;have g:=Hd (A6 g.o s);have x:=Hd (x.o.pure s);have m:=Hd (m.o.pure s);obtain ⟨q,r⟩:=m.o.c2;obtain ⟨f0,f1⟩:=m.o.f2;have f:l.length≤9223372036854775807:=by omega
  have y:=Hd (Ce (l.length:Int) (by omega));clear s d;have hd:decide (l.length<u)=false:=decide_eq_false (by omega);have au:u≤l.length:=by omega
  obtain⟨T,K⟩:∃T,T=a+u:=⟨_,rfl⟩;obtain⟨T2,B⟩:∃T2,T2=T+k:=⟨_,rfl⟩;obtain⟨Z,L,E,av⟩:=bF k (by omega);obtain⟨X,C,i⟩:=fM A l.length c T T2 (by omega) (by omega) hc;obtain⟨Y,D,j⟩:=Z2 A l.length c a T (by omega) (by omega) hc;have z:=Hd (show Gz l.length a ((u:Int)+k)=true from Em.2 ⟨by omega,by omega,by omega⟩);have U:=Hd (C8 (u:Int) (by omega));have V:=Hd (C8 ((u:Int)+k) (by omega));have W4:=Hd ((C8 ((a:Int)+u) (by omega)).trans (show(a:Int)+u=(T:Int) by omega));have W5:=Hd ((Ag ((T:Int)+(k:Int)) (by omega)).trans (show(T:Int)+k=(T2:Int) by omega));have W6:=Hd ((C8 ((T:Int)+(k:Int)) (by omega)).trans (show(T:Int)+k=(T2:Int) by omega));have s0:(0:Int)≤T:=by omega
  have s1:(T:Int)≤T2:=by omega
  have s2:(T2:Int)≤c:=by omega
  have s3:(0:Int)≤k:=by omega
  rw [show T2-T=k by omega] at C i;rw [show T-a=u by omega] at D j;have I:=Hd i;have S:=Hd j;have J:=Hd E;have G:=Hd (show(a:Int)+u=(T:Int) by omega);have HT:=Hd K;rw [←K] at R;have ak:=Hd B;clear i j L E K B h3;have ad:=U.o;have F:=V.o;have P:=y.o;go_wp2_with fail;go_at_call 246;refine(Hj A _ c a ((u:Int)+k) _ f).mono ?_;rw [z.o];rintro e w2 ⟨rfl,rfl⟩;clear F;have ax:=W4.o;have N:=W5.o;have O:=W6.o;go_wp2_with fail;rw [←G.o] at C D N O;have H:=Hd (fV x.o);go_region_held3 (fun w'=>w'.cell? ⟨w.heap.size,0,none⟩=some (Aa Ab 0)∧w'.cell? ⟨w.heap.size,1,none⟩=some (.slice none 0 0)) (first|assumption|exact⟨q,r⟩|exact⟨Ba ((Af _ _).alloc (Ae _) _).drew q,Ba ((Af _ _).alloc (Ae _) _).drew r⟩|exact⟨Ba ((Af _ _).alloc (Ae _) _) q,Ba ((Af _ _).alloc (Ae _) _) r⟩)
   (first|(go_at_call 348;refine(Sr X _ k k _ _ ((l.drop T).take k) (An k 0) _ (I.o _ _ (H.o.alloc _)) (fW _ Z (An k 0) k (by simp) J.o)).mono ?_;rw [R.o];rintro e w5 ⟨rfl,rfl⟩))
  have b:=(Af Q.heap.size Q).alloc (Ae _) (.cells Z 5);have d0:=Ba b (p:=⟨w.heap.size,0,none⟩) (u:= Aa Ab 0) q;have d1:=Ba b (p:=⟨w.heap.size,1,none⟩) (u:= .slice none 0 0) r;have HF:=Hd (m.o.pure b);obtain ⟨g0,g1⟩:=HF.o.f2;have g:=Hd (A6 g.o b.drew);have aj:=Hd (x.o.pure b.drew);clear b q r f0 f1;go_wp2;refine bodyPost_ret (v:= .tuple #[.agg #[Aa Ab 0,.slice none 0 0],Aa Ab 213]) (by simp [results,results304,go_sem,d0,d1]) rfl ⟨none,0,0,rfl,fun _ _=>Is.nil _ _,Ae _,(g.o.setCell (Ae _) _).setCell (Ae _) _⟩
def Kr(ts:List Nat)(t:Int):Bool:=ts.contains t.toNat
def C4(l:List UInt8)(p q t v:Int)(ts:List Nat):Int:=
 if Cc l.length p q t v≠0 then Cc l.length p q t v
 else if Kr ts t=false then 60
 else if B8 l p q t v≠0 then B8 l p q t v
 else if t=4 then I0 l (By l p q t v).toNat
 else Fv l (By l p q t v).toNat v.toNat (if t=5 then 1 else 0)
def C6(l:List UInt8)(p q t v:Int)(ts:List Nat):Int:=if C4 l p q t v ts=0 then By l p q t v else 0
def Eo(l:List UInt8)(p q t v:Int)(ts:List Nat):List UInt8:=
 if C4 l p q t v ts=0 then(if t=4 then La l (By l p q t v).toNat else cntL l (By l p q t v).toNat v.toNat) else []
theorem rX(hts:∀x∈ts,x<256)(h0:0≤t)(h1:t<37):(ts.map Aq).contains (Aq t.toNat)=Kr ts t:=by
 unfold Kr
 induction ts with
 |nil=>simp
 |cons x ts ih=>
  rw [List.map_cons,List.contains_cons,List.contains_cons,ih (fun y hy=>hts y (List.mem_cons_of_mem _ hy))]
  congr 1
  have a:=hts x (List.mem_cons_self ..);rw [Bool.eq_iff_iff];simp only [beq_iff_eq];constructor
  ·intro e;have:=congrArg UInt8.toNat e;rw [UInt8.toNat_ofNat',UInt8.toNat_ofNat'] at this;omega
  ·intro e;rw [e]
theorem Ke(h:B8 l p q t v=0):0≤By l p q t v∧By l p q t v≤l.length:=by
 have a:Cc l.length p q t v=0:=by
  by_cases e:Cc l.length p q t v=0
  ·exact e
  ·rw [Ld e] at h;exact absurd h e
 obtain⟨_,h2⟩:=Dy.1 a;obtain⟨h1,_⟩:=Dy.1 a;have h2:=Em.1 h2;have h1:=Cz.1 h1;have c:=B6.1 h1.2.1;unfold B8 at h;rw [if_pos a] at h;unfold By;have b:B8 l p q t v=0:=by unfold B8;rw [if_pos a];exact h
 rw [if_pos b];split at h
 ·cases h
 ·split at h
  ·cases h
  ·omega
theorem Tm{w':World}{er:Int}(h:C4 l p q t v ts=er)(hne:er≠0)(hb:Below w.heap.size w w'):Qw w A n l (C6 l p q t v ts) (Eo l p q t v ts) (C4 l p q t v ts) (.returned (.tuple #[.agg #[Aa Ab 0,.slice none 0 0],Aa Ab er])) w':=by
 unfold C6 Eo;rw [h,if_neg hne,if_neg hne];exact⟨none,0,0,rfl,fun _ _=>Is.nil _ _,Ae _,hb⟩
theorem Qq(A:Option Addr)(n c a V K:Nat)(v k:Int)(l:List UInt8)(w:World)(h:B4 w A n l)(hc:n≤c)(ha:a≤n)(hn:n≤1099511627776)(hv:Br (V:Int)=true)(hk:K≤1)(hv2:v=V)(hk2:k=K):
  Calls Ad 304 #[.slice A n c,Aa Ab a,Aa Ab v,Aa Ab k] w (Qw w A n l (if Fv l a V K=0 then a else 0) (if Fv l a V K=0 then cntL l a V else []) (Fv l a V K)):=by
 subst hv2 hk2;exact Z1 A n c a V K l w h hc ha hn hv hk
theorem mW(A:Option Addr)(n c:Nat)(p q t v:Int)(T:Option Addr)(m d:Nat)(ts:List Nat)(l:List UInt8)(w:World)(h:B4 w A n l)(hT:Is tc w T m ts)(hc:n≤c)(hn:n≤1099511627776)(hm:0<m∧m≤100)(hts:∀x∈ts,x<256):
  Calls Ad 249 #[.slice A n c,.agg #[Aa Ab p,Aa Ab q,Aa Ab t,Aa Ab v],.slice T m d] w (Qw w A n l (C6 l p q t v ts) (Eo l p q t v ts) (C4 l p q t v ts)):=by
 have au:=h.1;subst au;have B:=Hd ((h.alloc (.cells #[Aa Ab p,Aa Ab q,Aa Ab t,Aa Ab v] 70)).alloc (.cells #[Aa Ab 0,.slice none 0 0] 271));have i:=Hd ((hT.alloc (.cells #[Aa Ab p,Aa Ab q,Aa Ab t,Aa Ab v] 70)).alloc (.cells #[Aa Ab 0,.slice none 0 0] 271));have y:=Hd ((Bb.new w 70 #[Aa Ab p,Aa Ab q,Aa Ab t,Aa Ab v]).alloc (.cells #[Aa Ab 0,.slice none 0 0] 271));have j:=Hd (Bb.new_ (w:=w.alloc (.cells #[Aa Ab p,Aa Ab q,Aa Ab t,Aa Ab v] 70)) (g:=w.heap.size+1) (by simp) 271 #[Aa Ab 0,.slice none 0 0]);have z:=Hd (((Af w.heap.size w).alloc (Ae _) (.cells #[Aa Ab p,Aa Ab q,Aa Ab t,Aa Ab v] 70)).alloc (by simp) (.cells #[Aa Ab 0,.slice none 0 0] 271));have am:=Hd hts;have Q:l.length≤9223372036854775807:=by omega
 have bf:=hm.1;have a1:=hm.2;have ba:=Hd h;clear h hT hts hm;go_enter func249,ntmps249;go_wp2_with fail;go_at_call 148;refine(M9 A _ c p q t v _ Q).mono ?_;rintro e w1 ⟨rfl,b⟩;by_cases f:Cc l.length p q t v=0
 ·rw [f];have z:=Hd (A6 z.o b);have y:=Hd (y.o.pure b);have B:=Hd (B.o.pure b);have i:=Hd (i.o.pure b);have j:=Hd (j.o.pure b);obtain ⟨I,J,F,K⟩:=y.o.c4;obtain ⟨L,M⟩:=j.o.f2;obtain ⟨C,D⟩:=j.o.c2;clear b;have R:=Ez.1 (Hv (Cz.1 (Dy.1 f).1).1);have a3:=R.1;have a4:=R.2;have al:=Hd ((vR (ts.map Aq) (Aq t.toNat)).trans (by rw [rX am.o a3 a4]));have aw:IntKind.u8.wrap t=((Aq t.toNat).toNat:Int):=by
   rw [IntKind.wrap_u8,UInt8.toNat_ofNat'];omega
  have ao:=Hd aw;clear R aw;go_wp2_with fail;have H:Hid (Is tc w1.drew T m ts):=Hd (show Is tc w1 T m ts from i.o);go_region_held3 (fun w'=>w'.cell? ⟨w.heap.size,2,none⟩=some (Aa Ab t)) (first|assumption|exact Ba ad.o F)
   (first
   |(go_at_call 302;refine(qY T m d ts _ H.o a1 am.o).mono ?_;rintro e w5 ⟨AX,nX,cX,rfl,aq,ar⟩;have af:=Hd aq;have ad:=Hd ar;clear aq ar)
   |(go_at_call 301;refine(lP AX nX cX _ (Aq t.toNat) _ _ af.o.is (by have h1:=af.o.1;have h2:=H.o.1;rw [List.length_map] at h1;omega) ao.o).mono ?_;rintro e w6 ⟨rfl,rfl⟩))
  have b:=A6 (Af w1.heap.size w1).drew ad.o;rw [al.o];clear I J F K L M C D;have z:=Hd (A6 z.o b);have y:=Hd (y.o.pure b);have B:=Hd (B.o.pure b);have i:=Hd (i.o.pure b);have j:=Hd (j.o.pure b);obtain ⟨I,J,F,K⟩:=y.o.c4;obtain ⟨L,M⟩:=j.o.f2;obtain ⟨C,D⟩:=j.o.c2;clear b;clear af ad H ao al;cases hin:Kr ts t with
  |false=>
   have HE:=Hd (show C4 l p q t v ts=60 by unfold C4;rw [if_neg (by simpa using f),if_pos hin]);clear hin f;go_wp2;refine bodyPost_ret (v:= .tuple #[.agg #[Aa Ab 0,.slice none 0 0],Aa Ab (60)]) (by simp [results,results249,go_sem,C,D]) rfl ?_;exact Tm HE.o (by decide) ((z.o.setCell (Aj _) _).setCell (Aj _) _)
  |true=>
   have S:=Hd (show C4 l p q t v ts=if B8 l p q t v≠0 then B8 l p q t v else if t=4 then I0 l (By l p q t v).toNat else Fv l (By l p q t v).toNat v.toNat (if t=5 then 1 else 0) by unfold C4;rw [if_neg (by simpa using f),if_neg (by simp [hin])]);clear hin;have ah:=(Cz.1 (Dy.1 f).1).2.2;obtain⟨V,hV⟩:∃V:Nat,v=V:=⟨v.toNat,by have:=B6.1 ah;omega⟩;have HV:=Hd (show Br (V:Int)=true by rw [←hV];exact ah);have an:=Hd hV;have av:v.toNat=V:=by omega
   rw [av] at S;clear f ah hV;go_wp2_with fail;go_at_call 79;refine(Lm A _ c p q t v l _ B.o hc Q).mono ?_;rintro e w2 ⟨rfl,b⟩;clear I J F K L M C D;have z:=Hd (A6 z.o b);have y:=Hd (y.o.pure b);have B:=Hd (B.o.pure b);have i:=Hd (i.o.pure b);have j:=Hd (j.o.pure b);obtain ⟨I,J,F,K⟩:=y.o.c4;obtain ⟨L,M⟩:=j.o.f2;obtain ⟨C,D⟩:=j.o.c2;clear b;by_cases E:B8 l p q t v=0
   ·rw [E];have U:=Hd (show C4 l p q t v ts=if t=4 then I0 l (By l p q t v).toNat else Fv l (By l p q t v).toNat V (if t=5 then 1 else 0) by rw [S.o,if_neg (by simpa using E)]);have hr:=Ke E;have HG:=Hd (show ∀er:Int,C4 l p q t v ts=er→C6 l p q t v ts=(if er=0 then By l p q t v else 0)∧Eo l p q t v ts=(if er=0 then(if t=4 then La l (By l p q t v).toNat else cntL l (By l p q t v).toNat V) else []) from fun er h=>⟨by unfold C6;rw [h],by unfold Eo;rw [h,av]⟩);obtain⟨a,ha⟩:∃a:Nat,By l p q t v=a:=⟨(By l p q t v).toNat,by omega⟩;rw [ha] at HG U hr⊢;have ag:a≤l.length:=by omega
    clear E hr S ha;by_cases N:t=4
    ·have u:=Hd (U.o.trans (if_pos N));have e4:(t==4)=true:=beq_iff_eq.2 N;have H4:=Hd N;clear N;go_wp2_with fail;obtain⟨Z,k⟩:∃x,(if I0 l a=0 then(a:Int) else 0)=x:=⟨_,rfl⟩;obtain⟨kl,s⟩:∃x,(if I0 l a=0 then La l a else [])=x:=⟨_,rfl⟩;obtain⟨ke,r⟩:∃x,I0 l a=x:=⟨_,rfl⟩;have G:=Hd (show C6 l p q t v ts=Z∧Eo l p q t v ts=kl∧C4 l p q t v ts=ke from by
      have P:=HG.o _ u.o;rw [Ao,if_pos H4.o] at P;exact⟨P.1.trans k,P.2.trans s,u.o.trans r⟩)
     go_at_call 303;refine(sA A _ c a l _ B.o hc ag Q).mono ?_;rw [k,s,r];clear k s r;rintro e w3 ⟨W,nY,X,rfl,Y,O,b⟩;clear I J F K L M C D;have z:=Hd (A6 z.o b);have y:=Hd (y.o.pure b);have B:=Hd (B.o.pure b);have i:=Hd (i.o.pure b);have j:=Hd (j.o.pure b);obtain ⟨I,J,F,K⟩:=y.o.c4;obtain ⟨L,M⟩:=j.o.f2;obtain ⟨C,D⟩:=j.o.c2;clear b;have HY:=Hd Y;clear Y;go_wp2;refine bodyPost_ret (v:= .tuple #[.agg #[Aa Ab Z,.slice W nY X],Aa Ab ke]) (by simp [results,results249,go_sem,C,D]) rfl ?_;rw [G.o.1,G.o.2.1,G.o.2.2];exact⟨W,nY,X,rfl,HY.o,O,(z.o.setCell (Aj _) _).setCell (Aj _) _⟩
    ·have e4:(t==4)=false:=beq_eq_false_iff_ne.2 N;by_cases h5:t=5
     ·have u:=Hd ((U.o.trans (if_neg N)).trans (by rw [if_pos h5]));have e5:(t==5)=true:=beq_iff_eq.2 h5;have H4:=Hd N;clear N h5;go_wp2_with fail;obtain⟨Z,k⟩:∃x,(if Fv l a V 1=0 then(a:Int) else 0)=x:=⟨_,rfl⟩;obtain⟨kl,s⟩:∃x,(if Fv l a V 1=0 then cntL l a V else [])=x:=⟨_,rfl⟩;obtain⟨ke,r⟩:∃x,Fv l a V 1=x:=⟨_,rfl⟩;have G:=Hd (show C6 l p q t v ts=Z∧Eo l p q t v ts=kl∧C4 l p q t v ts=ke from by
       have P:=HG.o _ u.o;rw [Ao,if_neg H4.o] at P;rw [Ao] at u;exact⟨P.1.trans k,P.2.trans s,u.o.trans r⟩)
      go_at_call 304;refine(Qq A _ c a V 1 v 1 l _ B.o hc ag hn HV.o (by omega) an.o rfl).mono ?_;rw [k,s,r];clear k s r;rintro e w3 ⟨W,nY,X,rfl,Y,O,b⟩;clear I J F K L M C D;have z:=Hd (A6 z.o b);have y:=Hd (y.o.pure b);have B:=Hd (B.o.pure b);have i:=Hd (i.o.pure b);have j:=Hd (j.o.pure b);obtain ⟨I,J,F,K⟩:=y.o.c4;obtain ⟨L,M⟩:=j.o.f2;obtain ⟨C,D⟩:=j.o.c2;clear b;have HY:=Hd Y;clear Y;go_wp2;refine bodyPost_ret (v:= .tuple #[.agg #[Aa Ab Z,.slice W nY X],Aa Ab ke]) (by simp [results,results249,go_sem,C,D]) rfl ?_;rw [G.o.1,G.o.2.1,G.o.2.2];exact⟨W,nY,X,rfl,HY.o,O,(z.o.setCell (Aj _) _).setCell (Aj _) _⟩
     ·have u:=Hd ((U.o.trans (if_neg N)).trans (by rw [if_neg h5]));have e5:(t==5)=false:=beq_eq_false_iff_ne.2 h5;have H4:=Hd N;clear N h5;go_wp2_with fail;obtain⟨Z,k⟩:∃x,(if Fv l a V 0=0 then(a:Int) else 0)=x:=⟨_,rfl⟩;obtain⟨kl,s⟩:∃x,(if Fv l a V 0=0 then cntL l a V else [])=x:=⟨_,rfl⟩;obtain⟨ke,r⟩:∃x,Fv l a V 0=x:=⟨_,rfl⟩;have G:=Hd (show C6 l p q t v ts=Z∧Eo l p q t v ts=kl∧C4 l p q t v ts=ke from by
       have P:=HG.o _ u.o;rw [Ao,if_neg H4.o] at P;rw [Ao] at u;exact⟨P.1.trans k,P.2.trans s,u.o.trans r⟩)
      go_at_call 304;refine(Qq A _ c a V 0 v 0 l _ B.o hc ag hn HV.o (by omega) an.o rfl).mono ?_;rw [k,s,r];clear k s r;rintro e w3 ⟨W,nY,X,rfl,Y,O,b⟩;clear I J F K L M C D;have z:=Hd (A6 z.o b);have y:=Hd (y.o.pure b);have B:=Hd (B.o.pure b);have i:=Hd (i.o.pure b);have j:=Hd (j.o.pure b);obtain ⟨I,J,F,K⟩:=y.o.c4;obtain ⟨L,M⟩:=j.o.f2;obtain ⟨C,D⟩:=j.o.c2;clear b;have HY:=Hd Y;clear Y;go_wp2;refine bodyPost_ret (v:= .tuple #[.agg #[Aa Ab Z,.slice W nY X],Aa Ab ke]) (by simp [results,results249,go_sem,C,D]) rfl ?_;rw [G.o.1,G.o.2.1,G.o.2.2];exact⟨W,nY,X,rfl,HY.o,O,(z.o.setCell (Aj _) _).setCell (Aj _) _⟩
   ·have HE:=Hd (show C4 l p q t v ts=B8 l p q t v by rw [S.o,if_pos E]);have ae:=Hd E;have a2:(B8 l p q t v != 0)=true:=by simpa using E
    clear E;go_wp2;refine bodyPost_ret (v:= .tuple #[.agg #[Aa Ab 0,.slice none 0 0],Aa Ab ((B8 l p q t v))]) (by simp [results,results249,go_sem,C,D]) rfl ?_;exact Tm HE.o ae.o ((z.o.setCell (Aj _) _).setCell (Aj _) _)
 ·have HE:=Hd (show C4 l p q t v ts=Cc l.length p q t v by unfold C4;rw [if_pos f]);have ae:=Hd f;have a2:(Cc l.length p q t v != 0)=true:=by simpa using f
  have z:=Hd (A6 z.o b);have y:=Hd (y.o.pure b);have B:=Hd (B.o.pure b);have i:=Hd (i.o.pure b);have j:=Hd (j.o.pure b);obtain ⟨I,J,F,K⟩:=y.o.c4;obtain ⟨L,M⟩:=j.o.f2;obtain ⟨C,D⟩:=j.o.c2;clear b;clear f;go_wp2;refine bodyPost_ret (v:= .tuple #[.agg #[Aa Ab 0,.slice none 0 0],Aa Ab ((Cc l.length p q t v))]) (by simp [results,results249,go_sem,C,D]) rfl ?_;exact Tm HE.o ae.o ((z.o.setCell (Aj _) _).setCell (Aj _) _)
theorem Abm{g:Nat}(ts:List Nat)(vs:Array Value)(hB:Bb w g 3 vs)(hn:ts.length=n)(h:vs.toList=ts.flatMap tc):Is tc w (some ⟨g,0,none⟩) n ts:=by
 refine⟨hn,fun j u hu=>⟨_,_,rfl,?_⟩⟩;rw [Nat.zero_add,hB.cell j];rw [←h] at hu;simpa using hu
theorem kK(A:Option Addr)(n c:Nat)(p q t v:Int)(l:List UInt8)(w:World)(h:B4 w A n l)(hc:n≤c)(hn:n≤1099511627776):
  Calls Ad 150 #[.slice A n c,.agg #[Aa Ab p,Aa Ab q,Aa Ab t,Aa Ab v]] w (Ab5 (.tuple #[Aa Ab (C6 l p q t v [4,5,25]),Aa Ab ((Eo l p q t v [4,5,25]).length:Nat),Aa Ab (C4 l p q t v [4,5,25])]) w):=by
 have i:=Hd ((h.alloc (.cells #[Aa Ab p,Aa Ab q,Aa Ab t,Aa Ab v] 70)).alloc (.cells #[Aa Ab 4,Aa Ab 5,Aa Ab 25] 3));have k:=Hd (Abm (w:=(w.alloc (.cells #[Aa Ab p,Aa Ab q,Aa Ab t,Aa Ab v] 70)).alloc (.cells #[Aa Ab 4,Aa Ab 5,Aa Ab 25] 3)) (g:=w.heap.size+1) (n:=3) [4,5,25] _ (Bb.new_ (by simp) _ _) rfl rfl);have a:=Hd (((Af w.heap.size w).alloc (Ae _) (.cells #[Aa Ab p,Aa Ab q,Aa Ab t,Aa Ab v] 70)).alloc (by simp) (.cells #[Aa Ab 4,Aa Ab 5,Aa Ab 25] 3));have b:=Hd h;clear h;go_enter func150,ntmps150;go_wp2_with fail;go_at_call 249;refine(mW A n c p q t v _ 3 3 [4,5,25] l _ i.o k.o hc hn (by decide) (by decide)).mono ?_;rintro e x ⟨r,u,s,rfl,d,m,f⟩;have a:=Hd (A6 a.o f);have j:=Hd (d w b.o).1;clear d f;go_wp2_with fail;go_quiet (fail);go_wp2;go_ret3;refine⟨?_,?_⟩
 ·rw [j.o];rfl
 ·exact below_drewN (a.o.alloc a.o.size _) _
theorem iK{w:Nat}(b:List UInt8)(hw:Br (w:Int)=true):(Bn w b).length≤b.length+8:=by
 simp only [Bn,List.length_append,List.length_replicate,Ma];rcases Dl hw with rfl|rfl|rfl|rfl <;>omega
theorem mX{v:Bv}(ht:Ch v.t=true)(hv:Br (v.w:Int)=true)(hf:E7 l.length v)(hl:l.length+20≤1048576):iC l v (leastW (Dz v l.length 0)):=by
 obtain⟨a,b⟩:=Ro (Dz v l.length 0) (U7 hf 0);have a:=Jf.2 a;obtain⟨y,e⟩:∃y,leastW (Dz v l.length 0)=y:=⟨_,rfl⟩;rw [e] at a b⊢;obtain⟨f,g,i⟩:=Q3 a l;cases hi:inl v.t with
 |true=>
  have c:Dc y (Bn y l).length v=v.n % 2^(8*y):=by unfold Dc;rw [if_pos hi]
  exact⟨ht,hv,e,a,by rw [c];exact Jv _ _,by rw [c];exact M7 _ a,(fun h=>absurd hi (by rw [h];decide)),hl⟩
 |false=>
  obtain⟨h1,h2⟩:=Tl hi b;have c:Dc y (Bn y l).length v=(Bn y l).length-v.n:=by unfold Dc;rw [if_neg (by rw [hi];decide)]
  have j:=iK l a;rw [Nat.zero_mul,Nat.add_zero,←f] at h2;have d:=Gk a (by omega) h2;exact⟨ht,hv,e,a,by rw [c];exact decide_eq_true (.inr d),by rw [c];omega,fun _=>by omega,hl⟩
theorem zA(f:Nat){t:Tr}(h:Sn t)(hc:t.cost≤65000):∃v y,(Bd.calls f (Cs t) Bd.new).s=[v]∧iC (Bd.calls f (Cs t) Bd.new).b v y∧yZ (Bd.calls f (Cs t) Bd.new).b v y=F5 f (Cs t):=by
 obtain⟨v,e,r⟩:=lW f (Cs t) (qJ h);obtain⟨h1,h2,h3⟩:=r.legal (tL h);have c:=Km f (Cs t) (qJ h) Bd.new Tp;rw [Rc t h] at c;have d:(Bd.calls f (Cs t) Bd.new).b.length≤(Bd.calls f (Cs t) Bd.new).size:=by unfold Bd.size;omega
 have g:Bd.new.size=0:=rfl;have a:(Bd.calls f (Cs t) Bd.new).s=[v]:=e;exact⟨v,_,a,mX h1 h2 r.fit (by omega),by simp only [F5,Bd.finish,a,yZ]⟩
theorem iR(fl:Int){t:Tr}{p:Nat→Prop}(h:B7 w p x t)(hp:∀k,p k→k<w.heap.size)(hca:Ew (Cs t))(hc:t.cost≤65000)(he:(Jm Ji 0 t 0).1=0):
  Calls Ad 37 #[.agg #[Aa Ab x.k,Aa Ab x.n,Aa Ac (x.u:Int),.string ⟨x.s.toArray⟩,.slice x.A x.an x.ac,.slice x.B x.bn x.bc],Aa Ab fl,Aa Ab 1048576] w (iB w (F5 (bits fl) (Cs t))):=by
 have X:=Wj mS t 0 0 he;obtain⟨v,y,es,hf,Z⟩:=zA (bits fl) X hc;have T:=Hd (And.intro es hf);have Y:=Hd Z;have I:=Hd hca;have K:=Hd (show Bd.new.size+(Cs t).cost≤65000 by rw [Rc t X];have hz:Bd.new.size=0:=rfl;omega);have F:=(Af w.heap.size w).alloc (Ae _) (.cells #[Aa Ab x.k,Aa Ab x.n,Aa Ac (x.u:Int),.string ⟨x.s.toArray⟩,.slice x.A x.an x.ac,.slice x.B x.bn x.bc] 34);have HB:=Hd F;have HX:=Hd (Bb.new w 34 #[Aa Ab x.k,Aa Ab x.n,Aa Ac (x.u:Int),.string ⟨x.s.toArray⟩,.slice x.A x.an x.ac,.slice x.B x.bn x.bc]);have HS:=Hd (Qt (h.pure F) (fun k hk=>Ar (hp k hk) F.size) (by omega) he);obtain⟨b',f⟩:∃b',Bd.calls (bits fl) (Cs t) Bd.new=b':=⟨_,rfl⟩;rw [f] at T Y;have H:=Hd f;clear h hp hca hc he X es hf Z F f;go_enter func37,ntmps37;go_wp2_with fail;go_at_call 40;refine HS.o.mono ?_;rintro e i ⟨z,rfl,r,g⟩;have G:=Hd (A6 HB.o g);have O:=Hd r;have ag:=Hd (show(w.alloc (.cells #[Aa Ab x.k,Aa Ab x.n,Aa Ac (x.u:Int),.string ⟨x.s.toArray⟩,.slice x.A x.an x.ac,.slice x.B x.bn x.bc] 34)).heap.size≤i.heap.size from g.size);clear r g;have b:=(Af i.heap.size i).alloc (Ae _) (.cells #[Aa Ab z.k,Aa Ab z.n,Aa Ac (z.u:Int),.string ⟨z.s.toArray⟩,.slice z.A z.an z.ac,.slice z.B z.bn z.bc] 34);have U:=Hd (Bb.new i 34 #[Aa Ab z.k,Aa Ab z.n,Aa Ac (z.u:Int),.string ⟨z.s.toArray⟩,.slice z.A z.an z.ac,.slice z.B z.bn z.bc]);have d:=Hd (A6 G.o b);have P:=Hd (O.o.pure b);have L:=Hd (show i.heap.size≤(i.alloc (.cells #[Aa Ab z.k,Aa Ab z.n,Aa Ac (z.u:Int),.string ⟨z.s.toArray⟩,.slice z.A z.an z.ac,.slice z.B z.bn z.bc] 34)).heap.size from b.size);clear b;go_wp2_with fail;go_at_call 69;refine(mB fl _ (fun _=>0)).mono ?_;rintro e w3 ⟨M,o3,rfl,W,E⟩;have a:=E.below (fun _ _ h=>h);have V:=Hd (U.o.pure a);have ah:=Hd W;have R:=Hd (E.mono (J:=Dg) fun _ h=>h.elim);have af:=Hd (A6 d.o a);have j:=Hd (I.o M fl Bd.new z w3 o3 _ W Tp wO (P.o.pure a) (fun k hk=>by have h1:=L.o;exact⟨by have h2:=a.size;omega,E.ow k (by omega)⟩) K.o);rw [H.o] at j;obtain ⟨x0,x1,x2,x3,x4,x5⟩:=V.o.c6;clear W E a;go_wp2_with fail;go_at_call 70;refine j.o.mono ?_;rintro e w4 ⟨rfl,o4,q,C⟩;have N:=Hd q;have l:=Hd (R.o.trans C);clear q C x0 x1 x2 x3 x4 x5;go_wp2_with fail;go_at_call 71;refine(eE M fl b' v y _ o4 N.o T.o.1 T.o.2).mono ?_;rintro e w5 ⟨A,m,c,rfl,hO,o5,D⟩;have HO:=Hd hO;have S:=Hd (l.o.trans D);have Q:=Hd (show w.heap.size≤w4.heap.size from Nat.le_trans d.o.size l.o.size);clear hO D;go_wp2_with fail;go_ret2;exact⟨A,m,c,rfl,by rw [←Y.o];exact HO.o.rebase Q.o,A6 d.o (S.o.below fun _ _=>Co)⟩
theorem Xt(fl:Int){t:Tr}{p:Nat→Prop}(h:B7 w p x t)(hp:∀k,p k→k<w.heap.size)(hca:Ew (Cs t))(hc:t.cost≤65000)(he:(Jm Ji 0 t 0).1=0):
  Calls Ad 10 #[.agg #[Aa Ab x.k,Aa Ab x.n,Aa Ac (x.u:Int),.string ⟨x.s.toArray⟩,.slice x.A x.an x.ac,.slice x.B x.bn x.bc],Aa Ab fl] w (iB w (F5 (bits fl) (Cs t))):=by
 have a:=(Af w.heap.size w).alloc (Ae _) (.cells #[Aa Ab x.k,Aa Ab x.n,Aa Ac (x.u:Int),.string ⟨x.s.toArray⟩,.slice x.A x.an x.ac,.slice x.B x.bn x.bc] 34);have f:=Hd a;have g:=Hd (iR fl (h.pure a) (fun k hk=>Ar (hp k hk) a.size) hca hc he);clear h hp hca hc he a;go_enter func10,ntmps10;go_wp2_with fail;go_at_call 37;refine g.o.mono ?_;intro e l j;obtain⟨A,m,c,rfl,d,a⟩:=j;have i:=Hd d;have b:=Hd a;clear d a;go_wp2_with fail;go_ret2;exact mP f.o ⟨A,m,c,rfl,i.o,b.o⟩
end Go.Proofs.YtejpbijeifjdeaaGreat
