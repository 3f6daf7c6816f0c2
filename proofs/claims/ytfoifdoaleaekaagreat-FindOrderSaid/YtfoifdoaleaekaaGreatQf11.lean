/-
  Words for the builder's memory: each block has an owner, a label; a call changes only the blocks of some labels, and says whom the new blocks belong to.
  Package buf: none, Err, put, Len.
  make([]byte, n): a row of zeros of the call's own; a literal slice of bytes as a row of the call's own.
  Package buf: with, Align, Num; package width: Code.
  Package build, plain: how much a tree adds to the builder's state; the bound for cut trees. No program in sight.
  Package buf: Align, Num.
-/
import Derived.Test.YtfoifdoaleaekaaGreatQf06
namespace Go.Acc
open Go.RowKit
structure To (I : Nat → Prop) (w : World) (o : Nat → Nat) (w' : World) (o' : Nat → Nat) : Prop where
  fr : Fr (fun k => I (o k)) w w'
  ow : ∀ k, k < w.heap.size → o' k = o k
section
variable {I J : Nat → Prop} {w w' w'' : World} {o o' o'' : Nat → Nat}
theorem To.refl (I : Nat → Prop) (w : World) (o : Nat → Nat) : To I w o w o := ⟨Fr.refl _ _, fun _ _ => rfl⟩
theorem To.pure (I : Nat → Prop) (h : Below w.heap.size w w') (o : Nat → Nat) : To I w o w' o := ⟨Fr.of_below h _, fun _ _ => rfl⟩
def newO (o : Nat → Nat) (N i : Nat) : Nat → Nat := fun k => if k < N then o k else i
theorem newO_old {N i k : Nat} (h : k < N) : newO o N i k = o k := if_pos h
theorem newO_new {N i k : Nat} (h : N ≤ k) : newO o N i k = i := if_neg (by omega)
theorem To.fresh (I : Nat → Prop) (h : Below w.heap.size w w') (o : Nat → Nat) (i : Nat) : To I w o w' (newO o w.heap.size i) := ⟨Fr.of_below h _, fun _ hk => newO_old hk⟩
theorem To.of_fr {S : Nat → Prop} (h : Fr S w w') (hS : ∀ k, k < w.heap.size → S k → I (o k)) (i : Nat) : To I w o w' (newO o w.heap.size i) := ⟨h.mono hS, fun _ hk => newO_old hk⟩
theorem To.of_fr0 {S : Nat → Prop} (h : Fr S w w') (hS : ∀ k, k < w.heap.size → S k → I (o k)) : To I w o w' o := ⟨h.mono hS, fun _ _ => rfl⟩
theorem To.trans (h : To I w o w' o') (k : To I w' o' w'' o'') : To I w o w'' o'' :=
  ⟨h.fr.trans k.fr fun i hi hI => by rw [h.ow i hi] at hI; exact hI, fun i hi => (k.ow i (Nat.lt_of_lt_of_le hi h.fr.size)).trans (h.ow i hi)⟩
theorem To.mono (h : To I w o w' o') (hJ : ∀ i, I i → J i) : To J w o w' o' := ⟨h.fr.mono fun _ _ hi => hJ _ hi, h.ow⟩
theorem To.size (h : To I w o w' o') : w.heap.size ≤ w'.heap.size := h.fr.size
theorem To.below (h : To I w o w' o') (hI : ∀ k, k < w.heap.size → ¬ I (o k)) : Below w.heap.size w w' := h.fr.below hI
theorem To.keep {k : Nat} (h : To I w o w' o') (hk : k < w.heap.size) (hI : ¬ I (o k)) : w'.heap[k]? = w.heap[k]? := h.fr.block k hk hI
theorem Blk.to_ {g : Nat} {t : TypeId} {cs : Array Value} (hb : Blk w g t cs) (h : To I w o w' o') (hI : ¬ I (o g)) : Blk w' g t cs := hb.fr h.fr hI
def Of (o : Nat → Nat) (A : Option Addr) (i : Nat) : Prop := ∀ ad, A = some ad → o ad.block = i
theorem Of.none_ (i : Nat) : Of o none i := fun _ h => by cases h
variable {α : Type} {f : α → List Value} {sz n c B i : Nat} {e : TypeId} {A : Option Addr} {l : List α}
theorem Of.to_ (h : Of o A i) (ho : Own f sz e w B A n c l) (ht : To I w o w' o') : Of o' A i := fun ad hA => by
  rw [ht.ow _ (ho.addr ad hA).2.2]; exact h ad hA
theorem Own.to_ (ho : Own f sz e w B A n c l) (h : Of o A i) (ht : To I w o w' o') (hI : ¬ I i) : Own f sz e w' B A n c l :=
  ho.fr ht.fr fun ad hA => by rw [h ad hA]; exact hI
theorem Is.to_ (ho : Is f w A n l) (h : Of o A i) (ht : To I w o w' o') (hI : ¬ I i) : Is f w' A n l :=
  ho.fr ht.fr fun ad hA => by rw [h ad hA]; exact hI
theorem Of.grown {A' : Option Addr} {N : Nat} (h : Of o A i) (ho : Own f sz e w B A n c l) (hN : w.heap.size ≤ N) (hat : A'.map (·.block) = A.map (·.block) ∨ A'.map (·.block) = some N) (hw : N = w.heap.size) : Of (newO o w.heap.size i) A' i := by
  intro ad hA
  subst hA hw
  rcases hat with e | e
  · cases hA : A with
    | none => subst hA; simp at e
    | some a =>
      subst hA
      simp at e
      rw [e, newO_old (ho.addr a rfl).2.2]
      exact h a rfl
  · simp at e
    rw [e, newO_new (Nat.le_refl _)]
theorem To.cell {p : Addr} {u : Value} (h : To I w o w' o') (hc : w.cell? p = some u) (hI : ¬ I (o p.block)) : w'.cell? p = some u := cell_fr h.fr hc hI
theorem kdrew {p : Addr} {u : Value} (h : w.cell? p = some u) : w.drew.cell? p = some u := h
theorem kdrewN {p : Addr} {u : Value} (n : Nat) (h : w.cell? p = some u) : (w.drewN n).cell? p = some u := h
theorem kalloc {p : Addr} {u : Value} (b : Obj) (h : w.cell? p = some u) : (w.alloc b).cell? p = some u := cell_pure ((Below.refl _ _).alloc (Nat.le_refl _) b) h
theorem To.from_drew (h : To I w.drew o w' o') : To I w o w' o' := ⟨(Fr.refl _ w).drew.trans h.fr fun _ _ h => h, h.ow⟩
theorem To.from_pure {I : Nat → Prop} (hb : Below w.heap.size w w') (h : To I w' o w'' o'') : To I w o w'' o'' := (To.pure I hb o).trans h
end
end Go.Acc

namespace Go.Proofs.YtfoifdoaleaekaaGreat
open Go.RowKit Go.Acc
def Buf (w : World) (o : Nat → Nat) (b : Nat) (l : List UInt8) : Prop :=
  ∃ A n c, Blk w b 208 #[.bool true, .slice A n c, .int .i64 1048576, .int .i64 0] ∧ OwnB w 0 A n c l ∧ Of o A 1 ∧ o b = 1
def BufTo (w : World) (o : Nat → Nat) (b : Nat) (l : List UInt8) (e : Ending) (w' : World) : Prop :=
  e = .returned (.tuple #[]) ∧ ∃ o', Buf w' o' b l ∧ To (fun i => i = 1) w o w' o'
section
variable {I : Nat → Prop} {w w' : World} {o o' : Nat → Nat} {b : Nat} {l : List UInt8}
theorem Buf.to_ (h : Buf w o b l) (ht : To I w o w' o') (hI : ¬ I 1) : Buf w' o' b l := by
  obtain ⟨A, n, c, hb, ho, h1, h2⟩ := h
  exact ⟨A, n, c, hb.to_ ht (by rw [h2]; exact hI), ho.to_ h1 ht hI, h1.to_ ho ht, by rw [ht.ow _ hb.lt]; exact h2⟩
theorem Buf.pure (h : Buf w o b l) (ht : Below w.heap.size w w') : Buf w' o b l := h.to_ (To.pure (fun _ => False) ht o) id
theorem Buf.drew (h : Buf w o b l) : Buf w.drew o b l := h
theorem Buf.drewN (n : Nat) (h : Buf w o b l) : Buf (w.drewN n) o b l := h
theorem Buf.alloc (h : Buf w o b l) (x : Obj) : Buf (w.alloc x) o b l := h.pure ((Below.refl _ _).alloc (Nat.le_refl _) x)
theorem BufTo.from_pure {w0 : World} {e : Ending} (hb : Below w0.heap.size w0 w) (h : BufTo w o b l e w') : BufTo w0 o b l e w' := by
  obtain ⟨h1, o', h2, h3⟩ := h
  exact ⟨h1, o', h2, h3.from_pure hb⟩
theorem Buf.fresh (h : Buf w o b l) (hb : Below w.heap.size w w') (i : Nat) : Buf w' (newO o w.heap.size i) b l := h.to_ (To.fresh (fun _ => False) hb o i) id
theorem BufTo.from_fresh {w0 : World} {i : Nat} {e : Ending} (hb : Below w0.heap.size w0 w) (h : BufTo w (newO o w0.heap.size i) b l e w') : BufTo w0 o b l e w' := by
  obtain ⟨h1, o', h2, h3⟩ := h
  exact ⟨h1, o', h2, (To.fresh _ hb o i).trans h3⟩
theorem Buf.lt (h : Buf w o b l) : b < w.heap.size := by obtain ⟨A, n, c, hb, _⟩ := h; exact hb.lt
theorem Buf.own (h : Buf w o b l) : o b = 1 := by obtain ⟨A, n, c, _, _, _, h⟩ := h; exact h
end
theorem bnone_spec (b : Nat) (w : World) (h : w.cell? ⟨b, 0, none⟩ = some (.bool true)) :
    Calls Tryz.prog 194 #[.pointer (some ⟨b, 0, none⟩)] w fun e w' => e = .returned (.bool false) ∧ w = w' := by
  go_enter Tryz.func194, Tryz.ntmps194
  go_wp2
  go_ret
  exact ⟨rfl, rfl⟩
theorem berr_spec (b : Nat) (w : World) (h : w.cell? ⟨b, 0, none⟩ = some (.bool true)) (h3 : w.cell? ⟨b, 3, none⟩ = some (.int .i64 0)) :
    Calls Tryz.prog 201 #[.pointer (some ⟨b, 0, none⟩)] w fun e w' => e = .returned (.int .i64 0) ∧ w = w' := by
  go_enter Tryz.func201, Tryz.ntmps201
  go_wp2_with (go_at_call 194; refine (bnone_spec b _ (by assumption)).mono ?_; rintro e w' ⟨rfl, rfl⟩)
  go_ret
  exact ⟨rfl, rfl⟩
theorem blen_spec (b n c : Nat) (A : Option Addr) (w : World) (h : w.cell? ⟨b, 0, none⟩ = some (.bool true)) (h3 : w.cell? ⟨b, 1, none⟩ = some (.slice A n c)) :
    Calls Tryz.prog 129 #[.pointer (some ⟨b, 0, none⟩)] w fun e w' => e = .returned (.int .i64 n) ∧ w = w' := by
  go_enter Tryz.func129, Tryz.ntmps129
  go_wp2_with (go_at_call 194; refine (bnone_spec b _ (by assumption)).mono ?_; rintro e w' ⟨rfl, rfl⟩)
  go_ret
  exact ⟨rfl, rfl⟩
theorem berr_is {w : World} {o : Nat → Nat} {b : Nat} {l : List UInt8} (h : Buf w o b l) : Calls Tryz.prog 201 #[.pointer (some ⟨b, 0, none⟩)] w fun e w' => e = .returned (.int .i64 0) ∧ w = w' := by
  obtain ⟨A, n, c, hb, _⟩ := h
  exact berr_spec b w (hb.cell 0) (hb.cell 3)
theorem blen_is {w : World} {o : Nat → Nat} {b : Nat} {l : List UInt8} (n : Nat) (h : Buf w o b l) (hn : l.length = n) : Calls Tryz.prog 129 #[.pointer (some ⟨b, 0, none⟩)] w fun e w' => e = .returned (.int .i64 n) ∧ w = w' := by
  obtain ⟨A, n', c, hb, ho, _⟩ := h
  obtain rfl : n = n' := by rw [← hn, ho.1]
  exact blen_spec b n c A w (hb.cell 0) (hb.cell 1)
theorem put_post {w w1 : World} {o : Nat → Nat} {A A1 : Option Addr} {b n c n2 c1 : Nat} {l x : List UInt8} (hb : Blk w b 208 #[.bool true, .slice A n c, .int .i64 1048576, .int .i64 0]) (ho : OwnB w 0 A n c l) (h1 : Of o A 1) (h2 : o b = 1)
    (hw : OwnB w1 0 A1 (n + n2) c1 (l ++ x)) (hf : Fr (fun k => ∃ ad, A = some ad ∧ k = ad.block) w w1) (hat : A1.map (·.block) = A.map (·.block) ∨ A1.map (·.block) = some w.heap.size)
    (hb1 : Blk w1 b 208 #[.bool true, .slice A n c, .int .i64 1048576, .int .i64 0]) :
    ∃ o', Buf (w1.setCell ⟨b, 1, none⟩ (.slice A1 (n + n2) c1)) o' b (l ++ x) ∧ To (fun i => i = 1) w o (w1.setCell ⟨b, 1, none⟩ (.slice A1 (n + n2) c1)) o' := by
  have hset : Fr (fun k => k = b) w1 (w1.setCell ⟨b, 1, none⟩ (.slice A1 (n + n2) c1)) := Fr.setCell (S := fun k => k = b) (Fr.refl _ _) (fun _ => rfl) _
  refine ⟨newO o w.heap.size 1, ⟨A1, n + n2, c1, by have := hb1.set_ 1 (.slice A1 (n + n2) c1); simpa using this, hw.fr hset ?_, h1.grown ho (Nat.le_refl _) hat rfl, by rw [newO_old hb.lt]; exact h2⟩, To.of_fr ((hf.mono (T := fun k => o k = 1) ?_).setCell (fun _ => h2) _) (fun _ _ h => h) 1⟩
  · rintro ad rfl rfl
    exact own_blk_ne hw.2 hb1 (by decide) (by simp [Value.ownBlock])
  · rintro i _ ⟨ad, rfl, rfl⟩
    exact h1 ad rfl
set_option maxHeartbeats 400000 in
theorem bput_spec (b m d : Nat) (X : Option Addr) (l x : List UInt8) (w : World) (o : Nat → Nat) (h : Buf w o b l) (hx : IsB w X m x) (hm : l.length + m ≤ 1048576) :
    Calls Tryz.prog 197 #[.pointer (some ⟨b, 0, none⟩), .slice X m d] w (BufTo w o b (l ++ x)) := by
  obtain ⟨A, n, c, hb, ho, h1, h2⟩ := h
  have c0 : w.cell? ⟨b, 0, none⟩ = some (.bool true) := hb.cell 0
  have c1 : w.cell? ⟨b, 1, none⟩ = some (.slice A n c) := hb.cell 1
  have c2 : w.cell? ⟨b, 2, none⟩ = some (.int .i64 1048576) := hb.cell 2
  have c3 : w.cell? ⟨b, 3, none⟩ = some (.int .i64 0) := hb.cell 3
  rw [ho.1] at hm
  have hne : ∀ ad, A = some ad → ad.block ≠ b := by
    rintro ad rfl e
    exact own_blk_ne ho.2 hb (by decide) (by simp [Value.ownBlock, e])
  have HO := Lib.hid ho
  have HX := Lib.hid hx
  have HB := Lib.hid hb
  have HN := Lib.hid hne
  have H1 := Lib.hid h1
  have H2 := Lib.hid h2
  have hlt := hb.lt
  clear hb ho hx hne h1 h2
  go_enter Tryz.func197, Tryz.ntmps197
  go_wp2_with (go_at_call 201; refine (berr_spec b _ (by assumption) (by assumption)).mono ?_; rintro e w' ⟨rfl, rfl⟩)
  go_quiet (fail)
  go_wp2_with (at_builtin; refine wpl_app _ rfl (.tmp 8) (.tmp 9) _ rfl 5 _ 1 1 Tryz.underlying29 info_b rfl (by omega) bc_len bc_one _ _ _ _ _ rfl HO.out _ _ _ _ rfl HX.out (by omega) (Nat.zero_le _) ?_; intro A1 d1 w1 hown1 hfr0 hat1; have hfr1 := ((Fr.refl _ w).drewN _).trans hfr0 (fun _ _ h => h); have B1 := HB.out.fr hfr1 (by rintro ⟨ad, h, h'⟩; exact HN.out ad h h'.symm); have f1 := B1.frozen 1; have d1 : w1.cell? ⟨b, 1, none⟩ = some (.slice A n c) := B1.cell 1; have HB1 := Lib.hid B1; clear B1 c0 c1 c2 c3)
  go_end0
  exact ⟨rfl, put_post HB.out HO.out H1.out H2.out hown1 hfr1 hat1 HB1.out⟩
end Go.Proofs.YtfoifdoaleaekaaGreat

namespace Go.Proofs.YtfoifdoaleaekaaGreat
open Go.RowKit Go.Acc
theorem made_bc (n : Nat) : (madeCells #[.int .u8 0] n).toList = (List.replicate n (0 : UInt8)).flatMap bc := by
  apply List.ext_getElem?
  intro j
  by_cases hj : j < n
  · have h1 := fm_at bc_len (List.replicate n (0 : UInt8)) j 0 (by simpa using hj) (by omega)
    rw [Nat.mul_one, Nat.add_zero, List.getElem_replicate] at h1
    rw [h1]
    simp [madeCells, hj, bc, Nat.mod_one]
  · rw [List.getElem?_eq_none (by simp [madeCells]; omega), List.getElem?_eq_none (by rw [fm_length bc_len]; simp; omega)]
theorem make_b (n : Nat) (hn : n ≤ 1099511627776) : ∃ Z : Array Value, Z.size = n ∧ Z.toList = (List.replicate n (0 : UInt8)).flatMap bc ∧ ∀ W : World, (Instr.makeSlice 29 (.int .i64 (n : Int)) (.int .i64 (n : Int))).run Tryz.prog W = .ok (.slice (some ⟨W.heap.size, 0, none⟩) n n) (W.alloc (.cells Z 5)) := by
  obtain ⟨i, hi, hz, hs, hb⟩ := info_parts info_b
  have hm := made_bc n
  refine ⟨_, ?_, hm, fun W => ?_⟩
  · have := congrArg List.length hm
    rw [fm_length bc_len] at this
    simpa using this
  · have hr := run_make (P := Tryz.prog) W 29 5 i _ Tryz.underlying29 hi hz .i64 .i64 n n (by omega) (Int.le_refl _) (by rw [hb]; omega) (by omega)
    simp only [Int.toNat_natCast, hs, Nat.mul_one] at hr
    exact hr
theorem ownb_lit (W : World) (Z : Array Value) (n B : Nat) (l : List UInt8) (hB : B ≤ W.heap.size) (hn : l.length = n) (hm : n ≤ 1099511627776) (hZ : Z.toList = l.flatMap bc) : OwnB (W.alloc (.cells Z 5)) B (some ⟨W.heap.size, 0, none⟩) n n l := by
  refine ⟨hn, ?_⟩
  have hs : Z.size = n * 1 := by rw [← Array.length_toList, hZ, fm_length bc_len, hn]
  have := World.ownsRow_lit (base := B) (e := 5) (size := 1) W Z n hB (by simp only [maxLen]; omega) hs
  rw [hZ] at this
  exact this
end Go.Proofs.YtfoifdoaleaekaaGreat

namespace Go.Proofs.YtfoifdoaleaekaaGreat
open Go.RowKit Go.Acc
set_option maxHeartbeats 400000 in
theorem wcode_spec (x : Int) (w : World) (h : isW x = true) : Calls Tryz.prog 84 #[.int .i64 x] w fun e w' => (∃ c : Int, e = .returned (.tuple #[.int .i64 c, .int .i64 0])) ∧ w = w' := by
  rcases isW_iff.1 h with rfl | rfl | rfl | rfl
  all_goals
    clear h
    go_enter Tryz.func84, Tryz.ntmps84
    go_wp2
    refine wp_loop_rounds 5 ?_
    repeat (rw [rounds_succ]; go_wp2)
    all_goals
      go_ret2
      exact ⟨⟨_, rfl⟩, rfl⟩
theorem bwith_spec (b : Nat) (x : Int) (F : Nat) (caps : Array Value) (w : World) (R : Ending → World → Prop) (hx : isW x = true)
    (hF : ∀ (args : Array Value) (w : World), (callFunc F args).run Tryz.prog w = .ok (.enter F args) w)
    (h : Calls Tryz.prog F caps w fun e w' => e = .returned (.tuple #[]) ∧ R e w') :
    Calls Tryz.prog 195 #[.pointer (some ⟨b, 0, none⟩), .int .i64 x, .func (.func F) #[] caps] w R := by
  have HX := Lib.hid hx
  have HC := Lib.hid h
  clear hx h
  go_enter Tryz.func195, Tryz.ntmps195
  go_wp2_with (go_at_call 84; refine (wcode_spec x _ HX.out).mono ?_; rintro e w' ⟨⟨c, rfl⟩, rfl⟩)
  refine HC.out.mono ?_
  rintro e w' ⟨rfl, hR⟩
  have HR := Lib.hid hR
  clear hR hF
  go_wp2
  go_end0
  exact HR.out
end Go.Proofs.YtfoifdoaleaekaaGreat

namespace Go.Proofs.YtfoifdoaleaekaaGreat
open Go.Acc
def keysCost : List (List UInt8) → Nat
  | [] => 0
  | s :: r => s.length + 20 + keysCost r
mutual
/-- What a node may add: to the bytes, the stack, the pools, all taken together. -/
def Tr.cost : Tr → Nat
  | .mk _ _ _ s ks l => 64 + 2 * s.length + keysCost ks + Tr.costL l
def Tr.costL : List Tr → Nat
  | [] => 0
  | t :: r => 40 + Tr.cost t + Tr.costL r
end
def Bd.size (b : Bd) : Nat := b.b.length + b.s.length + b.keys.length + b.texts.length + b.lists.length + b.names.length + b.vals.length
theorem padN_le {w : Nat} (n : Nat) (hw : w ≤ 8) : padN w n ≤ 7 := by
  unfold padN
  rcases Nat.eq_zero_or_pos w with rfl | h
  · simp
  · have := Nat.mod_lt (w - n % w) h
    omega
theorem alignB_len {w : Nat} (b : List UInt8) (hw : w ≤ 8) : (alignB w b).length ≤ b.length + 7 := by
  have := padN_le b.length hw
  simp [alignB]; omega
theorem elemsB_len {w : Nat} (vs : List Bv) (l : List UInt8) (hw : w ≤ 8) : (elemsB w l vs).length ≤ l.length + 8 * vs.length := by
  obtain ⟨m, e, h⟩ := elemsB_app w vs l
  have := Nat.mul_le_mul_right vs.length hw
  rw [e, List.length_append]; omega
theorem bVec_len (t : Nat) (len tags : Bool) (l : List Bv) (b : List UInt8) : (bVec t len tags l b).1.length ≤ b.length + 15 + 9 * l.length := by
  have h8 : fitAll b.length (if len = true then 1 else 0) none l ≤ 8 := leastW_le _
  have h1 := alignB_len b h8
  unfold bVec
  simp only [List.length_append]
  have h2 := elemsB_len l (alignB (fitAll b.length (if len = true then 1 else 0) none l) b ++ (if len = true then leBytes (fitAll b.length (if len = true then 1 else 0) none l) l.length else [])) h8
  have h3 : (if len = true then leBytes (fitAll b.length (if len = true then 1 else 0) none l) l.length else []).length ≤ 8 := by
    split
    · rw [leBytes_length]; exact leastW_le _
    · simp
  have h4 : (if tags = true then l.map (bTag (fitAll b.length (if len = true then 1 else 0) none l)) else []).length ≤ l.length := by
    split <;> simp
  rw [List.length_append] at h2
  omega
theorem mapB_len (k : Bv) (l : List Bv) (b : List UInt8) : (mapB k l b).1.length ≤ b.length + 31 + 9 * l.length := by
  have h8 : fitAll b.length 3 (some k) l ≤ 8 := leastW_le _
  have h1 := alignB_len b h8
  unfold mapB
  simp only [List.length_append, List.length_map]
  generalize hw : fitAll b.length 3 (some k) l = w at *
  have h2 := elemsB_len l (alignB w b ++ leBytes w ((alignB w b).length - k.n) ++ leBytes w k.w ++ leBytes w l.length) h8
  simp only [List.length_append, leBytes_length] at h2
  omega
theorem putP_len (l : List (List UInt8 × Nat)) (k : List UInt8) (a : Nat) : (putP l k a).length ≤ l.length + 1 := by
  unfold putP; split <;> simp
theorem put_size (f : Nat) (s : List UInt8) (b : Bd) : (b.put f s).1.size ≤ b.size + s.length + 3 ∧ (b.put f s).1.s = b.s := by
  unfold Bd.put
  have h := putP_len b.keys s b.b.length
  cases (if onF f 1 = true then getP b.keys s else none) with
  | some a => exact ⟨by simp; omega, rfl⟩
  | none => exact ⟨by simp [Bd.size]; omega, rfl⟩
theorem key_size (f : Nat) (s : List UInt8) (b : Bd) : (b.key f s).size ≤ b.size + s.length + 4 := by
  have h := (put_size f s b).1
  simp only [Bd.key, Bd.push, Bd.size, List.length_append, List.length_cons, List.length_nil] at h ⊢
  omega
theorem puts_size (f : Nat) : ∀ (l : List Tr) (b : Bd), (b.puts f (l.map Tr.s)).1.size + 90 * l.length ≤ b.size + Tr.costL l
  | [], b => by simp [Bd.puts, Tr.costL]
  | .mk k n u s ks c :: r, b => by
    have h1 := (put_size f s b).1
    have h2 := puts_size f r (b.put f s).1
    simp only [List.map_cons, Bd.puts, Tr.costL, Tr.cost, Tr.s, List.length_cons]
    omega
theorem puts_len (f : Nat) : ∀ (l : List (List UInt8)) (b : Bd), (b.puts f l).2.length = l.length
  | [], b => by simp [Bd.puts]
  | s :: r, b => by simp [Bd.puts, puts_len f r]
theorem vec_size (t : Nat) (len tags : Bool) (l : List Bv) (b : Bd) : (b.vec t len tags l).size ≤ b.size + 16 + 9 * l.length := by
  have h := bVec_len t len tags l b.b
  simp only [Bd.vec, Bd.size, List.length_append, List.length_cons, List.length_nil]
  omega
theorem costL_len (l : List Tr) : 40 * l.length ≤ Tr.costL l := by
  induction l with
  | nil => simp
  | cons t r ih => simp only [Tr.costL, List.length_cons]; omega
theorem str_size (f : Nat) (s : List UInt8) (b : Bd) : (b.str f s).size ≤ b.size + s.length + 20 := by
  have h8 : bWidth s.length ≤ 8 := bWidth_le _
  have h1 := alignB_len b.b h8
  unfold Bd.str
  cases (if onF f 2 = true then getP b.texts s else none) with
  | some a => simp [Bd.push, Bd.size]; omega
  | none =>
    have h := putP_len b.texts s (alignB (bWidth s.length) b.b ++ leBytes (bWidth s.length) s.length).length
    simp only [Bd.size, List.length_append, leBytes_length, List.length_cons, List.length_nil] at h ⊢
    omega
theorem blob_size (s : List UInt8) (b : Bd) : (b.blob s).size ≤ b.size + s.length + 20 := by
  have h8 : bWidth s.length ≤ 8 := bWidth_le _
  have h1 := alignB_len b.b h8
  unfold Bd.blob
  simp only [Bd.size, List.length_append, leBytes_length, List.length_cons, List.length_nil]
  omega
theorem apart_size (t w n : Nat) (b : Bd) (hw : w ≤ 8) : (b.apart t w n).size ≤ b.size + 20 := by
  have h1 := alignB_len b.b hw
  unfold Bd.apart
  simp only [Bd.size, List.length_append, leBytes_length, List.length_cons, List.length_nil]
  omega
theorem push_size (b : Bd) (v : Bv) : (b.push v).size = b.size + 1 := by
  simp [Bd.push, Bd.size]; omega
theorem leaf_size (f : Nat) (k n : Int) (u : Nat) (s : List UInt8) (b : Bd) : (b.leaf f k n u s).size ≤ b.size + 64 + 2 * s.length := by
  have h1 := key_size f s b
  have h2 := str_size f s b
  have h3 := blob_size s b
  have h4 := apart_size 6 (bWidthI n) (bits n) b (bWidthI_le _)
  have h5 := apart_size 7 (bWidth u) u b (bWidth_le _)
  unfold Bd.leaf
  (repeat' split) <;> (try rw [push_size]) <;> omega
theorem flat_size (f : Nat) (k : Int) (l : List Tr) (b : Bd) : (b.flat f k l).size ≤ b.size + 64 + Tr.costL l := by
  have hl := costL_len l
  have hp := puts_size f l b
  have hn := puts_len f (l.map Tr.s) b
  rw [List.length_map] at hn
  have hv : ∀ (t : Nat) (len tags : Bool) (x : List Bv), x.length = l.length → (b.vec t len tags x).size ≤ b.size + 64 + Tr.costL l := by
    intro t len tags x hx
    have := vec_size t len tags x b
    omega
  unfold Bd.flat
  split
  · exact hv _ _ _ _ (by simp)
  split
  · exact hv _ _ _ _ (by simp)
  split
  · exact hv _ _ _ _ (by simp)
  split
  · -- keys: the strings twice
    have h := vec_size 14 true false (b.puts f (l.map Tr.s)).2 (b.puts f (l.map Tr.s)).1
    show (Bd.vec 14 true false (b.puts f (l.map Tr.s)).2 (b.puts f (l.map Tr.s)).1).size ≤ _
    omega
  split
  · exact hv _ _ _ _ (by simp)
  · exact hv _ _ _ _ (by simp)
theorem endVec_size (start : Nat) (b : Bd) (n : Nat) (h : (b.s.drop start).length = n) : (b.endVec start).size ≤ b.size + 16 + 9 * n := by
  have h1 := bVec_len 10 true true (b.s.drop start) b.b
  have h3 : (b.s.take start).length ≤ b.s.length := by rw [List.length_take]; omega
  simp only [Bd.endVec, Bd.vec, Bd.size, List.length_append, List.length_cons, List.length_nil]
  omega
theorem callsL_size (f : Nat) : ∀ (c : List Tr), (∀ t ∈ c, Does f t) → (∀ t ∈ c, ∀ b, Good b → (Bd.calls f t b).size ≤ b.size + t.cost) → ∀ b, Good b → (Bd.callsL f c b).size + 40 * c.length ≤ b.size + Tr.costL c
  | [], _, _, b, h => by simp [Bd.callsL, Tr.costL]
  | t :: r, hd, hc, b, h => by
    obtain ⟨v, e1, s1, r1⟩ := hd t (by simp) b h
    have h1 := hc t (by simp) b h
    have h2 := callsL_size f r (fun t ht => hd t (by simp [ht])) (fun t ht => hc t (by simp [ht])) (Bd.calls f t b) s1.2
    simp only [Bd.callsL, Tr.costL, List.length_cons]
    omega
theorem callsM_size (f : Nat) : ∀ (c : List Tr) (ks : List (List UInt8)), ks.length = c.length → (∀ t ∈ c, Does f t) → (∀ t ∈ c, ∀ b, Good b → (Bd.calls f t b).size ≤ b.size + t.cost) → ∀ b, Good b → (Bd.callsM f ks c b).size + 50 * c.length ≤ b.size + keysCost ks + Tr.costL c
  | [], ks, hk, _, _, b, h => by simp [Bd.callsM, Tr.costL]
  | t :: r, [], hk, _, _, _, _ => by simp at hk
  | t :: r, s :: ks, hk, hd, hc, b, h => by
    obtain ⟨kv, e0, s0, k0⟩ := key_law f s b h
    have h0 := key_size f s b
    obtain ⟨v, e1, s1, r1⟩ := hd t (by simp) (b.key f s) s0.2
    have h1 := hc t (by simp) (b.key f s) s0.2
    have h2 := callsM_size f r ks (by simpa using hk) (fun t ht => hd t (by simp [ht])) (fun t ht => hc t (by simp [ht])) (Bd.calls f t (b.key f s)) s1.2
    have ee : Bd.callsM f (s :: ks) (t :: r) b = Bd.callsM f ks r (Bd.calls f t (b.key f s)) := by rw [Bd.callsM]; rfl
    rw [ee]
    simp only [Tr.costL, List.length_cons, keysCost]
    omega
theorem endMap_size (f : Nat) (ks : List (List UInt8)) (start : Nat) (b : Bd) (n : Nat) (h1 : (evens (b.s.drop start)).length = n) (h2 : (odds (b.s.drop start)).length = n) :
    (b.endMap f ks start).size ≤ b.size + 50 + 18 * n := by
  have h3 : (b.s.take start).length ≤ b.s.length := by rw [List.length_take]; omega
  unfold Bd.endMap
  simp only []
  cases (if onF f 4 = true then getP b.lists (ks.flatMap fun s => s ++ [0]) else none) with
  | some i =>
    have h := mapB_len (b.vals.getD i ⟨0, 0, 0⟩) (odds (b.s.drop start)) b.b
    simp only [Bd.size, List.length_append, List.length_cons, List.length_nil] at h ⊢
    omega
  | none =>
    have h4 := bVec_len 14 true false (evens (b.s.drop start)) b.b
    have h := mapB_len (bVec 14 true false (evens (b.s.drop start)) b.b).2 (odds (b.s.drop start)) (bVec 14 true false (evens (b.s.drop start)) b.b).1
    have h5 := putP_len b.lists (ks.flatMap fun s => s ++ [0]) b.vals.length
    simp only [Bd.size, List.length_append, List.length_cons, List.length_nil] at h ⊢
    omega
theorem calls_size (f : Nat) (t : Tr) (h : Ok t) : ∀ b, Good b → (Bd.calls f t b).size ≤ b.size + t.cost := by
  induction h with
  | leaf n u s ks c h1 h2 =>
    intro b hg
    rename_i k
    have e : Bd.calls f (.mk k n u s ks c) b = b.leaf f k n u s := by
      rw [Bd.calls, if_neg (by omega), if_neg (by omega), if_pos h2]
    rw [e, Tr.cost]
    have := leaf_size f k n u s b
    omega
  | flat n u s ks c h1 h2 =>
    intro b hg
    rename_i k
    have e : Bd.calls f (.mk k n u s ks c) b = b.flat f k c := by
      rw [Bd.calls, if_neg (by omega), if_neg (by omega), if_neg (by omega)]
    rw [e, Tr.cost]
    have := flat_size f k c b
    omega
  | vec n u s ks hd ih =>
    intro b hg
    rename_i c
    obtain ⟨vs, e1, l1, s1, r1⟩ := callsL_law f c (fun t ht => calls_law f t (hd t ht)) b hg
    have h1 := callsL_size f c (fun t ht => calls_law f t (hd t ht)) ih b hg
    have e : Bd.calls f (.mk 10 n u s ks c) b = (Bd.callsL f c b).endVec b.s.length := by rw [Bd.calls, if_pos rfl]
    have hv : (Bd.callsL f c b).s.drop b.s.length = vs := by rw [e1]; simp
    have h2 := endVec_size b.s.length (Bd.callsL f c b) c.length (by rw [hv, l1])
    rw [e, Tr.cost]
    omega
  | map n u s hl h0 hd ih =>
    intro b hg
    rename_i c ks
    obtain ⟨kvs, vs, e1, l1, s1, k1, r1⟩ := callsM_law f c ks hl (fun t ht => calls_law f t (hd t ht)) b hg
    have h1 := callsM_size f c ks hl (fun t ht => calls_law f t (hd t ht)) ih b hg
    have e : Bd.calls f (.mk 17 n u s ks c) b = (Bd.callsM f ks c b).endMap f ks b.s.length := by
      rw [Bd.calls, if_neg (by omega), if_pos rfl]
    have hv : (Bd.callsM f ks c b).s.drop b.s.length = both kvs vs := by rw [e1]; simp
    obtain ⟨ev, od⟩ := evens_both kvs vs (by rw [k1.1, l1, hl])
    have h2 := endMap_size f ks b.s.length (Bd.callsM f ks c b) c.length (by rw [hv, ev, k1.1, hl]) (by rw [hv, od, l1])
    rw [e, Tr.cost]
    omega
end Go.Proofs.YtfoifdoaleaekaaGreat

namespace Go.Proofs.YtfoifdoaleaekaaGreat
open Go.RowKit Go.Acc
theorem pad_tmod (n y : Nat) (hy : 0 < y) : ∃ r p : Nat, (n : Int).tmod y = r ∧ r < y ∧ ((y : Int) - (r : Int)).tmod y = p ∧ padN y n = p := by
  have h1 : (n : Int).tmod y = ((n % y : Nat) : Int) := by rw [Int.tmod_eq_emod_of_nonneg (by omega)]; rfl
  have h2 := Nat.mod_lt n hy
  refine ⟨n % y, padN y n, h1, h2, ?_, rfl⟩
  rw [show (y : Int) - ((n % y : Nat) : Int) = ((y - n % y : Nat) : Int) by omega, Int.tmod_eq_emod_of_nonneg (by omega)]
  rfl
theorem wrap_in (n : Int) (h : -9223372036854775808 ≤ n ∧ n ≤ 9223372036854775807) : IntKind.i64.wrap n = n := by rw [IntKind.wrap_i64]; omega
theorem bisb_drew {w : World} {A : Option Addr} {n : Nat} {l : List UInt8} (h : IsB w A n l) : IsB w.drew A n l := h
set_option maxRecDepth 100000 in
set_option maxHeartbeats 1000000 in
theorem balign1_spec (bx bw b y : Nat) (l : List UInt8) (w : World) (o : Nat → Nat) (h : Buf w o b l) (hx : Blk w bx 151 #[.pointer (some ⟨b, 0, none⟩)]) (hw : Blk w bw 3 #[.int .i64 (y : Int)]) (hy : isW (y : Int) = true) (ox : o bx ≠ 1) (ow : o bw ≠ 1) (hm : l.length + 7 ≤ 1048576) :
    Calls Tryz.prog 196 #[.pointer (some ⟨bx, 0, none⟩), .pointer (some ⟨bw, 0, none⟩)] w (BufTo w o b (alignB y l)) := by
  have x0 : w.cell? ⟨bx, 0, none⟩ = some (.pointer (some ⟨b, 0, none⟩)) := hx.cell 0
  have w0 : w.cell? ⟨bw, 0, none⟩ = some (.int .i64 (y : Int)) := hw.cell 0
  obtain ⟨n, hn⟩ : ∃ n, l.length = n := ⟨_, rfl⟩
  have hn' : n ≤ 1048576 := by omega
  have hy8 : 1 ≤ y ∧ y ≤ 8 := by have := isW_iff.1 hy; omega
  obtain ⟨r, p, e1, hr, e2, e3⟩ := pad_tmod n y (by omega)
  have hp7 : p ≤ 7 := by rw [← e3]; exact padN_le n hy8.2
  have hy0 : (0 : Int) < (y : Int) := by omega
  have hyn : ¬ y = 0 := by omega
  have hy9 : (y : Int) ≤ 8 := by omega
  have hr0 : (0 : Int) ≤ (r : Int) := by omega
  have hr1 : (r : Int) < (y : Int) := by omega
  have hp0 : (0 : Int) ≤ (p : Int) := by omega
  have hp1 : (p : Int) ≤ 7 := by omega
  obtain ⟨Z, hZ1, hZ2, hmk⟩ := make_b p (by omega)
  have HZ2 := Lib.hid hZ2
  have HZ1 := Lib.hid hZ1
  clear hZ1 hZ2
  have HY := Lib.hid hy
  have H := Lib.hid h
  have HNN := Lib.hid hn
  have HP := Lib.hid e3
  have HL := Lib.hid (show l.length + p ≤ 1048576 by omega)
  clear hx hw hy h hn hm e3
  have hwr : IntKind.i64.wrap ((y : Int) - (r : Int)) = (y : Int) - (r : Int) := wrap_in ((y : Int) - (r : Int)) (by omega)
  go_enter Tryz.func196, Tryz.ntmps196
  have HI := Lib.hid (ownb_lit w Z p 0 (List.replicate p (0 : UInt8)) (Nat.zero_le _) (by simp) (by omega) HZ2.out).is
  go_region_held3 (fun w' => w'.cell? ⟨bx, 0, none⟩ = some (.pointer (some ⟨b, 0, none⟩)) ∧ w'.cell? ⟨bw, 0, none⟩ = some (.int .i64 (y : Int))) (first | with_reducible exact ⟨x0, w0⟩ | with_reducible exact ⟨kdrew x0, kdrew w0⟩ | with_reducible exact ⟨kdrew (kalloc _ x0), kdrew (kalloc _ w0)⟩ | with_reducible exact ⟨x1, w1⟩) (first | (go_at_call 129; (with_reducible refine (blen_is n H.out.drew HNN.out).mono ?_); rintro e w' ⟨rfl, rfl⟩) | (go_at_call 197; (with_reducible refine (bput_spec b p p _ l (List.replicate p (0 : UInt8)) _ o (H.out.alloc _).drew (bisb_drew HI.out) HL.out).mono ?_); rintro e w' ⟨rfl, o', hB, hT⟩; have x1 := hT.cell (kdrew (kalloc _ x0)) ox; have w1 := hT.cell (kdrew (kalloc _ w0)) ow; have HB := Lib.hid hB; have HT := Lib.hid hT; clear hB hT))
  go_end0
  have e3 : alignB y l = l ++ List.replicate p 0 := by unfold alignB; rw [HNN.out, HP.out]
  rw [e3]
  exact ⟨rfl, o', HB.out, To.from_pure ((Below.refl _ _).alloc (Nat.le_refl _) _) HT.out.from_drew⟩
set_option maxHeartbeats 1000000 in
theorem balign_spec (b y : Nat) (l : List UInt8) (w : World) (o : Nat → Nat) (h : Buf w o b l) (hy : isW (y : Int) = true) (hm : l.length + 7 ≤ 1048576) :
    Calls Tryz.prog 130 #[.pointer (some ⟨b, 0, none⟩), .int .i64 (y : Int)] w (BufTo w o b (alignB y l)) := by
  have H := Lib.hid h
  have HY := Lib.hid hy
  clear h hy
  go_enter Tryz.func130, Tryz.ntmps130
  go_wp2_with fail
  have hB : Below w.heap.size w ((w.alloc (.cells #[.pointer (some ⟨b, 0, none⟩)] 151)).alloc (.cells #[.int .i64 (y : Int)] 3)) := ((Below.refl _ _).alloc (Nat.le_refl _) _).alloc (by simp) _
  have hK1 := (Blk.new w 151 #[.pointer (some ⟨b, 0, none⟩)]).alloc (.cells #[.int .i64 (y : Int)] 3)
  have hK2 := blk_new2 w (.cells #[.pointer (some ⟨b, 0, none⟩)] 151) 3 #[.int .i64 (y : Int)]
  have HBW := Lib.hid hB
  refine (bwith_spec b y 196 _ _ _ HY.out Tryz.call196 ((balign1_spec w.heap.size (w.heap.size + 1) b y l _ (newO o w.heap.size 0) (H.out.fresh hB 0) hK1 hK2 HY.out (by rw [newO_new (by omega)]; omega) (by rw [newO_new (by omega)]; omega) hm).mono fun e w' h => ⟨h.1, h⟩)).mono ?_
  rintro e w' ⟨rfl, o', hB', hT⟩
  have HE := Lib.hid (show BufTo w o b (alignB y l) (.returned (.tuple #[])) w' from BufTo.from_fresh HBW.out ⟨rfl, o', hB', hT⟩)
  clear hB hK1 hK2 hB' hT HBW
  go_wp2
  go_end0
  exact HE.out
end Go.Proofs.YtfoifdoaleaekaaGreat
