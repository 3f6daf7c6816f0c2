/-
  Rows of one-cell elements: append and copy as steps of a region.
  Package pool: a string is laid in: the two rows, what the appends leave.
  Package pool: a string is laid in: the walk.
-/
import Derived.Test.YtfoifdoaleaekaaGreatQf27
import Derived.Deep.RegionLaw
import Derived.Laws.CopyOwn
import Derived.Deep.DeepCutAuto
namespace Go.Proofs.YtfoifdoaleaekaaGreat
open Go.RowKit Go.Acc
section
variable {α : Type} {f : α → List Value} {e : TypeId}
theorem own_seg1 (hf : ∀ x, (f x).length = 1) {w : World} {B g n c : Nat} {l : List α} (h : Go.Acc.Own f 1 e w B (some ⟨g, 0, none⟩) n c l) : ∃ cur, Blk w g e cur ∧ n ≤ cur.size ∧
    (∀ (w' : World) (cur' : Array Value) (off k : Nat) (m : List α), Blk w' g e cur' → Seg cur off (m.flatMap f) k cur' → m.length = k → off + k ≤ n → Go.Acc.Own f 1 e w' B (some ⟨g, 0, none⟩) n c (l.take off ++ m ++ l.drop (off + k))) := by
  obtain ⟨hl, h1, h2⟩ := h
  rcases h2 with ⟨hv, _⟩ | ⟨g', cap, cur, hv, hb, hg, hnc, hcm, hcs, htake⟩
  · cases hv
  · injection hv with e1 _ e3
    injection e1 with e1
    injection e1 with e1
    subst e1 e3
    simp only [Nat.mul_one] at hcs htake h1
    refine ⟨cur, hg, by omega, ?_⟩
    intro w' cur' off k m hB hS hm hk
    refine ⟨by simp; omega, ?_, .inr ⟨g, c, cur', rfl, hb, hB, hnc, hcm, by rw [hS.1, Nat.mul_one]; exact hcs, ?_⟩⟩
    · rw [fm_length hf]; simp; omega
    · rw [Nat.mul_one, hS.take (by rw [fm_length hf]; omega) hk (by omega), htake, List.flatMap_append, List.flatMap_append, fm_take hf, fm_drop hf, Nat.mul_one, Nat.mul_one]
theorem pl_splice (cur : Array Value) (off : Nat) (vs : List Value) (h : off + vs.length ≤ cur.size) : Seg cur off vs vs.length (cur.toList.take off ++ vs ++ cur.toList.drop (off + vs.length)).toArray := by
  refine ⟨by simp; omega, fun j => ?_⟩
  rw [List.getElem?_toArray]
  by_cases c1 : j < off
  · rw [if_neg (by omega), List.append_assoc, List.getElem?_append_left (by simp; omega), List.getElem?_take, if_pos c1, Array.getElem?_toList]
  · by_cases c2 : j < off + vs.length
    · rw [if_pos (by omega), List.append_assoc, List.getElem?_append_right (by simp; omega), List.getElem?_append_left (by simp; omega)]
      congr 1
      simp; omega
    · rw [if_neg (by omega), List.getElem?_append_right (by simp; omega), List.getElem?_drop, Array.getElem?_toList]
      congr 1
      simp; omega
theorem step_app1 {ops : Array Oper} {o : Oper} {a : Act} {w : World} {K : Act → World → Prop} {Q : Exit → Act → World → Prop} {E : Prop} (hgd : o.guard = none) (s x : Operand) (t : TypeId)
    (ho : o.op = .call { callee := .builtin .append, args := #[s, x], argTypes := #[t, t] })
    (z : Value) (bytes : Nat) (ht : Tryz.prog.underlying t = some (.slice e)) (hi : (Tryz.prog.info? e).map (fun i => (i.zero, i.size, i.bytes)) = some (some z, 1, bytes)) (hzs : z.cells.size = 1) (hb16 : bytes ≤ 16)
    (hf : ∀ x, (f x).length = 1) (h1 : ∀ x, ∀ u ∈ f x, u.oneCell' = true)
    (B : Nat) (A : Option Addr) (n c : Nat) (l : List α) (hs : a.eval s = .slice A n c) (hown : Go.Acc.Own f 1 e w B A n c l)
    (A2 : Option Addr) (m d : Nat) (l2 : List α) (hx : a.eval x = .slice A2 m d) (hr : Is f w A2 m l2)
    (hbytes : n + m ≤ 1099511627776) (hbase : B ≤ w.heap.size)
    (h : ∀ A' c' w', Go.Acc.Own f 1 e w' B A' (n + m) c' (l ++ l2) → Fr (fun k => ∃ ad, A = some ad ∧ k = ad.block) w w' → (A'.map (·.block) = A.map (·.block) ∨ A'.map (·.block) = some w.heap.size) → K (a.put o.dst (.slice A' (n + m) c')) w') :
    if Region.wanted o (yielded ops a.tmps) = true then Oper.wp Tryz.prog o a w K Q else E := by
  have hw : Region.wanted o (yielded ops a.tmps) = true := by simp [Region.wanted, hgd]
  rw [if_pos hw]
  obtain ⟨i, hi', hz, hsize, hby⟩ := info_parts hi
  have e2 : n + m ≤ maxLen := by simp only [maxLen]; omega
  have e3 : (n + m) * bytes ≤ 140737488355328 := Nat.le_trans (Nat.mul_le_mul hbytes hb16) (by decide)
  obtain ⟨v', w', hrun, h2, h3, h4⟩ := run_append_rd (P := Tryz.prog) w B t o.type e i z 1 bytes ht hi' hz hsize hby hzs (by omega) (.slice A n c) n (l.flatMap f) hown.2 A2 m d (l2.flatMap f) (by rw [fm_length hf, hr.1]) hr.2 (fm_one h1 l2) e2 e3 hbase
  obtain ⟨A', c', rfl, ho'⟩ := Own.mk hf (by omega) (l := l ++ l2) h2 List.flatMap_append.symm
  have hk := h A' c' w' ho' ((Fr.of_grown h3).mono fun i _ hi => by
    cases A with
    | none => simp [Value.ownBlock] at hi
    | some ad => simp [Value.ownBlock] at hi; exact ⟨ad, rfl, hi⟩) (by
    cases A <;> cases A' <;> simp only [Value.ownBlock, Option.map] at h4 ⊢ <;> exact h4)
  clear h ho' h2 h3 h4
  unfold Oper.wp
  simp only [execOp, ho, resolve, invoke, builtin, Sem.run_bind, Sem.run_pure, Result.andThen_ok, List.map_toArray, List.map_cons, List.map_nil, hs, hx, hrun]
  exact hk
theorem step_copy1 {ops : Array Oper} {o : Oper} {a : Act} {w : World} {K : Act → World → Prop} {Q : Exit → Act → World → Prop} {E : Prop} (hgd : o.guard = none) (d s : Operand) (t : TypeId)
    (ho : o.op = .call { callee := .builtin .copy, args := #[d, s], argTypes := #[t, t] })
    (ht : Tryz.prog.underlying t = some (.slice e)) (hi : (Tryz.prog.info? e).map (·.size) = some 1) (hf : ∀ x, (f x).length = 1) (h1 : ∀ x, ∀ u ∈ f x, u.oneCell' = true)
    (X Y : Option Addr) (kd ks cd cs : Nat) (hd : a.eval d = .slice X kd cd) (hs : a.eval s = .slice Y ks cs) (hk : kd ≤ ks)
    (B : Nat) (A : Option Addr) (n c off : Nat) (m src : List α) (hown : Go.Acc.Own f 1 e w B A n c m) (hX : 0 < kd → X = A.map (·.add off)) (hoff : off + kd ≤ n) (hsrc : Is f w Y kd src)
    (h : ∀ w', Go.Acc.Own f 1 e w' B A n c (m.take off ++ src ++ m.drop (off + kd)) → Fr (fun j => ∃ ad, A = some ad ∧ j = ad.block) w w' → K (a.put o.dst (.int .i64 kd)) w') :
    if Region.wanted o (yielded ops a.tmps) = true then Oper.wp Tryz.prog o a w K Q else E := by
  have hw : Region.wanted o (yielded ops a.tmps) = true := by simp [Region.wanted, hgd]
  rw [if_pos hw]
  have hlen := hsrc.1
  by_cases h0 : kd = 0
  · subst h0
    have hrun := run_copy_none (P := Tryz.prog) w t t o.type e X Y 0 cd ks cs ht hi (by simp)
    obtain rfl : src = [] := List.eq_nil_of_length_eq_zero hlen
    have hk := h w (by simpa using hown) (Fr.refl _ _)
    clear h
    unfold Oper.wp
    simp [execOp, ho, resolve, invoke, builtin, hd, hs, hrun, Result.andThen]
    exact hk
  · have hX := hX (by omega)
    obtain ⟨sb, so, rfl, _⟩ := hsrc.some_ hf (by omega) (by omega)
    cases A with
    | none =>
      have := hown.is.none_ hf (by omega)
      omega
    | some ad =>
      obtain ⟨had, hge, hlt⟩ := hown.addr ad rfl
      obtain ⟨g, rfl⟩ : ∃ g, ad = ⟨g, 0, none⟩ := ⟨_, had⟩
      obtain ⟨cur, hK, hsz, hback⟩ := own_seg1 hf hown
      obtain rfl : X = some ⟨g, off, none⟩ := by rw [hX]; simp [add_none]
      have hl : (src.flatMap f).length = kd := by rw [fm_length hf, hlen, Nat.mul_one]
      have hrun := run_copy_row (P := Tryz.prog) w t t o.type e g off kd cd ⟨sb, so, none⟩ ks cs cur e (src.flatMap f) ht hi hK (by rw [hl]; exact (Nat.min_eq_right hk).symm) hsrc.2.cells (by rw [hl]; omega) (fm_one h1 src)
      rw [hl] at hrun
      have hS := pl_splice cur off (src.flatMap f) (by rw [hl]; omega)
      rw [hl] at hS
      have hO := hback (w.setRow g (cur.toList.take off ++ src.flatMap f ++ cur.toList.drop (off + kd)).toArray) _ off kd src (setRow_heap w g cur _ _ _ hK) hS hlen hoff
      have hk := h _ hO ⟨rfl, rfl, rfl, by simp [World.setRow], fun i _ hi => setRow_other w g i _ (by rintro rfl; exact hi ⟨_, rfl, rfl⟩)⟩
      clear h hback hO hS
      unfold Oper.wp
      simp only [execOp, ho, resolve, invoke, builtin, Sem.run_bind, Sem.run_pure, Result.andThen_ok, List.map_toArray, List.map_cons, List.map_nil, hd, hs, hrun]
      exact hk
end
end Go.Proofs.YtfoifdoaleaekaaGreat

namespace Go.Proofs.YtfoifdoaleaekaaGreat
open Go.RowKit Go.Acc
theorem cut1_x {α : Type} {f : α → List Value} {g n c lo : Nat} (h1 : lo ≤ n) (hc : n ≤ c) (hf : ∀ x, (f x).length = 1) : (0 < n - lo → (if c = lo then some (⟨g, 0, none⟩ : Addr) else some ⟨g, lo, none⟩) = (some (⟨g, 0, none⟩ : Addr)).map (·.add lo)) ∧
    ∀ (w : World) (l : List α), Is f w (some ⟨g, 0, none⟩) n l → Is f w (if c = lo then some (⟨g, 0, none⟩ : Addr) else some ⟨g, lo, none⟩) (n - lo) (l.drop lo) := by
  refine ⟨fun h => ?_, fun w l h => ?_⟩
  · rw [if_neg (by omega)]
    simp [add_none]
  · split
    · rename_i e
      exact h.cut0 e hc
    · have := h.cut1 (k := lo) hf
      simpa [add_none] using this
theorem below_dr (w : World) : Below w.heap.size w w.drew := (Below.refl _ _).drew
theorem cell_al {w : World} {p : Addr} {u : Value} (o : Obj) (h : w.cell? p = some u) : (w.alloc o).cell? p = some u := cell_pure ((Below.refl _ _).alloc (Nat.le_refl _) o) h
structure Lay2 (w0 : World) (p : Nat) (A10 A20 : Option Addr) (A1 : Option Addr) (n1 c1 : Nat) (ks : List (List UInt8)) (A2 : Option Addr) (n2 c2 : Nat) (ns : List Nat) (x0 x1 : Value) (w : World) : Prop where
  blk : Blk w p 216 #[x0, x1, .bool true]
  o1 : OwnS w 0 A1 n1 c1 ks
  o2 : OwnN w 0 A2 n2 c2 ns
  d1 : ∀ a, A1 = some a → a.block ≠ p
  d2 : ∀ a, A2 = some a → a.block ≠ p
  d12 : ∀ a b, A1 = some a → A2 = some b → a.block ≠ b.block
  fr : Fr (fun k => k = p ∨ (∃ a, A10 = some a ∧ k = a.block) ∨ (∃ a, A20 = some a ∧ k = a.block)) w0 w
  w1 : A1.map (·.block) = A10.map (·.block) ∨ ∃ k, A1.map (·.block) = some k ∧ w0.heap.size ≤ k
  w2 : A2.map (·.block) = A20.map (·.block) ∨ ∃ k, A2.map (·.block) = some k ∧ w0.heap.size ≤ k
section
variable {w0 w : World} {p : Nat} {A10 A20 A1 A2 : Option Addr} {n1 c1 n2 c2 : Nat} {ks : List (List UInt8)} {ns : List Nat} {x0 x1 : Value}
theorem lay_in (h : A1.map (·.block) = A10.map (·.block) ∨ ∃ k, A1.map (·.block) = some k ∧ w0.heap.size ≤ k) (k : Nat) (hk : k < w0.heap.size) (ha : ∃ a, A1 = some a ∧ k = a.block) : ∃ a, A10 = some a ∧ k = a.block := by
  obtain ⟨a, rfl, rfl⟩ := ha
  rcases h with e | ⟨k', e, hk'⟩
  · cases A10 with
    | none => cases e
    | some b => injection e with e; exact ⟨b, rfl, e⟩
  · injection e with e
    have e : a.block = k' := e
    omega
theorem Lay2.below (h : Lay2 w0 p A10 A20 A1 n1 c1 ks A2 n2 c2 ns x0 x1 w) {w' : World} (hb : Below w.heap.size w w') : Lay2 w0 p A10 A20 A1 n1 c1 ks A2 n2 c2 ns x0 x1 w' :=
  ⟨h.blk.pure hb, h.o1.pure hb, h.o2.pure hb, h.d1, h.d2, h.d12, h.fr.trans (Fr.of_below hb (fun _ => False)) (fun _ _ h => h.elim), h.w1, h.w2⟩
theorem Lay2.alloc (h : Lay2 w0 p A10 A20 A1 n1 c1 ks A2 n2 c2 ns x0 x1 w) (o : Obj) : Lay2 w0 p A10 A20 A1 n1 c1 ks A2 n2 c2 ns x0 x1 (w.alloc o) :=
  h.below ((Below.refl _ _).alloc (Nat.le_refl _) o)
theorem Lay2.app1 (h : Lay2 w0 p A10 A20 A1 n1 c1 ks A2 n2 c2 ns x0 x1 w) {w' : World} {A' : Option Addr} {n' c' : Nat} {ks' : List (List UInt8)} (ho : OwnS w' 0 A' n' c' ks')
    (hf : Fr (fun k => ∃ a, A1 = some a ∧ k = a.block) w w') (hw : A'.map (·.block) = A1.map (·.block) ∨ A'.map (·.block) = some w.heap.size) : Lay2 w0 p A10 A20 A' n' c' ks' A2 n2 c2 ns x0 x1 w' := by
  have hp := h.blk.lt
  have h2 : ∀ b, A2 = some b → b.block < w.heap.size := fun b hb => (h.o2.addr b hb).2.2
  have hA : ∀ a, A' = some a → (∃ a', A1 = some a' ∧ a'.block = a.block) ∨ a.block = w.heap.size := by
    rintro a rfl
    rcases hw with e | e
    · cases A1 with
      | none => cases e
      | some b => injection e with e; exact .inl ⟨b, rfl, e.symm⟩
    · injection e with e; exact .inr e
  refine ⟨h.blk.fr hf (fun ⟨a, e1, e2⟩ => h.d1 a e1 e2.symm), ho, h.o2.fr hf (fun b hb ⟨a, e1, e2⟩ => h.d12 a b e1 hb e2.symm), ?_, h.d2, ?_, ?_, ?_, h.w2⟩
  · intro a ha
    rcases hA a ha with ⟨a', e1, e2⟩ | e
    · rw [← e2]; exact h.d1 a' e1
    · omega
  · intro a b ha hb
    have := h2 b hb
    rcases hA a ha with ⟨a', e1, e2⟩ | e
    · rw [← e2]; exact h.d12 a' b e1 hb
    · omega
  · exact h.fr.trans hf (fun k hk ha => .inr (.inl (lay_in h.w1 k hk ha)))
  · rcases hw with e | e
    · rw [e]; exact h.w1
    · exact .inr ⟨_, e, h.fr.size⟩
theorem Lay2.app2 (h : Lay2 w0 p A10 A20 A1 n1 c1 ks A2 n2 c2 ns x0 x1 w) {w' : World} {A' : Option Addr} {n' c' : Nat} {ns' : List Nat} (ho : OwnN w' 0 A' n' c' ns')
    (hf : Fr (fun k => ∃ a, A2 = some a ∧ k = a.block) w w') (hw : A'.map (·.block) = A2.map (·.block) ∨ A'.map (·.block) = some w.heap.size) : Lay2 w0 p A10 A20 A1 n1 c1 ks A' n' c' ns' x0 x1 w' := by
  have hp := h.blk.lt
  have h2 : ∀ b, A1 = some b → b.block < w.heap.size := fun b hb => (h.o1.addr b hb).2.2
  have hA : ∀ a, A' = some a → (∃ a', A2 = some a' ∧ a'.block = a.block) ∨ a.block = w.heap.size := by
    rintro a rfl
    rcases hw with e | e
    · cases A2 with
      | none => cases e
      | some b => injection e with e; exact .inl ⟨b, rfl, e.symm⟩
    · injection e with e; exact .inr e
  refine ⟨h.blk.fr hf (fun ⟨a, e1, e2⟩ => h.d2 a e1 e2.symm), h.o1.fr hf (fun b hb ⟨a, e1, e2⟩ => h.d12 b a hb e1 e2), ho, h.d1, ?_, ?_, ?_, h.w1, ?_⟩
  · intro a ha
    rcases hA a ha with ⟨a', e1, e2⟩ | e
    · rw [← e2]; exact h.d2 a' e1
    · omega
  · intro b a hb ha
    have := h2 b hb
    rcases hA a ha with ⟨a', e1, e2⟩ | e
    · rw [← e2]; exact h.d12 b a' hb e1
    · omega
  · exact h.fr.trans hf (fun k hk ha => .inr (.inr (lay_in h.w2 k hk ha)))
  · rcases hw with e | e
    · rw [e]; exact h.w2
    · exact .inr ⟨_, e, h.fr.size⟩
theorem Lay2.set0 (h : Lay2 w0 p A10 A20 A1 n1 c1 ks A2 n2 c2 ns x0 x1 w) (v : Value) : Lay2 w0 p A10 A20 A1 n1 c1 ks A2 n2 c2 ns v x1 (w.setCell ⟨p, 0, none⟩ v) := by
  have hf := Fr.setCell (S := fun k => k = p) (Fr.refl (fun k => k = p) w) (p := ⟨p, 0, none⟩) (fun _ => rfl) v
  exact ⟨h.blk.set_ 0 v, h.o1.fr hf (fun a e => h.d1 a e), h.o2.fr hf (fun a e => h.d2 a e), h.d1, h.d2, h.d12, h.fr.trans hf (fun k _ e => .inl e), h.w1, h.w2⟩
theorem Lay2.set1 (h : Lay2 w0 p A10 A20 A1 n1 c1 ks A2 n2 c2 ns x0 x1 w) (v : Value) : Lay2 w0 p A10 A20 A1 n1 c1 ks A2 n2 c2 ns x0 v (w.setCell ⟨p, 1, none⟩ v) := by
  have hf := Fr.setCell (S := fun k => k = p) (Fr.refl (fun k => k = p) w) (p := ⟨p, 1, none⟩) (fun _ => rfl) v
  exact ⟨h.blk.set_ 1 v, h.o1.fr hf (fun a e => h.d1 a e), h.o2.fr hf (fun a e => h.d2 a e), h.d1, h.d2, h.d12, h.fr.trans hf (fun k _ e => .inl e), h.w1, h.w2⟩
theorem al_size (w : World) (o : Obj) : (w.alloc o).heap.size = w.heap.size + 1 := by simp
theorem str_lit (W : World) (z : List UInt8) : IsS (W.alloc (.cells #[.string ⟨z.toArray⟩] 9)) (some ⟨W.heap.size, 0, none⟩) 1 [z] := by
  refine ⟨rfl, fun j u hu => ⟨_, _, rfl, ?_⟩⟩
  rw [Nat.zero_add, (Blk.new W _ _).cell j]
  simpa [stc] using hu
theorem int_lit (W : World) : Is inc (W.alloc (.cells #[.int .i64 0] 3)) (some ⟨W.heap.size, 0, none⟩) 1 [0] := by
  refine ⟨rfl, fun j u hu => ⟨_, _, rfl, ?_⟩⟩
  rw [Nat.zero_add, (Blk.new W _ _).cell j]
  simpa [inc] using hu
theorem lit_keep {α : Type} {f : α → List Value} {W w' : World} {A : Option Addr} {g B n : Nat} {l : List α} (h : Is f W (some ⟨g, 0, none⟩) n l) (hf : Fr (fun k => ∃ a, A = some a ∧ k = a.block) W w') (hA : ∀ a, A = some a → a.block < B) (hB : B ≤ g) : Is f w' (some ⟨g, 0, none⟩) n l := by
  refine h.fr hf ?_
  rintro ad e ⟨a, e1, e2⟩
  cases e
  have e2 : g = a.block := e2
  have := hA a e1
  omega
theorem seg_one (cur : Array Value) (i : Nat) (v : Value) (h : i < cur.size) : Seg cur i [v] 1 (cur.setIfInBounds i v) := by
  refine ⟨by simp, fun j => ?_⟩
  rw [Array.getElem?_setIfInBounds]
  by_cases e : i = j
  · subst e
    rw [if_pos rfl, if_pos h, if_pos ⟨Nat.le_refl _, Nat.lt_succ_self _⟩]
    simp
  · rw [if_neg e, if_neg (by omega)]
theorem own_store {α : Type} {f : α → List Value} {e : TypeId} (hf : ∀ x, (f x).length = 1) {g n c i : Nat} {l : List α} (h : Go.Acc.Own f 1 e w 0 (some ⟨g, 0, none⟩) n c l) (hi : i < n) (x : α) (v : Value) (hx : f x = [v]) :
    (∃ u, w.cell? ⟨g, i, none⟩ = some u) ∧ w.frozen? ⟨g, i, none⟩ = false ∧ Go.Acc.Own f 1 e (w.setCell ⟨g, i, none⟩ v) 0 (some ⟨g, 0, none⟩) n c (l.take i ++ [x] ++ l.drop (i + 1)) := by
  obtain ⟨cur, hK, hsz, hback⟩ := own_seg1 hf h
  refine ⟨⟨cur[i]'(by omega), by rw [hK.cell i, Array.getElem?_eq_getElem (by omega)]⟩, hK.frozen i, ?_⟩
  refine hback _ (cur.setIfInBounds i v) i 1 [x] (hK.set_ i v) ?_ rfl (by omega)
  simpa [hx] using seg_one cur i v (by omega)
theorem Lay2.store1 {g : Nat} (h : Lay2 w0 p A10 A20 (some ⟨g, 0, none⟩) n1 c1 ks A2 n2 c2 ns x0 x1 w) {i : Nat} (hi : i < n1) (s : List UInt8) :
    Lay2 w0 p A10 A20 (some ⟨g, 0, none⟩) n1 c1 (ks.take i ++ [s] ++ ks.drop (i + 1)) A2 n2 c2 ns x0 x1 (w.setCell ⟨g, i, none⟩ (.string ⟨s.toArray⟩)) :=
  h.app1 (own_store stc_len h.o1 hi s _ rfl).2.2 (Fr.setCell (S := fun k => ∃ a, some (⟨g, 0, none⟩ : Addr) = some a ∧ k = a.block) (Fr.refl _ w) (p := ⟨g, i, none⟩) (fun _ => ⟨_, rfl, rfl⟩) _) (.inl rfl)
theorem Lay2.store2 {g : Nat} (h : Lay2 w0 p A10 A20 A1 n1 c1 ks (some ⟨g, 0, none⟩) n2 c2 ns x0 x1 w) {i : Nat} (hi : i < n2) (a : Nat) :
    Lay2 w0 p A10 A20 A1 n1 c1 ks (some ⟨g, 0, none⟩) n2 c2 (ns.take i ++ [a] ++ ns.drop (i + 1)) x0 x1 (w.setCell ⟨g, i, none⟩ (.int .i64 (a : Int))) :=
  h.app2 (own_store inc_len h.o2 hi a _ rfl).2.2 (Fr.setCell (S := fun k => ∃ a, some (⟨g, 0, none⟩ : Addr) = some a ∧ k = a.block) (Fr.refl _ w) (p := ⟨g, i, none⟩) (fun _ => ⟨_, rfl, rfl⟩) _) (.inl rfl)
theorem own_at {α : Type} {f : α → List Value} {e : TypeId} {A : Option Addr} {n c : Nat} {l : List α} (hf : ∀ x, (f x).length = 1) (h : Go.Acc.Own f 1 e w 0 A n c l) (hn : 0 < n) : ∃ g, A = some ⟨g, 0, none⟩ := by
  obtain ⟨sb, so, rfl, _⟩ := h.is.some_ hf (by omega) hn
  exact ⟨_, congrArg some (h.addr _ rfl).1⟩
theorem lay_list {α : Type} (l : List α) (z s : α) (i : Nat) (hi : i ≤ l.length) :
    (((l ++ [z]).take (i + 1) ++ ((l ++ [z]).drop i).take (l.length - i) ++ (l ++ [z]).drop (i + 1 + (l.length - i))).take i ++ [s] ++
      ((l ++ [z]).take (i + 1) ++ ((l ++ [z]).drop i).take (l.length - i) ++ (l ++ [z]).drop (i + 1 + (l.length - i))).drop (i + 1)) = l.take i ++ [s] ++ l.drop i := by
  have e1 : ((l ++ [z]).drop i).take (l.length - i) = l.drop i := by
    rw [List.drop_append_of_le_length hi, List.take_append_of_le_length (by simp), List.take_of_length_le (by simp)]
  have e2 : (l ++ [z]).drop (i + 1 + (l.length - i)) = [] := List.drop_eq_nil_of_le (by simp; omega)
  have e3 : ((l ++ [z]).take (i + 1)).length = i + 1 := by simp; omega
  rw [e1, e2, List.append_nil, List.take_append_of_le_length (by omega), List.take_take, Nat.min_eq_left (by omega), List.drop_append_of_le_length (by omega), List.drop_eq_nil_of_le (by omega), List.nil_append, List.take_append_of_le_length hi]
theorem step_lk {ops : Array Oper} {o : Oper} {a : Act} {K : Act → World → Prop} {Q : Exit → Act → World → Prop} {E : Prop} (hgd : o.guard = none) (s x : Operand)
    (ho : o.op = .call { callee := .builtin .append, args := #[s, x], argTypes := #[23, 23] })
    (H : Lay2 w0 p A10 A20 A1 n1 c1 ks A2 n2 c2 ns x0 x1 w) (hs : a.eval s = .slice A1 n1 c1) (A3 : Option Addr) (z : List UInt8) (hr : IsS w A3 1 [z]) (hx : a.eval x = .slice A3 1 1) (hn : n1 ≤ 1048576)
    (h : ∀ A' c' w', Lay2 w0 p A10 A20 A' (n1 + 1) c' (ks ++ [z]) A2 n2 c2 ns x0 x1 w' → Fr (fun k => ∃ a, A1 = some a ∧ k = a.block) w w' → K (a.put o.dst (.slice A' (n1 + 1) c')) w') :
    if Region.wanted o (yielded ops a.tmps) = true then Oper.wp Tryz.prog o a w K Q else E := by
  refine step_app1 hgd s x 23 ho (.string ⟨#[]⟩) 16 (by kernel_rfl) (by kernel_rfl) rfl (by decide) stc_len stc_one 0 A1 n1 c1 ks hs H.o1 A3 1 1 [z] hx hr (by omega) (Nat.zero_le _) ?_
  intro A' c' w' hown hf hw
  exact h A' c' w' (H.app1 hown hf hw) hf
theorem step_ln {ops : Array Oper} {o : Oper} {a : Act} {K : Act → World → Prop} {Q : Exit → Act → World → Prop} {E : Prop} (hgd : o.guard = none) (s x : Operand)
    (ho : o.op = .call { callee := .builtin .append, args := #[s, x], argTypes := #[61, 61] })
    (H : Lay2 w0 p A10 A20 A1 n1 c1 ks A2 n2 c2 ns x0 x1 w) (hs : a.eval s = .slice A2 n2 c2) (A3 : Option Addr) (z : Nat) (hr : Is inc w A3 1 [z]) (hx : a.eval x = .slice A3 1 1) (hn : n2 ≤ 1048576)
    (h : ∀ A' c' w', Lay2 w0 p A10 A20 A1 n1 c1 ks A' (n2 + 1) c' (ns ++ [z]) x0 x1 w' → Fr (fun k => ∃ a, A2 = some a ∧ k = a.block) w w' → K (a.put o.dst (.slice A' (n2 + 1) c')) w') :
    if Region.wanted o (yielded ops a.tmps) = true then Oper.wp Tryz.prog o a w K Q else E := by
  refine step_app1 hgd s x 61 ho (.int .i64 0) 8 (by kernel_rfl) (by kernel_rfl) rfl (by decide) inc_len inc_one 0 A2 n2 c2 ns hs H.o2 A3 1 1 [z] hx hr (by omega) (Nat.zero_le _) ?_
  intro A' c' w' hown hf hw
  exact h A' c' w' (H.app2 hown hf hw) hf
end
end Go.Proofs.YtfoifdoaleaekaaGreat

namespace Go.Proofs.YtfoifdoaleaekaaGreat
open Go.RowKit Go.Acc
set_option maxRecDepth 100000 in
set_option maxHeartbeats 4000000 in
theorem lay_spec (p i n c1 c2 : Nat) (A1 A2 : Option Addr) (ks : List (List UInt8)) (ns : List Nat) (s : List UInt8) (at_ : Nat) (w : World)
    (h : Lay2 w p A1 A2 A1 n c1 ks A2 n c2 ns (.slice A1 n c1) (.slice A2 n c2) w) (hi : i ≤ n) (hn : n ≤ 1048575) :
    Calls Tryz.prog 248 #[.pointer (some ⟨p, 0, none⟩), .int .i64 (i : Int), .string ⟨s.toArray⟩, .int .i64 (at_ : Int)] w fun e w' => e = .returned (.tuple #[]) ∧
      ∃ A1' A2' c1' c2', Lay2 w p A1 A2 A1' (n + 1) c1' (ks.take i ++ [s] ++ ks.drop i) A2' (n + 1) c2' (ns.take i ++ [at_] ++ ns.drop i) (.slice A1' (n + 1) c1') (.slice A2' (n + 1) c2') w' := by
  have H := Lib.hid h
  clear h
  go_enter Tryz.func248, Tryz.ntmps248
  go_upto_region 1 with fail
  go_cut [] (fun wx => ∃ wy, wy = wx ∧ ∃ A1' A2' c1' c2', Lay2 w p A1 A2 A1' (n + 1) c1' (ks ++ [[]]) A2' (n + 1) c2' (ns ++ [0]) (.slice A1' (n + 1) c1') (.slice A2' (n + 1) c2') wx)
  case first =>
    obtain ⟨wd, hwd⟩ : ∃ wd, wd = w.drew := ⟨_, rfl⟩
    have HW := Lib.hid (show Lay2 w p A1 A2 A1 n c1 ks A2 n c2 ns (.slice A1 n c1) (.slice A2 n c2) wd by rw [hwd]; exact H.out.below (below_dr w))
    have HLT := Lib.hid (show w.heap.size ≤ wd.heap.size by rw [hwd]; exact (below_dr w).size)
    have HA := Lib.hid (HW.out.alloc (.cells #[.string ⟨([] : List UInt8).toArray⟩] 9))
    have HB := Lib.hid (HW.out.alloc (.cells #[.int .i64 0] 3))
    have HAB := Lib.hid (HA.out.alloc (.cells #[.int .i64 0] 3))
    have HBA := Lib.hid (HB.out.alloc (.cells #[.string ⟨([] : List UInt8).toArray⟩] 9))
    have IA := Lib.hid (str_lit wd [])
    have IB := Lib.hid (int_lit wd)
    have IAB1 := Lib.hid (IA.out.alloc (.cells #[.int .i64 0] 3))
    have IBA2 := Lib.hid (IB.out.alloc (.cells #[.string ⟨([] : List UInt8).toArray⟩] 9))
    have IAB2 := Lib.hid (show Is inc ((wd.alloc (.cells #[.string ⟨([] : List UInt8).toArray⟩] 9)).alloc (.cells #[.int .i64 0] 3)) (some ⟨wd.heap.size + 1, 0, none⟩) 1 [0] by rw [← al_size wd (.cells #[.string ⟨([] : List UInt8).toArray⟩] 9)]; exact int_lit (wd.alloc (.cells #[.string ⟨([] : List UInt8).toArray⟩] 9)))
    have IBA1 := Lib.hid (show IsS ((wd.alloc (.cells #[.int .i64 0] 3)).alloc (.cells #[.string ⟨([] : List UInt8).toArray⟩] 9)) (some ⟨wd.heap.size + 1, 0, none⟩) 1 [[]] by rw [← al_size wd (.cells #[.int .i64 0] 3)]; exact str_lit (wd.alloc (.cells #[.int .i64 0] 3)) [])
    have HN1 := Lib.hid (show ∀ a, A1 = some a → a.block < wd.heap.size from fun a e => (HW.out.o1.addr a e).2.2)
    have HN2 := Lib.hid (show ∀ a, A2 = some a → a.block < wd.heap.size from fun a e => (HW.out.o2.addr a e).2.2)
    have x0 : wd.cell? ⟨p, 0, none⟩ = some (.slice A1 n c1) := HW.out.blk.cell 0
    have x1 : wd.cell? ⟨p, 1, none⟩ = some (.slice A2 n c2) := HW.out.blk.cell 1
    have fz0 : wd.frozen? ⟨p, 0, none⟩ = false := HW.out.blk.frozen 0
    have fz1 : wd.frozen? ⟨p, 1, none⟩ = false := HW.out.blk.frozen 1
    subst hwd
    have k0 := fun o => cell_al o x0
    have k1 := fun o => cell_al o x1
    have kk0 := fun o o' => cell_al o' (cell_al o x0)
    have kk1 := fun o o' => cell_al o' (cell_al o x1)
    have m0 : ∀ o, (w.alloc o).drew.cell? ⟨p, 0, none⟩ = some (.slice A1 n c1) := k0
    have m1 : ∀ o, (w.alloc o).drew.cell? ⟨p, 1, none⟩ = some (.slice A2 n c2) := k1
    have mm0 : ∀ o o', ((w.alloc o).alloc o').drew.cell? ⟨p, 0, none⟩ = some (.slice A1 n c1) := kk0
    have mm1 : ∀ o o', ((w.alloc o).alloc o').drew.cell? ⟨p, 1, none⟩ = some (.slice A2 n c2) := kk1
    go_region_law (first
      | (refine step_lk rfl (.tmp 13) (.tmp 14) rfl HA.out rfl (some ⟨w.drew.heap.size, 0, none⟩) [] IA.out rfl (by omega) ?_; intro A1' c1' v1 HV1 hf1; have y10 : v1.cell? ⟨p, 0, none⟩ = some (.slice A1 n c1) := HV1.blk.cell 0; have y11 : v1.cell? ⟨p, 1, none⟩ = some (.slice A2 n c2) := HV1.blk.cell 1; have z10 := fun o => cell_al o y10; have z11 := fun o => cell_al o y11; replace HV1 := Lib.hid HV1; clear hf1)
      | (refine step_lk rfl (.tmp 13) (.tmp 14) rfl HAB.out rfl (some ⟨w.drew.heap.size, 0, none⟩) [] IAB1.out rfl (by omega) ?_; intro A1' c1' v1 HV1 hf1; have y10 : v1.cell? ⟨p, 0, none⟩ = some (.slice A1 n c1) := HV1.blk.cell 0; have y11 : v1.cell? ⟨p, 1, none⟩ = some (.slice A2 n c2) := HV1.blk.cell 1; have z10 := fun o => cell_al o y10; have z11 := fun o => cell_al o y11; replace HV1 := Lib.hid HV1; have IN := Lib.hid (lit_keep IAB2.out hf1 HN1.out (Nat.le_succ _)); clear hf1)
      | (refine step_lk rfl (.tmp 13) (.tmp 14) rfl HBA.out rfl (some ⟨w.drew.heap.size + 1, 0, none⟩) [] IBA1.out rfl (by omega) ?_; intro A1' c1' v1 HV1 hf1; have y10 : v1.cell? ⟨p, 0, none⟩ = some (.slice A1 n c1) := HV1.blk.cell 0; have y11 : v1.cell? ⟨p, 1, none⟩ = some (.slice A2 n c2) := HV1.blk.cell 1; have z10 := fun o => cell_al o y10; have z11 := fun o => cell_al o y11; replace HV1 := Lib.hid HV1; have IN := Lib.hid (lit_keep IBA2.out hf1 HN1.out (Nat.le_refl _)); clear hf1)
      | (refine step_ln rfl (.tmp 19) (.tmp 20) rfl HB.out rfl (some ⟨w.drew.heap.size, 0, none⟩) 0 IB.out rfl (by omega) ?_; intro A2' c2' v2 HV2 hf2; have y20 : v2.cell? ⟨p, 0, none⟩ = some (.slice A1 n c1) := HV2.blk.cell 0; have y21 : v2.cell? ⟨p, 1, none⟩ = some (.slice A2 n c2) := HV2.blk.cell 1; have z20 := fun o => cell_al o y20; have z21 := fun o => cell_al o y21; replace HV2 := Lib.hid HV2; clear hf2)
      | (refine step_ln rfl (.tmp 19) (.tmp 20) rfl HBA.out rfl (some ⟨w.drew.heap.size, 0, none⟩) 0 IBA2.out rfl (by omega) ?_; intro A2' c2' v2 HV2 hf2; have y20 : v2.cell? ⟨p, 0, none⟩ = some (.slice A1 n c1) := HV2.blk.cell 0; have y21 : v2.cell? ⟨p, 1, none⟩ = some (.slice A2 n c2) := HV2.blk.cell 1; have z20 := fun o => cell_al o y20; have z21 := fun o => cell_al o y21; replace HV2 := Lib.hid HV2; have IN := Lib.hid (lit_keep IBA1.out hf2 HN2.out (Nat.le_succ _)); clear hf2)
      | (refine step_ln rfl (.tmp 19) (.tmp 20) rfl HAB.out rfl (some ⟨w.drew.heap.size + 1, 0, none⟩) 0 IAB2.out rfl (by omega) ?_; intro A2' c2' v2 HV2 hf2; have y20 : v2.cell? ⟨p, 0, none⟩ = some (.slice A1 n c1) := HV2.blk.cell 0; have y21 : v2.cell? ⟨p, 1, none⟩ = some (.slice A2 n c2) := HV2.blk.cell 1; have z20 := fun o => cell_al o y20; have z21 := fun o => cell_al o y21; replace HV2 := Lib.hid HV2; have IN := Lib.hid (lit_keep IAB1.out hf2 HN2.out (Nat.le_refl _)); clear hf2)
      | (refine step_ln rfl (.tmp 19) (.tmp 20) rfl HV1.out rfl (some ⟨w.drew.heap.size, 0, none⟩) 0 IN.out rfl (by omega) ?_; intro A2' c2' v3 HV3 hf3; clear hf3; have y30 : v3.cell? ⟨p, 0, none⟩ = some (.slice A1 n c1) := HV3.blk.cell 0; have y31 : v3.cell? ⟨p, 1, none⟩ = some (.slice A2 n c2) := HV3.blk.cell 1; have f30 : v3.frozen? ⟨p, 0, none⟩ = false := HV3.blk.frozen 0; have f31 : v3.frozen? ⟨p, 1, none⟩ = false := HV3.blk.frozen 1; replace HV3 := Lib.hid HV3)
      | (refine step_ln rfl (.tmp 19) (.tmp 20) rfl HV1.out rfl (some ⟨w.drew.heap.size + 1, 0, none⟩) 0 IN.out rfl (by omega) ?_; intro A2' c2' v3 HV3 hf3; clear hf3; have y30 : v3.cell? ⟨p, 0, none⟩ = some (.slice A1 n c1) := HV3.blk.cell 0; have y31 : v3.cell? ⟨p, 1, none⟩ = some (.slice A2 n c2) := HV3.blk.cell 1; have f30 : v3.frozen? ⟨p, 0, none⟩ = false := HV3.blk.frozen 0; have f31 : v3.frozen? ⟨p, 1, none⟩ = false := HV3.blk.frozen 1; replace HV3 := Lib.hid HV3)
      | (refine step_ln rfl (.tmp 19) (.tmp 20) rfl (HV1.out.alloc (.cells #[.int .i64 0] 3)) rfl (some ⟨v1.heap.size, 0, none⟩) 0 (int_lit v1) rfl (by omega) ?_; intro A2' c2' v3 HV3 hf3; clear hf3; have y30 : v3.cell? ⟨p, 0, none⟩ = some (.slice A1 n c1) := HV3.blk.cell 0; have y31 : v3.cell? ⟨p, 1, none⟩ = some (.slice A2 n c2) := HV3.blk.cell 1; have f30 : v3.frozen? ⟨p, 0, none⟩ = false := HV3.blk.frozen 0; have f31 : v3.frozen? ⟨p, 1, none⟩ = false := HV3.blk.frozen 1; replace HV3 := Lib.hid HV3)
      | (refine step_lk rfl (.tmp 13) (.tmp 14) rfl HV2.out rfl (some ⟨w.drew.heap.size, 0, none⟩) [] IN.out rfl (by omega) ?_; intro A1' c1' v3 HV3 hf3; clear hf3; have y30 : v3.cell? ⟨p, 0, none⟩ = some (.slice A1 n c1) := HV3.blk.cell 0; have y31 : v3.cell? ⟨p, 1, none⟩ = some (.slice A2 n c2) := HV3.blk.cell 1; have f30 : v3.frozen? ⟨p, 0, none⟩ = false := HV3.blk.frozen 0; have f31 : v3.frozen? ⟨p, 1, none⟩ = false := HV3.blk.frozen 1; replace HV3 := Lib.hid HV3)
      | (refine step_lk rfl (.tmp 13) (.tmp 14) rfl HV2.out rfl (some ⟨w.drew.heap.size + 1, 0, none⟩) [] IN.out rfl (by omega) ?_; intro A1' c1' v3 HV3 hf3; clear hf3; have y30 : v3.cell? ⟨p, 0, none⟩ = some (.slice A1 n c1) := HV3.blk.cell 0; have y31 : v3.cell? ⟨p, 1, none⟩ = some (.slice A2 n c2) := HV3.blk.cell 1; have f30 : v3.frozen? ⟨p, 0, none⟩ = false := HV3.blk.frozen 0; have f31 : v3.frozen? ⟨p, 1, none⟩ = false := HV3.blk.frozen 1; replace HV3 := Lib.hid HV3)
      | (refine step_lk rfl (.tmp 13) (.tmp 14) rfl (HV2.out.alloc (.cells #[.string ⟨([] : List UInt8).toArray⟩] 9)) rfl (some ⟨v2.heap.size, 0, none⟩) [] (str_lit v2 []) rfl (by omega) ?_; intro A1' c1' v3 HV3 hf3; clear hf3; have y30 : v3.cell? ⟨p, 0, none⟩ = some (.slice A1 n c1) := HV3.blk.cell 0; have y31 : v3.cell? ⟨p, 1, none⟩ = some (.slice A2 n c2) := HV3.blk.cell 1; have f30 : v3.frozen? ⟨p, 0, none⟩ = false := HV3.blk.frozen 0; have f31 : v3.frozen? ⟨p, 1, none⟩ = false := HV3.blk.frozen 1; replace HV3 := Lib.hid HV3))
    all_goals
      go_wp2_with fail
      go_meet
      exact ⟨_, rfl, A1', A2', c1', c2', by first | exact (HV3.out.set0 _).set1 _ | exact (HV3.out.set1 _).set0 _⟩
  case rest =>
  obtain ⟨w1, rfl, A1', A2', c1', c2', h1⟩ := hcut
  have hc1 : n + 1 ≤ c1' := h1.o1.cap.1
  have hc2 : n + 1 ≤ c2' := h1.o2.cap.1
  have hl1 : ks.length = n := by have := h1.o1.is.1; simp at this; omega
  have hl2 : ns.length = n := by have := h1.o2.is.1; simp at this; omega
  obtain ⟨g1, rfl⟩ := own_at stc_len h1.o1 (by omega)
  obtain ⟨g2, rfl⟩ := own_at inc_len h1.o2 (by omega)
  have hgg : g1 ≠ g2 := h1.d12 _ _ rfl rfl
  have HGG := Lib.hid hgg
  have HL := Lib.hid (And.intro hl1 hl2)
  have H1 := Lib.hid h1
  have hi1 : IntKind.i64.wrap ((i : Int) + 1) = (((i + 1 : Nat)) : Int) := by rw [IntWalk.i64_in _ (by omega)]; omega
  have hkd : n - i ≤ n + 1 - i := by omega
  clear h1 hgg hl1 hl2
  go_upto_region 2 with fail
  go_cut [] (fun wx => ∃ wy, wy = wx ∧ Lay2 w p A1 A2 (some ⟨g1, 0, none⟩) (n + 1) c1' ((ks ++ [[]]).take (i + 1) ++ ((ks ++ [[]]).drop i).take (n - i) ++ (ks ++ [[]]).drop (i + 1 + (n - i))) (some ⟨g2, 0, none⟩) (n + 1) c2' (ns ++ [0]) (.slice (some ⟨g1, 0, none⟩) (n + 1) c1') (.slice (some ⟨g2, 0, none⟩) (n + 1) c2') wx)
  case first =>
    obtain ⟨hX, _⟩ := cut1_x (f := stc) (g := g1) (c := c1') (show i + 1 ≤ n + 1 by omega) (by omega) stc_len
    obtain ⟨_, isY⟩ := cut1_x (f := stc) (g := g1) (c := c1') (show i ≤ n + 1 by omega) (by omega) stc_len
    obtain ⟨wd, hwd⟩ : ∃ wd, wd = w1.drew := ⟨_, rfl⟩
    have HD := Lib.hid (show Lay2 w p A1 A2 _ _ _ _ _ _ _ _ _ _ wd by rw [hwd]; exact H1.out.below (below_dr w1))
    have HY := isY _ _ HD.out.o1.is
    have eX : n + 1 - (i + 1) = n - i := by omega
    rw [eX] at hX
    obtain ⟨X, eqX⟩ : ∃ X, (if c1' = i + 1 then some (⟨g1, 0, none⟩ : Addr) else some ⟨g1, i + 1, none⟩) = X := ⟨_, rfl⟩
    obtain ⟨Y, eqY⟩ : ∃ Y, (if c1' = i then some (⟨g1, 0, none⟩ : Addr) else some ⟨g1, i, none⟩) = Y := ⟨_, rfl⟩
    rw [eqX] at hX
    rw [eqY] at HY
    have HX := Lib.hid hX
    replace HY := Lib.hid (HY.take stc_len hkd)
    have q0 : wd.cell? ⟨p, 0, none⟩ = some (.slice (some ⟨g1, 0, none⟩) (n + 1) c1') := HD.out.blk.cell 0
    have i0 : (0 : Int) ≤ (i : Int) + 1 := by omega
    have i2 : (i : Int) ≤ (n : Int) + 1 := by omega
    subst hwd
    clear hX isY eX
    go_region_law (refine step_copy1 rfl (.tmp 32) (.tmp 38) 23 rfl (by kernel_rfl) (by kernel_rfl) stc_len stc_one X Y (n - i) (n + 1 - i) (c1' - (i + 1)) (c1' - i) rfl rfl hkd 0 (some ⟨g1, 0, none⟩) (n + 1) c1' (i + 1) (ks ++ [[]]) _ HD.out.o1 HX.out (by omega) HY.out ?_; intro w5 hO hF; have H5 := Lib.hid (HD.out.app1 hO hF (.inl rfl)); clear hO hF)
    all_goals
      go_wp2_with fail
      go_meet
      exact ⟨_, rfl, H5.out⟩
  case rest =>
  obtain ⟨w2, rfl, h1⟩ := hcut
  have H2 := Lib.hid h1
  clear h1 H1
  go_upto_region 3 with fail
  go_cut [] (fun wx => ∃ wy, wy = wx ∧ Lay2 w p A1 A2 (some ⟨g1, 0, none⟩) (n + 1) c1' ((ks ++ [[]]).take (i + 1) ++ ((ks ++ [[]]).drop i).take (n - i) ++ (ks ++ [[]]).drop (i + 1 + (n - i))) (some ⟨g2, 0, none⟩) (n + 1) c2' ((ns ++ [0]).take (i + 1) ++ ((ns ++ [0]).drop i).take (n - i) ++ (ns ++ [0]).drop (i + 1 + (n - i))) (.slice (some ⟨g1, 0, none⟩) (n + 1) c1') (.slice (some ⟨g2, 0, none⟩) (n + 1) c2') wx)
  case first =>
    have H1 := H2
    obtain ⟨hX, _⟩ := cut1_x (f := inc) (g := g2) (c := c2') (show i + 1 ≤ n + 1 by omega) (by omega) inc_len
    obtain ⟨_, isY⟩ := cut1_x (f := inc) (g := g2) (c := c2') (show i ≤ n + 1 by omega) (by omega) inc_len
    obtain ⟨wd, hwd⟩ : ∃ wd, wd = w2.drew := ⟨_, rfl⟩
    have HD := Lib.hid (show Lay2 w p A1 A2 _ _ _ _ _ _ _ _ _ _ wd by rw [hwd]; exact H1.out.below (below_dr w2))
    have HY := isY _ _ HD.out.o2.is
    have eX : n + 1 - (i + 1) = n - i := by omega
    rw [eX] at hX
    obtain ⟨X, eqX⟩ : ∃ X, (if c2' = i + 1 then some (⟨g2, 0, none⟩ : Addr) else some ⟨g2, i + 1, none⟩) = X := ⟨_, rfl⟩
    obtain ⟨Y, eqY⟩ : ∃ Y, (if c2' = i then some (⟨g2, 0, none⟩ : Addr) else some ⟨g2, i, none⟩) = Y := ⟨_, rfl⟩
    rw [eqX] at hX
    rw [eqY] at HY
    have HX := Lib.hid hX
    replace HY := Lib.hid (HY.take inc_len hkd)
    have q0 : wd.cell? ⟨p, 1, none⟩ = some (.slice (some ⟨g2, 0, none⟩) (n + 1) c2') := HD.out.blk.cell 1
    have i0 : (0 : Int) ≤ (i : Int) + 1 := by omega
    have i2 : (i : Int) ≤ (n : Int) + 1 := by omega
    subst hwd
    clear hX isY eX
    go_region_law (refine step_copy1 rfl (.tmp 46) (.tmp 52) 61 rfl (by kernel_rfl) (by kernel_rfl) inc_len inc_one X Y (n - i) (n + 1 - i) (c2' - (i + 1)) (c2' - i) rfl rfl hkd 0 (some ⟨g2, 0, none⟩) (n + 1) c2' (i + 1) (ns ++ [0]) _ HD.out.o2 HX.out (by omega) HY.out ?_; intro w5 hO hF; have H5 := Lib.hid (HD.out.app2 hO hF (.inl rfl)); clear hO hF)
    all_goals
      go_wp2_with fail
      go_meet
      exact ⟨_, rfl, H5.out⟩
  case rest =>
  obtain ⟨w3, rfl, h1⟩ := hcut
  obtain ⟨hl1, hl2⟩ := HL.out
  have H3 := Lib.hid h1
  have hin : i < n + 1 := by omega
  obtain ⟨wd, hwd⟩ : ∃ wd, wd = w3.drew := ⟨_, rfl⟩
  have HD := Lib.hid (show Lay2 w p A1 A2 _ _ _ _ _ _ _ _ _ _ wd by rw [hwd]; exact h1.below (below_dr w3))
  have HS1 := Lib.hid (HD.out.store1 hin s)
  have HS2 := Lib.hid (HD.out.store2 hin at_)
  have HS12 := Lib.hid (HS1.out.store2 hin at_)
  have HS21 := Lib.hid (HS2.out.store1 hin s)
  have q0 : wd.cell? ⟨p, 0, none⟩ = some (.slice (some ⟨g1, 0, none⟩) (n + 1) c1') := HD.out.blk.cell 0
  have q1 : wd.cell? ⟨p, 1, none⟩ = some (.slice (some ⟨g2, 0, none⟩) (n + 1) c2') := HD.out.blk.cell 1
  obtain ⟨⟨r0, r1⟩, r2, _⟩ := own_store stc_len HD.out.o1 hin s _ rfl
  obtain ⟨⟨r3, r4⟩, r5, _⟩ := own_store inc_len HD.out.o2 hin at_ _ rfl
  obtain ⟨⟨t3, t4⟩, t5, _⟩ := own_store inc_len HS1.out.o2 hin at_ _ rfl
  obtain ⟨⟨t0, t1⟩, t2, _⟩ := own_store stc_len HS2.out.o1 hin s _ rfl
  have j0 : (0 : Int) ≤ (i : Int) := by omega
  have j1 : (i : Int) < (n : Int) + 1 := by omega
  subst hwd
  clear h1 hl1 hl2
  have t6 : (w3.setCell ⟨g1, i, none⟩ (.string ⟨s.toArray⟩)).cell? ⟨g2, i, none⟩ = some t3 := t4
  have t7 : (w3.setCell ⟨g1, i, none⟩ (.string ⟨s.toArray⟩)).frozen? ⟨g2, i, none⟩ = false := t5
  have t8 : (w3.setCell ⟨g2, i, none⟩ (.int .i64 (at_ : Int))).cell? ⟨g1, i, none⟩ = some t0 := t1
  have t9 : (w3.setCell ⟨g2, i, none⟩ (.int .i64 (at_ : Int))).frozen? ⟨g1, i, none⟩ = false := t2
  go_wp2_with fail
  go_region_law (fail)
  all_goals
    go_wp2_with fail
    go_end0
    refine ⟨rfl, some ⟨g1, 0, none⟩, some ⟨g2, 0, none⟩, c1', c2', ?_⟩
    obtain ⟨hl1, hl2⟩ := HL.out
    have z1 := lay_list ks [] s i (by omega)
    have z2 := lay_list ns 0 at_ i (by omega)
    rw [hl1] at z1
    rw [hl2] at z2
    rw [← z1, ← z2]
    exact HS12.out
end Go.Proofs.YtfoifdoaleaekaaGreat
