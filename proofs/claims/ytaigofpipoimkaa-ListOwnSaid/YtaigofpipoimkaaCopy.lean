/-
  The builtin copy of bytes into a row of the call's own, as a step of a region; reading a pair of byte slices.
-/
import Derived.Test.YtaigofpipoimkaaAgree
import Derived.Test.YtaigofpipoimkaaLeI
import Derived.Test.YtaigofpipoimkaaRefRow
import Derived.Test.YtaigofpipoimkaaCut
import Derived.Laws.CopyOwn
namespace Go.Proofs.Ytaigofpipoimkaa
open Go.RowKit Go.Acc
theorem info_b1 : (Try.prog.info? 5).map (·.size) = some 1 := by kernel_rfl
theorem seg_splice (cur : Array Value) (off : Nat) (vs : List Value) (h : off + vs.length ≤ cur.size) : Seg cur off vs vs.length (cur.toList.take off ++ vs ++ cur.toList.drop (off + vs.length)).toArray := by
  refine ⟨by simp; omega, fun j => ?_⟩
  rw [List.getElem?_toArray]
  by_cases c1 : j < off
  · rw [if_neg (by omega), List.append_assoc, List.getElem?_append_left (by simp; omega), List.getElem?_take, if_pos c1, Array.getElem?_toList]
  · by_cases c2 : j < off + vs.length
    · rw [if_pos (by omega), List.append_assoc, List.getElem?_append_right (by simp; omega), List.getElem?_append_left (by simp; omega)]
      congr 1
      simp; omega
    · rw [if_neg (by omega), List.getElem?_append_right (by simp; omega), List.getElem?_drop, Array.getElem?_toList]
      congr 1
      simp; omega
theorem step_copyB {ops : Array Oper} {o : Oper} {a : Act} {w : World} {K : Act → World → Prop} {Q : Exit → Act → World → Prop} {E : Prop} (hgd : o.guard = none) (d s : Operand)
    (ho : o.op = .call { callee := .builtin .copy, args := #[d, s], argTypes := #[25, 25] })
    (X Y : Option Addr) (k cd cs : Nat) (hd : a.eval d = .slice X k cd) (hs : a.eval s = .slice Y k cs)
    (B : Nat) (A : Option Addr) (n c off : Nat) (m src : List UInt8) (hown : OwnB w B A n c m) (hX : 0 < k → X = A.map (·.add off)) (hoff : off + k ≤ n) (hsrc : IsB w Y k src)
    (h : ∀ w', OwnB w' B A n c (m.take off ++ src ++ m.drop (off + k)) → Fr (fun j => ∃ ad, A = some ad ∧ j = ad.block) w w' → K (a.put o.dst (.int .i64 k)) w') :
    if Region.wanted o (yielded ops a.tmps) = true then Oper.wp Try.prog o a w K Q else E := by
  have hw : Region.wanted o (yielded ops a.tmps) = true := by simp [Region.wanted, hgd]
  rw [if_pos hw]
  have hlen := hsrc.1
  by_cases h0 : k = 0
  · subst h0
    have hrun := run_copy_none (P := Try.prog) w 25 25 o.type 5 X Y 0 cd 0 cs Try.underlying25 info_b1 (by rfl)
    obtain rfl : src = [] := List.eq_nil_of_length_eq_zero hlen
    have hk := h w (by simpa using hown) (Fr.refl _ _)
    clear h
    unfold Oper.wp
    simp [execOp, ho, resolve, invoke, builtin, hd, hs, hrun, Result.andThen]
    exact hk
  · have hX := hX (by omega)
    obtain ⟨sb, so, rfl, _⟩ := isb_at hsrc (k := 0) (by omega)
    cases A with
    | none =>
      have := hown.is.none_ bc_len (by omega)
      omega
    | some ad =>
      obtain ⟨had, hge, hlt⟩ := hown.addr ad rfl
      obtain ⟨g, rfl⟩ : ∃ g, ad = ⟨g, 0, none⟩ := ⟨_, had⟩
      obtain ⟨cur, hK, hsz, hback⟩ := own_seg hown
      obtain rfl : X = some ⟨g, off, none⟩ := by rw [hX]; simp [add_none]
      have hl : (src.flatMap bc).length = k := by rw [fm_length bc_len, hlen, Nat.mul_one]
      have hrun := run_copy_row (P := Try.prog) w 25 25 o.type 5 g off k cd ⟨sb, so, none⟩ k cs cur 5 (src.flatMap bc) Try.underlying25 info_b1 hK (by rw [hl]; exact (Nat.min_self k).symm) hsrc.2.cells (by rw [hl]; omega) (fm_one bc_one src)
      rw [hl] at hrun
      have hS := seg_splice cur off (src.flatMap bc) (by rw [hl]; omega)
      rw [hl] at hS
      have hO := hback (w.setRow g (cur.toList.take off ++ src.flatMap bc ++ cur.toList.drop (off + k)).toArray) _ off k src (setRow_heap w g cur _ _ _ hK) hS hlen hoff
      have hk := h _ hO ⟨rfl, rfl, rfl, by simp [World.setRow], fun i _ hi => setRow_other w g i _ (by rintro rfl; exact hi ⟨_, rfl, rfl⟩)⟩
      clear h hback hO hS
      unfold Oper.wp
      simp only [execOp, ho, resolve, invoke, builtin, Sem.run_bind, Sem.run_pure, Result.andThen_ok, List.map_toArray, List.map_cons, List.map_nil, hd, hs, hrun]
      exact hk
theorem wpl_copyB {ops : Array Oper} {rest : List Oper} {o : Oper} {a : Act} {w : World} {Q : Exit → Act → World → Prop} (hgd : o.guard = none) (d s : Operand)
    (ho : o.op = .call { callee := .builtin .copy, args := #[d, s], argTypes := #[25, 25] })
    (X Y : Option Addr) (k cd cs : Nat) (hd : a.eval d = .slice X k cd) (hs : a.eval s = .slice Y k cs)
    (B : Nat) (A : Option Addr) (n c off : Nat) (m src : List UInt8) (hown : OwnB w B A n c m) (hX : 0 < k → X = A.map (·.add off)) (hoff : off + k ≤ n) (hsrc : IsB w Y k src)
    (h : ∀ w', OwnB w' B A n c (m.take off ++ src ++ m.drop (off + k)) → Fr (fun j => ∃ ad, A = some ad ∧ j = ad.block) w w' → wpList Try.prog ops Q rest (a.put o.dst (.int .i64 k)) w') :
    wpList Try.prog ops Q (o :: rest) a w := by
  have hw : Region.wanted o (yielded ops a.tmps) = true := by simp [Region.wanted, hgd]
  refine BigFrame.wpList_want hw fun K hK => ?_
  have := step_copyB (ops := ops) (K := K) (Q := Q) (E := False) hgd d s ho X Y k cd cs hd hs B A n c off m src hown hX hoff hsrc (fun w' h1 h2 => hK _ _ (h w' h1 h2))
  rw [if_pos hw] at this
  exact this
/-- b[lo:hi], its address under one name, known where the cut is not empty. -/
theorem cut_any2 (A : Option Addr) (n c lo hi : Nat) (h1 : lo ≤ hi) (h2 : hi ≤ n) (hc : n ≤ c) : ∃ X, (∀ w, (Instr.sliceAt 25 (.slice A n c) (some (.int .i64 lo)) (some (.int .i64 hi)) none).run Try.prog w = .ok (.slice X (hi - lo) (c - lo)) w) ∧
    (∀ w l, IsB w A n l → IsB w X (hi - lo) ((l.drop lo).take (hi - lo))) ∧ (0 < hi - lo → X = A.map (·.add lo)) := by
  refine ⟨if c = lo then A else A.map (·.add lo), fun w => ?_, fun w l h => ?_, fun h => ?_⟩
  · have ht : Try.prog.underlying 25 = some (.slice (Try.prog.elem 25)) := by kernel_rfl
    have hz : (sizeOf (Try.prog.elem 25)).run Try.prog w = .ok 1 w := by kernel_rfl
    rw [run_sliceAt_slice (h := ht), run_slice_lh (ht := ht) (h0 := by omega) (h1 := by omega) (h2 := by omega), hz]
    simp [Result.andThen, sliced]
  · split
    · have e : hi - lo = 0 := by omega
      rw [e, List.take_zero]
      exact Is.nil _ _
    · exact isb_part h (by omega)
  · rw [if_neg (by omega)]
/-- Two rows of the call's own, in two blocks. -/
def Two (B M : Nat) (l m : List UInt8) (u6 u7 : Value) (w : World) : Prop :=
  ∃ A c A' c', u6 = .slice A M c ∧ u7 = .slice A' M c' ∧ OwnB w B A M c l ∧ OwnB w B A' M c' m ∧ ∀ ad ad', A = some ad → A' = some ad' → ad.block ≠ ad'.block
theorem own_drew {w : World} {B n c : Nat} {A : Option Addr} {l : List UInt8} (h : OwnB w B A n c l) : OwnB w.drew B A n c l := h
theorem two_1 {w : World} {B M n n' c c' B1 B2 : Nat} {A A' : Option Addr} {l m : List UInt8} (h1 : OwnB w B1 A n c l) (h2 : OwnB w B2 A' n' c' m) (h : ∀ ad, A = some ad → ad.block < B2) (hl : l.length = M) (hm : m.length = M) (hB1 : B ≤ B1) (hB2 : B ≤ B2) : Two B M l m (.slice A n c) (.slice A' n' c') w := by
  obtain rfl : M = n := hl.symm.trans h1.1
  obtain rfl : M = n' := hm.symm.trans h2.1
  refine ⟨A, c, A', c', rfl, rfl, h1.rebase hB1, h2.rebase hB2, fun ad ad' e e' => ?_⟩
  have := h ad e
  have := (h2.addr ad' e').2.1
  omega
theorem two_2 {w : World} {B M n n' c c' B1 B2 : Nat} {A A' : Option Addr} {l m : List UInt8} (h1 : OwnB w B1 A n c l) (h2 : OwnB w B2 A' n' c' m) (h : ∀ ad, A' = some ad → ad.block < B1) (hl : l.length = M) (hm : m.length = M) (hB1 : B ≤ B1) (hB2 : B ≤ B2) : Two B M l m (.slice A n c) (.slice A' n' c') w := by
  obtain rfl : M = n := hl.symm.trans h1.1
  obtain rfl : M = n' := hm.symm.trans h2.1
  refine ⟨A, c, A', c', rfl, rfl, h1.rebase hB1, h2.rebase hB2, fun ad ad' e e' => ?_⟩
  have := h ad' e'
  have := (h1.addr ad e).2.1
  omega
open Go.ChangeShapes Go.WideShapes Go.ChangeAt
set_option maxRecDepth 100000 in
/-- An array of two slices of bytes. -/
theorem bytes2_arg {H : Type} {enc : TypeId × Value → H} {W : World} {base : Nat} {v : Value} {d : DataW H} {p : List MemPlace} (k : Value.okWide Try.prog W .any base 63 v) (h : DataW.Trod enc Try.prog W 0 (fun _ => true) true 63 v d p) :
    ∃ A n c l A' n' c' l', v = .agg #[.slice A n c, .slice A' n' c'] ∧ IsB W A n l ∧ n ≤ c ∧ IsB W A' n' l' ∧ n' ≤ c' := by
  simp only [Value.okWide, Try.underlying63] at k
  obtain ⟨cs, rfl, hcs, _⟩ := k
  have hC : Try.prog.cellsOf 63 = 2 := by kernel_rfl
  have hD : Try.prog.cellsOf 25 = 1 := by kernel_rfl
  rw [hC] at hcs
  obtain ⟨c0, c1, rfl⟩ : ∃ c0 c1 : Value, cs = #[c0, c1] := by
    match cs, hcs with
    | ⟨[c0, c1]⟩, _ => exact ⟨c0, c1, rfl⟩
  obtain ⟨f, hf⟩ := h
  obtain ⟨xs, m, rfl, _, _, hl, hat⟩ := DataW.trod_array Try.underlying63 hf
  have g0 : xs[0]? = some (xs[0]'(by omega)) := List.getElem?_eq_getElem _
  have g1 : xs[1]? = some (xs[1]'(by omega)) := List.getElem?_eq_getElem _
  generalize Try.prog.cellsOf 25 = k at hD hat
  subst hD
  have h0 : DataW.trod enc Try.prog W 0 (fun _ => true) true m 25 [c0] = some _ := (hat 0 (by omega)).trans g0
  have h1 : DataW.trod enc Try.prog W 0 (fun _ => true) true m 25 [c1] = some _ := (hat 1 (by omega)).trans g1
  obtain ⟨A, n, c, l, e0, i0, j0, _⟩ := bytes_read h0
  obtain ⟨A', n', c', l', e1, i1, j1, _⟩ := bytes_read h1
  subst e0 e1
  exact ⟨A, n, c, l, A', n', c', l', rfl, i0, j0, i1, j1⟩
end Go.Proofs.Ytaigofpipoimkaa
