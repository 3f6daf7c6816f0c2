/-
  Package accordionref28: a part is inserted in order.
-/
import Derived.Test.YtejalfjeihlpeaaGreatQRvA
import Derived.Deep.RegionLaw
namespace Go.Proofs.YtejalfjeihlpeaaGreat
open Go.RowKit Go.Acc
theorem ins_at (x : P3) : ∀ (L : List P3) (k : Nat), k ≤ L.length → (∀ j y, j < k → L[j]? = some y → LtP y x) → (∀ y, L[k]? = some y → ¬ LtP y x ∧ y ≠ x) → insP x L = L.take k ++ [x] ++ L.drop k
  | [], k, hk, _, _ => by
    obtain rfl : k = 0 := by simpa using hk
    rfl
  | y :: L, 0, _, _, h => by
    obtain ⟨h1, h2⟩ := h y rfl
    simp [insP, h1, h2]
  | y :: L, k + 1, hk, h, h' => by
    have hy : LtP y x := h 0 y (by omega) rfl
    have ih := ins_at x L k (by simpa using hk) (fun j z hj hz => h (j + 1) z (by omega) (by simpa using hz)) (fun z hz => h' z (by simpa using hz))
    simp [insP, hy, ih]
theorem ins_same (x : P3) : ∀ (L : List P3) (k : Nat), (∀ j y, j < k → L[j]? = some y → LtP y x) → L[k]? = some x → insP x L = L
  | [], k, _, h => by simp at h
  | y :: L, 0, _, h => by
    obtain rfl : y = x := by simpa using h
    simp [insP, ltp_irrefl]
  | y :: L, k + 1, h, h' => by
    have hy : LtP y x := h 0 y (by omega) rfl
    have ih := ins_same x L k (fun j z hj hz => h (j + 1) z (by omega) (by simpa using hz)) (by simpa using h')
    simp [insP, hy, ih]
theorem tell_sort (s : CvS) (a b c : Int) (h : a < b) : cvSort (s.tell a b c).out = insP (a, b, c) (cvSort s.out) := by
  unfold CvS.tell
  rw [if_pos h]
  exact cvSort_append _ _
theorem cutp_to (A : Option Addr) (n c M : Nat) (h : M ≤ c) (w : World) : (Instr.sliceAt 24 (.slice A n c) none (some (.int .i64 M)) none).run Tryz.prog w = .ok (.slice A M c) w := by
  have ht : Tryz.prog.underlying 24 = some (.slice (Tryz.prog.elem 24)) := by kernel_rfl
  have hz : (sizeOf (Tryz.prog.elem 24)).run Tryz.prog w = .ok 3 w := by kernel_rfl
  rw [run_sliceAt_slice (h := ht), run_slice_h (ht := ht) (h0 := by omega) (h2 := by omega), hz]
  simp [Result.andThen, sliced]
  intro _
  cases A <;> simp [Addr.add]
theorem cutp_from (A : Option Addr) (n c lo : Nat) (h1 : lo ≤ n) (hc : n ≤ c) : ∃ X, (∀ w, (Instr.sliceAt 24 (.slice A n c) (some (.int .i64 lo)) none none).run Tryz.prog w = .ok (.slice X (n - lo) (c - lo)) w) ∧
    ∀ w l, IsP w A n l → IsP w X (n - lo) (l.drop lo) := by
  refine ⟨if c = lo then A else A.map (·.add (lo * 3)), fun w => ?_, fun w l h => ?_⟩
  · have ht : Tryz.prog.underlying 24 = some (.slice (Tryz.prog.elem 24)) := by kernel_rfl
    have hz : (sizeOf (Tryz.prog.elem 24)).run Tryz.prog w = .ok 3 w := by kernel_rfl
    rw [run_sliceAt_slice (h := ht), run_slice_l (ht := ht) (h0 := by omega) (h1 := by omega), hz]
    simp [Result.andThen, sliced]
  · split
    · rename_i e
      exact h.cut0 e hc
    · exact h.cut1 pc_len
theorem step_appP {ops : Array Oper} {o : Oper} {a : Act} {w : World} {K : Act → World → Prop} {Q : Exit → Act → World → Prop} {E : Prop} (hgd : o.guard = none) (s x : Operand)
    (ho : o.op = .call { callee := .builtin .append, args := #[s, x], argTypes := #[24, 24] })
    (B : Nat) (A : Option Addr) (n c : Nat) (l : List P3) (hs : a.eval s = .slice A n c) (hown : OwnP w B A n c l)
    (A2 : Option Addr) (m d : Nat) (l2 : List P3) (hx : a.eval x = .slice A2 m d) (hr : IsP w A2 m l2)
    (hbytes : n + m ≤ 1099511627776) (hbase : B ≤ w.heap.size)
    (h : ∀ A' c' w', OwnP w' B A' (n + m) c' (l ++ l2) → Fr (fun k => ∃ ad, A = some ad ∧ k = ad.block) w w' → K (a.put o.dst (.slice A' (n + m) c')) w') :
    if Region.wanted o (yielded ops a.tmps) = true then Oper.wp Tryz.prog o a w K Q else E := by
  have hw : Region.wanted o (yielded ops a.tmps) = true := by simp [Region.wanted, hgd]
  rw [if_pos hw]
  obtain ⟨i, hi', hz, hsize, hby⟩ := info_parts info_p
  have e2 : n + m ≤ maxLen := by simp only [maxLen]; omega
  obtain ⟨v', w', hrun, h2, h3, _⟩ := run_append_rd (P := Tryz.prog) w B 24 o.type 57 i _ 3 24 Tryz.underlying24 hi' hz hsize hby rfl (by omega) (.slice A n c) n (l.flatMap pc) hown.2 A2 m d (l2.flatMap pc) (by rw [fm_length pc_len, hr.1]) hr.2 (fm_one pc_one l2) e2 (by omega) hbase
  obtain ⟨A', c', rfl, ho'⟩ := Own.mk pc_len (by omega) (l := l ++ l2) h2 List.flatMap_append.symm
  have hk := h A' c' w' ho' ((Fr.of_grown h3).mono fun i _ hi => by
    cases A with
    | none => simp [Value.ownBlock] at hi
    | some ad => simp [Value.ownBlock] at hi; exact ⟨ad, rfl, hi⟩)
  clear h ho' h2 h3
  unfold Oper.wp
  simp only [execOp, ho, resolve, invoke, builtin, Sem.run_bind, Sem.run_pure, Result.andThen_ok, List.map_toArray, List.map_cons, List.map_nil, hs, hx, hrun]
  exact hk
end Go.Proofs.YtejalfjeihlpeaaGreat
