/-
  slices.Compact at parts: the walk.
  Chapter 28 in plain terms: the list that is told, sorted and without duplicates, is what inserting one by one yields.
  Chapter 28 in plain terms: what a visit tells lies within the bytes.
-/
import Derived.Test.YtejalfjeihlpeaaGreatQ28
namespace Go.Proofs.YtejalfjeihlpeaaGreat
open Go.RowKit Go.Acc Go.Lib Go.Sort
theorem own_at3' {w : World} {B g n c k o : Nat} {d : Array P3} {a b e : Int} (h : OwnP w B (some ⟨g, 0, none⟩) n c d.toList) (hk : k < n) (hx : d[k]! = (a, b, e)) (ho : k * 3 = o) :
    w.cell? ⟨g, o, none⟩ = some (.int .i64 a) ∧ w.cell? ⟨g, o + 1, none⟩ = some (.int .i64 b) ∧ w.cell? ⟨g, o + 2, none⟩ = some (.int .i64 e) := by
  subst ho
  exact (own_at3 h hk hx).1
theorem own_fz3 {w : World} {B g n c : Nat} {d : Array P3} (h : OwnP w B (some ⟨g, 0, none⟩) n c d.toList) (k : Nat) (hk : k < n) :
    (w.frozen? ⟨g, k * 3, none⟩ = false ∧ w.frozen? ⟨g, k * 3 + 1, none⟩ = false ∧ w.frozen? ⟨g, k * 3 + 2, none⟩ = false) := by
  obtain ⟨⟨a, b, e⟩, hx⟩ : ∃ x, d[k]! = x := ⟨_, rfl⟩
  exact (own_at3 h hk hx).2
theorem compact_all_ (d : Array P3) (h : ∀ j, j < d.size → keeps d j = true) : compactUpTo d d.size = d.toList := by
  rw [compactUpTo_all d d.size h, range_map_get]
theorem compact_one (d : Array P3) (h : d.size < 2) : compactUpTo d d.size = d.toList := by
  rw [compactUpTo_all d d.size (fun j hj => keeps_lt_one d j (by omega)), range_map_get]
set_option maxRecDepth 100000 in
set_option maxHeartbeats 2000000 in
theorem compact_spec (B g n c : Nat) (d : Array P3) (w : World) (h : OwnP w B (some ⟨g, 0, none⟩) n c d.toList) (hn : n ≤ 2147483648) :
    Calls Tryz.prog 58 #[.slice (some ⟨g, 0, none⟩) n c] w fun e w' => ∃ k, k = (compactUpTo d d.size).length ∧ e = .returned (.slice (some ⟨g, 0, none⟩) k c) ∧ OwnP w' B (some ⟨g, 0, none⟩) k c (compactUpTo d d.size) ∧ Fr (fun k => k = g) w w' := by
  have hdn : d.size = n := by rw [← Array.length_toList]; exact h.1
  have hcap := h.cap.1
  by_cases h2 : n < 2
  · have hd2 : decide ((n : Int) < 2) = true := decide_eq_true (by omega)
    have HO := Lib.hid h
    have HD := Lib.hid hdn
    have HC := Lib.hid (compact_one d (by omega))
    clear h hdn
    go_enter Tryz.func58, Tryz.ntmps58
    go_wp2
    go_ret
    refine ⟨n, ?_, rfl, ?_, Fr.refl _ _⟩
    · rw [HC.out, Array.length_toList, HD.out]
    · rw [HC.out]; exact HO.out
  · have hd2 : decide ((n : Int) < 2) = false := decide_eq_false (by omega)
    have HO := Lib.hid h
    have HD := Lib.hid hdn
    clear h hdn
    go_enter Tryz.func58, Tryz.ntmps58
    go_wp2
    go_loopg [3] n (fun gg s3 wr => ∃ k : Nat, 1 ≤ k ∧ k ≤ n ∧ n - k ≤ gg ∧ s3 = .int .i64 k ∧ OwnP wr B (some ⟨g, 0, none⟩) n c d.toList ∧ Fr (fun k => k = g) w wr ∧ ∀ j, j < k → keeps d j = true)
    case atStart => exact ⟨1, Nat.le_refl _, by omega, by omega, rfl, HO.out, Fr.refl _ _, keeps_lt_one d⟩
    case round =>
      obtain ⟨k, hk1, hk, hg, rfl, hO, hF, hall⟩ := hrel
      obtain ⟨j, rfl⟩ : ∃ j, k = j + 1 := ⟨k - 1, by omega⟩
      by_cases hlt : j + 1 < n
      · obtain ⟨⟨x0, x1, x2⟩, hx⟩ : ∃ x, d[j + 1]! = x := ⟨_, rfl⟩
        obtain ⟨⟨y0, y1, y2⟩, hy⟩ : ∃ x, d[j]! = x := ⟨_, rfl⟩
        have A := Lib.hid hall
        have HX := Lib.hid hx
        have HY := Lib.hid hy
        have HO1 := Lib.hid hO
        have HF1 := Lib.hid hF
        clear hall hx hy hO hF HO
        obtain ⟨⟨a0, a1, a2⟩, _⟩ := own_at3 HO1.out hlt HX.out
        obtain ⟨⟨b0, b1, b2⟩, _⟩ := own_at3 HO1.out (show j < n by omega) HY.out
        have hw1 : IntKind.i64.wrap (j : Int) = (j : Int) := IntWalk.i64_in _ (by omega)
        have hi0 : 0 ≤ (j : Int) + 1 := by omega
        have hi1 : (j : Int) + 1 < (n : Int) := by omega
        have hi2 : ((j : Int) + 1).toNat = j + 1 := by omega
        have hj1 : j < n := by omega
        have hw2 : IntKind.i64.wrap ((j : Int) + 1 + 1) = (j : Int) + 1 + 1 := IntWalk.i64_in _ (by omega)
        by_cases hxy : (x0, x1, x2) = (y0, y1, y2)
        · have heq := part_eql (x0, x1, x2) (y0, y1, y2) true (decide_eq_true hxy)
          have HEQ := Lib.hid hxy
          have ht := tail_run g n c (j + 1) hlt hcap
          simp only [Int.natCast_add, Int.cast_ofNat_Int] at ht
          clear hxy
          go_wp2_with fail
          go_quiet (fail)
          go_wp2_with fail
          have HO2 := Lib.hid (HO1.out.pure (below_drewN (Below.refl _ _) nq))
          have HF2 := Lib.hid (HF1.out.drewN nq)
          have hci : CompInv d (j + 1 + 1) (j + 1) d := CompInv.start A.out (keeps_neg (by omega) (by rw [Nat.add_sub_cancel, HX.out, HY.out]; exact HEQ.out))
          have HCI := Lib.hid hci
          generalize wr.drewN nq = wa at HO2 HF2 ⊢
          clear a0 a1 a2 b0 b1 b2 hci heq hw1 hi0 hi1 hi2 hw2
          go_loopg [3, 5] n (fun gg s3 s5 wr => ∃ (m k : Nat) (dk : Array P3), j + 1 + (m + 1) ≤ n ∧ n - m ≤ gg ∧ s3 = .int .i64 k ∧ s5 = .int .i64 ((m : Int) + 1) ∧ CompInv d (j + 1 + (m + 1)) k dk ∧ OwnP wr B (some ⟨g, 0, none⟩) n c dk.toList ∧ Fr (fun k => k = g) w wr)
          case atStart => exact ⟨0, j + 1, d, by omega, by omega, by go_num, by go_num, HCI.out, HO2.out, HF2.out⟩
          case round =>
            clear HCI HO2 HF2
            obtain ⟨m, k, dk, hm, hg3, rfl, rfl, hci, hO, hF⟩ := hrel
            have HO2 := Lib.hid hO
            have HF2 := Lib.hid hF
            have hklt := hci.lt
            have HCI := Lib.hid hci
            clear hO hF hci
            by_cases hlt2 : j + 1 + (m + 1) < n
            · obtain ⟨⟨p0, p1, p2⟩, hp⟩ : ∃ x, d[j + 1 + (m + 1)]! = x := ⟨_, rfl⟩
              obtain ⟨⟨q0, q1, q2⟩, hq⟩ : ∃ x, d[j + 1 + m]! = x := ⟨_, rfl⟩
              obtain ⟨a0, a1, a2⟩ := own_at3' HO2.out hlt2 ((HCI.out.high _ (by omega)).trans hp) (show (j + 1 + (m + 1)) * 3 = (j + 1) * 3 + (m + 1) * 3 by omega)
              obtain ⟨b0, b1, b2⟩ := own_at3' HO2.out (show j + 1 + m < n by omega) ((HCI.out.high _ (by omega)).trans hq) (show (j + 1 + m) * 3 = (j + 1) * 3 + m * 3 by omega)
              obtain ⟨⟨r0, r1, r2⟩, hr⟩ : ∃ x, dk[k]! = x := ⟨_, rfl⟩
              obtain ⟨c0, c1, c2⟩ := own_at3' HO2.out (show k < n by omega) hr rfl
              obtain ⟨z0, z1, z2⟩ := own_fz3 HO2.out k (by omega)
              clear hr
              have HP := Lib.hid hp
              have HQ := Lib.hid hq
              clear hp hq
              have hw1 : IntKind.i64.wrap (m : Int) = (m : Int) := IntWalk.i64_in _ (by omega)
              have hi0 : 0 ≤ (m : Int) + 1 := by omega
              have hi1 : (m : Int) + 1 < ((n - (j + 1) : Nat) : Int) := by omega
              have hi2 : ((m : Int) + 1).toNat = m + 1 := by omega
              have hj1 : m < n - (j + 1) := by omega
              have hk1 : k < n := by omega
              have hw2 : IntKind.i64.wrap ((m : Int) + 1 + 1) = (m : Int) + 1 + 1 := IntWalk.i64_in _ (by omega)
              have hw3 : IntKind.i64.wrap ((k : Int) + 1) = (k : Int) + 1 := IntWalk.i64_in _ (by omega)
              by_cases hpq : (p0, p1, p2) = (q0, q1, q2)
              · have heq := part_neq (p0, p1, p2) (q0, q1, q2) false (by rw [decide_eq_true hpq]; rfl)
                have HPQ := Lib.hid hpq
                clear hpq
                go_wp2_with fail
                go_quiet (fail)
                go_wp2_with fail
                go_roundg (n - (m + 1))
                case measure => omega
                case rel =>
                  refine ⟨m + 1, k, dk, by omega, by omega, by go_num, by go_num, ?_, HO2.out.pure (below_drewN (Below.refl _ _) _), HF2.out.drewN _⟩
                  exact HCI.out.skip (keeps_neg (by omega) (by rw [HP.out, show j + 1 + (m + 1) - 1 = j + 1 + m by omega, HQ.out]; exact HPQ.out))
              · have heq := part_neq (p0, p1, p2) (q0, q1, q2) true (by rw [decide_eq_false hpq]; rfl)
                have HPQ := Lib.hid hpq
                clear hpq
                go_wp2_with fail
                go_quiet (fail)
                go_wp2_with fail
                have HS := Lib.hid (own_set3 (HO2.out.pure (below_drewN (Below.refl _ _) nq)) hk1 p0 p1 p2)
                have hf : Fr (fun k => k = g) w ((((wr.drewN nq).setCell ⟨g, k * 3, none⟩ (.int .i64 p0)).setCell ⟨g, k * 3 + 1, none⟩ (.int .i64 p1)).setCell ⟨g, k * 3 + 2, none⟩ (.int .i64 p2)) := (((HF2.out.drewN nq).setCell (fun _ => rfl) _).setCell (fun _ => rfl) _).setCell (fun _ => rfl) _
                have HFS := Lib.hid hf
                clear hf
                go_roundg (n - (m + 1))
                case measure => omega
                case rel =>
                  refine ⟨m + 1, k + 1, dk.setIfInBounds k (p0, p1, p2), by omega, by omega, by go_num, by go_num, ?_, HS.out, HFS.out⟩
                  have := HCI.out.keep (by rw [HD.out]; omega) (keeps_pos (by rw [HP.out, show j + 1 + (m + 1) - 1 = j + 1 + m by omega, HQ.out]; exact HPQ.out))
                  rw [HP.out] at this
                  exact this
            · have hj2 : j + 1 + (m + 1) = n := by omega
              have hkn : k < n := by omega
              have ht2 := tail_run g n c k hkn hcap
              have hh2 := head_run g n c k (by omega)
              have hz : ∀ W : World, (zeroValue 57).run Tryz.prog W = .ok (.agg #[.int .i64 0, .int .i64 0, .int .i64 0]) W := by intro W; go_simp
              obtain ⟨w', hcl, hO', hF'⟩ := run_clear_own (P := Tryz.prog) (sz := 3) 24 0 (.agg #[.int .i64 0, .int .i64 0, .int .i64 0]) Tryz.underlying24 hz rfl (by decide) pc_len HO2.out k (c - k) hkn
              have HOC := Lib.hid hO'
              have HFC := Lib.hid (HF2.out.trans hF' (fun _ _ h => h))
              have hlk : (compactUpTo d d.size).length = k := by rw [HD.out, ← hj2]; exact HCI.out.len
              have hlow : compactUpTo d d.size = dk.toList.take k := by
                have hsz : dk.size = n := by rw [HCI.out.size, HD.out]
                apply List.ext_getElem?
                intro i
                by_cases hi : i < k
                · have h1 := HCI.out.low i hi
                  rw [hj2, ← HD.out] at h1
                  rw [h1, List.getElem?_take_of_lt hi, getElem!_pos dk i (by omega)]
                  simp
                · rw [List.getElem?_eq_none (by omega), List.getElem?_eq_none (by rw [List.length_take]; omega)]
              have HL := Lib.hid hlow
              have HLK := Lib.hid hlk
              clear hO' hF' hz hlk hlow hj2
              go_wp2_with fail
              go_ret
              refine ⟨k, HLK.out.symm, rfl, ?_, HFC.out⟩
              rw [HL.out]
              exact HOC.out
        · have heq := part_eql (x0, x1, x2) (y0, y1, y2) false (decide_eq_false hxy)
          have HNE := Lib.hid hxy
          clear hxy
          go_wp2_with fail
          go_quiet (fail)
          go_wp2_with fail
          go_roundg (n - (j + 2))
          case measure => omega
          case rel =>
            refine ⟨j + 2, by omega, by omega, by omega, by go_num, HO1.out.pure (below_drewN (Below.refl _ _) _), HF1.out.drewN _, ?_⟩
            intro i hi
            by_cases e : i = j + 1
            · subst e
              exact keeps_pos (by rw [Nat.add_sub_cancel, HX.out, HY.out]; exact HNE.out)
            · exact A.out i (by omega)
      · obtain rfl : n = j + 1 := by omega
        have HA := Lib.hid hall
        clear hall
        have HO1 := Lib.hid hO
        have HF1 := Lib.hid hF
        clear hO hF
        go_wp2_with fail
        go_ret
        refine ⟨j + 1, ?_, rfl, ?_, HF1.out⟩
        · rw [compact_all_ d (by rw [HD.out]; exact HA.out), Array.length_toList, HD.out]
        · rw [compact_all_ d (by rw [HD.out]; exact HA.out)]; exact HO1.out
end Go.Proofs.YtejalfjeihlpeaaGreat

namespace Go.Proofs.YtejalfjeihlpeaaGreat
open Go.RowKit Go.Acc Go.Lib Go.Sort
theorem ltp_irrefl (x : P3) : ¬ LtP x x := by unfold LtP; omega
theorem ltp_trans {x y z : P3} (h1 : LtP x y) (h2 : LtP y z) : LtP x z := by unfold LtP at *; omega
theorem ltp_total (x y : P3) : LtP x y ∨ x = y ∨ LtP y x := by
  obtain ⟨a, b, c⟩ := x
  obtain ⟨a', b', c'⟩ := y
  unfold LtP
  simp only [Prod.mk.injEq]
  omega
/-- Inserted in order, unless it is there. -/
def insP (x : P3) : List P3 → List P3
  | [] => [x]
  | y :: l => if LtP y x then y :: insP x l else if y = x then y :: l else x :: y :: l
def cvSort (l : List P3) : List P3 := l.foldl (fun m x => insP x m) []
abbrev SortedP (l : List P3) : Prop := l.Pairwise LtP
theorem mem_insP (x y : P3) : ∀ l, y ∈ insP x l ↔ y = x ∨ y ∈ l
  | [] => by simp [insP]
  | z :: l => by
    unfold insP
    split
    · rw [List.mem_cons, mem_insP x y l, List.mem_cons]
      constructor
      · rintro (h | h | h)
        · exact .inr (.inl h)
        · exact .inl h
        · exact .inr (.inr h)
      · rintro (h | h | h)
        · exact .inr (.inl h)
        · exact .inl h
        · exact .inr (.inr h)
    · split
      · rename_i h
        subst h
        simp
      · simp
theorem sorted_insP (x : P3) : ∀ l, SortedP l → SortedP (insP x l)
  | [], _ => by simp [insP]
  | y :: l, h => by
    have h' := List.pairwise_cons.1 h
    unfold insP
    split
    · rename_i hyx
      refine List.pairwise_cons.2 ⟨fun z hz => ?_, sorted_insP x l h'.2⟩
      rcases (mem_insP x z l).1 hz with rfl | hz
      · exact hyx
      · exact h'.1 z hz
    · split
      · exact h
      · rename_i h1 h2
        have hxy : LtP x y := by
          rcases ltp_total x y with h | h | h
          · exact h
          · exact absurd h.symm h2
          · exact absurd h h1
        refine List.pairwise_cons.2 ⟨fun z hz => ?_, h⟩
        rcases List.mem_cons.1 hz with rfl | hz
        · exact hxy
        · exact ltp_trans hxy (h'.1 z hz)
theorem cvSort_append (l : List P3) (x : P3) : cvSort (l ++ [x]) = insP x (cvSort l) := by simp [cvSort]
theorem sorted_fold : ∀ (l m : List P3), SortedP m → SortedP (l.foldl (fun m x => insP x m) m)
  | [], _, h => h
  | x :: l, m, h => sorted_fold l (insP x m) (sorted_insP x m h)
theorem mem_fold (y : P3) : ∀ (l m : List P3), y ∈ l.foldl (fun m x => insP x m) m ↔ y ∈ m ∨ y ∈ l
  | [], m => by simp
  | x :: l, m => by
    rw [List.foldl_cons, mem_fold y l, mem_insP, List.mem_cons]
    constructor
    · rintro ((h | h) | h)
      · exact .inr (.inl h)
      · exact .inl h
      · exact .inr (.inr h)
    · rintro (h | h | h)
      · exact .inl (.inr h)
      · exact .inl (.inl h)
      · exact .inr h
theorem sorted_cvSort (l : List P3) : SortedP (cvSort l) := sorted_fold l [] List.Pairwise.nil
theorem mem_cvSort (y : P3) (l : List P3) : y ∈ cvSort l ↔ y ∈ l := by rw [cvSort, mem_fold]; simp
theorem sorted_ext : ∀ (l m : List P3), SortedP l → SortedP m → (∀ x, x ∈ l ↔ x ∈ m) → l = m
  | [], [], _, _, _ => rfl
  | [], y :: m, _, _, h => by have := (h y).2 (by simp); simp at this
  | x :: l, [], _, _, h => by have := (h x).1 (by simp); simp at this
  | x :: l, y :: m, hl, hm, h => by
    have hl' := List.pairwise_cons.1 hl
    have hm' := List.pairwise_cons.1 hm
    have hxy : x = y := by
      rcases List.mem_cons.1 ((h x).1 (by simp)) with e | e
      · exact e
      · rcases List.mem_cons.1 ((h y).2 (by simp)) with e' | e'
        · exact e'.symm
        · exact absurd (ltp_trans (hl'.1 y e') (hm'.1 x e)) (ltp_irrefl x)
    subst hxy
    congr 1
    refine sorted_ext l m hl'.2 hm'.2 fun z => ?_
    have hz := h z
    rw [List.mem_cons, List.mem_cons] at hz
    constructor
    · intro hzl
      rcases hz.1 (.inr hzl) with e | e
      · subst e; exact absurd (hl'.1 z hzl) (ltp_irrefl z)
      · exact e
    · intro hzl
      rcases hz.2 (.inr hzl) with e | e
      · subst e; exact absurd (hm'.1 z hzl) (ltp_irrefl z)
      · exact e
theorem mem_compact (d : Array P3) : ∀ m, m ≤ d.size → ∀ x, x ∈ compactUpTo d m ↔ ∃ j, j < m ∧ d[j]! = x
  | 0, _, x => by simp [compactUpTo]
  | m + 1, hm, x => by
    rw [compactUpTo_succ, List.mem_append, mem_compact d m (by omega) x]
    constructor
    · rintro (⟨j, hj, e⟩ | h)
      · exact ⟨j, by omega, e⟩
      · split at h
        · exact ⟨m, by omega, (List.mem_singleton.1 h).symm⟩
        · cases h
    · rintro ⟨j, hj, e⟩
      by_cases hjm : j = m
      · subst hjm
        by_cases hk : keeps d j = true
        · right; rw [if_pos hk]; simp [e]
        · left
          have h0 : j ≠ 0 := by rintro rfl; exact hk (by simp [keeps])
          refine ⟨j - 1, by omega, ?_⟩
          by_cases he : d[j]! = d[j - 1]!
          · rw [← he, e]
          · exact absurd (keeps_pos he) hk
      · exact .inl ⟨j, by omega, e⟩
theorem sorted_compact (d : Array P3) (hs : ∀ i j, i < j → j < d.size → ¬ LtP d[j]! d[i]!) : ∀ m, m ≤ d.size → SortedP (compactUpTo d m)
  | 0, _ => by simp [compactUpTo]
  | m + 1, hm => by
    rw [compactUpTo_succ]
    refine List.pairwise_append.2 ⟨sorted_compact d hs m (by omega), by split <;> simp, ?_⟩
    intro x hx y hy
    split at hy
    · rename_i hk
      obtain rfl := List.mem_singleton.1 hy
      obtain ⟨j, hj, rfl⟩ := (mem_compact d m (by omega) x).1 hx
      have hne : d[m]! ≠ d[m - 1]! := by
        unfold keeps at hk
        rcases of_decide_eq_true hk with h | h
        · omega
        · exact h
      have h1 := hs (m - 1) m (by omega) (by omega)
      have h2 : LtP d[m - 1]! d[m]! := by
        rcases ltp_total d[m - 1]! d[m]! with h | h | h
        · exact h
        · exact absurd h.symm hne
        · exact absurd h h1
      by_cases e : j = m - 1
      · subst e; exact h2
      · have h3 := hs j (m - 1) (by omega) (by omega)
        rcases ltp_total d[j]! d[m - 1]! with h | h | h
        · exact ltp_trans h h2
        · rw [h]; exact h2
        · exact absurd h h3
    · cases hy
/-- What the program's sort and Compact yield. -/
theorem compact_sorted (l m : List P3) (hp : m.Perm l) (hr : RisesP m) : compactUpTo m.toArray m.toArray.size = cvSort l := by
  refine sorted_ext _ _ (sorted_compact _ ?_ _ (Nat.le_refl _)) (sorted_cvSort l) fun x => ?_
  · intro i j hij hj
    have hj' : j < m.length := by simpa using hj
    have := hr i j (by omega) hj' hij
    rw [getElem!_pos m.toArray j (by simpa using hj'), getElem!_pos m.toArray i (by simp; omega)]
    simpa using this
  · rw [mem_compact _ _ (Nat.le_refl _), mem_cvSort, ← hp.mem_iff, List.mem_iff_getElem]
    constructor
    · rintro ⟨j, hj, e⟩
      have hj' : j < m.length := by simpa using hj
      rw [getElem!_pos m.toArray j hj] at e
      exact ⟨j, hj', by simpa using e⟩
    · rintro ⟨j, hj, e⟩
      refine ⟨j, by simpa using hj, ?_⟩
      rw [getElem!_pos m.toArray j (by simpa using hj)]
      simpa using e
end Go.Proofs.YtejalfjeihlpeaaGreat

namespace Go.Proofs.YtejalfjeihlpeaaGreat
open Go.RowKit Go.Acc
/-- A part: nonempty, within the bytes, with a use. -/
def GoodP (n : Nat) (x : P3) : Prop := 0 ≤ x.1 ∧ x.1 < x.2.1 ∧ x.2.1 ≤ n ∧ 1 ≤ x.2.2 ∧ x.2.2 ≤ 14
def Adds (n : Nat) (s s' : CvS) : Prop := ∃ t, s'.out = s.out ++ t ∧ ∀ x ∈ t, GoodP n x
theorem Adds.refl (n : Nat) (s : CvS) : Adds n s s := ⟨[], by simp, by simp⟩
theorem Adds.trans {n : Nat} {s s' s'' : CvS} (h : Adds n s s') (h' : Adds n s' s'') : Adds n s s'' := by
  obtain ⟨t, e, g⟩ := h
  obtain ⟨t', e', g'⟩ := h'
  refine ⟨t ++ t', by rw [e', e, List.append_assoc], fun x hx => ?_⟩
  rcases List.mem_append.1 hx with hx | hx
  · exact g x hx
  · exact g' x hx
theorem adds_tell {n : Nat} (s : CvS) {a b c : Int} (ha : 0 ≤ a) (hb : b ≤ n) (hc : 1 ≤ c ∧ c ≤ 14) : Adds n s (s.tell a b c) := by
  unfold CvS.tell
  split
  · rename_i h
    exact ⟨[(a, b, c)], rfl, fun x hx => by rw [List.mem_singleton.1 hx]; exact ⟨ha, h, hb, hc.1, hc.2⟩⟩
  · exact Adds.refl n s
def GoesIn (l : List UInt8) (go : Rq → CvS → CvS × Int) : Prop := ∀ r s, RqOk l.length r → Adds l.length s (go r s).1
theorem fnd_parts_ {l : List UInt8} {p q t v : Int} {ts : List Nat} (h : fndE l p q t v ts = 0) : mayE l.length p q t v = 0 ∧ isIn ts t = true ∧ tgtE l p q t v = 0 ∧ (if t = 4 then keyE l (tgt l p q t v).toNat else cntE l (tgt l p q t v).toNat v.toNat (if t = 5 then 1 else 0)) = 0 := by
  unfold fndE at h
  split at h
  · rename_i h1; exact absurd h h1
  · rename_i h1
    split at h
    · cases h
    · rename_i h2
      split at h
      · rename_i h3; exact absurd h h3
      · rename_i h3
        refine ⟨by simpa using h1, by simpa using h2, by simpa using h3, ?_⟩
        split at h
        · rename_i h4; rw [if_pos h4]; exact h
        · rename_i h4; rw [if_neg h4]; exact h
theorem text_room {l : List UInt8} {p q t v : Int} (h : fndE l p q t v [4, 5, 25] = 0) :
    0 ≤ fndA l p q t v [4, 5, 25] ∧ fndA l p q t v [4, 5, 25] + (fndL l p q t v [4, 5, 25]).length ≤ l.length ∧ (t = 4 ∨ t = 5 → fndA l p q t v [4, 5, 25] + (fndL l p q t v [4, 5, 25]).length + 1 ≤ l.length) ∧
    (t ≠ 4 → v ≤ fndA l p q t v [4, 5, 25]) ∧ 1 ≤ v ∧ fndA l p q t v [4, 5, 25] = tgt l p q t v := by
  obtain ⟨h1, h2, hv0, hv8, hm⟩ := fnd_bounds h
  obtain ⟨_, _, h3, h4⟩ := fnd_parts_ h
  have hv := (may_ok hm).2
  have ht := tgt_rng h3
  have ea : fndA l p q t v [4, 5, 25] = tgt l p q t v := by unfold fndA; rw [if_pos h]
  have eL : fndL l p q t v [4, 5, 25] = if t = 4 then keyL l (tgt l p q t v).toNat else cntL l (tgt l p q t v).toNat v.toNat := by unfold fndL; rw [if_pos h]
  refine ⟨h1, h2, ?_, ?_, hv.1, ea⟩
  · intro ht45
    by_cases h4' : t = 4
    · rw [if_pos h4'] at h4 eL
      unfold keyE at h4
      split at h4
      · rename_i hz
        rw [ea, eL]
        unfold keyL
        rw [List.length_take, List.length_drop]
        have hz2 := (zeroAt_le (l := l) (k := (tgt l p q t v).toNat) (by omega)).1
        omega
      · cases h4
    · rw [if_neg h4'] at h4 eL
      have h5 : t = 5 := by omega
      rw [if_pos h5] at h4
      unfold cntE at h4
      split at h4
      · cases h4
      · split at h4
        · cases h4
        · split at h4
          · cases h4
          · rw [ea, eL]
            unfold cntL
            rw [List.length_take, List.length_drop]
            omega
  · intro h4'
    rw [if_neg h4'] at h4
    unfold cntE at h4
    split at h4
    · cases h4
    · split at h4
      · cases h4
      · rw [ea]; omega
theorem apart_room {l : List UInt8} {p q t v : Int} (h : plcE l p q t v = 0) : 0 ≤ plcA l p q t v ∧ plcA l p q t v + plcW l p q t v ≤ l.length ∧ 0 ≤ plcW l p q t v := by
  unfold plcA plcW
  rw [if_pos h, if_pos h]
  rcases plc_cases l p q t v with ⟨hm, e⟩ | ⟨hm, h'⟩
  · rw [e] at h; exact absurd h hm
  have hr := may_ok hm
  obtain ⟨⟨h0, h1, h2, h3⟩, h4, h5⟩ := hr
  simp only at h0 h1 h2 h3
  rcases h' with ⟨_, e⟩ | ⟨_, hi, _⟩ | ⟨_, hi, ⟨g, e⟩ | ⟨_, _, e⟩ | ⟨_, _, _, e⟩ | ⟨_, _, hb, _⟩⟩
  · rw [e] at h; cases h
  · rw [if_pos hi, if_pos hi]; omega
  · rw [e] at h; exact absurd h g
  · rw [e] at h; cases h
  · rw [e] at h; cases h
  · rw [if_neg (by rw [hi]; decide), if_neg (by rw [hi]; decide)]
    have := inB_iff.1 hb
    omega
section
variable {l : List UInt8} {go : Rq → CvS → CvS × Int} (r : Rq)
theorem text_in (s : CvS) : Adds l.length s (cvText l r s).1 := by
  unfold cvText
  split
  · exact Adds.refl _ s
  · rename_i h
    obtain ⟨h1, h2, h3, h4, h5, _⟩ := text_room (Decidable.of_not_not h)
    split
    · rename_i ht
      exact adds_tell s h1 (h3 (.inl ht)) (by omega)
    · rename_i ht
      split
      · rename_i ht5
        exact (adds_tell s (by have := h4 ht; omega) (by omega) (by omega)).trans (adds_tell _ h1 (h3 (.inr ht5)) (by omega))
      · exact (adds_tell s (by have := h4 ht; omega) (by omega) (by omega)).trans (adds_tell _ h1 h2 (by omega))
theorem apart_in (s : CvS) : Adds l.length s (cvApart l r s).1 := by
  unfold cvApart
  split
  · rename_i h
    obtain ⟨h1, h2, _⟩ := apart_room h
    refine adds_tell s h1 h2 ?_
    split <;> omega
  · exact Adds.refl _ s
theorem keys_in (hgo : GoesIn l go) (s : CvS) : Adds l.length s (cvKeys l go r s).1 := by
  unfold cvKeys
  split
  · exact Adds.refl _ s
  · rename_i h
    obtain ⟨_, _, h3, h4, h5, _⟩ := ky_ok (Decidable.of_not_not h)
    have h6 := hgo (cvKey l r) s h3
    split
    · exact h6
    · exact h6.trans (adds_tell _ (by omega) (by omega) (by omega))
theorem tag_in (hl : lsE l r.p r.q r.t r.v = 0) (i : Nat) (hi : i < lsLen l r.p r.q r.t r.v) (s : CvS) : Adds l.length s (cvTag l r i s) := by
  unfold cvTag
  split
  · rename_i ht
    obtain ⟨h1, h2, _, h4⟩ := ls_room hl
    have e1 : tgs r.t = 1 := by unfold tgs; rw [if_pos ht]
    rw [e1, Nat.mul_add, Nat.mul_one] at h4
    have e2 : ((lsLen l r.p r.q r.t r.v * r.v.toNat : Nat) : Int) = lsLen l r.p r.q r.t r.v * r.v := by
      rw [Int.natCast_mul, Int.toNat_of_nonneg (by omega)]
    rw [← e2]
    generalize lsLen l r.p r.q r.t r.v * r.v.toNat = X at *
    exact adds_tell s (by omega) (by omega) (by omega)
  · exact Adds.refl _ s
theorem len_in (hl : lsE l r.p r.q r.t r.v = 0) (s : CvS) : Adds l.length s (cvLen l r s) := by
  unfold cvLen
  split
  · rename_i hlt
    obtain ⟨h1, h2, h3, h4⟩ := ls_room hl
    have h5 : 1 ≤ aheadT r.t := by
      rcases Nat.eq_zero_or_pos (aheadT r.t) with h | h
      · rw [h] at h3; omega
      · exact h
    have h6 : 1 * r.v.toNat ≤ aheadT r.t * r.v.toNat := Nat.mul_le_mul_right _ h5
    generalize aheadT r.t * r.v.toNat = X at *
    generalize lsLen l r.p r.q r.t r.v * (r.v.toNat + tgs r.t) = Y at *
    exact adds_tell s (by omega) (by omega) (by omega)
  · exact Adds.refl _ s
theorem elems_in (hgo : GoesIn l go) (hl : lsE l r.p r.q r.t r.v = 0) : ∀ (k i : Nat) (s : CvS), i + k ≤ lsLen l r.p r.q r.t r.v → Adds l.length s (cvElems l go r k i s).1
  | 0, i, s, _ => Adds.refl _ s
  | k + 1, i, s, hk => by
    unfold cvElems
    have ht := tag_in r hl i (by omega) s
    split
    · exact ht
    · rename_i ha
      have hg := hgo (cvAt l r i) (cvTag l r i s) (at_ok hl (by omega) (Decidable.of_not_not ha))
      split
      · exact ht.trans hg
      · exact (ht.trans hg).trans (elems_in hgo hl k (i + 1) _ (by omega))
theorem head_in (hgo : GoesIn l go) (s : CvS) : Adds l.length s (cvHead l go r s).1 := by
  unfold cvHead
  split
  · exact keys_in r hgo s
  · exact Adds.refl _ s
theorem list_in (hgo : GoesIn l go) (s : CvS) : Adds l.length s (cvList l go r s).1 := by
  unfold cvList
  split
  · exact Adds.refl _ s
  · rename_i h
    have hl := Decidable.of_not_not h
    split
    · exact head_in r hgo s
    · exact ((head_in r hgo s).trans (len_in r hl _)).trans (elems_in r hgo hl _ _ _ (by omega))
theorem data_in (hgo : GoesIn l go) (s : CvS) : Adds l.length s (cvData l go r s).1 := by
  unfold cvData
  split
  · exact text_in r s
  · split
    · exact apart_in r s
    · exact list_in r hgo s
end
theorem cvOwn_rg (t : Int) : 1 ≤ cvOwn t ∧ cvOwn t ≤ 14 := by unfold cvOwn; (repeat' split) <;> omega
theorem start_in {l : List UInt8} (r : Rq) (s : CvS) (hr : RqOk l.length r) : Adds l.length s (cvStart r s) := by
  obtain ⟨h0, h1, h2, h3⟩ := hr
  exact (show Adds l.length s s.burn from ⟨[], by simp [CvS.burn], by simp⟩).trans (adds_tell _ h0 h3 (cvOwn_rg _))
theorem come_in (l : List UInt8) : ∀ d, GoesIn l (cvCome l d)
  | 0, r, s, _ => Adds.refl _ s
  | d + 1, r, s, hr => by
    unfold cvCome
    split
    · exact Adds.refl _ s
    · have hs := start_in r s hr
      split
      · exact hs
      · split
        · exact hs
        · exact (hs.trans (show Adds l.length (cvStart r s) ((cvStart r s).see (cvSpot l r)) from ⟨[], by simp [CvS.see], by simp⟩)).trans (data_in r (come_in l d) _)
end Go.Proofs.YtejalfjeihlpeaaGreat
