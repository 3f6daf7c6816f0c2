/-
  The walks over the stack's leaves: copies, comparisons, the stack's own small functions.
-/
import Derived.Test.YtiambljlgmnhaaaLib
namespace Go.Proofs.Ytiambljlgmnhaaa
open Go.RowKit Go.Acc

/-- An element of the stack: type, width, number. -/
abbrev V3 := Int × Int × Int
def vc (x : V3) : List Value := [.int .i64 x.1, .int .i64 x.2.1, .int .u64 x.2.2]
theorem vc_len (x : V3) : (vc x).length = 3 := rfl
theorem vc_one (x : V3) : ∀ u ∈ vc x, u.oneCell' = true := by
  intro u hu
  simp [vc] at hu
  rcases hu with rfl | rfl | rfl <;> rfl
abbrev IsV := Is vc
abbrev OwnV := Own vc 3 49
theorem isv_at {w : World} {A : Option Addr} {n : Nat} {l : List V3} (h : IsV w A n l) {k : Nat} (hk : k < n) :
    ∃ b off, A = some ⟨b, off, none⟩ ∧ ∃ hk : k < l.length, w.cell? ⟨b, off + k * 3, none⟩ = some (.int .i64 l[k].1) ∧ w.cell? ⟨b, off + k * 3 + 1, none⟩ = some (.int .i64 l[k].2.1) ∧ w.cell? ⟨b, off + k * 3 + 2, none⟩ = some (.int .u64 l[k].2.2) := by
  obtain ⟨b, off, e, hk', hc⟩ := h.at_ vc_len (by omega) hk
  exact ⟨b, off, e, hk', hc 0 (by omega), hc 1 (by omega), hc 2 (by omega)⟩

theorem info_v : (Try.prog.info? 49).map (fun i => (i.zero, i.size, i.bytes)) = some (some (.agg #[.int .i64 0, .int .i64 0, .int .u64 0]), 3, 24) := by kernel_rfl

/-- copied, few: a copy of the elements m, in new memory. -/
def Copied (w : World) (m : List V3) (e : Ending) (w' : World) : Prop :=
  ∃ A n c, e = .returned (.slice A n c) ∧ OwnV w' w.heap.size A n c m ∧ Below w.heap.size w w'
theorem copied_post {w w1 w' : World} {A : Option Addr} {n c : Nat} {l m : List V3} (h : OwnV w' w.heap.size A n c l) (hl : l = m) (h1 : Below w.heap.size w w1) {S : Nat → Prop} (hg : Fr S w1 w') (hS : ∀ k, k < w.heap.size → ¬ S k) : Copied w m (.returned (.slice A n c)) w' := by
  subst hl
  exact ⟨A, n, c, rfl, h, h1.trans (hg.belowB hS h1.size)⟩

set_option maxHeartbeats 400000 in
theorem few_spec (A : Option Addr) (n c : Nat) (l : List V3) (w : World) (h : IsV w A n l) (hc : n ≤ c) (hl : n ≤ 9223372036854775807) :
    Calls Try.prog 16 #[.slice A n c] w (Copied w (l.take 30)) := by
  by_cases hm : n ≤ 30
  · have hr : IsV w A n (l.take 30) := by rw [List.take_of_length_le (by rw [h.1]; exact hm)]; exact h
    have HR := Lib.hid hr
    clear h hr
    go_enter Try.func16, Try.ntmps16
    go_wp2_with (at_builtin; refine wpl_app _ rfl (.tmp 4) (.tmp 9) _ rfl 49 _ 3 24 Try.underlying27 info_v rfl (by omega) vc_len vc_one _ _ _ _ _ rfl (Own.nil w w.heap.size) _ _ _ _ rfl HR.out (by omega) (Nat.le_refl _) ?_; intro A1 c1 w1 hown1 hfr1 hat1)
    go_ret
    exact copied_post (by simpa using hown1) rfl (Below.refl _ _) hfr1 (by rintro k hk ⟨ad, h, _⟩; cases h)
  · have hr : IsV w A 30 (l.take 30) := h.take vc_len (by omega)
    have HR := Lib.hid hr
    clear h hr
    go_enter Try.func16, Try.ntmps16
    go_wp2_with (at_builtin; refine wpl_app _ rfl (.tmp 4) (.tmp 9) _ rfl 49 _ 3 24 Try.underlying27 info_v rfl (by omega) vc_len vc_one _ _ _ _ _ rfl (Own.nil w w.heap.size) _ _ _ _ rfl HR.out (by omega) (Nat.le_refl _) ?_; intro A1 c1 w1 hown1 hfr1 hat1)
    go_ret
    exact copied_post (by simpa using hown1) rfl (Below.refl _ _) hfr1 (by rintro k hk ⟨ad, h, _⟩; cases h)

set_option maxHeartbeats 400000 in
theorem copied_spec (A : Option Addr) (n c : Nat) (l : List V3) (w : World) (h : IsV w A n l) (hl : n ≤ 65536) :
    Calls Try.prog 24 #[.slice A n c] w (Copied w l) := by
  have HR := Lib.hid h
  clear h
  go_enter Try.func24, Try.ntmps24
  go_wp2_with (at_builtin; refine wpl_app _ rfl (.tmp 4) (.tmp 5) _ rfl 49 _ 3 24 Try.underlying27 info_v rfl (by omega) vc_len vc_one _ _ _ _ _ rfl (Own.nil w w.heap.size) _ _ _ _ rfl HR.out (by omega) (Nat.le_refl _) ?_; intro A1 c1 w1 hown1 hfr1 hat1)
  go_ret
  exact copied_post (by simpa using hown1) rfl (Below.refl _ _) hfr1 (by rintro k hk ⟨ad, h, _⟩; cases h)

set_option maxHeartbeats 400000 in
theorem clone_spec (A : Option Addr) (n c : Nat) (l : List V3) (w : World) (h : IsV w A n l) (hl : n ≤ 65536) :
    Calls Try.prog 27 #[.slice A n c] w (Copied w l) := by
  have hnil := fun (w : World) (A : Option Addr) (n c : Nat) => Lib.run_eql_slice_nil (P := Try.prog) w 27 49 A n c 0 0 Try.underlying27
  rcases A with _ | a
  · obtain ⟨rfl, rfl⟩ := h.none_ vc_len (by omega)
    clear h hl
    go_enter Try.func27, Try.ntmps27
    go_wp2_with fail
    go_ret
    exact ⟨none, 0, 0, rfl, Own.nil _ _, Below.refl _ _⟩
  · have hr : IsV (w.alloc (.cells #[] 49)) (some a) n l := h.alloc _
    have ho : OwnV (w.alloc (.cells #[] 49)) w.heap.size (some ⟨w.heap.size, 0, none⟩) 0 0 [] := ⟨rfl, World.ownsRow_lit w #[] 0 (Nat.le_refl _) (Nat.zero_le _) rfl⟩
    have HR := Lib.hid hr
    clear h hr
    go_enter Try.func27, Try.ntmps27
    go_wp2_with (at_builtin; refine wpl_app _ rfl (.tmp 5) (.tmp 6) _ rfl 49 _ 3 24 Try.underlying27 info_v rfl (by omega) vc_len vc_one _ _ _ _ _ rfl ho _ _ _ _ rfl HR.out (by omega) (by simp) ?_; intro A1 c1 w1 hown1 hfr1 hat1)
    go_ret
    exact copied_post (by simpa using hown1) rfl ((Below.refl _ _).alloc (Nat.le_refl _) _) hfr1 (by rintro k hk ⟨ad, h, h'⟩; injection h with h; subst h; simp at h'; omega)

theorem take_eq_succ {l m : List V3} {k : Nat} (h1 : k < l.length) (h2 : k < m.length) (ht : l.take k = m.take k) (e1 : (l[k].1 == m[k].1) = true) (e2 : (l[k].2.1 == m[k].2.1) = true) (e3 : (l[k].2.2 == m[k].2.2) = true) : l.take (k + 1) = m.take (k + 1) := by
  rw [List.take_succ_eq_append_getElem h1, List.take_succ_eq_append_getElem h2, ht]
  congr 2
  rw [beq_iff_eq] at e1 e2 e3
  exact Prod.ext e1 (Prod.ext e2 e3)

set_option maxHeartbeats 400000 in
theorem same_draws (A B : Option Addr) (n n' c d : Nat) (l m : List V3) (w : World) (ha : IsV w A n l) (hb : IsV w B n' m) (hl : n ≤ 9223372036854775807) (hm : n' ≤ 9223372036854775807) :
    Calls Try.prog 19 #[.slice A n c, .slice B n' d] w fun e w' => e = .returned (.bool (decide (l = m))) ∧ ∃ nd, w' = w.drewN nd := by
  by_cases hlm : n = n'
  · subst hlm
    have hx : ((n : Int) != n) = false := by simp
    go_enter Try.func19, Try.ntmps19
    go_wp2
    go_loopw [5] (fun i wr => ∃ k : Nat, k ≤ n ∧ i = .int .i64 k ∧ l.take k = m.take k ∧ ∃ nd, wr = w.drewN nd) (fun i _ => n - (intOf i).toNat)
    case atStart => exact ⟨0, Nat.zero_le _, rfl, rfl, 0, rfl⟩
    case round =>
      obtain ⟨k, hk, rfl, htk, nd, rfl⟩ := hrel
      by_cases hlt : k < n
      · obtain ⟨b1, o1, rfl, hk1, a0, a1, a2⟩ := isv_at ha hlt
        obtain ⟨b2, o2, rfl, hk2, c0, c1, c2⟩ := isv_at hb hlt
        have HT := Lib.hid htk
        clear htk ha hb
        cases e1 : (l[k].1 == m[k].1) <;> cases e2 : (l[k].2.1 == m[k].2.1) <;> cases e3 : (l[k].2.2 == m[k].2.2)
        all_goals
          go_wp2
          go_quiet (fail)
          go_wp2
        case roundEnd =>
          go_roundw
          case rel => exact ⟨k + 1, by omega, by go_num, take_eq_succ hk1 hk2 HT.out e1 e2 e3, ⟨_, rfl⟩⟩
          case measure => simp [intOf]; omega
        all_goals
          go_ret
          refine ⟨ret_bool (Eq.symm (decide_eq_false ?_)), ⟨_, World.drewN_drewN _ _ _⟩⟩
          rintro rfl
          simp at e1 e2 e3
      · have hk' : k = n := by omega
        have h1 := ha.1
        have h2 := hb.1
        have H := Lib.hid (show decide (l = m) = true from decide_eq_true (by rw [hk', List.take_of_length_le (by omega), List.take_of_length_le (by omega)] at htk; exact htk))
        clear ha hb htk h1 h2 hk'
        go_wp2
        go_ret
        exact ⟨ret_bool H.out.symm, nd, rfl⟩
  · have hlm' : ((n : Int) != n') = true := by rw [bne_iff_ne]; omega
    have H := Lib.hid (show decide (l = m) = false from decide_eq_false (by rintro rfl; exact hlm (ha.1.symm.trans hb.1)))
    clear hlm ha hb
    go_enter Try.func19, Try.ntmps19
    go_wp2
    go_ret
    exact ⟨ret_bool H.out.symm, 0, rfl⟩

theorem same_spec (A B : Option Addr) (n n' c d : Nat) (l m : List V3) (w : World) (ha : IsV w A n l) (hb : IsV w B n' m) (hl : n ≤ 9223372036854775807) (hm : n' ≤ 9223372036854775807) :
    Calls Try.prog 19 #[.slice A n c, .slice B n' d] w fun e w' => e = .returned (.bool (decide (l = m))) ∧ Below w.heap.size w w' :=
  (same_draws A B n n' c d l m w ha hb hl hm).mono fun _ _ ⟨h1, nd, h2⟩ => ⟨h1, h2 ▸ below_drewN (Below.refl _ _) nd⟩

def areB (l m : List V3) (a b : Int) : Bool := decide (l = m ∧ a = b)
theorem areB_iff {l m : List V3} {a b : Int} : areB l m a b = true ↔ l = m ∧ a = b := by simp [areB]
set_option maxHeartbeats 1000000 in
theorem are_spec (A B : Option Addr) (n n' c d : Nat) (l m : List V3) (e1 e2 : Int) (w : World) (ha : IsV w A n l) (hb : IsV w B n' m) (hl : n ≤ 9223372036854775807) (hm : n' ≤ 9223372036854775807) :
    Calls Try.prog 23 #[.slice A n c, .int .i64 e1, .int .i64 e2, .slice B n' d] w fun e w' => e = .returned (.bool (areB l m e1 e2)) ∧ Below w.heap.size w w' := by
  by_cases hlm : n = n'
  · by_cases hee : e1 = e2
    · subst hlm hee
      have hx : ((n : Int) != n) = false := by simp
      have hx2 : (e1 != e1) = false := by simp
      go_enter Try.func23, Try.ntmps23
      go_wp2
      go_loopw [9] (fun i wr => ∃ k : Nat, k ≤ n ∧ i = .int .i64 k ∧ l.take k = m.take k ∧ Below w.heap.size w wr) (fun i _ => n - (intOf i).toNat)
      case atStart => exact ⟨0, Nat.zero_le _, rfl, rfl, Below.refl _ _⟩
      case round =>
        obtain ⟨k, hk, rfl, htk, hbw⟩ := hrel
        by_cases hlt : k < n
        · obtain ⟨b1, o1, rfl, hk1, a0, a1, a2⟩ := isv_at (ha.pure hbw) hlt
          obtain ⟨b2, o2, rfl, hk2, c0, c1, c2⟩ := isv_at (hb.pure hbw) hlt
          have HT := Lib.hid htk
          clear htk ha hb
          cases e1 : (l[k].1 == m[k].1) <;> cases e2 : (l[k].2.1 == m[k].2.1) <;> cases e3 : (l[k].2.2 == m[k].2.2)
          all_goals
            go_wp2
            go_quiet (fail)
            go_wp2
          case roundEnd =>
            go_roundw
            case rel => exact ⟨k + 1, by omega, by go_num, take_eq_succ hk1 hk2 HT.out e1 e2 e3, below_drewN hbw _⟩
            case measure => simp [intOf]; omega
          all_goals
            go_ret
            refine ⟨ret_bool (Eq.symm (decide_eq_false ?_)), below_drewN hbw _⟩
            rintro ⟨rfl, _⟩
            simp at e1 e2 e3
        · have hk' : k = n := by omega
          have h1 := ha.1
          have h2 := hb.1
          have H := Lib.hid (show areB l m e1 e1 = true from decide_eq_true ⟨by rw [hk', List.take_of_length_le (by omega), List.take_of_length_le (by omega)] at htk; exact htk, rfl⟩)
          clear ha hb htk h1 h2 hk'
          go_wp2
          go_ret
          exact ⟨ret_bool H.out.symm, hbw⟩
    · subst hlm
      have hx : ((n : Int) != n) = false := by simp
      have hee' : (e1 != e2) = true := by simpa using hee
      have H := Lib.hid (show areB l m e1 e2 = false from decide_eq_false (fun h => hee h.2))
      clear ha hb hee
      go_enter Try.func23, Try.ntmps23
      go_wp2
      go_ret
      exact ⟨ret_bool H.out.symm, Below.refl _ _⟩
  · have hlm' : ((n : Int) != n') = true := by rw [bne_iff_ne]; omega
    have H := Lib.hid (show areB l m e1 e2 = false from decide_eq_false (by rintro ⟨rfl, _⟩; exact hlm (ha.1.symm.trans hb.1)))
    clear hlm ha hb
    go_enter Try.func23, Try.ntmps23
    go_wp2
    go_ret
    exact ⟨ret_bool H.out.symm, Below.refl _ _⟩

set_option maxHeartbeats 400000 in
theorem wreck_spec (A : Option Addr) (B n c : Nat) (l : List V3) (w : World) (h : OwnV w B A n c l) :
    Calls Try.prog 20 #[.slice A n c] w fun e w' => e = .returned (.tuple #[]) ∧ Fr (fun k => ∃ ad, A = some ad ∧ k = ad.block) w w' := by
  have hcap := h.cap
  simp only [maxLen] at hcap
  rcases A with _ | ad
  · obtain ⟨rfl, rfl⟩ := h.is.none_ vc_len (by omega)
    clear h
    go_enter Try.func20, Try.ntmps20
    go_wp2
    go_loop [2] (fun i => i = .int .i64 0) (fun i => 0)
    case atStart => rfl
    case round =>
      subst hrel
      go_wp2
      go_end0
      exact ⟨rfl, Fr.refl _ _⟩
  · obtain ⟨e, hB, hlt⟩ := h.addr ad rfl
    obtain ⟨b, o, sp⟩ := ad
    obtain ⟨rfl, rfl⟩ : o = 0 ∧ sp = none := by injection e; exact ⟨by assumption, by assumption⟩
    have hc : ∀ j, j < n * 3 → ∃ u, w.cell? ⟨b, j, none⟩ = some u := by
      intro j hj
      have hl : j < (l.flatMap vc).length := by rw [fm_length vc_len, h.1]; exact hj
      obtain ⟨b', off', e', hc⟩ := h.is.2.at_ hl
      injection e' with e'; injection e' with e1 e2; subst e1 e2
      exact ⟨_, by simpa using hc⟩
    have hf : ∀ j, w.frozen? ⟨b, j, none⟩ = false := fun j => own_frozen h.2 j
    clear e h hB
    go_enter Try.func20, Try.ntmps20
    go_wp2
    go_loopw [2] (fun i wr => ∃ k : Nat, k ≤ n ∧ i = .int .i64 k ∧ (∀ j, j < n * 3 → ∃ u, wr.cell? ⟨b, j, none⟩ = some u) ∧ (∀ j, wr.frozen? ⟨b, j, none⟩ = false) ∧ Fr (fun k => k = b) w wr) (fun i _ => n - (intOf i).toNat)
    case atStart => exact ⟨0, Nat.zero_le _, rfl, hc, hf, Fr.refl _ _⟩
    case round =>
      obtain ⟨k, hk, rfl, hc, hfz, hfr⟩ := hrel
      by_cases hlt : k < n
      · obtain ⟨u0, h0⟩ := hc (k * 3) (by omega)
        obtain ⟨u1, h1⟩ := hc (k * 3 + 1) (by omega)
        obtain ⟨u2, h2⟩ := hc (k * 3 + 2) (by omega)
        have HC := Lib.hid hc
        have HF := Lib.hid hfz
        clear hc hf
        go_wp2
        go_roundw
        case rel =>
          refine ⟨k + 1, by omega, by go_num, fun j hj => ?_, fun j => ?_, ?_⟩
          · obtain ⟨v1, e1⟩ := HC.out j hj
            obtain ⟨v2, e2⟩ := cell?_setCell_some (p := ⟨b, k * 3, none⟩) (x := .int .i64 (-9)) e1
            obtain ⟨v3, e3⟩ := cell?_setCell_some (p := ⟨b, k * 3 + 1, none⟩) (x := .int .i64 0) e2
            exact cell?_setCell_some e3
          · rw [World.frozen?_setCell, World.frozen?_setCell, World.frozen?_setCell]; exact HF.out j
          · exact ((hfr.setCell (fun _ => rfl) _).setCell (fun _ => rfl) _).setCell (fun _ => rfl) _
        case measure => simp [intOf]; omega
      · clear hc hfz hf
        go_wp2
        go_end0
        exact ⟨rfl, hfr.mono fun i _ hi => ⟨_, rfl, hi⟩⟩

theorem tmod_pos {i n : Int} (hn : 0 < n) (h : 0 ≤ i.tmod n) : i.tmod n = i % n := by
  have h1 := Int.tmod_lt_of_pos i hn
  have h2 : (i.tmod n) % n = i % n := by rw [Int.tmod_def, Int.sub_emod, Int.mul_emod_right]; simp
  rw [← h2, Int.emod_eq_of_lt h h1]
theorem tmod_neg {i n : Int} (hn : 0 < n) (h : i.tmod n < 0) : i.tmod n + n = i % n ∧ 0 ≤ i.tmod n + n := by
  have h1 : -n < i.tmod n := by
    have := Int.lt_tmod_of_pos i hn
    omega
  have h2 : (i.tmod n + n) % n = i % n := by rw [Int.add_emod_right, Int.tmod_def, Int.sub_emod, Int.mul_emod_right]; simp
  exact ⟨by rw [← h2, Int.emod_eq_of_lt (by omega) (by omega)], by omega⟩
set_option maxHeartbeats 400000 in
theorem bring_spec (i n : Int) (w : World) (h0 : 0 < n) (hn : n ≤ 9223372036854775807):
    Calls Try.prog 11 #[.int .i64 i, .int .i64 n] w fun e w' => e = .returned (.int .i64 (i % n)) ∧ w = w' := by
  by_cases h : 0 ≤ i.tmod n
  · have H := Lib.hid (tmod_pos h0 h)
    go_enter Try.func11, Try.ntmps11
    go_wp2
    go_ret
    exact ⟨ret_int H.out, rfl⟩
  · have h' : i.tmod n < 0 := by omega
    have H := Lib.hid (tmod_neg h0 h').1
    have hlo := (tmod_neg h0 h').2
    clear h
    go_enter Try.func11, Try.ntmps11
    go_wp2
    go_ret
    exact ⟨ret_int H.out, rfl⟩

end Go.Proofs.Ytiambljlgmnhaaa
