/-
  Package minimal: the property MinimalLists.
-/
import Derived.Test.YtejalfjeihlpeaaGreatQMnZ
namespace Go.Proofs.YtejalfjeihlpeaaGreat
open Go.RowKit Go.Acc
theorem cut_runU (A : Option Addr) (n c M : Nat) (h : M ≤ c) (w : World) : (Instr.sliceAt 34 (.slice A n c) none (some (.int .i64 M)) none).run Tryz.prog w = .ok (.slice A M c) w := by
  have ht : Tryz.prog.underlying 34 = some (.slice (Tryz.prog.elem 34)) := by kernel_rfl
  have hz : (sizeOf (Tryz.prog.elem 34)).run Tryz.prog w = .ok 1 w := by kernel_rfl
  rw [run_sliceAt_slice (h := ht), run_slice_h (ht := ht) (h0 := by omega) (h2 := by omega), hz]
  simp [Result.andThen, sliced]
  intro _
  cases A <;> simp [Addr.add]
/-- What the loop over the numbers knows. -/
def Nar (W : Nat) (L : List Nat) (k : Nat) (nb : Bool) : Prop := nb = true ↔ 1 < W ∧ ∀ u ∈ L.take k, wdU u ≤ (W : Int) / 2
theorem nar_step {W : Nat} {L : List Nat} {k : Nat} {nb : Bool} (h : Nar W L k nb) (hk : k < L.length) : Nar W L (k + 1) (nb && decide (wdU L[k] ≤ (W : Int) / 2)) := by
  unfold Nar at h ⊢
  rw [Bool.and_eq_true, h, decide_eq_true_eq, List.take_add_one, List.getElem?_eq_getElem hk]
  simp only [Option.toList_some, List.mem_append, List.mem_singleton]
  constructor
  · rintro ⟨⟨h1, h2⟩, h3⟩
    refine ⟨h1, fun u hu => ?_⟩
    rcases hu with hu | rfl
    · exact h2 u hu
    · exact h3
  · rintro ⟨h1, h2⟩
    exact ⟨⟨h1, fun u hu => h2 u (.inl hu)⟩, h2 _ (.inr rfl)⟩
theorem wd_half1 (u : Nat) : decide ((u : Int) < 256) = decide (wdU u ≤ ((2 : Nat) : Int) / 2) := by
  refine decide_eq_decide.2 ?_
  unfold wdU
  (repeat' split) <;> omega
theorem wd_half2 (u : Nat) : decide ((u : Int) < 65536) = decide (wdU u ≤ ((4 : Nat) : Int) / 2) := by
  refine decide_eq_decide.2 ?_
  unfold wdU
  (repeat' split) <;> omega
theorem wd_half4 (u : Nat) : decide ((u : Int) < 4294967296) = decide (wdU u ≤ ((8 : Nat) : Int) / 2) := by
  refine decide_eq_decide.2 ?_
  unfold wdU
  (repeat' split) <;> omega
theorem vec_thin {D : VecD} (h : D.Ok) (ht : D.thin) : mnCheck D.doc 2000 = ((D.w : Int), 10) := by
  rw [vec_check h, if_pos ht]
theorem vec_thick {D : VecD} (h : D.Ok) (ht : ¬ D.thin) : mnCheck D.doc 2000 = (0, 0) := by
  rw [vec_check h, if_neg ht]
set_option maxRecDepth 100000 in
set_option maxHeartbeats 4000000 in
theorem minlists_spec (A : Option Addr) (n c : Nat) (x : Int) (typed : Bool) (l : List Nat) (w : World) (h : IsU w A n l) (hc : n ≤ c) (hub : ∀ u ∈ l, ((u : Nat) : Int) < 18446744073709551616) :
    Calls Tryz.prog 5 #[.slice A n c, .int .i64 x, .bool typed] w fun e w' => e = .returned (.bool true) ∧ Below w.heap.size w w' := by
  obtain ⟨M, hMn, hM100, hmin⟩ : ∃ M : Nat, M ≤ n ∧ M ≤ 100 ∧ min (n : Int) 100 = M := by
    by_cases h1 : n ≤ 100
    · exact ⟨n, Nat.le_refl _, h1, by omega⟩
    · exact ⟨100, by omega, Nat.le_refl _, by omega⟩
  have hcut := cut_runU A n c M (by omega)
  have hL := h.take uc_len hMn
  have hub2 : ∀ u ∈ l.take M, ((u : Nat) : Int) < 18446744073709551616 := fun u hu => hub u (List.mem_of_mem_take hu)
  generalize l.take M = L at hL hub2
  have HI := Lib.hid hL
  have HLN := Lib.hid hL.1
  have HUB := Lib.hid hub2
  clear h hub hL hub2
  have h4 : x % 4 = 0 ∨ x % 4 = 1 ∨ x % 4 = 2 ∨ x % 4 = 3 := by omega
  rcases h4 with hx | hx | hx | hx
  · have hsh : wrap64 (2 ^ (x % 4).toNat) = 1 := by rw [hx]; simp [wrap64]
    go_enter Tryz.func5, Tryz.ntmps5
    go_wp2_with fail
    go_at_call 17
    refine (bring_spec x 4 _ (by decide) (by decide)).mono ?_
    rintro e w1 ⟨rfl, rfl⟩
    go_wp2_with fail
    clear hsh hx
    go_at_call 18
    refine (vlist_spec A M c 1 L typed _ HI.out hM100 (by decide) HUB.out).mono ?_
    rintro e w2 ⟨A2, k2, c2, fi, rfl, hb, hD⟩
    have HB := Lib.hid hb
    replace HI := Lib.hid (HI.out.pure hb)
    clear hb
    cases fi with
    | false =>
      clear hD
      go_wp2_with fail
      go_at_call 16
      refine (mnworks_spec _).mono ?_
      rintro e w7 ⟨rfl, hb⟩
      replace HB := Lib.hid (pure_below HB.out hb)
      clear hb
      go_wp2
      go_ret
      exact ⟨rfl, HB.out⟩
    | true =>
      obtain ⟨D, hok, hdw, hdl, hown⟩ := hD rfl
      have HOK := Lib.hid hok
      have HDW := Lib.hid hdw
      have HDL := Lib.hid hdl
      have HO := Lib.hid hown.is
      have HCP := Lib.hid hown.cap.1
      clear hD hok hdw hdl hown hcut hmin
      go_wp2_with fail
      go_loopw [10, 11] (fun a i wr => ∃ (k : Nat) (nb : Bool), a = .bool nb ∧ i = .int .i64 k ∧ k ≤ M ∧ Below w2.heap.size w2 wr ∧ Nar 1 L k nb) (fun _ i _ => M - (intOf i).toNat)
      case atStart => exact ⟨0, _, rfl, rfl, Nat.zero_le _, Below.refl _ _, by unfold Nar; simp⟩
      case round =>
        obtain ⟨k, nb, rfl, rfl, hkM, hb, hna⟩ := hrel
        replace HB := Lib.hid (pure_below HB.out hb)
        replace HI := Lib.hid (HI.out.pure hb)
        replace HO := Lib.hid (HO.out.pure hb)
        have HBB := Lib.hid hb
        have HNA := Lib.hid hna
        clear hb hna
        have hnb : nb = false := by
          cases nb with
          | false => rfl
          | true => exact absurd (HNA.out.1 rfl).1 (by decide)
        subst hnb
        have HNA := Lib.hid (show Nar 1 L M false by unfold Nar; simp)
        by_cases hk : k < M
        · have hd : decide (k < M) = true := decide_eq_true hk
          clear hk
          obtain ⟨nb, hnb⟩ : ∃ nb : Bool, nb = false := ⟨_, rfl⟩
          have hdl : D.doc.length = k2 := HO.out.1
          have hdb : k2 ≤ 4294967296 := by
            have h1 := doc_len (D := D)
            have h2 := HOK.out.w8
            have h3 := HOK.out.v8
            have h4 := HOK.out.hn
            have h5 := HOK.out.hp
            have h6 : D.ls.length * D.w ≤ 100 * 8 := Nat.mul_le_mul h4 (by omega)
            have h7 : D.tags.length ≤ 100 := by
              rcases HOK.out.ht with ⟨_, e⟩ | ⟨_, e, _⟩
              · rw [e]; simp
              · omega
            unfold VecD.off at h1
            omega
          have hth : ¬ D.thin := by
            intro ht
            have := ht.1
            rw [HDW.out] at this
            exact absurd this (by decide)
          have HCK := Lib.hid (vec_thick HOK.out hth)
          clear hth hdl hnb
          go_wp2_with fail
          go_at_call 14
          refine (check_is A2 k2 c2 2000 0 0 _ _ HO.out HCP.out hdb (by decide) HCK.out).mono ?_
          rintro e w5 ⟨rfl, hb⟩
          replace HB := Lib.hid (pure_below HB.out hb)
          clear hb
          go_wp2_with fail
          go_at_call 16
          refine (mnworks_spec _).mono ?_
          rintro e w7 ⟨rfl, hb⟩
          replace HB := Lib.hid (pure_below HB.out hb)
          clear hb
          go_wp2
          go_ret
          exact ⟨rfl, HB.out⟩
        · have hd : decide (k < M) = false := decide_eq_false hk
          clear hk
          obtain ⟨nb, hnb⟩ : ∃ nb : Bool, nb = false := ⟨_, rfl⟩
          have hdl : D.doc.length = k2 := HO.out.1
          have hdb : k2 ≤ 4294967296 := by
            have h1 := doc_len (D := D)
            have h2 := HOK.out.w8
            have h3 := HOK.out.v8
            have h4 := HOK.out.hn
            have h5 := HOK.out.hp
            have h6 : D.ls.length * D.w ≤ 100 * 8 := Nat.mul_le_mul h4 (by omega)
            have h7 : D.tags.length ≤ 100 := by
              rcases HOK.out.ht with ⟨_, e⟩ | ⟨_, e, _⟩
              · rw [e]; simp
              · omega
            unfold VecD.off at h1
            omega
          have hth : ¬ D.thin := by
            intro ht
            have := ht.1
            rw [HDW.out] at this
            exact absurd this (by decide)
          have HCK := Lib.hid (vec_thick HOK.out hth)
          clear hth hdl hnb
          go_wp2_with fail
          go_at_call 14
          refine (check_is A2 k2 c2 2000 0 0 _ _ HO.out HCP.out hdb (by decide) HCK.out).mono ?_
          rintro e w5 ⟨rfl, hb⟩
          replace HB := Lib.hid (pure_below HB.out hb)
          clear hb
          go_wp2_with fail
          go_at_call 16
          refine (mnworks_spec _).mono ?_
          rintro e w7 ⟨rfl, hb⟩
          replace HB := Lib.hid (pure_below HB.out hb)
          clear hb
          go_wp2
          go_ret
          exact ⟨rfl, HB.out⟩
  · have hsh : wrap64 (2 ^ (x % 4).toNat) = 2 := by rw [hx]; simp [wrap64]
    go_enter Tryz.func5, Tryz.ntmps5
    go_wp2_with fail
    go_at_call 17
    refine (bring_spec x 4 _ (by decide) (by decide)).mono ?_
    rintro e w1 ⟨rfl, rfl⟩
    go_wp2_with fail
    clear hsh hx
    go_at_call 18
    refine (vlist_spec A M c 2 L typed _ HI.out hM100 (by decide) HUB.out).mono ?_
    rintro e w2 ⟨A2, k2, c2, fi, rfl, hb, hD⟩
    have HB := Lib.hid hb
    replace HI := Lib.hid (HI.out.pure hb)
    clear hb
    cases fi with
    | false =>
      clear hD
      go_wp2_with fail
      go_at_call 16
      refine (mnworks_spec _).mono ?_
      rintro e w7 ⟨rfl, hb⟩
      replace HB := Lib.hid (pure_below HB.out hb)
      clear hb
      go_wp2
      go_ret
      exact ⟨rfl, HB.out⟩
    | true =>
      obtain ⟨D, hok, hdw, hdl, hown⟩ := hD rfl
      have HOK := Lib.hid hok
      have HDW := Lib.hid hdw
      have HDL := Lib.hid hdl
      have HO := Lib.hid hown.is
      have HCP := Lib.hid hown.cap.1
      clear hD hok hdw hdl hown hcut hmin
      go_wp2_with fail
      go_loopw [10, 11] (fun a i wr => ∃ (k : Nat) (nb : Bool), a = .bool nb ∧ i = .int .i64 k ∧ k ≤ M ∧ Below w2.heap.size w2 wr ∧ Nar 2 L k nb) (fun _ i _ => M - (intOf i).toNat)
      case atStart => exact ⟨0, _, rfl, rfl, Nat.zero_le _, Below.refl _ _, by unfold Nar; simp⟩
      case round =>
        obtain ⟨k, nb, rfl, rfl, hkM, hb, hna⟩ := hrel
        replace HB := Lib.hid (pure_below HB.out hb)
        replace HI := Lib.hid (HI.out.pure hb)
        replace HO := Lib.hid (HO.out.pure hb)
        have HBB := Lib.hid hb
        have HNA := Lib.hid hna
        clear hb hna
        by_cases hk : k < M
        · obtain ⟨b1, o1, ea, hk', hcell⟩ := isu_at HI.out hk
          subst ea
          have hst := nar_step HNA.out hk'
          obtain ⟨u, hu⟩ : ∃ u, L[k] = u := ⟨_, rfl⟩
          rw [hu, ← wd_half1 u] at hst
          rw [hu] at hcell
          have HST := Lib.hid hst
          have hk0 : (0 : Int) ≤ k := by omega
          have hkI : (k : Int) < M := by omega
          have hwk : IntKind.i64.wrap ((k : Int) + 1) = (k : Int) + 1 := IntWalk.i64_in _ (by omega)
          obtain ⟨d, hd⟩ : ∃ d, decide ((u : Int) < 256) = d := ⟨_, rfl⟩
          rw [hd] at HST
          clear hst hu
          cases nb with
          | false =>
            clear hd
            go_wp2_with fail
            go_roundw
            case rel => exact ⟨k + 1, _, rfl, by go_num, hk, HBB.out, by have := HST.out; rw [Bool.false_and] at this; exact this⟩
            case measure => simp [intOf]; omega
          | true =>
            cases d with
            | false =>
              go_wp2_with fail
              go_roundw
              case rel => exact ⟨k + 1, _, rfl, by go_num, hk, HBB.out, by have := HST.out; rw [Bool.true_and] at this; exact this⟩
              case measure => simp [intOf]; omega
            | true =>
              go_wp2_with fail
              go_roundw
              case rel => exact ⟨k + 1, _, rfl, by go_num, hk, HBB.out, by have := HST.out; rw [Bool.true_and] at this; exact this⟩
              case measure => simp [intOf]; omega
        · obtain rfl : k = M := by omega
          have hd : decide (k < k) = false := by simp
          clear hk
          have hdl : D.doc.length = k2 := HO.out.1
          have hdb : k2 ≤ 4294967296 := by
            have h1 := doc_len (D := D)
            have h2 := HOK.out.w8
            have h3 := HOK.out.v8
            have h4 := HOK.out.hn
            have h5 := HOK.out.hp
            have h6 : D.ls.length * D.w ≤ 100 * 8 := Nat.mul_le_mul h4 (by omega)
            have h7 : D.tags.length ≤ 100 := by
              rcases HOK.out.ht with ⟨_, e⟩ | ⟨_, e, _⟩
              · rw [e]; simp
              · omega
            unfold VecD.off at h1
            omega
          clear hdl
          cases nb with
          | true =>
            have hth : D.thin := by
              have h1 := HNA.out.1 rfl
              unfold VecD.thin
              rw [HDW.out, HDL.out]
              rw [List.take_of_length_le (by rw [HLN.out]; exact Nat.le_refl _)] at h1
              exact h1
            have hck := vec_thin HOK.out hth
            rw [HDW.out] at hck
            have HCK := Lib.hid (show mnCheck D.doc 2000 = ((2 : Int), 10) from hck)
            clear hth hck
            go_wp2_with fail
            go_at_call 14
            refine (check_is A2 k2 c2 2000 2 10 _ _ HO.out HCP.out hdb (by decide) HCK.out).mono ?_
            rintro e w5 ⟨rfl, hb⟩
            replace HB := Lib.hid (pure_below HB.out hb)
            clear hb
            go_wp2_with fail
            go_at_call 16
            refine (mnworks_spec _).mono ?_
            rintro e w7 ⟨rfl, hb⟩
            replace HB := Lib.hid (pure_below HB.out hb)
            clear hb
            go_wp2
            go_ret
            exact ⟨rfl, HB.out⟩
          | false =>
            have hth : ¬ D.thin := by
              intro ht
              have h1 : false = true := HNA.out.2 (by
                unfold VecD.thin at ht
                rw [HDW.out, HDL.out] at ht
                rw [List.take_of_length_le (by rw [HLN.out]; exact Nat.le_refl _)]
                exact ht)
              cases h1
            have hck := vec_thick HOK.out hth
            have HCK := Lib.hid hck
            clear hth hck
            go_wp2_with fail
            go_at_call 14
            refine (check_is A2 k2 c2 2000 0 0 _ _ HO.out HCP.out hdb (by decide) HCK.out).mono ?_
            rintro e w5 ⟨rfl, hb⟩
            replace HB := Lib.hid (pure_below HB.out hb)
            clear hb
            go_wp2_with fail
            go_at_call 16
            refine (mnworks_spec _).mono ?_
            rintro e w7 ⟨rfl, hb⟩
            replace HB := Lib.hid (pure_below HB.out hb)
            clear hb
            go_wp2
            go_ret
            exact ⟨rfl, HB.out⟩
  · have hsh : wrap64 (2 ^ (x % 4).toNat) = 4 := by rw [hx]; simp [wrap64]
    go_enter Tryz.func5, Tryz.ntmps5
    go_wp2_with fail
    go_at_call 17
    refine (bring_spec x 4 _ (by decide) (by decide)).mono ?_
    rintro e w1 ⟨rfl, rfl⟩
    go_wp2_with fail
    clear hsh hx
    go_at_call 18
    refine (vlist_spec A M c 4 L typed _ HI.out hM100 (by decide) HUB.out).mono ?_
    rintro e w2 ⟨A2, k2, c2, fi, rfl, hb, hD⟩
    have HB := Lib.hid hb
    replace HI := Lib.hid (HI.out.pure hb)
    clear hb
    cases fi with
    | false =>
      clear hD
      go_wp2_with fail
      go_at_call 16
      refine (mnworks_spec _).mono ?_
      rintro e w7 ⟨rfl, hb⟩
      replace HB := Lib.hid (pure_below HB.out hb)
      clear hb
      go_wp2
      go_ret
      exact ⟨rfl, HB.out⟩
    | true =>
      obtain ⟨D, hok, hdw, hdl, hown⟩ := hD rfl
      have HOK := Lib.hid hok
      have HDW := Lib.hid hdw
      have HDL := Lib.hid hdl
      have HO := Lib.hid hown.is
      have HCP := Lib.hid hown.cap.1
      clear hD hok hdw hdl hown hcut hmin
      go_wp2_with fail
      go_loopw [10, 11] (fun a i wr => ∃ (k : Nat) (nb : Bool), a = .bool nb ∧ i = .int .i64 k ∧ k ≤ M ∧ Below w2.heap.size w2 wr ∧ Nar 4 L k nb) (fun _ i _ => M - (intOf i).toNat)
      case atStart => exact ⟨0, _, rfl, rfl, Nat.zero_le _, Below.refl _ _, by unfold Nar; simp⟩
      case round =>
        obtain ⟨k, nb, rfl, rfl, hkM, hb, hna⟩ := hrel
        replace HB := Lib.hid (pure_below HB.out hb)
        replace HI := Lib.hid (HI.out.pure hb)
        replace HO := Lib.hid (HO.out.pure hb)
        have HBB := Lib.hid hb
        have HNA := Lib.hid hna
        clear hb hna
        by_cases hk : k < M
        · obtain ⟨b1, o1, ea, hk', hcell⟩ := isu_at HI.out hk
          subst ea
          have hst := nar_step HNA.out hk'
          obtain ⟨u, hu⟩ : ∃ u, L[k] = u := ⟨_, rfl⟩
          rw [hu, ← wd_half2 u] at hst
          rw [hu] at hcell
          have HST := Lib.hid hst
          have hk0 : (0 : Int) ≤ k := by omega
          have hkI : (k : Int) < M := by omega
          have hwk : IntKind.i64.wrap ((k : Int) + 1) = (k : Int) + 1 := IntWalk.i64_in _ (by omega)
          obtain ⟨d, hd⟩ : ∃ d, decide ((u : Int) < 65536) = d := ⟨_, rfl⟩
          rw [hd] at HST
          clear hst hu
          cases nb with
          | false =>
            clear hd
            go_wp2_with fail
            go_roundw
            case rel => exact ⟨k + 1, _, rfl, by go_num, hk, HBB.out, by have := HST.out; rw [Bool.false_and] at this; exact this⟩
            case measure => simp [intOf]; omega
          | true =>
            cases d with
            | false =>
              go_wp2_with fail
              go_roundw
              case rel => exact ⟨k + 1, _, rfl, by go_num, hk, HBB.out, by have := HST.out; rw [Bool.true_and] at this; exact this⟩
              case measure => simp [intOf]; omega
            | true =>
              go_wp2_with fail
              go_roundw
              case rel => exact ⟨k + 1, _, rfl, by go_num, hk, HBB.out, by have := HST.out; rw [Bool.true_and] at this; exact this⟩
              case measure => simp [intOf]; omega
        · obtain rfl : k = M := by omega
          have hd : decide (k < k) = false := by simp
          clear hk
          have hdl : D.doc.length = k2 := HO.out.1
          have hdb : k2 ≤ 4294967296 := by
            have h1 := doc_len (D := D)
            have h2 := HOK.out.w8
            have h3 := HOK.out.v8
            have h4 := HOK.out.hn
            have h5 := HOK.out.hp
            have h6 : D.ls.length * D.w ≤ 100 * 8 := Nat.mul_le_mul h4 (by omega)
            have h7 : D.tags.length ≤ 100 := by
              rcases HOK.out.ht with ⟨_, e⟩ | ⟨_, e, _⟩
              · rw [e]; simp
              · omega
            unfold VecD.off at h1
            omega
          clear hdl
          cases nb with
          | true =>
            have hth : D.thin := by
              have h1 := HNA.out.1 rfl
              unfold VecD.thin
              rw [HDW.out, HDL.out]
              rw [List.take_of_length_le (by rw [HLN.out]; exact Nat.le_refl _)] at h1
              exact h1
            have hck := vec_thin HOK.out hth
            rw [HDW.out] at hck
            have HCK := Lib.hid (show mnCheck D.doc 2000 = ((4 : Int), 10) from hck)
            clear hth hck
            go_wp2_with fail
            go_at_call 14
            refine (check_is A2 k2 c2 2000 4 10 _ _ HO.out HCP.out hdb (by decide) HCK.out).mono ?_
            rintro e w5 ⟨rfl, hb⟩
            replace HB := Lib.hid (pure_below HB.out hb)
            clear hb
            go_wp2_with fail
            go_at_call 16
            refine (mnworks_spec _).mono ?_
            rintro e w7 ⟨rfl, hb⟩
            replace HB := Lib.hid (pure_below HB.out hb)
            clear hb
            go_wp2
            go_ret
            exact ⟨rfl, HB.out⟩
          | false =>
            have hth : ¬ D.thin := by
              intro ht
              have h1 : false = true := HNA.out.2 (by
                unfold VecD.thin at ht
                rw [HDW.out, HDL.out] at ht
                rw [List.take_of_length_le (by rw [HLN.out]; exact Nat.le_refl _)]
                exact ht)
              cases h1
            have hck := vec_thick HOK.out hth
            have HCK := Lib.hid hck
            clear hth hck
            go_wp2_with fail
            go_at_call 14
            refine (check_is A2 k2 c2 2000 0 0 _ _ HO.out HCP.out hdb (by decide) HCK.out).mono ?_
            rintro e w5 ⟨rfl, hb⟩
            replace HB := Lib.hid (pure_below HB.out hb)
            clear hb
            go_wp2_with fail
            go_at_call 16
            refine (mnworks_spec _).mono ?_
            rintro e w7 ⟨rfl, hb⟩
            replace HB := Lib.hid (pure_below HB.out hb)
            clear hb
            go_wp2
            go_ret
            exact ⟨rfl, HB.out⟩
  · have hsh : wrap64 (2 ^ (x % 4).toNat) = 8 := by rw [hx]; simp [wrap64]
    go_enter Tryz.func5, Tryz.ntmps5
    go_wp2_with fail
    go_at_call 17
    refine (bring_spec x 4 _ (by decide) (by decide)).mono ?_
    rintro e w1 ⟨rfl, rfl⟩
    go_wp2_with fail
    clear hsh hx
    go_at_call 18
    refine (vlist_spec A M c 8 L typed _ HI.out hM100 (by decide) HUB.out).mono ?_
    rintro e w2 ⟨A2, k2, c2, fi, rfl, hb, hD⟩
    have HB := Lib.hid hb
    replace HI := Lib.hid (HI.out.pure hb)
    clear hb
    cases fi with
    | false =>
      clear hD
      go_wp2_with fail
      go_at_call 16
      refine (mnworks_spec _).mono ?_
      rintro e w7 ⟨rfl, hb⟩
      replace HB := Lib.hid (pure_below HB.out hb)
      clear hb
      go_wp2
      go_ret
      exact ⟨rfl, HB.out⟩
    | true =>
      obtain ⟨D, hok, hdw, hdl, hown⟩ := hD rfl
      have HOK := Lib.hid hok
      have HDW := Lib.hid hdw
      have HDL := Lib.hid hdl
      have HO := Lib.hid hown.is
      have HCP := Lib.hid hown.cap.1
      clear hD hok hdw hdl hown hcut hmin
      go_wp2_with fail
      go_loopw [10, 11] (fun a i wr => ∃ (k : Nat) (nb : Bool), a = .bool nb ∧ i = .int .i64 k ∧ k ≤ M ∧ Below w2.heap.size w2 wr ∧ Nar 8 L k nb) (fun _ i _ => M - (intOf i).toNat)
      case atStart => exact ⟨0, _, rfl, rfl, Nat.zero_le _, Below.refl _ _, by unfold Nar; simp⟩
      case round =>
        obtain ⟨k, nb, rfl, rfl, hkM, hb, hna⟩ := hrel
        replace HB := Lib.hid (pure_below HB.out hb)
        replace HI := Lib.hid (HI.out.pure hb)
        replace HO := Lib.hid (HO.out.pure hb)
        have HBB := Lib.hid hb
        have HNA := Lib.hid hna
        clear hb hna
        by_cases hk : k < M
        · obtain ⟨b1, o1, ea, hk', hcell⟩ := isu_at HI.out hk
          subst ea
          have hst := nar_step HNA.out hk'
          obtain ⟨u, hu⟩ : ∃ u, L[k] = u := ⟨_, rfl⟩
          rw [hu, ← wd_half4 u] at hst
          rw [hu] at hcell
          have HST := Lib.hid hst
          have hk0 : (0 : Int) ≤ k := by omega
          have hkI : (k : Int) < M := by omega
          have hwk : IntKind.i64.wrap ((k : Int) + 1) = (k : Int) + 1 := IntWalk.i64_in _ (by omega)
          obtain ⟨d, hd⟩ : ∃ d, decide ((u : Int) < 4294967296) = d := ⟨_, rfl⟩
          rw [hd] at HST
          clear hst hu
          cases nb with
          | false =>
            clear hd
            go_wp2_with fail
            go_roundw
            case rel => exact ⟨k + 1, _, rfl, by go_num, hk, HBB.out, by have := HST.out; rw [Bool.false_and] at this; exact this⟩
            case measure => simp [intOf]; omega
          | true =>
            cases d with
            | false =>
              go_wp2_with fail
              go_roundw
              case rel => exact ⟨k + 1, _, rfl, by go_num, hk, HBB.out, by have := HST.out; rw [Bool.true_and] at this; exact this⟩
              case measure => simp [intOf]; omega
            | true =>
              go_wp2_with fail
              go_roundw
              case rel => exact ⟨k + 1, _, rfl, by go_num, hk, HBB.out, by have := HST.out; rw [Bool.true_and] at this; exact this⟩
              case measure => simp [intOf]; omega
        · obtain rfl : k = M := by omega
          have hd : decide (k < k) = false := by simp
          clear hk
          have hdl : D.doc.length = k2 := HO.out.1
          have hdb : k2 ≤ 4294967296 := by
            have h1 := doc_len (D := D)
            have h2 := HOK.out.w8
            have h3 := HOK.out.v8
            have h4 := HOK.out.hn
            have h5 := HOK.out.hp
            have h6 : D.ls.length * D.w ≤ 100 * 8 := Nat.mul_le_mul h4 (by omega)
            have h7 : D.tags.length ≤ 100 := by
              rcases HOK.out.ht with ⟨_, e⟩ | ⟨_, e, _⟩
              · rw [e]; simp
              · omega
            unfold VecD.off at h1
            omega
          clear hdl
          cases nb with
          | true =>
            have hth : D.thin := by
              have h1 := HNA.out.1 rfl
              unfold VecD.thin
              rw [HDW.out, HDL.out]
              rw [List.take_of_length_le (by rw [HLN.out]; exact Nat.le_refl _)] at h1
              exact h1
            have hck := vec_thin HOK.out hth
            rw [HDW.out] at hck
            have HCK := Lib.hid (show mnCheck D.doc 2000 = ((8 : Int), 10) from hck)
            clear hth hck
            go_wp2_with fail
            go_at_call 14
            refine (check_is A2 k2 c2 2000 8 10 _ _ HO.out HCP.out hdb (by decide) HCK.out).mono ?_
            rintro e w5 ⟨rfl, hb⟩
            replace HB := Lib.hid (pure_below HB.out hb)
            clear hb
            go_wp2_with fail
            go_at_call 16
            refine (mnworks_spec _).mono ?_
            rintro e w7 ⟨rfl, hb⟩
            replace HB := Lib.hid (pure_below HB.out hb)
            clear hb
            go_wp2
            go_ret
            exact ⟨rfl, HB.out⟩
          | false =>
            have hth : ¬ D.thin := by
              intro ht
              have h1 : false = true := HNA.out.2 (by
                unfold VecD.thin at ht
                rw [HDW.out, HDL.out] at ht
                rw [List.take_of_length_le (by rw [HLN.out]; exact Nat.le_refl _)]
                exact ht)
              cases h1
            have hck := vec_thick HOK.out hth
            have HCK := Lib.hid hck
            clear hth hck
            go_wp2_with fail
            go_at_call 14
            refine (check_is A2 k2 c2 2000 0 0 _ _ HO.out HCP.out hdb (by decide) HCK.out).mono ?_
            rintro e w5 ⟨rfl, hb⟩
            replace HB := Lib.hid (pure_below HB.out hb)
            clear hb
            go_wp2_with fail
            go_at_call 16
            refine (mnworks_spec _).mono ?_
            rintro e w7 ⟨rfl, hb⟩
            replace HB := Lib.hid (pure_below HB.out hb)
            clear hb
            go_wp2
            go_ret
            exact ⟨rfl, HB.out⟩
end Go.Proofs.YtejalfjeihlpeaaGreat
