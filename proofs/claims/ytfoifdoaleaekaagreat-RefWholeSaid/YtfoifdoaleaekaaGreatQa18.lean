/-
  Package fit: All.
  Package vec: legal, low, elements.
-/
import Derived.Test.YtfoifdoaleaekaaGreatQa14
namespace Go.Proofs.YtfoifdoaleaekaaGreat
open Go.RowKit Go.Acc
/-- A value of a slice, cell by cell. -/
theorem isv_bv {w : World} {A : Option Addr} {n : Nat} {vs : List Bv} (h : IsV w A n (vs.map vv)) {k : Nat} (hk : k < n) :
    ∃ b off v, A = some ⟨b, off, none⟩ ∧ vs[k]? = some v ∧ w.cell? ⟨b, off + k * 3, none⟩ = some (.int .i64 (v.t : Int)) ∧ w.cell? ⟨b, off + k * 3 + 1, none⟩ = some (.int .i64 (v.w : Int)) ∧ w.cell? ⟨b, off + k * 3 + 2, none⟩ = some (.int .u64 (v.n : Int)) := by
  obtain ⟨b, off, e, hk', h0, h1, h2⟩ := isv_at h hk
  have hk2 : k < vs.length := by simpa using hk'
  rw [List.getElem_map] at h0 h1 h2
  exact ⟨b, off, vs[k], e, List.getElem?_eq_getElem hk2, h0, h1, h2⟩
theorem isv_len {w : World} {A : Option Addr} {n : Nat} {vs : List Bv} (h : IsV w A n (vs.map vv)) : vs.length = n := by have := h.1; simpa using this
theorem fitsL_take {a y : Nat} : ∀ (vs : List Bv) (i k : Nat) (v : Bv), vs[k]? = some v → fitsL a y i (vs.take (k + 1)) = (fitsL a y i (vs.take k) && fitsV v a (i + k) y)
  | [], _, _, _, h => by simp at h
  | x :: r, i, 0, v, h => by
    simp at h
    subst h
    simp [fitsL]
  | x :: r, i, k + 1, v, h => by
    rw [List.take_succ_cons, List.take_succ_cons, fitsL, fitsL, fitsL_take r (i + 1) k v (by simpa using h), Bool.and_assoc, show i + 1 + k = i + (k + 1) by omega]
theorem fitsL_no {a y : Nat} : ∀ (vs : List Bv) (i k : Nat) (v : Bv), vs[k]? = some v → fitsV v a (i + k) y = false → fitsL a y i vs = false := by
  intro vs i k v h hv
  cases hf : fitsL a y i vs with
  | false => rfl
  | true =>
    have := fitsL_at vs i k v hf h
    rw [hv] at this
    cases this
/-- The key's value where a map's header is asked for. -/
def koOf (ahead : Nat) (kv : Bv) : Option Bv := if ahead = 3 then some kv else none
set_option maxRecDepth 100000 in
set_option maxHeartbeats 2000000 in
theorem all1_spec (kv : Bv) (vs : List Bv) (a ahead y pa pl pk pt n c : Nat) (A : Option Addr) (w : World) (hpa : Blk w pa 3 #[.int .i64 (ahead : Int)]) (hpl : Blk w pl 160 #[.slice A n c]) (hpk : Blk w pk 185 #[.int .i64 (kv.t : Int), .int .i64 (kv.w : Int), .int .u64 (kv.n : Int)]) (hpt : Blk w pt 3 #[.int .i64 (a : Int)])
    (hv : IsV w A n (vs.map vv)) (hy : isW (y : Int) = true) (ha : a ≤ 1048576) (hn : n ≤ 1000000) (hah : ahead = 0 ∨ ahead = 1 ∨ ahead = 3) :
    Calls Tryz.prog 265 #[.int .i64 (y : Int), .pointer (some ⟨pa, 0, none⟩), .pointer (some ⟨pl, 0, none⟩), .pointer (some ⟨pk, 0, none⟩), .pointer (some ⟨pt, 0, none⟩)] w fun e w' => e = .returned (.bool (fitF a ahead (koOf ahead kv) vs y)) ∧ Below w.heap.size w w' := by
  have HV := Lib.hid hv
  have HY := Lib.hid hy
  have hvl := isv_len hv
  have HVL := Lib.hid hvl
  have a0 : w.cell? ⟨pa, 0, none⟩ = some (.int .i64 (ahead : Int)) := hpa.cell 0
  have l0 : w.cell? ⟨pl, 0, none⟩ = some (.slice A n c) := hpl.cell 0
  have a1 : w.cell? ⟨pt, 0, none⟩ = some (.int .i64 (a : Int)) := hpt.cell 0
  have k0 : w.cell? ⟨pk, 0, none⟩ = some (.int .i64 (kv.t : Int)) := hpk.cell 0
  have k1 : w.cell? ⟨pk, 1, none⟩ = some (.int .i64 (kv.w : Int)) := hpk.cell 1
  have k2 : w.cell? ⟨pk, 2, none⟩ = some (.int .u64 (kv.n : Int)) := hpk.cell 2
  have hB := Below.refl w.heap.size w
  have HB := Lib.hid hB
  clear hv hy hB hpa hpl hpk hpt
  obtain ⟨bw, hbw⟩ : ∃ b, bWidth n = b := ⟨_, rfl⟩
  obtain ⟨kr, hkr⟩ : ∃ b, fitsV kv a 0 y = b := ⟨_, rfl⟩
  have HWN := Lib.hid (show wdU n = (bw : Int) by rw [wdU_b, hbw])
  have HKR := Lib.hid hkr
  have hn64 : IntKind.u64.wrap (n : Int) = (n : Int) := u64_in _ (by omega)
  obtain ⟨g, hg⟩ : ∃ g, decide (y < bw) = g := ⟨_, rfl⟩
  have hg2 : decide ((y : Int) < (bw : Int)) = g := by rw [← hg]; exact decide_eq_decide.2 (by omega)
  have HG := Lib.hid (show decide (bWidth vs.length ≤ y) = !g by rw [hvl, hbw, ← hg]; by_cases h : y < bw <;> simp [h] <;> omega)
  clear hvl hbw hkr
  obtain ⟨z0, hz0⟩ : ∃ z, decide ((0 : Int) < (ahead : Int)) = z := ⟨_, rfl⟩
  obtain ⟨z3, hz3⟩ : ∃ z, ((ahead : Int) == 3) = z := ⟨_, rfl⟩
  have hz0' : decide (0 < ahead) = z0 := by rw [← hz0]; exact decide_eq_decide.2 (by omega)
  have HF0 := Lib.hid (show fitF a ahead (koOf ahead kv) vs y = ((!z0 || !g) && (!z3 || kr) && fitsL a y ahead vs) by
    unfold fitF koOf
    rw [HG.out, ← hz0', ← HKR.out]
    congr 1
    congr 1
    · congr 1
      by_cases h : ahead = 0 <;> simp [h] <;> omega
    · rw [← hz3]
      by_cases h : ahead = 3
      · subst h; rfl
      · rw [if_neg h]
        have : ((ahead : Int) == 3) = false := by simp; omega
        rw [this]; rfl)
  have HAH := Lib.hid hah
  have hah3 : ahead ≤ 3 := by omega
  have HZZ := Lib.hid (show z0 = false → z3 = false by rintro rfl; rw [← hz3]; have := of_decide_eq_false hz0; simp; omega)
  clear hah
  cases z0 with
  | false =>
    obtain rfl := HZZ.out rfl
    have HF := Lib.hid (show fitF a ahead (koOf ahead kv) vs y = fitsL a y ahead vs from HF0.out)
    go_enter Tryz.func265, Tryz.ntmps265
    go_wp2_with fail
    go_loopw [32] (fun u wr => ∃ k : Nat, k ≤ n ∧ u = .int .i64 k ∧ Below w.heap.size w wr ∧ fitsL a y ahead (vs.take k) = true) (fun u _ => n - (intOf u).toNat)
    case atStart => exact ⟨0, Nat.zero_le _, rfl, HB.out, rfl⟩
    case round =>
      obtain ⟨k, hk, rfl, hbr, hfk⟩ := hrel
      have HBR := Lib.hid hbr
      have HFK := Lib.hid hfk
      clear hfk
      have q0 := cell_pure hbr a0
      have q1 := cell_pure hbr a1
      have HI := Lib.hid (HV.out.pure hbr)
      clear hbr HB a0 a1 l0
      by_cases hlt : k < n
      · obtain ⟨g, off, v, rfl, hvk, h0, h1, h2⟩ := isv_bv HI.out hlt
        have HVK := Lib.hid hvk
        obtain ⟨j, hj⟩ : ∃ j, ahead + k = j := ⟨_, rfl⟩
        have HJ := Lib.hid hj
        have HJ2 := Lib.hid (show j ≤ 1048576 by omega)
        have hj2 := HJ2.out
        have e1 : (ahead : Int) + (k : Int) = (j : Int) := by omega
        have hj0 : (0 : Int) ≤ (j : Int) := by omega
        have hj3 : (j : Int) ≤ 1048576 := by omega
        have hk0 : (0 : Int) ≤ (k : Int) := by omega
        have hkn : (k : Int) < (n : Int) := by omega
        obtain ⟨r, hr⟩ : ∃ r, fitsV v a j y = r := ⟨_, rfl⟩
        have HR := Lib.hid hr
        clear hvk hj hr
        have HB2 := Lib.hid (HBR.out.alloc HBR.out.size (.cells #[.int .i64 (v.t : Int), .int .i64 (v.w : Int), .int .u64 (v.n : Int)] 185))
        have q0' := kalloc (.cells #[.int .i64 (v.t : Int), .int .i64 (v.w : Int), .int .u64 (v.n : Int)] 185) q0
        have q1' := kalloc (.cells #[.int .i64 (v.t : Int), .int .i64 (v.w : Int), .int .u64 (v.n : Int)] 185) q1
        cases r with
        | true =>
          go_wp2_with fail
          go_at_call 193
          refine (ffits_is v a j y true _ HY.out ha (by have := HJ2.out; omega) HR.out).mono ?_
          rintro e w3 ⟨rfl, hb3⟩
          have HB3 := Lib.hid (pure_below HB2.out hb3)
          clear hb3 q0 q1 q0' q1' h0 h1 h2
          go_wp2_with fail
          go_roundw
          case rel => exact ⟨k + 1, by omega, by go_num, HB3.out, by rw [fitsL_take vs ahead k v HVK.out, HFK.out, HJ.out, HR.out]; rfl⟩
          case measure => simp [intOf]; omega
        | false =>
          go_wp2_with fail
          go_at_call 193
          refine (ffits_is v a j y false _ HY.out ha (by have := HJ2.out; omega) HR.out).mono ?_
          rintro e w3 ⟨rfl, hb3⟩
          have HB3 := Lib.hid (pure_below HB2.out hb3)
          clear hb3 q0 q1 q0' q1' h0 h1 h2
          go_wp2_with fail
          go_ret
          exact ⟨by rw [HF.out, fitsL_no vs ahead k v HVK.out (by rw [HJ.out]; exact HR.out)]; rfl, HB3.out⟩
      · have hd1 : decide ((k : Int) < (n : Int)) = false := decide_eq_false (by omega)
        have hd2 : decide (k < n) = false := decide_eq_false (by omega)
        have HE := Lib.hid (show fitsL a y ahead vs = true by rw [← HFK.out, List.take_of_length_le (by have := HVL.out; omega)])
        clear q0 q1
        go_wp2_with fail
        go_ret
        exact ⟨by rw [HF.out, HE.out]; rfl, HBR.out⟩
  | true =>
    cases g with
    | true =>
      have HF := Lib.hid (show fitF a ahead (koOf ahead kv) vs y = false from HF0.out)
      go_enter Tryz.func265, Tryz.ntmps265
      go_wp2_with fail
      go_at_call 215
      refine (wof_is n bw _ (by omega) HWN.out).mono ?_
      rintro e w' ⟨rfl, rfl⟩
      go_wp2_with fail
      go_ret
      exact ⟨by rw [HF.out]; rfl, HB.out⟩
    | false =>
      cases z3 with
      | false =>
        have HF := Lib.hid (show fitF a ahead (koOf ahead kv) vs y = fitsL a y ahead vs from HF0.out)
        go_enter Tryz.func265, Tryz.ntmps265
        go_wp2_with fail
        go_at_call 215
        refine (wof_is n bw _ (by omega) HWN.out).mono ?_
        rintro e w' ⟨rfl, rfl⟩
        go_wp2_with fail
        go_loopw [32] (fun u wr => ∃ k : Nat, k ≤ n ∧ u = .int .i64 k ∧ Below w.heap.size w wr ∧ fitsL a y ahead (vs.take k) = true) (fun u _ => n - (intOf u).toNat)
        case atStart => exact ⟨0, Nat.zero_le _, rfl, HB.out, rfl⟩
        case round =>
          obtain ⟨k, hk, rfl, hbr, hfk⟩ := hrel
          have HBR := Lib.hid hbr
          have HFK := Lib.hid hfk
          clear hfk
          have q0 := cell_pure hbr a0
          have q1 := cell_pure hbr a1
          have HI := Lib.hid (HV.out.pure hbr)
          clear hbr HB a0 a1 l0
          by_cases hlt : k < n
          · obtain ⟨g, off, v, rfl, hvk, h0, h1, h2⟩ := isv_bv HI.out hlt
            have HVK := Lib.hid hvk
            obtain ⟨j, hj⟩ : ∃ j, ahead + k = j := ⟨_, rfl⟩
            have HJ := Lib.hid hj
            have HJ2 := Lib.hid (show j ≤ 1048576 by omega)
            have hj2 := HJ2.out
            have e1 : (ahead : Int) + (k : Int) = (j : Int) := by omega
            have hj0 : (0 : Int) ≤ (j : Int) := by omega
            have hj3 : (j : Int) ≤ 1048576 := by omega
            have hk0 : (0 : Int) ≤ (k : Int) := by omega
            have hkn : (k : Int) < (n : Int) := by omega
            obtain ⟨r, hr⟩ : ∃ r, fitsV v a j y = r := ⟨_, rfl⟩
            have HR := Lib.hid hr
            clear hvk hj hr
            have HB2 := Lib.hid (HBR.out.alloc HBR.out.size (.cells #[.int .i64 (v.t : Int), .int .i64 (v.w : Int), .int .u64 (v.n : Int)] 185))
            have q0' := kalloc (.cells #[.int .i64 (v.t : Int), .int .i64 (v.w : Int), .int .u64 (v.n : Int)] 185) q0
            have q1' := kalloc (.cells #[.int .i64 (v.t : Int), .int .i64 (v.w : Int), .int .u64 (v.n : Int)] 185) q1
            cases r with
            | true =>
              go_wp2_with fail
              go_at_call 193
              refine (ffits_is v a j y true _ HY.out ha (by have := HJ2.out; omega) HR.out).mono ?_
              rintro e w3 ⟨rfl, hb3⟩
              have HB3 := Lib.hid (pure_below HB2.out hb3)
              clear hb3 q0 q1 q0' q1' h0 h1 h2
              go_wp2_with fail
              go_roundw
              case rel => exact ⟨k + 1, by omega, by go_num, HB3.out, by rw [fitsL_take vs ahead k v HVK.out, HFK.out, HJ.out, HR.out]; rfl⟩
              case measure => simp [intOf]; omega
            | false =>
              go_wp2_with fail
              go_at_call 193
              refine (ffits_is v a j y false _ HY.out ha (by have := HJ2.out; omega) HR.out).mono ?_
              rintro e w3 ⟨rfl, hb3⟩
              have HB3 := Lib.hid (pure_below HB2.out hb3)
              clear hb3 q0 q1 q0' q1' h0 h1 h2
              go_wp2_with fail
              go_ret
              exact ⟨by rw [HF.out, fitsL_no vs ahead k v HVK.out (by rw [HJ.out]; exact HR.out)]; rfl, HB3.out⟩
          · have hd1 : decide ((k : Int) < (n : Int)) = false := decide_eq_false (by omega)
            have hd2 : decide (k < n) = false := decide_eq_false (by omega)
            have HE := Lib.hid (show fitsL a y ahead vs = true by rw [← HFK.out, List.take_of_length_le (by have := HVL.out; omega)])
            clear q0 q1
            go_wp2_with fail
            go_ret
            exact ⟨by rw [HF.out, HE.out]; rfl, HBR.out⟩
      | true =>
        cases kr with
        | false =>
          have HF := Lib.hid (show fitF a ahead (koOf ahead kv) vs y = false from HF0.out)
          go_enter Tryz.func265, Tryz.ntmps265
          go_wp2_with fail
          go_at_call 215
          refine (wof_is n bw _ (by omega) HWN.out).mono ?_
          rintro e w' ⟨rfl, rfl⟩
          go_wp2_with fail
          go_at_call 193
          refine (ffits_is kv a 0 y false _ HY.out ha (by omega) HKR.out).mono ?_
          rintro e w' ⟨rfl, hb⟩
          have HB2 := Lib.hid (pure_below HB.out hb)
          clear hb
          go_wp2_with fail
          go_ret
          exact ⟨by rw [HF.out]; rfl, HB2.out⟩
        | true =>
          have HF := Lib.hid (show fitF a ahead (koOf ahead kv) vs y = fitsL a y ahead vs from HF0.out)
          go_enter Tryz.func265, Tryz.ntmps265
          go_wp2_with fail
          go_at_call 215
          refine (wof_is n bw _ (by omega) HWN.out).mono ?_
          rintro e w' ⟨rfl, rfl⟩
          go_wp2_with fail
          go_at_call 193
          refine (ffits_is kv a 0 y true _ HY.out ha (by omega) HKR.out).mono ?_
          rintro e w2 ⟨rfl, hb⟩
          replace HB := Lib.hid (pure_below HB.out hb)
          have l0' := cell_pure hb l0
          clear hb k0 k1 k2
          go_wp2_with fail
          go_loopw [32] (fun u wr => ∃ k : Nat, k ≤ n ∧ u = .int .i64 k ∧ Below w.heap.size w wr ∧ fitsL a y ahead (vs.take k) = true) (fun u _ => n - (intOf u).toNat)
          case atStart => exact ⟨0, Nat.zero_le _, rfl, HB.out, rfl⟩
          case round =>
            obtain ⟨k, hk, rfl, hbr, hfk⟩ := hrel
            have HBR := Lib.hid hbr
            have HFK := Lib.hid hfk
            clear hfk
            have q0 := cell_pure hbr a0
            have q1 := cell_pure hbr a1
            have HI := Lib.hid (HV.out.pure hbr)
            clear hbr HB a0 a1 l0
            by_cases hlt : k < n
            · obtain ⟨g, off, v, rfl, hvk, h0, h1, h2⟩ := isv_bv HI.out hlt
              have HVK := Lib.hid hvk
              obtain ⟨j, hj⟩ : ∃ j, ahead + k = j := ⟨_, rfl⟩
              have HJ := Lib.hid hj
              have HJ2 := Lib.hid (show j ≤ 1048576 by omega)
              have hj2 := HJ2.out
              have e1 : (ahead : Int) + (k : Int) = (j : Int) := by omega
              have hj0 : (0 : Int) ≤ (j : Int) := by omega
              have hj3 : (j : Int) ≤ 1048576 := by omega
              have hk0 : (0 : Int) ≤ (k : Int) := by omega
              have hkn : (k : Int) < (n : Int) := by omega
              obtain ⟨r, hr⟩ : ∃ r, fitsV v a j y = r := ⟨_, rfl⟩
              have HR := Lib.hid hr
              clear hvk hj hr
              have HB2 := Lib.hid (HBR.out.alloc HBR.out.size (.cells #[.int .i64 (v.t : Int), .int .i64 (v.w : Int), .int .u64 (v.n : Int)] 185))
              have q0' := kalloc (.cells #[.int .i64 (v.t : Int), .int .i64 (v.w : Int), .int .u64 (v.n : Int)] 185) q0
              have q1' := kalloc (.cells #[.int .i64 (v.t : Int), .int .i64 (v.w : Int), .int .u64 (v.n : Int)] 185) q1
              cases r with
              | true =>
                go_wp2_with fail
                go_at_call 193
                refine (ffits_is v a j y true _ HY.out ha (by have := HJ2.out; omega) HR.out).mono ?_
                rintro e w3 ⟨rfl, hb3⟩
                have HB3 := Lib.hid (pure_below HB2.out hb3)
                clear hb3 q0 q1 q0' q1' h0 h1 h2
                go_wp2_with fail
                go_roundw
                case rel => exact ⟨k + 1, by omega, by go_num, HB3.out, by rw [fitsL_take vs ahead k v HVK.out, HFK.out, HJ.out, HR.out]; rfl⟩
                case measure => simp [intOf]; omega
              | false =>
                go_wp2_with fail
                go_at_call 193
                refine (ffits_is v a j y false _ HY.out ha (by have := HJ2.out; omega) HR.out).mono ?_
                rintro e w3 ⟨rfl, hb3⟩
                have HB3 := Lib.hid (pure_below HB2.out hb3)
                clear hb3 q0 q1 q0' q1' h0 h1 h2
                go_wp2_with fail
                go_ret
                exact ⟨by rw [HF.out, fitsL_no vs ahead k v HVK.out (by rw [HJ.out]; exact HR.out)]; rfl, HB3.out⟩
            · have hd1 : decide ((k : Int) < (n : Int)) = false := decide_eq_false (by omega)
              have hd2 : decide (k < n) = false := decide_eq_false (by omega)
              have HE := Lib.hid (show fitsL a y ahead vs = true by rw [← HFK.out, List.take_of_length_le (by have := HVL.out; omega)])
              clear q0 q1
              go_wp2_with fail
              go_ret
              exact ⟨by rw [HF.out, HE.out]; rfl, HBR.out⟩
set_option maxRecDepth 100000 in
set_option maxHeartbeats 2000000 in
theorem all_spec (kv : Bv) (vs : List Bv) (a ahead n c : Nat) (A : Option Addr) (w : World) (hv : IsV w A n (vs.map vv)) (ha : a ≤ 1048576) (hn : n ≤ 1000000) (hah : ahead = 0 ∨ ahead = 1 ∨ ahead = 3) :
    Calls Tryz.prog 243 #[.int .i64 (a : Int), .int .i64 (ahead : Int), .agg #[.int .i64 (kv.t : Int), .int .i64 (kv.w : Int), .int .u64 (kv.n : Int)], .slice A n c] w fun e w' => e = .returned (.int .i64 (fitAll a ahead (koOf ahead kv) vs : Nat)) ∧ Below w.heap.size w w' := by
  have hB : Below w.heap.size w ((((w.alloc (.cells #[.int .i64 (a : Int)] 3)).alloc (.cells #[.int .i64 (ahead : Int)] 3)).alloc (.cells #[.int .i64 (kv.t : Int), .int .i64 (kv.w : Int), .int .u64 (kv.n : Int)] 185)).alloc (.cells #[.slice A n c] 160)) := ((((Below.refl _ _).alloc (Nat.le_refl _) _).alloc (by simp) _).alloc (by simp; omega) _).alloc (by simp; omega) _
  have HB := Lib.hid hB
  have HV := Lib.hid (hv.pure hB)
  have HT := Lib.hid ((((Blk.new w 3 #[.int .i64 (a : Int)]).alloc (.cells #[.int .i64 (ahead : Int)] 3)).alloc (.cells #[.int .i64 (kv.t : Int), .int .i64 (kv.w : Int), .int .u64 (kv.n : Int)] 185)).alloc (.cells #[.slice A n c] 160))
  have HA := Lib.hid (((blk_new2 w (.cells #[.int .i64 (a : Int)] 3) 3 #[.int .i64 (ahead : Int)]).alloc (.cells #[.int .i64 (kv.t : Int), .int .i64 (kv.w : Int), .int .u64 (kv.n : Int)] 185)).alloc (.cells #[.slice A n c] 160))
  have HK := Lib.hid ((blk_new3 w (.cells #[.int .i64 (a : Int)] 3) (.cells #[.int .i64 (ahead : Int)] 3) 185 #[.int .i64 (kv.t : Int), .int .i64 (kv.w : Int), .int .u64 (kv.n : Int)]).alloc (.cells #[.slice A n c] 160))
  have HL := Lib.hid (Blk.new_ (w := ((w.alloc (.cells #[.int .i64 (a : Int)] 3)).alloc (.cells #[.int .i64 (ahead : Int)] 3)).alloc (.cells #[.int .i64 (kv.t : Int), .int .i64 (kv.w : Int), .int .u64 (kv.n : Int)] 185)) (g := w.heap.size + 1 + 1 + 1) (by simp) 160 #[.slice A n c])
  obtain ⟨r, hr⟩ : ∃ r, fitAll a ahead (koOf ahead kv) vs = r := ⟨_, rfl⟩
  rw [hr]
  have HR := Lib.hid hr
  have HAH := Lib.hid hah
  have hn2 : (n : Int) ≤ 1048576 := by omega
  obtain ⟨z0, hz0⟩ : ∃ z, ((ahead : Int) != 0) = z := ⟨_, rfl⟩
  obtain ⟨z1, hz1⟩ : ∃ z, ((ahead : Int) != 1) = z := ⟨_, rfl⟩
  obtain ⟨z3, hz3⟩ : ∃ z, ((ahead : Int) != 3) = z := ⟨_, rfl⟩
  have hz : (z0 && (z1 && z3)) = false := by rw [← hz0, ← hz1, ← hz3]; rcases hah with rfl | rfl | rfl <;> rfl
  have HZ := Lib.hid hz
  clear hB hv hr hah hz
  cases z0
  all_goals
    cases z1
    all_goals
      cases z3
      all_goals
        first
        | (exact absurd HZ.out (by decide))
        | skip
  all_goals
    go_enter Tryz.func243, Tryz.ntmps243
    go_wp2_with fail
    go_at_call 190
    refine (fwithin_spec a _ (by omega)).mono ?_
    rintro e w' ⟨rfl, rfl⟩
    go_wp2_with fail
    go_at_call 191
    generalize ((((w.alloc (.cells #[.int .i64 (a : Int)] 3)).alloc (.cells #[.int .i64 (ahead : Int)] 3)).alloc (.cells #[.int .i64 (kv.t : Int), .int .i64 (kv.w : Int), .int .u64 (kv.n : Int)] 185)).alloc (.cells #[.slice A n c] 160)) = w1 at HB HV HT HA HK HL ⊢
    generalize w.heap.size + 1 + 1 + 1 = pl at HL ⊢
    generalize w.heap.size + 1 + 1 = pk at HK ⊢
    generalize w.heap.size + 1 = pa at HA ⊢
    have HF := fun (y : Fin 4) (W : World) (hW : Below w1.heap.size w1 W) => all1_spec kv vs a ahead (2 ^ y.val) pa pl pk w.heap.size n c A W (HA.out.pure hW) (HL.out.pure hW) (HK.out.pure hW) (HT.out.pure hW) (HV.out.pure hW) (pow4_is y) ha hn HAH.out
    refine (least_spec 265 #[.pointer (some ⟨pa, 0, none⟩), .pointer (some ⟨pl, 0, none⟩), .pointer (some ⟨pk, 0, none⟩), .pointer (some ⟨w.heap.size, 0, none⟩)] (fitF a ahead (koOf ahead kv) vs) w1 Tryz.call265 HF).mono ?_
    rw [show leastW (fitF a ahead (koOf ahead kv) vs) = r from HR.out]
    rintro e w' ⟨rfl, hb⟩
    have HB2 := Lib.hid (pure_below HB.out hb)
    clear hb
    go_wp2_with fail
    go_ret
    exact ⟨rfl, HB2.out⟩
end Go.Proofs.YtfoifdoaleaekaaGreat

namespace Go.Proofs.YtfoifdoaleaekaaGreat
open Go.RowKit Go.Acc
set_option maxHeartbeats 1000000 in
theorem vlegal_spec (v : Bv) (w : World) (hl : legalT (v.t : Int) = true) (hw : isW (v.w : Int) = true) : Calls Tryz.prog 260 #[.agg #[.int .i64 (v.t : Int), .int .i64 (v.w : Int), .int .u64 (v.n : Int)]] w fun e w' => e = .returned (.int .i64 0) ∧ Below w.heap.size w w' := by
  have HB := Lib.hid (show Below w.heap.size w (w.alloc (.cells #[.int .i64 (v.t : Int), .int .i64 (v.w : Int), .int .u64 (v.n : Int)] 185)) from (Below.refl _ _).alloc (Nat.le_refl _) _)
  have HX := Lib.hid (Blk.new w 185 #[.int .i64 (v.t : Int), .int .i64 (v.w : Int), .int .u64 (v.n : Int)])
  have HL := Lib.hid hl
  have HW := Lib.hid hw
  clear hl hw
  go_enter Tryz.func260, Tryz.ntmps260
  go_wp2_with fail
  go_at_call 84
  refine (wcode_spec (v.w : Int) _ HW.out).mono ?_
  rintro e w' ⟨⟨c, rfl⟩, rfl⟩
  go_wp2_with fail
  go_at_call 44
  refine (legal_spec (v.t : Int) _).mono ?_
  rw [HL.out]
  rintro e w1 ⟨rfl, hb⟩
  have HB1 := Lib.hid (pure_below HB.out hb)
  have HX1 := Lib.hid (HX.out.pure hb)
  have x0 : w1.cell? ⟨w.heap.size, 0, none⟩ = some (.int .i64 (v.t : Int)) := HX1.out.cell 0
  clear hb
  go_wp2_with fail
  go_at_call 17
  refine (inline_spec (v.t : Int) _).mono ?_
  obtain ⟨iv, hiv⟩ : ∃ x, inlineT (v.t : Int) = x := ⟨_, rfl⟩
  rw [hiv]
  rintro e w2 ⟨rfl, hb⟩
  have HB2 := Lib.hid (pure_below HB1.out hb)
  clear hb x0 hiv
  cases iv with
  | true =>
    go_wp2_with fail
    go_ret
    exact ⟨rfl, HB2.out⟩
  | false =>
    go_wp2_with fail
    go_ret
    exact ⟨rfl, HB2.out⟩
theorem elemsB_take (w : Nat) : ∀ (vs : List Bv) (k : Nat) (v : Bv) (l : List UInt8), vs[k]? = some v → elemsB w l (vs.take (k + 1)) = elemsB w l (vs.take k) ++ leBytes w (elemN w (l.length + k * w) v)
  | [], _, _, _, h => by simp at h
  | x :: r, 0, v, l, h => by
    simp at h
    subst h
    simp [elemsB]
  | x :: r, k + 1, v, l, h => by
    rw [List.take_succ_cons, List.take_succ_cons, elemsB, elemsB, elemsB_take w r k v _ (by simpa using h), List.length_append, leBytes_length]
    congr 3
    rw [Nat.succ_mul]
    omega
theorem elemsB_len2 (w : Nat) (vs : List Bv) (l : List UInt8) : (elemsB w l vs).length = l.length + vs.length * w := by
  obtain ⟨m, e, h⟩ := elemsB_app w vs l
  rw [e, List.length_append, h, Nat.mul_comm]
set_option maxHeartbeats 400000 in
theorem vlow_spec (n y : Nat) (w : World) (hy : isW (y : Int) = true) :
    Calls Tryz.prog 266 #[.int .u64 (n : Int), .int .i64 (y : Int)] w fun e w' => e = .returned (.int .u64 ((n % 2 ^ (8 * y) : Nat) : Int)) ∧ w = w' := by
  rcases w_cases hy with rfl | rfl | rfl | rfl
  · have HL := Lib.hid (show IntKind.u64.wrap ((n : Int) * 72057594037927936) / 72057594037927936 = ((n % 2 ^ (8 * 1) : Nat) : Int) from low_cut n 8 (by omega))
    clear hy
    go_enter Tryz.func266, Tryz.ntmps266
    go_wp2_with fail
    go_ret
    exact ⟨ret_int HL.out, rfl⟩
  · have HL := Lib.hid (show IntKind.u64.wrap ((n : Int) * 281474976710656) / 281474976710656 = ((n % 2 ^ (8 * 2) : Nat) : Int) from low_cut n 16 (by omega))
    clear hy
    go_enter Tryz.func266, Tryz.ntmps266
    go_wp2_with fail
    go_ret
    exact ⟨ret_int HL.out, rfl⟩
  · have HL := Lib.hid (show IntKind.u64.wrap ((n : Int) * 4294967296) / 4294967296 = ((n % 2 ^ (8 * 4) : Nat) : Int) from low_cut n 32 (by omega))
    clear hy
    go_enter Tryz.func266, Tryz.ntmps266
    go_wp2_with fail
    go_ret
    exact ⟨ret_int HL.out, rfl⟩
  · have HL := Lib.hid (show IntKind.u64.wrap (n : Int) = ((n % 2 ^ (8 * 8) : Nat) : Int) by have h := low_cut n 64 (by omega); simpa using h)
    clear hy
    go_enter Tryz.func266, Tryz.ntmps266
    go_wp2_with fail
    go_ret
    exact ⟨ret_int HL.out, rfl⟩
set_option maxRecDepth 100000 in
set_option maxHeartbeats 2000000 in
theorem elements_spec (b y n c : Nat) (A : Option Addr) (vs : List Bv) (l : List UInt8) (w : World) (o : Nat → Nat) (h : Buf w o b l) (hv : IsV w A n (vs.map vv)) (ho : ∀ ad, A = some ad → o ad.block ≠ 1) (hy : isW (y : Int) = true)
    (hE : ∀ (i : Nat) v, vs[i]? = some v → inl v.t = false → v.n ≤ l.length + i * y ∧ l.length + i * y - v.n < 2 ^ (8 * y)) (hm : l.length + vs.length * y ≤ 1048576) (hn : n ≤ 1000000) :
    Calls Tryz.prog 244 #[.pointer (some ⟨b, 0, none⟩), .int .i64 (y : Int), .slice A n c] w (BufTo w o b (elemsB y l vs)) := by
  have H := Lib.hid h
  have HV := Lib.hid hv
  have HOO := Lib.hid ho
  have HY := Lib.hid hy
  have HE := Lib.hid hE
  have HM := Lib.hid hm
  have HVL := Lib.hid (isv_len hv)
  clear h hv ho hE hm hy
  go_enter Tryz.func244, Tryz.ntmps244
  go_wp2_with fail
  go_loopw [10] (fun u wr => ∃ k : Nat, k ≤ n ∧ u = .int .i64 k ∧ ∃ o', Buf wr o' b (elemsB y l (vs.take k)) ∧ To (fun i => i = 1) w o wr o' ∧ IsV wr A n (vs.map vv) ∧ ∀ ad, A = some ad → o' ad.block ≠ 1) (fun u _ => n - (intOf u).toNat)
  case atStart => exact ⟨0, Nat.zero_le _, rfl, o, by rw [List.take_zero]; exact H.out, To.refl _ _ _, HV.out, HOO.out⟩
  case round =>
    obtain ⟨k, hk, rfl, o', hb, ht, hvr, hor⟩ := hrel
    have HBR := Lib.hid hb
    have HTR := Lib.hid ht
    have HVR := Lib.hid hvr
    have HOR := Lib.hid hor
    clear H HV HOO hb ht hvr hor
    by_cases hlt : k < n
    · obtain ⟨g, off, v, rfl, hvk, h0, h1, h2⟩ := isv_bv HVR.out hlt
      have HLT := Lib.hid (show g < wr.heap.size from lt_of_cell h0)
      have HT := Lib.hid (elemsB_take y vs k v l hvk)
      obtain ⟨m, hml⟩ : ∃ m, l.length + k * y = m := ⟨_, rfl⟩
      have hme : (elemsB y l (vs.take k)).length = m := by rw [elemsB_len2, List.length_take, HVL.out, Nat.min_eq_left (by omega)]; exact hml
      have hmy : m + y ≤ 1048576 := by
        have h3 := HM.out
        rw [HVL.out] at h3
        have h4 : (k + 1) * y ≤ n * y := Nat.mul_le_mul_right y (by omega)
        rw [Nat.succ_mul] at h4
        omega
      have hEk := HE.out k v hvk
      rw [hml] at hEk
      obtain ⟨q, hq⟩ : ∃ q, elemN y m v = q := ⟨_, rfl⟩
      rw [hml, hq] at HT
      have HMY := Lib.hid (show (elemsB y l (vs.take k)).length + y ≤ 1048576 by rw [hme]; exact hmy)
      have HME := Lib.hid hme
      have HQ := Lib.hid hq
      have HEK := Lib.hid hEk
      have hk0 : (0 : Int) ≤ (k : Int) := by omega
      have hkn : (k : Int) < (n : Int) := by omega
      have hmb : m ≤ 1048576 := by omega
      have hBA := (Below.refl wr.heap.size wr).alloc (Nat.le_refl _) (.cells #[.int .i64 (v.t : Int), .int .i64 (v.w : Int), .int .u64 (v.n : Int)] 185)
      have HBA := Lib.hid hBA
      have HBF := Lib.hid (HBR.out.fresh hBA 0)
      have HXA := Lib.hid (Blk.new wr 185 #[.int .i64 (v.t : Int), .int .i64 (v.w : Int), .int .u64 (v.n : Int)])
      have HX0 := Lib.hid (show newO o' wr.heap.size 0 wr.heap.size = 0 from newO_new (Nat.le_refl _))
      have HTA0 := Lib.hid (To.fresh (fun i => i = 1) hBA o' 0)
      obtain ⟨iv, hiv⟩ : ∃ x, inlineT (v.t : Int) = x := ⟨_, rfl⟩
      have HIV := Lib.hid hiv
      clear hml hme hmy hvk hEk hq hBA hiv
      go_wp2_with fail
      go_at_call 17
      generalize wr.alloc (.cells #[.int .i64 (v.t : Int), .int .i64 (v.w : Int), .int .u64 (v.n : Int)] 185) = wa at HBA HBF HXA HTA0 ⊢
      generalize newO o' wr.heap.size 0 = oa at HBF HX0 HTA0
      refine (inline_spec (v.t : Int) _).mono ?_
      rw [HIV.out]
      rintro e w2 ⟨rfl, hb⟩
      have HTA := Lib.hid (HTA0.out.trans (To.pure _ hb oa))
      have HB2 := Lib.hid (HBF.out.pure hb)
      have HX2 := Lib.hid (HXA.out.pure hb)
      have x2 : w2.cell? ⟨wr.heap.size, 2, none⟩ = some (.int .u64 (v.n : Int)) := HX2.out.cell 2
      clear hb h0 h1 h2 HTA0 HBF HXA
      cases iv with
      | true =>
        have hin : inl v.t = true := HIV.out
        have HQ2 := Lib.hid (show v.n % 2 ^ (8 * y) = q by rw [← HQ.out]; unfold elemN; rw [if_pos hin])
        have hvl := vlow_spec v.n y w2 HY.out
        rw [HQ2.out] at hvl
        have HVLW := Lib.hid hvl
        have HFQ := Lib.hid (show fitsU y q = true by rw [← HQ2.out]; exact fits_low _ _)
        have HLQ := Lib.hid (show (q : Int) < 18446744073709551616 by rw [← HQ2.out]; exact low_lt _ HY.out)
        clear hin hvl
        go_wp2_with fail
        go_at_call 266
        refine HVLW.out.mono ?_
        rintro e w' ⟨rfl, rfl⟩
        clear x2
        go_wp2_with fail
        go_at_call 133
        refine (bnum_spec b y q _ _ _ HB2.out HY.out HFQ.out HLQ.out HMY.out).mono ?_
        rintro e w4 ⟨rfl, o4, hB4, hT4⟩
        have HB4 := Lib.hid (show Buf w4 o4 b (elemsB y l (vs.take (k + 1))) by rw [HT.out]; exact hB4)
        have HT4 := Lib.hid ((HTA.out).trans hT4)
        have HV4 := Lib.hid (HVR.out.fr (HT4.out).fr (fun ad h => HOR.out ad h))
        have HO4 := Lib.hid (show ∀ ad, (some ⟨g, off, none⟩ : Option Addr) = some ad → o4 ad.block ≠ 1 from fun ad h => by
          rw [HT4.out.ow ad.block (by injection h with h; subst h; exact HLT.out)]
          exact HOR.out ad h)
        clear hB4 hT4
        go_wp2_with fail
        go_roundw
        case rel => exact ⟨k + 1, by omega, by go_num, o4, HB4.out, HTR.out.trans HT4.out, HV4.out, HO4.out⟩
        case measure => simp [intOf]; omega
      | false =>
        have hin : inl v.t = false := HIV.out
        obtain ⟨hle, hfit⟩ := HEK.out hin
        have hne : ¬ inl v.t = true := by rw [hin]; decide
        have hq2 : m - v.n = q := by rw [← HQ.out]; unfold elemN; rw [if_neg hne]
        have HFQ := Lib.hid (show fitsU y q = true from decide_eq_true (.inr (by rw [← hq2]; exact hfit)))
        have HLQ := Lib.hid (show (q : Int) < 18446744073709551616 by omega)
        have e1 : IntKind.u64.wrap (m : Int) = m := u64_in _ (by omega)
        have e2 : (m : Int) - (v.n : Int) = q := by omega
        have e3 : IntKind.u64.wrap (q : Int) = q := u64_in _ (by omega)
        clear hin hle hfit hne hq2
        go_wp2_with fail
        go_region_held3 (fun w' => w'.cell? ⟨wr.heap.size, 2, none⟩ = some (.int .u64 (v.n : Int))) (first | with_reducible exact x2 | with_reducible exact kdrew x2 | with_reducible exact kdrewN _ x2 | with_reducible exact y2) (first | (go_at_call 129; (with_reducible refine (blen_is m (HB2.out.pure (Below.refl _ _).drew) HME.out).mono ?_); rintro e w' ⟨rfl, rfl⟩) | (go_at_call 133; (with_reducible refine (bnum_spec b y q _ _ _ (HB2.out.pure (Below.refl _ _).drew) HY.out HFQ.out HLQ.out HMY.out).mono ?_); rintro e w4 ⟨rfl, o4, hB4, hT4⟩; have y2 : w4.cell? ⟨wr.heap.size, 2, none⟩ = some (.int .u64 (v.n : Int)) := (HX2.out.to_ (To.from_drew hT4) (by rw [HX0.out]; omega)).cell 2; have HRAW := Lib.hid (And.intro hB4 (To.from_drew hT4)); clear hB4 hT4))
        obtain ⟨hB4, hT4⟩ := HRAW.out
        have HB4 := Lib.hid (show Buf w4 o4 b (elemsB y l (vs.take (k + 1))) by rw [HT.out]; exact hB4)
        have HT4 := Lib.hid ((HTA.out).trans hT4)
        have HV4 := Lib.hid (HVR.out.fr (HT4.out).fr (fun ad h => HOR.out ad h))
        have HO4 := Lib.hid (show ∀ ad, (some ⟨g, off, none⟩ : Option Addr) = some ad → o4 ad.block ≠ 1 from fun ad h => by
          rw [HT4.out.ow ad.block (by injection h with h; subst h; exact HLT.out)]
          exact HOR.out ad h)
        clear hB4 hT4 x2 y2 e1 e2 e3
        go_wp2_with fail
        go_roundw
        case rel => exact ⟨k + 1, by omega, by go_num, o4, HB4.out, HTR.out.trans HT4.out, HV4.out, HO4.out⟩
        case measure => simp [intOf]; omega
    · have hd1 : decide ((k : Int) < (n : Int)) = false := decide_eq_false (by omega)
      have hd2 : decide (k < n) = false := decide_eq_false (by omega)
      have HE2 := Lib.hid (show vs.take k = vs from List.take_of_length_le (by have := HVL.out; omega))
      go_wp2_with fail
      go_end0
      exact ⟨rfl, o', by have h := HBR.out; rw [HE2.out] at h; exact h, HTR.out⟩
end Go.Proofs.YtfoifdoaleaekaaGreat
