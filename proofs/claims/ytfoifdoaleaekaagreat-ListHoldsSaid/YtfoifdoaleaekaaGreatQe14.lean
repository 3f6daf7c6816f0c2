/-
  Package encode: told.
-/
import Derived.Test.YtfoifdoaleaekaaGreatQe13
namespace Go.Proofs.YtfoifdoaleaekaaGreat
open Go.RowKit Go.Acc
def nbc (x : Int) : List Value := [.int .i64 x]
def ubc (x : Nat) : List Value := [.int .u64 (x : Int)]
def bbc (x : Bool) : List Value := [.bool x]
theorem one_cell {u : Value} (h : u.oneCell' = true) : ∀ v ∈ [u], v.oneCell' = true := by
  intro v hv
  simp at hv
  subst hv
  exact h
theorem is_one {α : Type} {f : α → List Value} (W : World) (t : TypeId) (x : α) (u : Value) (h : f x = [u]) : Is f (W.alloc (.cells #[u] t)) (some ⟨W.heap.size, 0, none⟩) 1 [x] := by
  refine ⟨rfl, fun j y hy => ⟨_, _, rfl, ?_⟩⟩
  rw [Nat.zero_add, (Blk.new W t _).cell j]
  have e : [x].flatMap f = [u] := by simp [h]
  rw [e] at hy
  simpa using hy
theorem info_n : (Tryz.prog.info? 2).map (fun i => (i.zero, i.size, i.bytes)) = some (some (.int .i64 0), 1, 8) := by kernel_rfl
theorem info_u : (Tryz.prog.info? 22).map (fun i => (i.zero, i.size, i.bytes)) = some (some (.int .u64 0), 1, 8) := by kernel_rfl
theorem info_bo : (Tryz.prog.info? 4).map (fun i => (i.zero, i.size, i.bytes)) = some (some (.bool false), 1, 1) := by kernel_rfl
theorem info_st : (Tryz.prog.info? 9).map (fun i => (i.zero, i.size, i.bytes)) = some (some (.string ⟨#[]⟩), 1, 16) := by kernel_rfl
theorem enum_spec (x : Nv) (w : World) : Calls Tryz.prog 106 #[.agg #[.int .i64 x.k, .int .i64 x.n, .int .u64 (x.u : Int), .string ⟨x.s.toArray⟩, .slice x.A x.an x.ac, .slice x.B x.bn x.bc]] w fun e w' => e = .returned (.int .i64 x.n) ∧ Below w.heap.size w w' := by
  go_enter Tryz.func106, Tryz.ntmps106
  go_wp2_with fail
  go_ret
  exact ⟨rfl, (Below.refl _ _).alloc (Nat.le_refl _) _⟩
theorem euns_spec (x : Nv) (w : World) : Calls Tryz.prog 109 #[.agg #[.int .i64 x.k, .int .i64 x.n, .int .u64 (x.u : Int), .string ⟨x.s.toArray⟩, .slice x.A x.an x.ac, .slice x.B x.bn x.bc]] w fun e w' => e = .returned (.int .u64 (x.u : Int)) ∧ Below w.heap.size w w' := by
  go_enter Tryz.func109, Tryz.ntmps109
  go_wp2_with fail
  go_ret
  exact ⟨rfl, (Below.refl _ _).alloc (Nat.le_refl _) _⟩
theorem etext_spec (x : Nv) (w : World) : Calls Tryz.prog 115 #[.agg #[.int .i64 x.k, .int .i64 x.n, .int .u64 (x.u : Int), .string ⟨x.s.toArray⟩, .slice x.A x.an x.ac, .slice x.B x.bn x.bc]] w fun e w' => e = .returned (.string ⟨x.s.toArray⟩) ∧ Below w.heap.size w w' := by
  go_enter Tryz.func115, Tryz.ntmps115
  go_wp2_with fail
  go_ret
  exact ⟨rfl, (Below.refl _ _).alloc (Nat.le_refl _) _⟩
theorem eyes_spec (x : Nv) (w : World) : Calls Tryz.prog 112 #[.agg #[.int .i64 x.k, .int .i64 x.n, .int .u64 (x.u : Int), .string ⟨x.s.toArray⟩, .slice x.A x.an x.ac, .slice x.B x.bn x.bc]] w fun e w' => e = .returned (.bool (decide (x.n = 1))) ∧ Below w.heap.size w w' := yes_spec x.k x.n x.u x.s x.A x.an x.ac x.B x.bn x.bc w
def ToldW {α : Type} (f : α → List Value) (t : TypeId) (w : World) (n : Nat) (l : List α) (e : Ending) (w' : World) : Prop :=
  ∃ A c, e = .returned (.slice A n c) ∧ Go.Acc.Own f 1 t w' w.heap.size A n c l ∧ Below w.heap.size w w'
set_option maxRecDepth 100000 in
set_option maxHeartbeats 2000000 in
theorem toldn_spec (x : Nv) (vs : List Nv) (w : World) (hI : IsN w x.B x.bn vs) (hn : x.bn ≤ 1000000) : Calls Tryz.prog 105 #[.agg #[.int .i64 x.k, .int .i64 x.n, .int .u64 (x.u : Int), .string ⟨x.s.toArray⟩, .slice x.A x.an x.ac, .slice x.B x.bn x.bc], .func (.func 106) #[] #[]] w (ToldW nbc 2 w x.bn (vs.map Nv.n)) := by
  have HI := Lib.hid hI
  have HB0 := Lib.hid (show Below w.heap.size w (w.alloc (.cells #[.int .i64 x.k, .int .i64 x.n, .int .u64 (x.u : Int), .string ⟨x.s.toArray⟩, .slice x.A x.an x.ac, .slice x.B x.bn x.bc] 26)) from (Below.refl _ _).alloc (Nat.le_refl _) _)
  have HL := Lib.hid hI.1
  clear hI
  go_enter Tryz.func105, Tryz.ntmps105
  go_wp2_with fail
  go_loopw [4, 10] (fun s u wr => ∃ k : Nat, k ≤ x.bn ∧ u = .int .i64 k ∧ ∃ A c, s = .slice A k c ∧ Go.Acc.Own nbc 1 2 wr w.heap.size A k c ((vs.take k).map Nv.n) ∧ Below w.heap.size w wr) (fun _ u _ => x.bn - (intOf u).toNat)
  case atStart => exact ⟨0, Nat.zero_le _, rfl, none, 0, rfl, Own.nil _ _, HB0.out⟩
  case round =>
    obtain ⟨k, hk, rfl, A, c, rfl, ho, hbr⟩ := hrel
    have HO := Lib.hid ho
    have HBR := Lib.hid hbr
    have hIr := HI.out.pure hbr
    clear ho hbr HB0
    by_cases hlt : k < x.bn
    · obtain ⟨v, hv⟩ : ∃ v, vs[k]? = some v := ⟨_, List.getElem?_eq_getElem (by have := HL.out; omega)⟩
      obtain ⟨g, off, e, v0, v1, v2, v3, v4, v5⟩ := isn_at hIr hv
      have HT := Lib.hid (show (vs.take (k + 1)).map Nv.n = (vs.take k).map Nv.n ++ [v.n] by
        obtain ⟨q1, q2⟩ := List.getElem?_eq_some_iff.1 hv
        rw [List.take_succ_eq_append_getElem q1, q2, List.map_append]; rfl)
      have hk0 : (0 : Int) ≤ (k : Int) := by omega
      have hkn : (k : Int) < (x.bn : Int) := by omega
      have HBA := Lib.hid (HBR.out.alloc HBR.out.size (.cells #[.int .i64 v.k, .int .i64 v.n, .int .u64 (v.u : Int), .string ⟨v.s.toArray⟩, .slice v.A v.an v.ac, .slice v.B v.bn v.bc] 26))
      have HOA := Lib.hid (HO.out.pure ((Below.refl wr.heap.size wr).alloc (Nat.le_refl _) (.cells #[.int .i64 v.k, .int .i64 v.n, .int .u64 (v.u : Int), .string ⟨v.s.toArray⟩, .slice v.A v.an v.ac, .slice v.B v.bn v.bc] 26)))
      rw [e]
      clear hIr hv e
      go_wp2_with fail
      go_at_call 106
      refine (enum_spec v _).mono ?_
      rintro e w2 ⟨rfl, hb⟩
      have HB2 := Lib.hid (pure_below HBA.out hb)
      have HO2 := Lib.hid (HOA.out.pure hb)
      clear hb v0 v1 v2 v3 v4 v5
      have HB3 := Lib.hid (HB2.out.alloc HB2.out.size (.cells #[.int .i64 v.n] 2))
      have HO3 := Lib.hid (HO2.out.pure ((Below.refl w2.heap.size w2).alloc (Nat.le_refl _) (.cells #[.int .i64 v.n] 2)))
      have HI3 := Lib.hid (is_one (f := nbc) w2 2 (v.n) (.int .i64 v.n) rfl)
      go_wp2_with (at_builtin; refine wpl_app _ rfl (.tmp 14) (.tmp 18) _ rfl 2 _ 1 _ Tryz.underlying166 info_n rfl (by omega) (fun _ => rfl) (fun _ => one_cell rfl) _ _ _ _ _ rfl HO3.out _ _ _ _ rfl HI3.out (by omega) HB3.out.size ?_; intro A1 c1 w1 hown1 hfr1 hat1)
      have HO4 := Lib.hid hown1
      have HB4 := Lib.hid (below_fr HB3.out hfr1 (by rintro j ⟨ad, e, rfl⟩; exact (HO3.out.addr ad e).2.1))
      clear hown1 hfr1 hat1
      go_wp2_with fail
      go_roundw
      case rel => exact ⟨k + 1, by omega, by go_num, A1, c1, rfl, by rw [HT.out]; exact HO4.out, HB4.out⟩
      case measure => simp [intOf]; omega
    · obtain rfl : k = x.bn := by omega
      have HE := Lib.hid (show vs.take x.bn = vs from List.take_of_length_le (by have := HL.out; omega))
      rw [HE.out] at HO
      clear hIr
      go_wp2_with fail
      go_ret
      exact ⟨A, c, rfl, HO.out, HBR.out⟩
set_option maxRecDepth 100000 in
set_option maxHeartbeats 2000000 in
theorem toldu_spec (x : Nv) (vs : List Nv) (w : World) (hI : IsN w x.B x.bn vs) (hn : x.bn ≤ 1000000) : Calls Tryz.prog 108 #[.agg #[.int .i64 x.k, .int .i64 x.n, .int .u64 (x.u : Int), .string ⟨x.s.toArray⟩, .slice x.A x.an x.ac, .slice x.B x.bn x.bc], .func (.func 109) #[] #[]] w (ToldW ubc 22 w x.bn (vs.map Nv.u)) := by
  have HI := Lib.hid hI
  have HB0 := Lib.hid (show Below w.heap.size w (w.alloc (.cells #[.int .i64 x.k, .int .i64 x.n, .int .u64 (x.u : Int), .string ⟨x.s.toArray⟩, .slice x.A x.an x.ac, .slice x.B x.bn x.bc] 26)) from (Below.refl _ _).alloc (Nat.le_refl _) _)
  have HL := Lib.hid hI.1
  clear hI
  go_enter Tryz.func108, Tryz.ntmps108
  go_wp2_with fail
  go_loopw [4, 10] (fun s u wr => ∃ k : Nat, k ≤ x.bn ∧ u = .int .i64 k ∧ ∃ A c, s = .slice A k c ∧ Go.Acc.Own ubc 1 22 wr w.heap.size A k c ((vs.take k).map Nv.u) ∧ Below w.heap.size w wr) (fun _ u _ => x.bn - (intOf u).toNat)
  case atStart => exact ⟨0, Nat.zero_le _, rfl, none, 0, rfl, Own.nil _ _, HB0.out⟩
  case round =>
    obtain ⟨k, hk, rfl, A, c, rfl, ho, hbr⟩ := hrel
    have HO := Lib.hid ho
    have HBR := Lib.hid hbr
    have hIr := HI.out.pure hbr
    clear ho hbr HB0
    by_cases hlt : k < x.bn
    · obtain ⟨v, hv⟩ : ∃ v, vs[k]? = some v := ⟨_, List.getElem?_eq_getElem (by have := HL.out; omega)⟩
      obtain ⟨g, off, e, v0, v1, v2, v3, v4, v5⟩ := isn_at hIr hv
      have HT := Lib.hid (show (vs.take (k + 1)).map Nv.u = (vs.take k).map Nv.u ++ [v.u] by
        obtain ⟨q1, q2⟩ := List.getElem?_eq_some_iff.1 hv
        rw [List.take_succ_eq_append_getElem q1, q2, List.map_append]; rfl)
      have hk0 : (0 : Int) ≤ (k : Int) := by omega
      have hkn : (k : Int) < (x.bn : Int) := by omega
      have HBA := Lib.hid (HBR.out.alloc HBR.out.size (.cells #[.int .i64 v.k, .int .i64 v.n, .int .u64 (v.u : Int), .string ⟨v.s.toArray⟩, .slice v.A v.an v.ac, .slice v.B v.bn v.bc] 26))
      have HOA := Lib.hid (HO.out.pure ((Below.refl wr.heap.size wr).alloc (Nat.le_refl _) (.cells #[.int .i64 v.k, .int .i64 v.n, .int .u64 (v.u : Int), .string ⟨v.s.toArray⟩, .slice v.A v.an v.ac, .slice v.B v.bn v.bc] 26)))
      rw [e]
      clear hIr hv e
      go_wp2_with fail
      go_at_call 109
      refine (euns_spec v _).mono ?_
      rintro e w2 ⟨rfl, hb⟩
      have HB2 := Lib.hid (pure_below HBA.out hb)
      have HO2 := Lib.hid (HOA.out.pure hb)
      clear hb v0 v1 v2 v3 v4 v5
      have HB3 := Lib.hid (HB2.out.alloc HB2.out.size (.cells #[.int .u64 (v.u : Int)] 22))
      have HO3 := Lib.hid (HO2.out.pure ((Below.refl w2.heap.size w2).alloc (Nat.le_refl _) (.cells #[.int .u64 (v.u : Int)] 22)))
      have HI3 := Lib.hid (is_one (f := ubc) w2 22 (v.u) (.int .u64 (v.u : Int)) rfl)
      go_wp2_with (at_builtin; refine wpl_app _ rfl (.tmp 14) (.tmp 18) _ rfl 22 _ 1 _ Tryz.underlying49 info_u rfl (by omega) (fun _ => rfl) (fun _ => one_cell rfl) _ _ _ _ _ rfl HO3.out _ _ _ _ rfl HI3.out (by omega) HB3.out.size ?_; intro A1 c1 w1 hown1 hfr1 hat1)
      have HO4 := Lib.hid hown1
      have HB4 := Lib.hid (below_fr HB3.out hfr1 (by rintro j ⟨ad, e, rfl⟩; exact (HO3.out.addr ad e).2.1))
      clear hown1 hfr1 hat1
      go_wp2_with fail
      go_roundw
      case rel => exact ⟨k + 1, by omega, by go_num, A1, c1, rfl, by rw [HT.out]; exact HO4.out, HB4.out⟩
      case measure => simp [intOf]; omega
    · obtain rfl : k = x.bn := by omega
      have HE := Lib.hid (show vs.take x.bn = vs from List.take_of_length_le (by have := HL.out; omega))
      rw [HE.out] at HO
      clear hIr
      go_wp2_with fail
      go_ret
      exact ⟨A, c, rfl, HO.out, HBR.out⟩
set_option maxRecDepth 100000 in
set_option maxHeartbeats 2000000 in
theorem toldb_spec (x : Nv) (vs : List Nv) (w : World) (hI : IsN w x.B x.bn vs) (hn : x.bn ≤ 1000000) : Calls Tryz.prog 111 #[.agg #[.int .i64 x.k, .int .i64 x.n, .int .u64 (x.u : Int), .string ⟨x.s.toArray⟩, .slice x.A x.an x.ac, .slice x.B x.bn x.bc], .func (.func 112) #[] #[]] w (ToldW bbc 4 w x.bn (vs.map fun v : Nv => decide (v.n = 1))) := by
  have HI := Lib.hid hI
  have HB0 := Lib.hid (show Below w.heap.size w (w.alloc (.cells #[.int .i64 x.k, .int .i64 x.n, .int .u64 (x.u : Int), .string ⟨x.s.toArray⟩, .slice x.A x.an x.ac, .slice x.B x.bn x.bc] 26)) from (Below.refl _ _).alloc (Nat.le_refl _) _)
  have HL := Lib.hid hI.1
  clear hI
  go_enter Tryz.func111, Tryz.ntmps111
  go_wp2_with fail
  go_loopw [4, 10] (fun s u wr => ∃ k : Nat, k ≤ x.bn ∧ u = .int .i64 k ∧ ∃ A c, s = .slice A k c ∧ Go.Acc.Own bbc 1 4 wr w.heap.size A k c ((vs.take k).map (fun v : Nv => decide (v.n = 1))) ∧ Below w.heap.size w wr) (fun _ u _ => x.bn - (intOf u).toNat)
  case atStart => exact ⟨0, Nat.zero_le _, rfl, none, 0, rfl, Own.nil _ _, HB0.out⟩
  case round =>
    obtain ⟨k, hk, rfl, A, c, rfl, ho, hbr⟩ := hrel
    have HO := Lib.hid ho
    have HBR := Lib.hid hbr
    have hIr := HI.out.pure hbr
    clear ho hbr HB0
    by_cases hlt : k < x.bn
    · obtain ⟨v, hv⟩ : ∃ v, vs[k]? = some v := ⟨_, List.getElem?_eq_getElem (by have := HL.out; omega)⟩
      obtain ⟨g, off, e, v0, v1, v2, v3, v4, v5⟩ := isn_at hIr hv
      have HT := Lib.hid (show (vs.take (k + 1)).map (fun v : Nv => decide (v.n = 1)) = (vs.take k).map (fun v : Nv => decide (v.n = 1)) ++ [decide (v.n = 1)] by
        obtain ⟨q1, q2⟩ := List.getElem?_eq_some_iff.1 hv
        rw [List.take_succ_eq_append_getElem q1, q2, List.map_append]; rfl)
      have hk0 : (0 : Int) ≤ (k : Int) := by omega
      have hkn : (k : Int) < (x.bn : Int) := by omega
      have HBA := Lib.hid (HBR.out.alloc HBR.out.size (.cells #[.int .i64 v.k, .int .i64 v.n, .int .u64 (v.u : Int), .string ⟨v.s.toArray⟩, .slice v.A v.an v.ac, .slice v.B v.bn v.bc] 26))
      have HOA := Lib.hid (HO.out.pure ((Below.refl wr.heap.size wr).alloc (Nat.le_refl _) (.cells #[.int .i64 v.k, .int .i64 v.n, .int .u64 (v.u : Int), .string ⟨v.s.toArray⟩, .slice v.A v.an v.ac, .slice v.B v.bn v.bc] 26)))
      rw [e]
      clear hIr hv e
      go_wp2_with fail
      go_at_call 112
      refine (eyes_spec v _).mono ?_
      rintro e w2 ⟨rfl, hb⟩
      have HB2 := Lib.hid (pure_below HBA.out hb)
      have HO2 := Lib.hid (HOA.out.pure hb)
      clear hb v0 v1 v2 v3 v4 v5
      have HB3 := Lib.hid (HB2.out.alloc HB2.out.size (.cells #[.bool (decide (v.n = 1))] 4))
      have HO3 := Lib.hid (HO2.out.pure ((Below.refl w2.heap.size w2).alloc (Nat.le_refl _) (.cells #[.bool (decide (v.n = 1))] 4)))
      have HI3 := Lib.hid (is_one (f := bbc) w2 4 (decide (v.n = 1)) (.bool (decide (v.n = 1))) rfl)
      go_wp2_with (at_builtin; refine wpl_app _ rfl (.tmp 14) (.tmp 18) _ rfl 4 _ 1 _ Tryz.underlying173 info_bo rfl (by omega) (fun _ => rfl) (fun _ => one_cell rfl) _ _ _ _ _ rfl HO3.out _ _ _ _ rfl HI3.out (by omega) HB3.out.size ?_; intro A1 c1 w1 hown1 hfr1 hat1)
      have HO4 := Lib.hid hown1
      have HB4 := Lib.hid (below_fr HB3.out hfr1 (by rintro j ⟨ad, e, rfl⟩; exact (HO3.out.addr ad e).2.1))
      clear hown1 hfr1 hat1
      go_wp2_with fail
      go_roundw
      case rel => exact ⟨k + 1, by omega, by go_num, A1, c1, rfl, by rw [HT.out]; exact HO4.out, HB4.out⟩
      case measure => simp [intOf]; omega
    · obtain rfl : k = x.bn := by omega
      have HE := Lib.hid (show vs.take x.bn = vs from List.take_of_length_le (by have := HL.out; omega))
      rw [HE.out] at HO
      clear hIr
      go_wp2_with fail
      go_ret
      exact ⟨A, c, rfl, HO.out, HBR.out⟩
set_option maxRecDepth 100000 in
set_option maxHeartbeats 2000000 in
theorem tolds_spec (x : Nv) (vs : List Nv) (w : World) (hI : IsN w x.B x.bn vs) (hn : x.bn ≤ 1000000) : Calls Tryz.prog 114 #[.agg #[.int .i64 x.k, .int .i64 x.n, .int .u64 (x.u : Int), .string ⟨x.s.toArray⟩, .slice x.A x.an x.ac, .slice x.B x.bn x.bc], .func (.func 115) #[] #[]] w (ToldW stc 9 w x.bn (vs.map Nv.s)) := by
  have HI := Lib.hid hI
  have HB0 := Lib.hid (show Below w.heap.size w (w.alloc (.cells #[.int .i64 x.k, .int .i64 x.n, .int .u64 (x.u : Int), .string ⟨x.s.toArray⟩, .slice x.A x.an x.ac, .slice x.B x.bn x.bc] 26)) from (Below.refl _ _).alloc (Nat.le_refl _) _)
  have HL := Lib.hid hI.1
  clear hI
  go_enter Tryz.func114, Tryz.ntmps114
  go_wp2_with fail
  go_loopw [4, 10] (fun s u wr => ∃ k : Nat, k ≤ x.bn ∧ u = .int .i64 k ∧ ∃ A c, s = .slice A k c ∧ Go.Acc.Own stc 1 9 wr w.heap.size A k c ((vs.take k).map Nv.s) ∧ Below w.heap.size w wr) (fun _ u _ => x.bn - (intOf u).toNat)
  case atStart => exact ⟨0, Nat.zero_le _, rfl, none, 0, rfl, Own.nil _ _, HB0.out⟩
  case round =>
    obtain ⟨k, hk, rfl, A, c, rfl, ho, hbr⟩ := hrel
    have HO := Lib.hid ho
    have HBR := Lib.hid hbr
    have hIr := HI.out.pure hbr
    clear ho hbr HB0
    by_cases hlt : k < x.bn
    · obtain ⟨v, hv⟩ : ∃ v, vs[k]? = some v := ⟨_, List.getElem?_eq_getElem (by have := HL.out; omega)⟩
      obtain ⟨g, off, e, v0, v1, v2, v3, v4, v5⟩ := isn_at hIr hv
      have HT := Lib.hid (show (vs.take (k + 1)).map Nv.s = (vs.take k).map Nv.s ++ [v.s] by
        obtain ⟨q1, q2⟩ := List.getElem?_eq_some_iff.1 hv
        rw [List.take_succ_eq_append_getElem q1, q2, List.map_append]; rfl)
      have hk0 : (0 : Int) ≤ (k : Int) := by omega
      have hkn : (k : Int) < (x.bn : Int) := by omega
      have HBA := Lib.hid (HBR.out.alloc HBR.out.size (.cells #[.int .i64 v.k, .int .i64 v.n, .int .u64 (v.u : Int), .string ⟨v.s.toArray⟩, .slice v.A v.an v.ac, .slice v.B v.bn v.bc] 26))
      have HOA := Lib.hid (HO.out.pure ((Below.refl wr.heap.size wr).alloc (Nat.le_refl _) (.cells #[.int .i64 v.k, .int .i64 v.n, .int .u64 (v.u : Int), .string ⟨v.s.toArray⟩, .slice v.A v.an v.ac, .slice v.B v.bn v.bc] 26)))
      rw [e]
      clear hIr hv e
      go_wp2_with fail
      go_at_call 115
      refine (etext_spec v _).mono ?_
      rintro e w2 ⟨rfl, hb⟩
      have HB2 := Lib.hid (pure_below HBA.out hb)
      have HO2 := Lib.hid (HOA.out.pure hb)
      clear hb v0 v1 v2 v3 v4 v5
      have HB3 := Lib.hid (HB2.out.alloc HB2.out.size (.cells #[.string ⟨v.s.toArray⟩] 9))
      have HO3 := Lib.hid (HO2.out.pure ((Below.refl w2.heap.size w2).alloc (Nat.le_refl _) (.cells #[.string ⟨v.s.toArray⟩] 9)))
      have HI3 := Lib.hid (is_one (f := stc) w2 9 (v.s) (.string ⟨v.s.toArray⟩) rfl)
      go_wp2_with (at_builtin; refine wpl_app _ rfl (.tmp 14) (.tmp 18) _ rfl 9 _ 1 _ Tryz.underlying23 info_st rfl (by omega) (fun _ => rfl) (fun _ => one_cell rfl) _ _ _ _ _ rfl HO3.out _ _ _ _ rfl HI3.out (by omega) HB3.out.size ?_; intro A1 c1 w1 hown1 hfr1 hat1)
      have HO4 := Lib.hid hown1
      have HB4 := Lib.hid (below_fr HB3.out hfr1 (by rintro j ⟨ad, e, rfl⟩; exact (HO3.out.addr ad e).2.1))
      clear hown1 hfr1 hat1
      go_wp2_with fail
      go_roundw
      case rel => exact ⟨k + 1, by omega, by go_num, A1, c1, rfl, by rw [HT.out]; exact HO4.out, HB4.out⟩
      case measure => simp [intOf]; omega
    · obtain rfl : k = x.bn := by omega
      have HE := Lib.hid (show vs.take x.bn = vs from List.take_of_length_le (by have := HL.out; omega))
      rw [HE.out] at HO
      clear hIr
      go_wp2_with fail
      go_ret
      exact ⟨A, c, rfl, HO.out, HBR.out⟩
end Go.Proofs.YtfoifdoaleaekaaGreat
