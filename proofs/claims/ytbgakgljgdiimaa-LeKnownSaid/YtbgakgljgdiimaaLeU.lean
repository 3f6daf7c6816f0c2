/-
  Package le: the property LeKnown.
-/
import Derived.Test.YtbgakgljgdiimaaLeJ
import Derived.Test.YtbgakgljgdiimaaLeK
namespace Go.Proofs.Ytbgakgljgdiimaa
open Go.RowKit Go.Acc
theorem is_blk {α : Type} {f : α → List Value} {w : World} {g : Nat} {t : TypeId} {cs : Array Value} (l : List α) (hB : Blk w g t cs) (h : cs.toList = l.flatMap f) : Is f w (some ⟨g, 0, none⟩) l.length l := by
  refine ⟨rfl, fun j u hu => ⟨_, _, rfl, ?_⟩⟩
  rw [Nat.zero_add, hB.cell j]
  rw [← h] at hu
  simpa using hu
theorem Blk.new_ {w : World} {g : Nat} (h : w.heap.size = g) (t : TypeId) (cs : Array Value) : Blk (w.alloc (.cells cs t)) g t cs := by subst h; exact Blk.new w t cs
def ic (x : Int) : List Value := [.int .i64 x]
def uc (x : Nat) : List Value := [.int .u64 x]
theorem ic_at {w : World} {g n k : Nat} {l : List Int} (h : Is ic w (some ⟨g, 0, none⟩) n l) (hk : k < n) : ∃ x, w.cell? ⟨g, k, none⟩ = some (.int .i64 x) := by
  obtain ⟨b, off, e, hk', hc⟩ := h.at_ (fun _ => rfl) (sz := 1) (by omega) hk
  injection e with e
  injection e with e1 e2
  subst e1 e2
  have := hc 0 (by omega)
  rw [Nat.mul_one, Nat.add_zero, Nat.zero_add] at this
  exact ⟨_, this⟩
theorem uc_at {w : World} {g n k : Nat} {l : List Nat} (h : Is uc w (some ⟨g, 0, none⟩) n l) (hk : k < n) : ∃ hk : k < l.length, w.cell? ⟨g, k, none⟩ = some (.int .u64 (l[k] : Nat)) := by
  obtain ⟨b, off, e, hk', hc⟩ := h.at_ (fun _ => rfl) (sz := 1) (by omega) hk
  injection e with e
  injection e with e1 e2
  subst e1 e2
  have := hc 0 (by omega)
  rw [Nat.mul_one, Nat.add_zero, Nat.zero_add] at this
  exact ⟨hk', this⟩
def ends : List Nat := [0, 1, 127, 128, 255, 256, 32767, 32768, 65535, 65536, 2147483647, 2147483648, 4294967295, 4294967296, 9223372036854775807, 9223372036854775808, 18446744073709551615, 18446744073709551488, 18446744073709551487, 18446744073709518848, 18446744073709518847, 18446744071562067968, 18446744071562067967]
def places : List Int := [-9223372036854775808, -8, -1, 0, 1, 2, 3, 6, 8, 9, 10, 11, 9223372036854775800, 9223372036854775807]
def widths : List Int := [-9223372036854775808, -1, 0, 1, 2, 3, 4, 5, 7, 8, 9, 16, 9223372036854775807]
def exs : List UInt8 := [0, 255, 127, 128, 1, 0, 0, 128, 255, 255]
theorem ends_lt : ∀ u ∈ ends, (u : Int) < 18446744073709551616 := by decide
/-- The four tables of the property. -/
structure Tabs (w : World) (b0 b1 b2 b3 : Nat) : Prop where
  x : IsB w (some ⟨b0, 0, none⟩) 10 exs
  e : Is uc w (some ⟨b1, 0, none⟩) 23 ends
  p : Is ic w (some ⟨b2, 0, none⟩) 14 places
  v : Is ic w (some ⟨b3, 0, none⟩) 13 widths
theorem Tabs.pure {w w' : World} {b0 b1 b2 b3 : Nat} (h : Tabs w b0 b1 b2 b3) (hb : Below w.heap.size w w') : Tabs w' b0 b1 b2 b3 := ⟨h.x.pure hb, h.e.pure hb, h.p.pure hb, h.v.pure hb⟩
theorem Tabs.drew {w : World} {b0 b1 b2 b3 : Nat} (h : Tabs w b0 b1 b2 b3) : Tabs w.drew b0 b1 b2 b3 := ⟨h.x, h.e, h.p, h.v⟩
theorem Tabs.undrew {w : World} {b0 b1 b2 b3 : Nat} (h : Tabs w.drew b0 b1 b2 b3) : Tabs w b0 b1 b2 b3 := ⟨h.x, h.e, h.p, h.v⟩
/-- A slice value that reads as bytes. -/
def SomeB (w : World) (v : Value) : Prop := ∃ A n c l, v = .slice A n c ∧ IsB w A n l ∧ n ≤ c
theorem SomeB.drew {w : World} {v : Value} (h : SomeB w v) : SomeB w.drew v := h
theorem SomeB.none_ (w : World) : SomeB w (.slice none 0 0) := ⟨_, _, _, _, rfl, Is.nil _ _, by omega⟩
theorem Tabs.some_ {w : World} {b0 b1 b2 b3 : Nat} (h : Tabs w b0 b1 b2 b3) : SomeB w (.slice (some ⟨b0, 0, none⟩) 10 10) := ⟨_, _, _, _, rfl, h.x, by omega⟩
theorem leloads_any (v : Value) (a x : Int) (w : World) (h : SomeB w v) : Calls Try.prog 3 #[v, .int .i64 a, .int .i64 x] w fun e w' => e = .returned (.bool true) ∧ Below w.heap.size w w' := by
  obtain ⟨A, n, c, l, rfl, h1, h2⟩ := h
  exact leloads_spec A n c a x l w h1 h2
theorem leputs_any (v : Value) (a x : Int) (u : Nat) (w : World) (h : SomeB w v) (hu : (u : Int) < 18446744073709551616) : Calls Try.prog 4 #[v, .agg #[.int .i64 a, .int .i64 x, .int .u64 u]] w fun e w' => e = .returned (.bool true) ∧ Below w.heap.size w w' := by
  obtain ⟨A, n, c, l, rfl, h1, h2⟩ := h
  exact leputs_spec A n c u a x l w h1 h2 hu
set_option maxRecDepth 100000 in
set_option maxHeartbeats 4000000 in
theorem known_spec (w : World) : Calls Try.prog 9 #[] w fun e w' => e = .returned (.bool true) ∧ Below w.heap.size w w' := by
  go_enter Try.func9, Try.ntmps9
  go_wp2_with fail
  go_loopw [5, 6, 7] (fun t _ _ wr => ∃ k : Nat, k ≤ 14 ∧ t = .int .i64 k ∧ Below w.heap.size w wr ∧ Tabs wr w.heap.size (w.heap.size + 1) (w.heap.size + 1 + 1) (w.heap.size + 1 + 1 + 1)) (fun t _ _ _ => 14 - (intOf t).toNat)
  case atStart =>
    refine ⟨0, by omega, rfl, ((((Below.refl _ _).alloc (Nat.le_refl _) _).alloc (by simp) _).alloc (by simp; omega) _).alloc (by simp; omega) _, ?_, ?_, ?_, ?_⟩
    · exact is_blk exs ((((Blk.new w _ _).alloc _).alloc _).alloc _) rfl
    · exact is_blk ends (((Blk.new_ (by simp) _ _).alloc _).alloc _) rfl
    · exact is_blk places ((Blk.new_ (by simp) _ _).alloc _) rfl
    · exact is_blk widths (Blk.new_ (by simp) _ _) rfl
  case round =>
    obtain ⟨i, hi, rfl, hB, hT⟩ := hrel
    have HB := Lib.hid hB
    have HT := Lib.hid hT
    clear hB hT
    by_cases hlt : i < 14
    · obtain ⟨p, hp⟩ := ic_at HT.out.p hlt
      have HP := Lib.hid hp
      clear hp
      have hi14 : (i : Int) < 14 := by omega
      obtain ⟨wo, rfl⟩ : ∃ wo : World, wo = wr := ⟨_, rfl⟩
      go_wp2_with fail
      go_loopw [6, 7] (fun t _ wr => ∃ k : Nat, k ≤ 13 ∧ t = .int .i64 k ∧ Below wo.heap.size wo wr ∧ Tabs wr w.heap.size (w.heap.size + 1) (w.heap.size + 1 + 1) (w.heap.size + 1 + 1 + 1)) (fun t _ _ => 13 - (intOf t).toNat)
      case atStart => exact ⟨0, by omega, rfl, Below.refl _ _, HT.out⟩
      case round =>
        obtain ⟨k, hk, rfl, hB, hT⟩ := hrel
        have HB2 := Lib.hid hB
        have HT := Lib.hid hT
        clear hB hT
        by_cases hlt2 : k < 13
        · obtain ⟨v, hv⟩ := ic_at HT.out.v hlt2
          have hp := cell_pure HB2.out HP.out
          have h0i : (0 : Int) ≤ i := by omega
          have hi14 : (i : Int) < 14 := by omega
          have h0k : (0 : Int) ≤ k := by omega
          have hk13 : (k : Int) < 13 := by omega
          go_wp2_with fail
          go_region_held3 (fun w' => w'.cell? ⟨w.heap.size + 1 + 1, i, none⟩ = some (.int .i64 p) ∧ w'.cell? ⟨w.heap.size + 1 + 1 + 1, k, none⟩ = some (.int .i64 v)) (first | assumption | exact ⟨hp, hv⟩ | exact ⟨cell_pure HB5.out hp, cell_pure HB5.out hv⟩)
            (first | (go_at_call 3; refine (leloads_any _ p v _ (by first | exact HT.out.some_.drew | exact SomeB.none_ _)).mono ?_; rintro e w5 ⟨rfl, hb5⟩; (first | have HB5 := Lib.hid (pure_below HB5.out hb5) | have HB5 := Lib.hid hb5); clear hb5))
          have HT := Lib.hid (HT.out.drew.pure HB5.out)
          have HB2 := Lib.hid (pure_below HB2.out.drew HB5.out)
          have hp := cell_pure HB5.out (p := ⟨w.heap.size + 1 + 1, i, none⟩) (u := .int .i64 p) hp
          have hv := cell_pure HB5.out (p := ⟨w.heap.size + 1 + 1 + 1, k, none⟩) (u := .int .i64 v) hv
          go_wp2_with fail
          obtain ⟨wp, rfl⟩ : ∃ wp : World, wp = w5 := ⟨_, rfl⟩
          have HP := Lib.hid hp
          have HV := Lib.hid hv
          clear hp hv HB5
          go_loopw [7] (fun t wr => ∃ k : Nat, k ≤ 23 ∧ t = .int .i64 k ∧ Below wp.heap.size wp wr ∧ Tabs wr w.heap.size (w.heap.size + 1) (w.heap.size + 1 + 1) (w.heap.size + 1 + 1 + 1)) (fun t _ => 23 - (intOf t).toNat)
          case atStart => exact ⟨0, by omega, rfl, Below.refl _ _, HT.out⟩
          case round =>
            obtain ⟨n, hn, rfl, hB, hT⟩ := hrel
            have HB3 := Lib.hid hB
            have HT := Lib.hid hT
            clear hB hT
            by_cases hlt3 : n < 23
            · obtain ⟨hnl, hu⟩ := uc_at HT.out.e hlt3
              have hub := ends_lt ends[n] (List.getElem_mem hnl)
              generalize ends[n] = u at hu hub
              have HUB := Lib.hid hub
              clear hub hnl
              have hp := cell_pure HB3.out HP.out
              have hv := cell_pure HB3.out HV.out
              have h0n : (0 : Int) ≤ n := by omega
              have hn23 : (n : Int) < 23 := by omega
              go_wp2_with fail
              go_region_held3 (fun w' => w'.cell? ⟨w.heap.size + 1 + 1, i, none⟩ = some (.int .i64 p) ∧ w'.cell? ⟨w.heap.size + 1 + 1 + 1, k, none⟩ = some (.int .i64 v) ∧ w'.cell? ⟨w.heap.size + 1, n, none⟩ = some (.int .u64 (u : Nat))) (first | assumption | exact ⟨hp, hv, hu⟩ | exact ⟨cell_pure HB5.out hp, cell_pure HB5.out hv, cell_pure HB5.out hu⟩)
                (first | (go_at_call 4; refine (leputs_any _ p v u _ HT.out.some_.drew HUB.out).mono ?_; rintro e w5 ⟨rfl, hb5⟩; have HB5 := Lib.hid hb5; clear hb5))
              go_wp2
              go_roundw
              case rel => exact ⟨n + 1, by omega, by go_num, pure_below HB3.out.drew HB5.out, HT.out.drew.pure HB5.out⟩
              case measure => simp [intOf]; omega
            · go_wp2
              go_roundw
              case rel => exact ⟨k + 1, by omega, by go_num, pure_below HB2.out HB3.out, HT.out⟩
              case measure => simp [intOf]; omega
        · go_wp2
          go_roundw
          case rel => exact ⟨i + 1, by omega, by go_num, pure_below HB.out HB2.out, HT.out⟩
          case measure => simp [intOf]; omega
    · go_wp2_with fail
      go_at_call 16
      refine (works_spec _).mono ?_
      rintro e w5 ⟨rfl, hb⟩
      have HB := Lib.hid (pure_below HB.out hb)
      clear hb
      go_wp2
      go_ret
      exact ⟨rfl, HB.out⟩

open Go.ChangeShapes Go.WideShapes Go.ChangeAt
theorem leKnown_run (W : World) (_base : Nat) : Calls Try.prog 9 #[] W fun e w' => e = .returned (.bool true) ∧ Below W.heap.size W w' := known_spec W

set_option maxRecDepth 100000 in
theorem leKnown_lifted (os : Os) (started : os.Started) (H : Type) (enc : TypeId × Value → H) :
    ReturnsInHanded {} Try.checked os 9 .any (Rows.leKnownSpec.pre6 enc Try.prog Try.f9 Rows.leKnownRow.domain false) (Rows.leKnownSpec.post enc Try.prog Try.f9 false true false false) := by
  refine returnsInHanded_of_change (C := Try.checked) acc_own started (by kernel_rfl) Try.func9
    (ChangeSpec.witness6 (enc := enc) (C := Try.checked) false ⟨#[], #[], []⟩ 8 (by kernel_rfl) (by kernel_rfl) (by kernel_rfl) (by kernel_rfl)) ?_
  intro W base args ds gs before hval0 hW hcnd _
  have hval : ∀ (j : Nat) t v, Try.f9.params[j]? = some t → args[j]? = some v → Value.okWide Try.prog W .any base t v := hval0
  have hW' := hW
  obtain ⟨p, q, hA0, hV, rfl, hfz, hnd⟩ := hW
  have hA : DataW.TrodAll enc Try.prog W 0 (fun _ => true) true Try.f9.params.toList args.toList ds p := hA0
  rw [Try.params9] at hA
  obtain ⟨rfl, rfl, rfl⟩ := trodAll_none hA
  obtain ⟨rfl, rfl⟩ := trodVars_none hV
  clear hA0 hval0
  refine (leKnown_run W base).mono fun e W' ⟨he, bel⟩ => ?_
  subst he
  exact ⟨_, rfl, _, _, _, [], [], [], hW', trodAll_mk1 (shut_bool Try.underlying4 _), trodAll_mk0, rfl, bel.frame _, fun h => by cases h⟩

theorem leKnown_holds : Rows.LeKnownSaid :=
  OpenClaim.holds_of_wide 9 Try.f9 rfl rfl rfl rfl rfl rfl rfl ⟨rfl, rfl, rfl, rfl, rfl⟩ rfl rfl rfl rfl rfl (by kernel_rfl) Try.func9 (by kernel_rfl)
    (of_decide_eq_true (by kernel_rfl)) (by unfold Func.isWrapper; rw [if_neg (of_decide_eq_false (by kernel_rfl))]; exact ⟨rfl, rfl⟩)
    (fun os started H enc _ => leKnown_lifted os started H enc)
#print axioms leKnown_holds
end Go.Proofs.Ytbgakgljgdiimaa
