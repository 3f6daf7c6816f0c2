/-
  Package find: the property FindRising.
-/
import Derived.Test.YtaigofpipoimkaaFiJ
import Derived.Test.YtaigofpipoimkaaFiL
import Derived.Deep.DeepCutAuto
namespace Go.Proofs.Ytaigofpipoimkaa
open Go.RowKit Go.Acc
def SomeB (w : World) (e : Ending) (w' : World) : Prop := ∃ b : Bool, e = .returned (.bool b) ∧ Below w.heap.size w w'
set_option maxHeartbeats 400000 in
theorem finds_any (A : Option Addr) (n c : Nat) (p q t v a b d g er : Int) (is : Bool) (l k : List UInt8) (w : World) (h : IsB w A n l) (hc : n ≤ c) (hn : n ≤ 1099511627776) :
    Calls Try.prog 56 #[.slice A n c, .agg #[.int .i64 p, .int .i64 q, .int .i64 t, .int .i64 v], .string ⟨k.toArray⟩, .agg #[.int .i64 a, .int .i64 b, .int .i64 d, .int .i64 g], .bool is, .int .i64 er] w (SomeB w) := by
  have HL := Lib.hid ((h.alloc (.cells #[.int .i64 p, .int .i64 q, .int .i64 t, .int .i64 v] 23)).alloc (.cells #[.int .i64 a, .int .i64 b, .int .i64 d, .int .i64 g] 23))
  have HB := Lib.hid (((Below.refl w.heap.size w).alloc (Nat.le_refl _) (.cells #[.int .i64 p, .int .i64 q, .int .i64 t, .int .i64 v] 23)).alloc (by simp) (.cells #[.int .i64 a, .int .i64 b, .int .i64 d, .int .i64 g] 23))
  have HK := Lib.hid (Blk.new_ (w := w.alloc (.cells #[.int .i64 p, .int .i64 q, .int .i64 t, .int .i64 v] 23)) (g := w.heap.size + 1) (by simp) 23 #[.int .i64 a, .int .i64 b, .int .i64 d, .int .i64 g])
  obtain ⟨a', h1⟩ : ∃ x, fdP l k p q t v = x := ⟨_, rfl⟩
  obtain ⟨b', h2⟩ : ∃ x, fdQ l k p q t v = x := ⟨_, rfl⟩
  obtain ⟨d', h3⟩ : ∃ x, fdT l k p q t v = x := ⟨_, rfl⟩
  obtain ⟨g', h4⟩ : ∃ x, fdV l k p q t v = x := ⟨_, rfl⟩
  obtain ⟨is', h5⟩ : ∃ x, fdB l k p q t v = x := ⟨_, rfl⟩
  obtain ⟨er', h6⟩ : ∃ x, fdE l k p q t v = x := ⟨_, rfl⟩
  have H1 := Lib.hid h1
  have H2 := Lib.hid h2
  have H3 := Lib.hid h3
  have H4 := Lib.hid h4
  have H5 := Lib.hid h5
  have H6 := Lib.hid h6
  clear h h1 h2 h3 h4 h5 h6
  go_enter Try.func56, Try.ntmps56
  go_wp2_with fail
  go_at_call 53
  refine (ffind_is A n c p q t v a' b' d' g' er' is' l k _ HL.out hc hn H1.out H2.out H3.out H4.out H5.out H6.out).mono ?_
  rintro e w1 ⟨rfl, hb⟩
  replace HB := Lib.hid (pure_below HB.out hb)
  have c0 := cell0 (HK.out.pure hb)
  have c1 := cell1 (HK.out.pure hb)
  have c2 := cell2 (HK.out.pure hb)
  have c3 := cell3 (HK.out.pure hb)
  have hlt := (HK.out.pure hb).lt
  clear hb
  go_wp2
  all_goals
    go_ret
    exact ⟨_, rfl, HB.out.alloc HB.out.size _⟩
def lastK (l : List UInt8) (p q t v : Int) (j : Nat) : List UInt8 := if j = 0 then [] else kaS l p q t v ((j - 1 : Nat) : Int)
theorem asc_step {l : List UInt8} {p q t v : Int} {j : Nat} (h : AscK l p q t v j) (h1 : kaE l p q t v j = 0) (h2 : 0 < j → Op.bytesLess (lastK l p q t v j) (kaS l p q t v j) = true) : AscK l p q t v (j + 1) := by
  intro m hm
  by_cases e : m = j
  · subst e
    refine ⟨h1, fun h0 => ?_⟩
    have := h2 h0
    unfold lastK at this
    rw [if_neg (by omega)] at this
    exact this
  · exact h m (by omega)
set_option maxRecDepth 100000 in
set_option maxHeartbeats 1000000 in
theorem all_no (A : Option Addr) (n c N : Nat) (p q t v : Int) (l : List UInt8) (w : World) (h : IsB w A n l) (hc : n ≤ c) (hn : n ≤ 1099511627776) (hN : N ≤ 1099511627776) (hno : ¬ AscK l p q t v N) :
    Calls Try.prog 57 #[.slice A n c, .agg #[.int .i64 p, .int .i64 q, .int .i64 t, .int .i64 v], .int .i64 N] w fun e w' => e = .returned (.bool false) ∧ Below w.heap.size w w' := by
  have HO := Lib.hid (h.alloc (.cells #[.int .i64 p, .int .i64 q, .int .i64 t, .int .i64 v] 23))
  have HB := Lib.hid ((Below.refl w.heap.size w).alloc (Nat.le_refl _) (.cells #[.int .i64 p, .int .i64 q, .int .i64 t, .int .i64 v] 23))
  have HX := Lib.hid (Blk.new w 23 #[.int .i64 p, .int .i64 q, .int .i64 t, .int .i64 v])
  have HNO := Lib.hid hno
  clear h hno
  go_enter Try.func57, Try.ntmps57
  go_wp2_with fail
  go_loopw [7, 8] (fun x i wr => ∃ j : Nat, j ≤ N ∧ i = .int .i64 j ∧ (∃ s : List UInt8, x = .string ⟨s.toArray⟩ ∧ s = lastK l p q t v j) ∧ AscK l p q t v j ∧ Below w.heap.size w wr ∧ IsB wr A n l ∧ Blk wr w.heap.size 23 #[.int .i64 p, .int .i64 q, .int .i64 t, .int .i64 v]) (fun _ i _ => (N - intOf i).toNat)
  case atStart => exact ⟨0, by omega, rfl, ⟨[], rfl, rfl⟩, fun m hm => by omega, HB.out, HO.out, HX.out⟩
  case round =>
    obtain ⟨j, hj, rfl, ⟨last, rfl, hla⟩, hA, hB, hO, hX⟩ := hrel
    clear HB HO HX
    have HLA := Lib.hid hla
    have HA := Lib.hid hA
    have HB := Lib.hid hB
    have HO := Lib.hid hO
    have HX := Lib.hid hX
    clear hla hA hB hO hX
    by_cases hlt : j < N
    · obtain ⟨s, hs⟩ : ∃ x, kaS l p q t v j = x := ⟨_, rfl⟩
      obtain ⟨ee, hee⟩ : ∃ x, kaE l p q t v j = x := ⟨_, rfl⟩
      have HS := Lib.hid hs
      have HE := Lib.hid hee
      clear hs hee
      have x0 := cell0 HX.out; have x1 := cell1 HX.out; have x2 := cell2 HX.out; have x3 := cell3 HX.out
      go_wp2_with fail
      go_at_call 49
      refine (fkeyat_is A n c p q t v j ee s l _ HO.out hc hn HS.out HE.out).mono ?_
      rintro e wn ⟨rfl, hb⟩
      clear x0 x1 x2 x3; replace HB := Lib.hid (pure_below HB.out hb); replace HO := Lib.hid (HO.out.pure hb); replace HX := Lib.hid (HX.out.pure hb)
      clear hb
      by_cases he : ee = 0
      · subst he
        by_cases hj0 : j = 0
        · subst hj0
          have HZ := Lib.hid (asc_step HA.out HE.out (fun h => by omega))
          go_wp2
          go_roundw
          case rel => exact ⟨1, by omega, rfl, ⟨s, rfl, by unfold lastK; rw [if_neg (by omega)]; exact HS.out.symm⟩, HZ.out, HB.out, HO.out, HX.out⟩
          case measure => simp [intOf]; omega
        · have hj1 : (0 : Int) < j := by omega
          obtain ⟨fb, hfb⟩ : ∃ x, Op.bytesLess last s = x := ⟨_, rfl⟩
          have HFB := Lib.hid hfb
          clear hfb hj0
          go_wp2_with fail
          go_at_call 55
          refine (less_spec last s _).mono ?_
          rw [HFB.out]
          rintro e w4 ⟨rfl, rfl⟩
          cases fb with
          | true =>
            have HZ := Lib.hid (asc_step HA.out HE.out (fun _ => by rw [← HLA.out, HS.out]; exact HFB.out))
            go_wp2
            go_roundw
            case rel => exact ⟨j + 1, by omega, by go_num, ⟨s, rfl, by unfold lastK; rw [if_neg (by omega)]; exact HS.out.symm⟩, HZ.out, HB.out, HO.out, HX.out⟩
            case measure => simp [intOf]; omega
          | false =>
            go_wp2
            go_ret
            exact ⟨rfl, HB.out⟩
      · have hne : (ee != 0) = true := by simpa using he
        clear he
        go_wp2
        go_ret
        exact ⟨rfl, HB.out⟩
    · obtain rfl : j = N := by omega
      exact absurd HA.out HNO.out
end Go.Proofs.Ytaigofpipoimkaa
