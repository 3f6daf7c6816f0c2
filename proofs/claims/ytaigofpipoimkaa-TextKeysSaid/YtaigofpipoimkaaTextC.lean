/-
  Package text: a key, a counted text.
-/
import Derived.Test.YtaigofpipoimkaaTextB
import Derived.Test.YtaigofpipoimkaaMake
namespace Go.Proofs.Ytaigofpipoimkaa
open Go.RowKit Go.Acc
theorem keyE_no {l : List UInt8} {a : Nat} (h : ¬ zeroAt l a < l.length) : keyE l a = 213 := if_neg h
theorem keyE_yes {l : List UInt8} {a : Nat} (h : zeroAt l a < l.length) : keyE l a = 0 := if_pos h
set_option maxHeartbeats 1000000 in
theorem key_spec (A : Option Addr) (n c a : Nat) (l : List UInt8) (w : World) (h : IsB w A n l) (hc : n ≤ c) (ha : a ≤ n) (hn : n ≤ 9223372036854775807) :
    Calls Try.prog 130 #[.slice A n c, .int .i64 a] w (FoundW w A n l (if keyE l a = 0 then a else 0) (if keyE l a = 0 then keyL l a else []) (keyE l a)) := by
  have hlen := h.1
  subst hlen
  have HI := Lib.hid (h.alloc (.cells #[.int .i64 0, .slice none 0 0] 130))
  have HI0 := Lib.hid h
  clear h
  by_cases hz : zeroAt l a < l.length
  · rw [keyE_yes hz, if_pos rfl, if_pos rfl]
    have hzb := zeroAt_le (l := l) ha
    have hz1 := hzb.1
    have HZ := Lib.hid (show keyL l a = (l.drop a).take (zeroAt l a - a) from rfl)
    rw [HZ.out]
    obtain ⟨z, hze⟩ : ∃ z, zeroAt l a = z := ⟨_, rfl⟩
    have HZE := Lib.hid hze
    rw [hze] at hz hz1 ⊢
    clear hzb hze
    by_cases haz : z = a
    · subst haz
      go_enter Try.func130, Try.ntmps130
      go_wp2_with fail
      go_at_call 136
      refine (end_spec A _ c z l _ HI.out ha hn).mono ?_
      rw [HZE.out]
      rintro e w1 ⟨rfl, rfl⟩
      go_wp2
      refine bodyPost_ret (v := .tuple #[.agg #[.int .i64 z, .slice A 0 0], .int .i64 0]) (by simp [results, Try.results130, go_sem]) rfl ⟨A, 0, 0, rfl, ?_, Nat.le_refl _, ?_⟩
      · rw [Nat.sub_self, List.take_zero]
        exact fun _ _ => Is.nil _ _
      · exact (Below.refl _ _).alloc (Nat.le_refl _) _
    · have hlt : a < z := by omega
      have hza : ¬ z = a := haz
      go_enter Try.func130, Try.ntmps130
      go_wp2_with fail
      go_at_call 136
      refine (end_spec A _ c a l _ HI.out ha hn).mono ?_
      rw [HZE.out]
      rintro e w1 ⟨rfl, rfl⟩
      go_wp2
      refine bodyPost_ret (v := .tuple #[.agg #[.int .i64 a, .slice (A.map fun p => p.add a) (z - a) (z - a)], .int .i64 0]) (by simp [results, Try.results130, go_sem]) rfl ⟨_, _, _, rfl, ?_, Nat.le_refl _, ?_⟩
      · exact fun _ h => isb_part h (by omega)
      · exact (Below.refl _ _).alloc (Nat.le_refl _) _
  · rw [keyE_no hz, if_neg (by decide), if_neg (by decide)]
    go_enter Try.func130, Try.ntmps130
    go_wp2_with fail
    go_at_call 136
    refine (end_spec A _ c a l _ HI.out ha hn).mono ?_
    rintro e w1 ⟨rfl, rfl⟩
    go_wp2
    refine bodyPost_ret (v := .tuple #[.agg #[.int .i64 0, .slice none 0 0], .int .i64 213]) (by simp [results, Try.results130, go_sem]) rfl ⟨none, 0, 0, rfl, fun _ _ => Is.nil _ _, Nat.le_refl _, ?_⟩
    exact (Below.refl _ _).alloc (Nat.le_refl _) _
end Go.Proofs.Ytaigofpipoimkaa
