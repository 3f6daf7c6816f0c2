/-
  The reference of package text: Key, Str, Blob, Text.
-/
import Derived.Test.YtaigofpipoimkaaTextG
namespace Go.Proofs.Ytaigofpipoimkaa
open Go.RowKit Go.Acc
theorem fnd_sub {l : List UInt8} {p q t v : Int} {ts : List Nat} (h : isIn ts t = true) (h3 : isIn [4, 5, 25] t = true) : fndE l p q t v ts = fndE l p q t v [4, 5, 25] ∧ fndL l p q t v ts = fndL l p q t v [4, 5, 25] := by
  have e : fndE l p q t v ts = fndE l p q t v [4, 5, 25] := by
    unfold fndE
    rw [h, h3]
  refine ⟨e, ?_⟩
  unfold fndL
  rw [e]
theorem take_self {l : List UInt8} {a k : Nat} : (l.drop a).take k = (l.drop a).take ((l.drop a).take k).length := by
  rw [List.length_take, List.take_eq_take_iff]
  simp
theorem fnd_take {l : List UInt8} {p q t v : Int} (h : fndE l p q t v [4, 5, 25] = 0) : ∃ a : Nat, fndA l p q t v [4, 5, 25] = a ∧ fndL l p q t v [4, 5, 25] = (l.drop a).take (fndL l p q t v [4, 5, 25]).length ∧ a + (fndL l p q t v [4, 5, 25]).length ≤ l.length := by
  have ht : tgtE l p q t v = 0 := by
    by_cases hm : mayE l.length p q t v = 0
    · by_cases hi : isIn [4, 5, 25] t = false
      · unfold fndE at h
        rw [if_neg (by simpa using hm), if_pos hi] at h
        cases h
      · by_cases hte : tgtE l p q t v = 0
        · exact hte
        · unfold fndE at h
          rw [if_neg (by simpa using hm), if_neg hi, if_pos hte] at h
          exact absurd h hte
    · unfold fndE at h
      rw [if_pos hm] at h
      exact absurd h hm
  have hr := tgt_rng ht
  refine ⟨(tgt l p q t v).toNat, ?_, ?_, ?_⟩
  · unfold fndA
    rw [if_pos h]
    omega
  · unfold fndL
    rw [if_pos h]
    split
    · unfold keyL; exact take_self
    · unfold cntL; exact take_self
  · unfold fndL
    rw [if_pos h]
    split
    · unfold keyL
      rw [List.length_take, List.length_drop]
      omega
    · unfold cntL
      rw [List.length_take, List.length_drop]
      omega
def TextW (w : World) (l : List UInt8) (p q t v : Int) (ts : List Nat) (e : Ending) (w' : World) : Prop :=
  e = .returned (.tuple #[.string ⟨(fndL l p q t v ts).toArray⟩, .int .i64 (fndE l p q t v ts)]) ∧ Below w.heap.size w w'
theorem textw_no {w w' : World} {l : List UInt8} {p q t v er : Int} {ts : List Nat} (h : fndE l p q t v ts = er) (hne : er ≠ 0) (hb : Below w.heap.size w w') : TextW w l p q t v ts (.returned (.tuple #[.string ⟨#[]⟩, .int .i64 er])) w' := by
  unfold TextW fndL
  rw [h, if_neg hne]
  exact ⟨rfl, hb⟩
set_option maxHeartbeats 2000000 in
theorem rof_spec (A : Option Addr) (n c : Nat) (p q t v X Y : Int) (ts : List Nat) (l : List UInt8) (w : World) (h : IsB w A n l) (hc : n ≤ c) (hn : n ≤ 1099511627776)
    (h1 : 0 ≤ t → isIn ts t = decide (t = X ∨ t = Y)) (h2 : t = X ∨ t = Y → t = 4 ∨ t = 5 ∨ t = 25) :
    Calls Try.prog 122 #[.slice A n c, .agg #[.int .i64 p, .int .i64 q, .int .i64 t, .int .i64 v], .int .i64 X, .int .i64 Y] w (TextW w l p q t v ts) := by
  have hlen := h.1
  subst hlen
  have HL := Lib.hid (h.alloc (.cells #[.int .i64 p, .int .i64 q, .int .i64 t, .int .i64 v] 23))
  have HK := Lib.hid (Blk.new w 23 #[.int .i64 p, .int .i64 q, .int .i64 t, .int .i64 v])
  have HB := Lib.hid ((Below.refl w.heap.size w).alloc (Nat.le_refl _) (.cells #[.int .i64 p, .int .i64 q, .int .i64 t, .int .i64 v] 23))
  have hn63 : l.length ≤ 9223372036854775807 := by omega
  have H1 := Lib.hid h1
  have H2 := Lib.hid h2
  clear h h1 h2
  go_enter Try.func122, Try.ntmps122
  go_wp2_with fail
  go_at_call 68
  refine (rmay_spec A _ c p q t v _ hn63).mono ?_
  rintro e w1 ⟨rfl, hb⟩
  by_cases hmay : mayE l.length p q t v = 0
  · rw [hmay]
    have HB := Lib.hid (pure_below HB.out hb); have HK := Lib.hid (HK.out.pure hb); have HL := Lib.hid (HL.out.pure hb); have c0 := cell0 HK.out; have c1 := cell1 HK.out; have c2 := cell2 HK.out; have c3 := cell3 HK.out; clear hb
    have ht37 := isT_iff.1 (legal_isT (formed_iff.1 (mayE_ok.1 hmay).1).1)
    have ht0 := ht37.1
    clear ht37
    by_cases hin : t = X ∨ t = Y
    · have hi1 : isIn ts t = true := by rw [H1.out ht0]; exact decide_eq_true hin
      have hi3 : isIn [4, 5, 25] t = true := by rw [in3 ht0]; exact decide_eq_true (H2.out hin)
      have hs := fnd_sub (l := l) (p := p) (q := q) (v := v) hi1 hi3
      have HS1 := Lib.hid hs.1
      have HS2 := Lib.hid hs.2
      have HSP := Lib.hid (fun h : fndE l p q t v [4, 5, 25] = 0 => fnd_take h)
      clear hs hi1 hi3 hmay
      by_cases hX : t = X
      · have nX : (t != X) = false := by simp [hX]
        clear hin hX
        go_wp2_with fail
        go_at_call 133
        refine (rplace_spec A _ c p q t v l _ HL.out hn).mono ?_
        rintro e w2 ⟨rfl, hb⟩
        clear c0 c1 c2 c3
        have HB := Lib.hid (pure_below HB.out hb); have HK := Lib.hid (HK.out.pure hb); have HL := Lib.hid (HL.out.pure hb); have c0 := cell0 HK.out; have c1 := cell1 HK.out; have c2 := cell2 HK.out; have c3 := cell3 HK.out; clear hb
        by_cases he : fndE l p q t v [4, 5, 25] = 0
        · obtain ⟨a, ha, hl, hle⟩ := HSP.out he
          obtain ⟨k, hk⟩ : ∃ k, (fndL l p q t v [4, 5, 25]).length = k := ⟨_, rfl⟩
          rw [ha, hk, he]
          rw [hk] at hl hle
          obtain ⟨T, hT⟩ : ∃ T, T = a + k := ⟨_, rfl⟩
          obtain ⟨XX, hX1, hX2⟩ := cut_any A l.length c a T (by omega) (by omega) hc
          have hst := run_str (c := c - a) (hX2 _ _ HL.out)
          have HTT := Lib.hid (show (a : Int) + k = (T : Int) by omega)
          have HF1 := Lib.hid (show fndE l p q t v ts = 0 from HS1.out.trans he)
          have HF2 := Lib.hid (show fndL l p q t v ts = (l.drop a).take (T - a) by rw [HS2.out, hl, hT, Nat.add_sub_cancel_left])
          have b0 : (0 : Int) ≤ a := by omega
          have b1 : (a : Int) + k ≤ 1099511627776 := by omega
          rw [← HTT.out] at hX1
          clear ha hk hl hle hT hX2 he
          go_wp2
          go_ret2
          unfold TextW
          rw [HF1.out, HF2.out]
          exact ⟨rfl, HB.out⟩
        · have HE := Lib.hid (HS1.out.trans rfl)
          have HNE := Lib.hid he
          have hne : (fndE l p q t v [4, 5, 25] != 0) = true := by simpa using he
          clear he
          go_wp2
          go_ret2
          exact textw_no HE.out HNE.out HB.out
      · have hY : t = Y := hin.resolve_left hX
        have nX : (t != X) = true := by simpa using hX
        have nY : (t != Y) = false := by simp [hY]
        clear hin hX hY
        go_wp2_with fail
        go_at_call 133
        refine (rplace_spec A _ c p q t v l _ HL.out hn).mono ?_
        rintro e w2 ⟨rfl, hb⟩
        clear c0 c1 c2 c3
        have HB := Lib.hid (pure_below HB.out hb); have HK := Lib.hid (HK.out.pure hb); have HL := Lib.hid (HL.out.pure hb); have c0 := cell0 HK.out; have c1 := cell1 HK.out; have c2 := cell2 HK.out; have c3 := cell3 HK.out; clear hb
        by_cases he : fndE l p q t v [4, 5, 25] = 0
        · obtain ⟨a, ha, hl, hle⟩ := HSP.out he
          obtain ⟨k, hk⟩ : ∃ k, (fndL l p q t v [4, 5, 25]).length = k := ⟨_, rfl⟩
          rw [ha, hk, he]
          rw [hk] at hl hle
          obtain ⟨T, hT⟩ : ∃ T, T = a + k := ⟨_, rfl⟩
          obtain ⟨XX, hX1, hX2⟩ := cut_any A l.length c a T (by omega) (by omega) hc
          have hst := run_str (c := c - a) (hX2 _ _ HL.out)
          have HTT := Lib.hid (show (a : Int) + k = (T : Int) by omega)
          have HF1 := Lib.hid (show fndE l p q t v ts = 0 from HS1.out.trans he)
          have HF2 := Lib.hid (show fndL l p q t v ts = (l.drop a).take (T - a) by rw [HS2.out, hl, hT, Nat.add_sub_cancel_left])
          have b0 : (0 : Int) ≤ a := by omega
          have b1 : (a : Int) + k ≤ 1099511627776 := by omega
          rw [← HTT.out] at hX1
          clear ha hk hl hle hT hX2 he
          go_wp2
          go_ret2
          unfold TextW
          rw [HF1.out, HF2.out]
          exact ⟨rfl, HB.out⟩
        · have HE := Lib.hid (HS1.out.trans rfl)
          have HNE := Lib.hid he
          have hne : (fndE l p q t v [4, 5, 25] != 0) = true := by simpa using he
          clear he
          go_wp2
          go_ret2
          exact textw_no HE.out HNE.out HB.out
    · have HE := Lib.hid (show fndE l p q t v ts = 60 by unfold fndE; rw [if_neg (by simpa using hmay), if_pos (by rw [H1.out ht0]; exact decide_eq_false hin)])
      have nX : (t != X) = true := by simpa using fun e => hin (.inl e)
      have nY : (t != Y) = true := by simpa using fun e => hin (.inr e)
      clear hin hmay
      go_wp2
      go_ret2
      exact textw_no HE.out (by decide) HB.out
  · have HE := Lib.hid (show fndE l p q t v ts = mayE l.length p q t v by unfold fndE; rw [if_pos hmay])
    have HNE := Lib.hid hmay
    have hne : (mayE l.length p q t v != 0) = true := by simpa using hmay
    have HB := Lib.hid (pure_below HB.out hb); have HK := Lib.hid (HK.out.pure hb); have HL := Lib.hid (HL.out.pure hb); have c0 := cell0 HK.out; have c1 := cell1 HK.out; have c2 := cell2 HK.out; have c3 := cell3 HK.out; clear hb
    clear hmay
    go_wp2
    go_ret2
    exact textw_no HE.out HNE.out HB.out
set_option maxHeartbeats 1000000 in
theorem rkeyt_spec (A : Option Addr) (n c : Nat) (p q t v : Int) (l : List UInt8) (w : World) (h : IsB w A n l) (hc : n ≤ c) (hn : n ≤ 1099511627776) :
    Calls Try.prog 101 #[.slice A n c, .agg #[.int .i64 p, .int .i64 q, .int .i64 t, .int .i64 v]] w (TextW w l p q t v [4]) := by
  have HL := Lib.hid (h.alloc (.cells #[.int .i64 p, .int .i64 q, .int .i64 t, .int .i64 v] 23))
  have HB := Lib.hid ((Below.refl w.heap.size w).alloc (Nat.le_refl _) (.cells #[.int .i64 p, .int .i64 q, .int .i64 t, .int .i64 v] 23))
  clear h
  go_enter Try.func101, Try.ntmps101
  go_wp2_with fail
  go_at_call 122
  refine (rof_spec A n c p q t v 4 4 [4] l _ HL.out hc hn (fun h0 => by unfold isIn; rw [Bool.eq_iff_iff]; simp; omega) (by omega)).mono ?_
  rintro e w1 ⟨rfl, hb⟩
  have HB := Lib.hid (pure_below HB.out hb)
  clear hb
  go_wp2
  go_ret2
  exact ⟨rfl, HB.out⟩
end Go.Proofs.Ytaigofpipoimkaa
