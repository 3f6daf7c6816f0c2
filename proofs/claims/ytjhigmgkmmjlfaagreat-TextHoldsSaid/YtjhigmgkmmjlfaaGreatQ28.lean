/-
  The reference of package text: Key, Str, Blob, Text.
  Package text: the examples of the chapter.
  Package le: reading the arguments of the properties.
  Package ref: reading the arguments of the properties.
  Package ref: the property RefEnds.
-/
import Derived.Test.YtjhigmgkmmjlfaaGreatQ27
import Derived.Lib.SmallJoins
namespace Go.Proofs.YtjhigmgkmmjlfaaGreat
open Go.RowKit Go.Acc
theorem fnd_sub {l : List UInt8} {p q t v : Int} {ts : List Nat} (h : isIn ts t = true) (h3 : isIn [4, 5, 25] t = true) : fndE l p q t v ts = fndE l p q t v [4, 5, 25] ∧ fndL l p q t v ts = fndL l p q t v [4, 5, 25] := by
  have e : fndE l p q t v ts = fndE l p q t v [4, 5, 25] := by
    unfold fndE
    rw [h, h3]
  refine ⟨e, ?_⟩
  unfold fndL
  rw [e]
theorem take_self {l : List UInt8} {a k : Nat} : (l.drop a).take k = (l.drop a).take ((l.drop a).take k).length := by
  rw [List.length_take, List.take_eq_take_iff]
  simp
theorem fnd_take {l : List UInt8} {p q t v : Int} (h : fndE l p q t v [4, 5, 25] = 0) : ∃ a : Nat, fndA l p q t v [4, 5, 25] = a ∧ fndL l p q t v [4, 5, 25] = (l.drop a).take (fndL l p q t v [4, 5, 25]).length ∧ a + (fndL l p q t v [4, 5, 25]).length ≤ l.length := by
  have ht : tgtE l p q t v = 0 := by
    by_cases hm : mayE l.length p q t v = 0
    · by_cases hi : isIn [4, 5, 25] t = false
      · unfold fndE at h
        rw [if_neg (by simpa using hm), if_pos hi] at h
        cases h
      · by_cases hte : tgtE l p q t v = 0
        · exact hte
        · unfold fndE at h
          rw [if_neg (by simpa using hm), if_neg hi, if_pos hte] at h
          exact absurd h hte
    · unfold fndE at h
      rw [if_pos hm] at h
      exact absurd h hm
  have hr := tgt_rng ht
  refine ⟨(tgt l p q t v).toNat, ?_, ?_, ?_⟩
  · unfold fndA
    rw [if_pos h]
    omega
  · unfold fndL
    rw [if_pos h]
    split
    · unfold keyL; exact take_self
    · unfold cntL; exact take_self
  · unfold fndL
    rw [if_pos h]
    split
    · unfold keyL
      rw [List.length_take, List.length_drop]
      omega
    · unfold cntL
      rw [List.length_take, List.length_drop]
      omega
def TextW (w : World) (l : List UInt8) (p q t v : Int) (ts : List Nat) (e : Ending) (w' : World) : Prop :=
  e = .returned (.tuple #[.string ⟨(fndL l p q t v ts).toArray⟩, .int .i64 (fndE l p q t v ts)]) ∧ Below w.heap.size w w'
theorem textw_no {w w' : World} {l : List UInt8} {p q t v er : Int} {ts : List Nat} (h : fndE l p q t v ts = er) (hne : er ≠ 0) (hb : Below w.heap.size w w') : TextW w l p q t v ts (.returned (.tuple #[.string ⟨#[]⟩, .int .i64 er])) w' := by
  unfold TextW fndL
  rw [h, if_neg hne]
  exact ⟨rfl, hb⟩
end Go.Proofs.YtjhigmgkmmjlfaaGreat

namespace Go.Proofs.YtjhigmgkmmjlfaaGreat
open Go.RowKit Go.Acc
set_option maxHeartbeats 400000 in
theorem of23_spec (p q t v : Int) (w : World) : Calls Tryz.prog 64 #[.int .i64 p, .int .i64 q, .int .i64 t, .int .i64 v] w fun e w' => e = .returned (.agg #[.int .i64 p, .int .i64 q, .int .i64 t, .int .i64 v]) ∧ Below w.heap.size w w' := by
  go_enter Tryz.func64, Tryz.ntmps64
  go_wp2
  refine bodyPost_ret (v := .agg #[.int .i64 p, .int .i64 q, .int .i64 t, .int .i64 v]) (by simp [results, Tryz.results64, go_sem]) rfl ⟨rfl, ?_⟩
  exact (Below.refl _ _).alloc (Nat.le_refl _) _
set_option maxHeartbeats 400000 in
theorem is23_yes (s : ByteArray) (x : Int) (w : World) : Calls Tryz.prog 27 #[.string s, .int .i64 x, .string s, .int .i64 x] w fun e w' => e = .returned (.bool true) ∧ w = w' := by
  go_enter Tryz.func27, Tryz.ntmps27
  go_wp2
  go_ret
  exact ⟨rfl, rfl⟩
theorem strt_is (A : Option Addr) (n c : Nat) (p q t v : Int) (l m : List UInt8) (s : ByteArray) (er : Int) (w : World) (h : IsB w A n l) (hc : n ≤ c) (hn : n ≤ 1099511627776) (h1 : fndL l p q t v [5] = m) (h2 : fndE l p q t v [5] = er) (h3 : (⟨m.toArray⟩ : ByteArray) = s) :
    Calls Tryz.prog 23 #[.slice A n c, .agg #[.int .i64 p, .int .i64 q, .int .i64 t, .int .i64 v]] w fun e w' => e = .returned (.tuple #[.string s, .int .i64 er]) ∧ Below w.heap.size w w' := by
  subst h1 h2 h3
  exact strt_spec A n c p q t v l w h hc hn
theorem keyt_is (A : Option Addr) (n c : Nat) (p q t v : Int) (l m : List UInt8) (s : ByteArray) (er : Int) (w : World) (h : IsB w A n l) (hc : n ≤ c) (hn : n ≤ 1099511627776) (h1 : fndL l p q t v [4] = m) (h2 : fndE l p q t v [4] = er) (h3 : (⟨m.toArray⟩ : ByteArray) = s) :
    Calls Tryz.prog 22 #[.slice A n c, .agg #[.int .i64 p, .int .i64 q, .int .i64 t, .int .i64 v]] w fun e w' => e = .returned (.tuple #[.string s, .int .i64 er]) ∧ Below w.heap.size w w' := by
  subst h1 h2 h3
  exact keyt_spec A n c p q t v l w h hc hn
theorem blobt_is (A : Option Addr) (n c : Nat) (p q t v : Int) (l m : List UInt8) (s : ByteArray) (er : Int) (w : World) (h : IsB w A n l) (hc : n ≤ c) (hn : n ≤ 1099511627776) (h1 : fndL l p q t v [25] = m) (h2 : fndE l p q t v [25] = er) (h3 : (⟨m.toArray⟩ : ByteArray) = s) :
    Calls Tryz.prog 24 #[.slice A n c, .agg #[.int .i64 p, .int .i64 q, .int .i64 t, .int .i64 v]] w fun e w' => e = .returned (.tuple #[.string s, .int .i64 er]) ∧ Below w.heap.size w w' := by
  subst h1 h2 h3
  exact blobt_spec A n c p q t v l w h hc hn
theorem textt_is (A : Option Addr) (n c : Nat) (p q t v : Int) (l m : List UInt8) (s : ByteArray) (er : Int) (w : World) (h : IsB w A n l) (hc : n ≤ c) (hn : n ≤ 1099511627776) (h1 : fndL l p q t v [4, 5] = m) (h2 : fndE l p q t v [4, 5] = er) (h3 : (⟨m.toArray⟩ : ByteArray) = s) :
    Calls Tryz.prog 25 #[.slice A n c, .agg #[.int .i64 p, .int .i64 q, .int .i64 t, .int .i64 v]] w fun e w' => e = .returned (.tuple #[.string s, .int .i64 er]) ∧ Below w.heap.size w w' := by
  subst h1 h2 h3
  exact textt_spec A n c p q t v l w h hc hn
theorem place_is (A : Option Addr) (n c : Nat) (p q t v : Int) (l : List UInt8) (a k er : Int) (w : World) (h : IsB w A n l) (hc : n ≤ c) (hn : n ≤ 1099511627776) (h1 : fndA l p q t v [4, 5, 25] = a) (h2 : ((fndL l p q t v [4, 5, 25]).length : Int) = k) (h3 : fndE l p q t v [4, 5, 25] = er) :
    Calls Tryz.prog 26 #[.slice A n c, .agg #[.int .i64 p, .int .i64 q, .int .i64 t, .int .i64 v]] w fun e w' => e = .returned (.tuple #[.int .i64 a, .int .i64 k, .int .i64 er]) ∧ Below w.heap.size w w' := by
  subst h1 h2 h3
  exact place_spec A n c p q t v l w h hc hn
set_option maxRecDepth 100000 in
set_option maxHeartbeats 4000000 in
theorem textworks_spec (w : World) : Calls Tryz.prog 20 #[] w fun e w' => e = .returned (.bool true) ∧ Below w.heap.size w w' := by
  have HX := Lib.hid (isb_lit w #[.int .u8 2, .int .u8 97, .int .u8 98, .int .u8 0, .int .u8 3] [2, 97, 98, 0, 3] 5 rfl rfl)
  have HB := Lib.hid ((Below.refl w.heap.size w).alloc (Nat.le_refl _) (.cells #[.int .u8 2, .int .u8 97, .int .u8 98, .int .u8 0, .int .u8 3] 5))
  go_enter Tryz.func20, Tryz.ntmps20
  go_wp2_with fail
  go_at_call 64
  refine (of23_spec 4 1 5 1 _).mono ?_
  rintro e wn ⟨rfl, hb⟩
  have HB := Lib.hid (pure_below HB.out hb)
  have HX := Lib.hid (HX.out.pure hb)
  clear hb
  go_wp2_with fail
  go_at_call 26
  refine (place_is _ 5 5 4 1 5 1 [2, 97, 98, 0, 3] 1 2 0 _ HX.out (by decide) (by decide) (by decide) (by decide) (by decide)).mono ?_
  rintro e wn ⟨rfl, hb⟩
  have HB := Lib.hid (pure_below HB.out hb)
  have HX := Lib.hid (HX.out.pure hb)
  clear hb
  go_wp2_with fail
  go_at_call 64
  refine (of23_spec 4 1 5 1 _).mono ?_
  rintro e wn ⟨rfl, hb⟩
  have HB := Lib.hid (pure_below HB.out hb)
  have HX := Lib.hid (HX.out.pure hb)
  clear hb
  go_wp2_with fail
  go_at_call 23
  refine (strt_is _ 5 5 4 1 5 1 [2, 97, 98, 0, 3] [97, 98] _ 0 _ HX.out (by decide) (by decide) (by decide) (by decide) rfl).mono ?_
  rintro e wn ⟨rfl, hb⟩
  have HB := Lib.hid (pure_below HB.out hb)
  have HX := Lib.hid (HX.out.pure hb)
  clear hb
  go_wp2_with fail
  go_at_call 64
  refine (of23_spec 4 1 4 1 _).mono ?_
  rintro e wn ⟨rfl, hb⟩
  have HB := Lib.hid (pure_below HB.out hb)
  have HX := Lib.hid (HX.out.pure hb)
  clear hb
  go_wp2_with fail
  go_at_call 22
  refine (keyt_is _ 5 5 4 1 4 1 [2, 97, 98, 0, 3] [97, 98] _ 0 _ HX.out (by decide) (by decide) (by decide) (by decide) rfl).mono ?_
  rintro e wn ⟨rfl, hb⟩
  have HB := Lib.hid (pure_below HB.out hb)
  have HX := Lib.hid (HX.out.pure hb)
  clear hb
  go_wp2_with fail
  go_at_call 64
  refine (of23_spec 4 1 5 1 _).mono ?_
  rintro e wn ⟨rfl, hb⟩
  have HB := Lib.hid (pure_below HB.out hb)
  have HX := Lib.hid (HX.out.pure hb)
  clear hb
  go_wp2_with fail
  go_at_call 22
  refine (keyt_is _ 5 5 4 1 5 1 [2, 97, 98, 0, 3] [] _ 60 _ HX.out (by decide) (by decide) (by decide) (by decide) rfl).mono ?_
  rintro e wn ⟨rfl, hb⟩
  have HB := Lib.hid (pure_below HB.out hb)
  have HX := Lib.hid (HX.out.pure hb)
  clear hb
  go_wp2_with fail
  go_at_call 64
  refine (of23_spec 4 1 5 1 _).mono ?_
  rintro e wn ⟨rfl, hb⟩
  have HB := Lib.hid (pure_below HB.out hb)
  have HX := Lib.hid (HX.out.pure hb)
  clear hb
  go_wp2_with fail
  go_at_call 25
  refine (textt_is _ 5 5 4 1 5 1 [2, 97, 98, 0, 3] [97, 98] _ 0 _ HX.out (by decide) (by decide) (by decide) (by decide) rfl).mono ?_
  rintro e wn ⟨rfl, hb⟩
  have HB := Lib.hid (pure_below HB.out hb)
  have HX := Lib.hid (HX.out.pure hb)
  clear hb
  go_wp2_with (first | (go_at_call 27; refine (is23_yes _ _ _).mono ?_; rintro e w' ⟨rfl, rfl⟩))
  go_wp2_with fail
  have HX : Hid (IsB (wn.alloc (.cells #[.int .u8 2, .int .u8 97, .int .u8 98, .int .u8 99, .int .u8 3] 5)) (some ⟨wn.heap.size, 0, none⟩) 5 [2, 97, 98, 99, 3]) := Lib.hid (isb_lit wn #[.int .u8 2, .int .u8 97, .int .u8 98, .int .u8 99, .int .u8 3] [2, 97, 98, 99, 3] 5 rfl rfl)
  have HB := Lib.hid (HB.out.alloc HB.out.size (.cells #[.int .u8 2, .int .u8 97, .int .u8 98, .int .u8 99, .int .u8 3] 5))
  go_wp2_with fail
  go_at_call 64
  refine (of23_spec 4 1 25 1 _).mono ?_
  rintro e wn ⟨rfl, hb⟩
  have HB := Lib.hid (pure_below HB.out hb)
  have HX := Lib.hid (HX.out.pure hb)
  clear hb
  go_wp2_with fail
  go_at_call 24
  refine (blobt_is _ 5 5 4 1 25 1 [2, 97, 98, 99, 3] [97, 98] _ 0 _ HX.out (by decide) (by decide) (by decide) (by decide) rfl).mono ?_
  rintro e wn ⟨rfl, hb⟩
  have HB := Lib.hid (pure_below HB.out hb)
  have HX := Lib.hid (HX.out.pure hb)
  clear hb
  go_wp2_with fail
  go_at_call 64
  refine (of23_spec 4 1 5 1 _).mono ?_
  rintro e wn ⟨rfl, hb⟩
  have HB := Lib.hid (pure_below HB.out hb)
  have HX := Lib.hid (HX.out.pure hb)
  clear hb
  go_wp2_with fail
  go_at_call 23
  refine (strt_is _ 5 5 4 1 5 1 [2, 97, 98, 99, 3] [] _ 213 _ HX.out (by decide) (by decide) (by decide) (by decide) rfl).mono ?_
  rintro e wn ⟨rfl, hb⟩
  have HB := Lib.hid (pure_below HB.out hb)
  have HX := Lib.hid (HX.out.pure hb)
  clear hb
  go_wp2_with fail
  have HX : Hid (IsB (wn.alloc (.cells #[.int .u8 0, .int .u8 2, .int .u8 97, .int .u8 98, .int .u8 0, .int .u8 3] 5)) (some ⟨wn.heap.size, 0, none⟩) 6 [0, 2, 97, 98, 0, 3]) := Lib.hid (isb_lit wn #[.int .u8 0, .int .u8 2, .int .u8 97, .int .u8 98, .int .u8 0, .int .u8 3] [0, 2, 97, 98, 0, 3] 6 rfl rfl)
  have HB := Lib.hid (HB.out.alloc HB.out.size (.cells #[.int .u8 0, .int .u8 2, .int .u8 97, .int .u8 98, .int .u8 0, .int .u8 3] 5))
  go_wp2_with fail
  go_at_call 64
  refine (of23_spec 5 1 5 2 _).mono ?_
  rintro e wn ⟨rfl, hb⟩
  have HB := Lib.hid (pure_below HB.out hb)
  have HX := Lib.hid (HX.out.pure hb)
  clear hb
  go_wp2_with fail
  go_at_call 23
  refine (strt_is _ 6 6 5 1 5 2 [0, 2, 97, 98, 0, 3] [] _ 211 _ HX.out (by decide) (by decide) (by decide) (by decide) rfl).mono ?_
  rintro e wn ⟨rfl, hb⟩
  have HB := Lib.hid (pure_below HB.out hb)
  have HX := Lib.hid (HX.out.pure hb)
  clear hb
  go_wp2_with fail
  have HX : Hid (IsB (wn.alloc (.cells #[.int .u8 4, .int .u8 97, .int .u8 98, .int .u8 0, .int .u8 3] 5)) (some ⟨wn.heap.size, 0, none⟩) 5 [4, 97, 98, 0, 3]) := Lib.hid (isb_lit wn #[.int .u8 4, .int .u8 97, .int .u8 98, .int .u8 0, .int .u8 3] [4, 97, 98, 0, 3] 5 rfl rfl)
  have HB := Lib.hid (HB.out.alloc HB.out.size (.cells #[.int .u8 4, .int .u8 97, .int .u8 98, .int .u8 0, .int .u8 3] 5))
  go_wp2_with fail
  go_at_call 64
  refine (of23_spec 4 1 5 1 _).mono ?_
  rintro e wn ⟨rfl, hb⟩
  have HB := Lib.hid (pure_below HB.out hb)
  have HX := Lib.hid (HX.out.pure hb)
  clear hb
  go_wp2_with fail
  go_at_call 23
  refine (strt_is _ 5 5 4 1 5 1 [4, 97, 98, 0, 3] [] _ 211 _ HX.out (by decide) (by decide) (by decide) (by decide) rfl).mono ?_
  rintro e wn ⟨rfl, hb⟩
  have HB := Lib.hid (pure_below HB.out hb)
  have HX := Lib.hid (HX.out.pure hb)
  clear hb
  go_wp2_with (first | (go_at_call 27; refine (is23_yes _ _ _).mono ?_; rintro e w' ⟨rfl, rfl⟩))
  go_wp2_with fail
  have HX : Hid (IsB (wn.alloc (.cells #[.int .u8 4, .int .u8 97, .int .u8 98, .int .u8 0, .int .u8 3] 5)) (some ⟨wn.heap.size, 0, none⟩) 5 [4, 97, 98, 0, 3]) := Lib.hid (isb_lit wn #[.int .u8 4, .int .u8 97, .int .u8 98, .int .u8 0, .int .u8 3] [4, 97, 98, 0, 3] 5 rfl rfl)
  have HB := Lib.hid (HB.out.alloc HB.out.size (.cells #[.int .u8 4, .int .u8 97, .int .u8 98, .int .u8 0, .int .u8 3] 5))
  go_wp2_with fail
  go_at_call 64
  refine (of23_spec 4 1 25 1 _).mono ?_
  rintro e wn ⟨rfl, hb⟩
  have HB := Lib.hid (pure_below HB.out hb)
  have HX := Lib.hid (HX.out.pure hb)
  clear hb
  go_wp2_with fail
  go_at_call 24
  refine (blobt_is _ 5 5 4 1 25 1 [4, 97, 98, 0, 3] [97, 98, 0, 3] _ 0 _ HX.out (by decide) (by decide) (by decide) (by decide) rfl).mono ?_
  rintro e wn ⟨rfl, hb⟩
  have HB := Lib.hid (pure_below HB.out hb)
  have HX := Lib.hid (HX.out.pure hb)
  clear hb
  go_wp2_with fail
  have HX : Hid (IsB (wn.alloc (.cells #[.int .u8 97, .int .u8 1] 5)) (some ⟨wn.heap.size, 0, none⟩) 2 [97, 1]) := Lib.hid (isb_lit wn #[.int .u8 97, .int .u8 1] [97, 1] 2 rfl rfl)
  have HB := Lib.hid (HB.out.alloc HB.out.size (.cells #[.int .u8 97, .int .u8 1] 5))
  go_wp2_with fail
  go_at_call 64
  refine (of23_spec 1 1 5 1 _).mono ?_
  rintro e wn ⟨rfl, hb⟩
  have HB := Lib.hid (pure_below HB.out hb)
  have HX := Lib.hid (HX.out.pure hb)
  clear hb
  go_wp2_with fail
  go_at_call 23
  refine (strt_is _ 2 2 1 1 5 1 [97, 1] [] _ 211 _ HX.out (by decide) (by decide) (by decide) (by decide) rfl).mono ?_
  rintro e wn ⟨rfl, hb⟩
  have HB := Lib.hid (pure_below HB.out hb)
  have HX := Lib.hid (HX.out.pure hb)
  clear hb
  go_wp2_with fail
  have HX : Hid (IsB (wn.alloc (.cells #[.int .u8 0, .int .u8 0, .int .u8 97, .int .u8 2] 5)) (some ⟨wn.heap.size, 0, none⟩) 4 [0, 0, 97, 2]) := Lib.hid (isb_lit wn #[.int .u8 0, .int .u8 0, .int .u8 97, .int .u8 2] [0, 0, 97, 2] 4 rfl rfl)
  have HB := Lib.hid (HB.out.alloc HB.out.size (.cells #[.int .u8 0, .int .u8 0, .int .u8 97, .int .u8 2] 5))
  go_wp2_with fail
  go_at_call 64
  refine (of23_spec 3 1 5 2 _).mono ?_
  rintro e wn ⟨rfl, hb⟩
  have HB := Lib.hid (pure_below HB.out hb)
  have HX := Lib.hid (HX.out.pure hb)
  clear hb
  go_wp2_with fail
  go_at_call 23
  refine (strt_is _ 4 4 3 1 5 2 [0, 0, 97, 2] [] _ 212 _ HX.out (by decide) (by decide) (by decide) (by decide) rfl).mono ?_
  rintro e wn ⟨rfl, hb⟩
  have HB := Lib.hid (pure_below HB.out hb)
  have HX := Lib.hid (HX.out.pure hb)
  clear hb
  go_wp2_with fail
  have HX : Hid (IsB (wn.alloc (.cells #[.int .u8 97, .int .u8 1] 5)) (some ⟨wn.heap.size, 0, none⟩) 2 [97, 1]) := Lib.hid (isb_lit wn #[.int .u8 97, .int .u8 1] [97, 1] 2 rfl rfl)
  have HB := Lib.hid (HB.out.alloc HB.out.size (.cells #[.int .u8 97, .int .u8 1] 5))
  go_wp2_with fail
  go_at_call 64
  refine (of23_spec 1 1 4 8 _).mono ?_
  rintro e wn ⟨rfl, hb⟩
  have HB := Lib.hid (pure_below HB.out hb)
  have HX := Lib.hid (HX.out.pure hb)
  clear hb
  go_wp2_with fail
  go_at_call 22
  refine (keyt_is _ 2 2 1 1 4 8 [97, 1] [] _ 213 _ HX.out (by decide) (by decide) (by decide) (by decide) rfl).mono ?_
  rintro e wn ⟨rfl, hb⟩
  have HB := Lib.hid (pure_below HB.out hb)
  have HX := Lib.hid (HX.out.pure hb)
  clear hb
  go_wp2_with fail
  have HX : Hid (IsB (wn.alloc (.cells #[.int .u8 5] 5)) (some ⟨wn.heap.size, 0, none⟩) 1 [5]) := Lib.hid (isb_lit wn #[.int .u8 5] [5] 1 rfl rfl)
  have HB := Lib.hid (HB.out.alloc HB.out.size (.cells #[.int .u8 5] 5))
  go_wp2_with fail
  go_at_call 64
  refine (of23_spec 0 1 1 1 _).mono ?_
  rintro e wn ⟨rfl, hb⟩
  have HB := Lib.hid (pure_below HB.out hb)
  have HX := Lib.hid (HX.out.pure hb)
  clear hb
  go_wp2_with fail
  go_at_call 26
  refine (place_is _ 1 1 0 1 1 1 [5] 0 0 60 _ HX.out (by decide) (by decide) (by decide) (by decide) (by decide)).mono ?_
  rintro e wn ⟨rfl, hb⟩
  have HB := Lib.hid (pure_below HB.out hb)
  have HX := Lib.hid (HX.out.pure hb)
  clear hb
  go_wp2_with (first | (go_at_call 27; refine (is23_yes _ _ _).mono ?_; rintro e w' ⟨rfl, rfl⟩))
  go_ret
  exact ⟨rfl, HB.out⟩
end Go.Proofs.YtjhigmgkmmjlfaaGreat

namespace Go.Proofs.YtjhigmgkmmjlfaaGreat
open Go.ChangeShapes Go.WideShapes Go.ChangeAt Go.RowKit Go.Acc
theorem acc_own : ownKnob Tryz.prog.godebug = none := by kernel_rfl
theorem acc_laidOut : laidOutB Tryz.prog = true := by kernel_rfl
section
variable {H : Type} {enc : TypeId × Value → H} {W : World} {base : Nat} {spare : Nat → Bool} {held : Bool}
/-- A slice of bytes, read. -/
theorem bytes_read {fuel : Nat} {v : Value} {x : DataW H × List MemPlace} (h : DataW.trod enc Tryz.prog W base spare held fuel 29 [v] = some x) :
    ∃ A n c l, v = .slice A n c ∧ IsB W A n l ∧ n ≤ c ∧ n ≤ 9223372036854775807 := by
  rcases open_ints Tryz.underlying29 Tryz.underlying5 (by kernel_rfl) h with ⟨e, _⟩ | ⟨a, n, c, zs, e, _, hl, hm, hz, _, hcell, hwf⟩
  · obtain rfl : v = .slice none 0 0 := by simpa using e
    exact ⟨none, 0, 0, [], rfl, Is.nil _ _, by omega, by omega⟩
  · obtain rfl : v = .slice (some a) n c := by simpa using e
    simp only [maxLen] at hm
    have hzn : n ≤ zs.length := by rw [hz]; split <;> omega
    obtain ⟨l, hl', _⟩ := is_of_elems (f := bc) (sz := 1) bc_len (by omega) (w := W) (a := a) (n := n) (fun _ => True) (fun i hi => by
      have hc := hcell i (by omega)
      have hb := u8_bd (hwf (zs.getD i 0) (by rw [List.getD_eq_getElem?_getD, List.getElem?_eq_getElem (show i < zs.length by omega)]; exact List.getElem_mem _))
      refine ⟨UInt8.ofNat (zs.getD i 0).toNat, trivial, fun j hj => ?_⟩
      obtain rfl : j = 0 := by omega
      have e : ((UInt8.ofNat (zs.getD i 0).toNat).toNat : Int) = zs.getD i 0 := by rw [UInt8.toNat_ofNat']; omega
      rw [Nat.mul_one, Nat.add_zero, hc]
      show _ = some (Value.int .u8 _)
      rw [e])
    exact ⟨some a, n, c, l, rfl, hl', hl, by omega⟩
set_option maxRecDepth 100000 in
/-- An argument that is a slice of bytes. -/
theorem bytes_arg {v : Value} {d : DataW H} {p : List MemPlace} (k : Value.okWide Tryz.prog W .any base 29 v) (h : DataW.Trod enc Tryz.prog W 0 (fun _ => true) true 29 v d p) :
    ∃ A n c l, v = .slice A n c ∧ IsB W A n l ∧ n ≤ c ∧ n ≤ 9223372036854775807 := by
  obtain ⟨_, _, _, rfl⟩ := okWide_slice Tryz.underlying29 k
  obtain ⟨f, hf⟩ := h
  exact bytes_read hf
set_option maxRecDepth 100000 in
theorem int_arg {v : Value} {d : DataW H} {p : List MemPlace} (k : Value.okWide Tryz.prog W .any base 3 v) (h : DataW.Trod enc Tryz.prog W 0 (fun _ => true) true 3 v d p) :
    ∃ m : Int, v = .int .i64 m ∧ -9223372036854775808 ≤ m ∧ m ≤ 9223372036854775807 := by
  obtain ⟨m, rfl⟩ := okWide_int Tryz.underlying3 k
  obtain ⟨f, hf⟩ := h
  obtain ⟨m', e, _, hw⟩ := DataW.trod_int Tryz.underlying3 hf
  obtain rfl : m = m' := by simpa [Value.cells] using e
  exact ⟨m, rfl, i64_bd hw⟩
set_option maxRecDepth 100000 in
theorem u64_arg {v : Value} {d : DataW H} {p : List MemPlace} (k : Value.okWide Tryz.prog W .any base 22 v) (h : DataW.Trod enc Tryz.prog W 0 (fun _ => true) true 22 v d p) :
    ∃ u : Nat, v = .int .u64 u ∧ (u : Int) < 18446744073709551616 := by
  obtain ⟨m, rfl⟩ := okWide_int Tryz.underlying22 k
  obtain ⟨f, hf⟩ := h
  obtain ⟨m', e, _, hw⟩ := DataW.trod_int Tryz.underlying22 hf
  obtain rfl : m = m' := by simpa [Value.cells] using e
  have := u64_bd hw
  obtain ⟨u, rfl⟩ := Int.eq_ofNat_of_zero_le this.1
  exact ⟨u, rfl, by have := this.2; omega⟩
end
end Go.Proofs.YtjhigmgkmmjlfaaGreat

namespace Go.Proofs.YtjhigmgkmmjlfaaGreat
open Go.ChangeShapes Go.WideShapes Go.ChangeAt Go.RowKit Go.Acc
section
variable {H : Type} {enc : TypeId × Value → H} {W : World} {base : Nat} {spare : Nat → Bool} {held : Bool}
set_option maxRecDepth 100000 in
theorem ref_arg {v : Value} {d : DataW H} {ps : List MemPlace} (k : Value.okWide Tryz.prog W .any base 36 v) (h : DataW.Trod enc Tryz.prog W 0 (fun _ => true) true 36 v d ps) :
    ∃ p q t x : Int, v = .agg #[.int .i64 p, .int .i64 q, .int .i64 t, .int .i64 x] ∧ (-9223372036854775808 ≤ p ∧ p ≤ 9223372036854775807) ∧ (-9223372036854775808 ≤ q ∧ q ≤ 9223372036854775807) ∧ (-9223372036854775808 ≤ t ∧ t ≤ 9223372036854775807) ∧ (-9223372036854775808 ≤ x ∧ x ≤ 9223372036854775807) := by
  obtain ⟨v0, v1, v2, v3, y0, y1, y2, y3, n, rfl, _, _, t0, t1, t2, t3⟩ := Joins.open_agg4 Tryz.underlying36 (by kernel_rfl) (by kernel_rfl) k h
  obtain ⟨n0, e0, _, w0⟩ := DataW.trod_int Tryz.underlying3 t0
  obtain ⟨n1, e1, _, w1⟩ := DataW.trod_int Tryz.underlying3 t1
  obtain ⟨n2, e2, _, w2⟩ := DataW.trod_int Tryz.underlying3 t2
  obtain ⟨n3, e3, _, w3⟩ := DataW.trod_int Tryz.underlying3 t3
  obtain rfl : v0 = .int .i64 n0 := by simpa using e0
  obtain rfl : v1 = .int .i64 n1 := by simpa using e1
  obtain rfl : v2 = .int .i64 n2 := by simpa using e2
  obtain rfl : v3 = .int .i64 n3 := by simpa using e3
  exact ⟨n0, n1, n2, n3, rfl, i64_bd w0, i64_bd w1, i64_bd w2, i64_bd w3⟩
set_option maxRecDepth 100000 in
/-- The four cells of a reference inside an array. -/
theorem ref_cells {fuel : Nat} {v0 v1 v2 v3 : Value} {x : DataW H × List MemPlace} (h : DataW.trod enc Tryz.prog W base spare held fuel 36 [v0, v1, v2, v3] = some x) :
    ∃ p q t v : Int, v0 = .int .i64 p ∧ v1 = .int .i64 q ∧ v2 = .int .i64 t ∧ v3 = .int .i64 v ∧ (-9223372036854775808 ≤ p ∧ p ≤ 9223372036854775807) ∧ (-9223372036854775808 ≤ q ∧ q ≤ 9223372036854775807) ∧ (-9223372036854775808 ≤ t ∧ t ≤ 9223372036854775807) ∧ (-9223372036854775808 ≤ v ∧ v ≤ 9223372036854775807) := by
  obtain ⟨ys, n', _, _, _, hyl, hf⟩ := DataW.trod_struct Tryz.underlying36 h
  have hys : ys.length = 4 := hyl
  have hC : Tryz.prog.cellsOf 3 = 1 := by kernel_rfl
  have f0 : DataW.trod enc Tryz.prog W base spare held n' 3 (([v0, v1, v2, v3].drop 0).take (Tryz.prog.cellsOf 3)) = ys[0]? := hf 0 _ rfl
  have f1 : DataW.trod enc Tryz.prog W base spare held n' 3 (([v0, v1, v2, v3].drop 1).take (Tryz.prog.cellsOf 3)) = ys[1]? := hf 1 _ rfl
  have f2 : DataW.trod enc Tryz.prog W base spare held n' 3 (([v0, v1, v2, v3].drop 2).take (Tryz.prog.cellsOf 3)) = ys[2]? := hf 2 _ rfl
  have f3 : DataW.trod enc Tryz.prog W base spare held n' 3 (([v0, v1, v2, v3].drop 3).take (Tryz.prog.cellsOf 3)) = ys[3]? := hf 3 _ rfl
  have g0 : ys[0]? = some (ys[0]'(by omega)) := List.getElem?_eq_getElem _
  have g1 : ys[1]? = some (ys[1]'(by omega)) := List.getElem?_eq_getElem _
  have g2 : ys[2]? = some (ys[2]'(by omega)) := List.getElem?_eq_getElem _
  have g3 : ys[3]? = some (ys[3]'(by omega)) := List.getElem?_eq_getElem _
  rw [hC] at f0 f1 f2 f3
  obtain ⟨n0, e0, _, w0⟩ := DataW.trod_int Tryz.underlying3 (f0.trans g0)
  obtain ⟨n1, e1, _, w1⟩ := DataW.trod_int Tryz.underlying3 (f1.trans g1)
  obtain ⟨n2, e2, _, w2⟩ := DataW.trod_int Tryz.underlying3 (f2.trans g2)
  obtain ⟨n3, e3, _, w3⟩ := DataW.trod_int Tryz.underlying3 (f3.trans g3)
  injection e0 with e0
  injection e1 with e1
  injection e2 with e2
  injection e3 with e3
  exact ⟨n0, n1, n2, n3, e0, e1, e2, e3, i64_bd w0, i64_bd w1, i64_bd w2, i64_bd w3⟩
end
end Go.Proofs.YtjhigmgkmmjlfaaGreat

namespace Go.Proofs.YtjhigmgkmmjlfaaGreat
open Go.RowKit Go.Acc
/-- The error and the root of so many bytes before a tag and a width. -/
def endE (n : Nat) (c : UInt8) (x : Nat) : Int := if n = 0 then 210 else if unE c ≠ 0 then unE c else if (n : Int) - x < 0 ∨ ((n : Int) - x) % x ≠ 0 then 210 else 0
def endR (n : Nat) (c : UInt8) (x : Nat) : Int × Int × Int × Int := if endE n c x = 0 then ((n : Int) - x, (x : Int), unT c, unW c) else (0, 0, 0, 0)
theorem last_app {l : List UInt8} {c d : UInt8} : (l ++ [c, d]).getD ((l ++ [c, d]).length - 1) 0 = d := by
  simp [List.getD_eq_getElem?_getD]
theorem last2_app {l : List UInt8} {c d : UInt8} : (l ++ [c, d]).getD ((l ++ [c, d]).length - 2) 0 = c := by
  simp [List.getD_eq_getElem?_getD]
theorem rootE_app (l : List UInt8) (c d : UInt8) (hd : isW (d.toNat : Int) = true) : rootE (l ++ [c, d]) = endE l.length c d.toNat := by
  unfold rootE endE
  rw [last_app, last2_app, hd, show (l ++ [c, d]).length = l.length + 2 by simp]
  by_cases h : l.length = 0
  · rw [if_pos (.inl (by omega)), if_pos h]
  · rw [if_neg (by simp; omega), if_neg h]
    by_cases hu : unE c = 0
    · rw [show ((l.length + 2 : Nat) : Int) - 2 - (d.toNat : Int) = (l.length : Int) - d.toNat by omega, hu]
    · rw [if_pos hu, if_pos hu]
theorem rootR_app (l : List UInt8) (c d : UInt8) (hd : isW (d.toNat : Int) = true) : rootR (l ++ [c, d]) = endR l.length c d.toNat := by
  unfold rootR endR
  rw [rootE_app l c d hd, last_app, last2_app, show (l ++ [c, d]).length = l.length + 2 by simp, show ((l.length + 2 : Nat) : Int) - 2 - (d.toNat : Int) = (l.length : Int) - d.toNat by omega]
/-- If a third byte follows and there is a root, it lies before its last two. -/
theorem rootR_sum (l : List UInt8) (h : rootE l = 0) : (rootR l).1 + (rootR l).2.1 = (l.length : Int) - 2 := by
  unfold rootR
  rw [if_pos h]
  exact Int.sub_add_cancel _ _
theorem quad (r : Int × Int × Int × Int) : ∃ a b c d, r = (a, b, c, d) := ⟨_, _, _, _, rfl⟩
theorem bring_wd (n : Int) : n % 4 = 0 ∨ n % 4 = 1 ∨ n % 4 = 2 ∨ n % 4 = 3 := by omega
theorem ends_cases (n : Nat) (c : UInt8) (x : Nat) (hx : 0 < x) : (n = 0 ∧ endE n c x = 210) ∨ (0 < n ∧ unE c ≠ 0 ∧ unE c = 20 ∧ endE n c x = 20) ∨ (0 < n ∧ unE c = 0 ∧ n < x ∧ endE n c x = 210) ∨
    (0 < n ∧ unE c = 0 ∧ x ≤ n ∧ (((n : Int) - x) % x ≠ 0) ∧ endE n c x = 210) ∨ (0 < n ∧ unE c = 0 ∧ x ≤ n ∧ ((n : Int) - x) % x = 0 ∧ endE n c x = 0 ∧ endR n c x = ((n : Int) - x, (x : Int), unT c, unW c)) := by
  by_cases h : n = 0
  · exact .inl ⟨h, if_pos h⟩
  by_cases hu : unE c = 0
  · by_cases h1 : n < x
    · refine .inr (.inr (.inl ⟨by omega, hu, h1, ?_⟩))
      unfold endE
      rw [if_neg h, if_neg (by simpa using hu), if_pos (.inl (by omega))]
    · by_cases h2 : ((n : Int) - x) % x = 0
      · have e : endE n c x = 0 := by
          unfold endE
          rw [if_neg h, if_neg (by simpa using hu), if_neg (by rintro (h3 | h3); omega; exact h3 h2)]
        exact .inr (.inr (.inr (.inr ⟨by omega, hu, by omega, h2, e, if_pos e⟩)))
      · refine .inr (.inr (.inr (.inl ⟨by omega, hu, by omega, h2, ?_⟩)))
        unfold endE
        rw [if_neg h, if_neg (by simpa using hu), if_pos (.inr h2)]
  · have h20 : unE c = 20 := by
      unfold unE at hu ⊢
      split at hu
      · exact absurd rfl hu
      · rename_i h; rw [if_neg h]
    refine .inr (.inl ⟨by omega, hu, h20, ?_⟩)
    unfold endE
    rw [if_neg h, if_pos hu, h20]
theorem is_blk_n {α : Type} {f : α → List Value} {w : World} {g n : Nat} {t : TypeId} {cs : Array Value} (l : List α) (hB : Blk w g t cs) (hn : l.length = n) (h : cs.toList = l.flatMap f) : Is f w (some ⟨g, 0, none⟩) n l := by
  refine ⟨hn, fun j u hu => ⟨_, _, rfl, ?_⟩⟩
  rw [Nat.zero_add, hB.cell j]
  rw [← h] at hu
  simpa using hu
end Go.Proofs.YtjhigmgkmmjlfaaGreat
