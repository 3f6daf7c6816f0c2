/-
  Package list: the examples of the chapter.
-/
import Derived.Test.YtaigofpipoimkaaLiI
import Derived.Test.YtaigofpipoimkaaRefE
namespace Go.Proofs.Ytaigofpipoimkaa
open Go.RowKit Go.Acc
theorem lslen_le (l : List UInt8) (p q t v : Int) : lsLen l p q t v ≤ l.length := by
  by_cases h : lsE l p q t v = 0
  · obtain ⟨_, _, hw, hb, _⟩ := ls_ok h
    have := isW_iff.1 hw
    have : lsLen l p q t v ≤ lsLen l p q t v * (v.toNat + tgs t) := Nat.le_mul_of_pos_right _ (by omega)
    omega
  · rw [(ls_zero h).2.2.2]; exact Nat.zero_le _
theorem lspan_is (A : Option Addr) (n c : Nat) (p q t v f a o er : Int) (l : List UInt8) (w : World) (h : IsB w A n l) (hc : n ≤ c) (hn : n ≤ 1099511627776) (h1 : (lsFrom l p q t v : Int) = f) (h2 : (lsAt l p q t v : Int) = a) (h3 : (lsTo l p q t v : Int) = o) (h4 : lsE l p q t v = er) :
    Calls Try.prog 33 #[.slice A n c, .agg #[.int .i64 p, .int .i64 q, .int .i64 t, .int .i64 v]] w fun e w' => e = .returned (.tuple #[.int .i64 f, .int .i64 a, .int .i64 o, .int .i64 er]) ∧ Below w.heap.size w w' := by
  subst h1 h2 h3 h4
  exact lspan_spec A n c p q t v l w h hc hn
theorem llen_is (A : Option Addr) (n c : Nat) (p q t v k er : Int) (l : List UInt8) (w : World) (h : IsB w A n l) (hc : n ≤ c) (hn : n ≤ 1099511627776) (h1 : (lsLen l p q t v : Int) = k) (h4 : lsE l p q t v = er) :
    Calls Try.prog 35 #[.slice A n c, .agg #[.int .i64 p, .int .i64 q, .int .i64 t, .int .i64 v]] w fun e w' => e = .returned (.tuple #[.int .i64 k, .int .i64 er]) ∧ Below w.heap.size w w' := by
  subst h1 h4
  exact llen_spec A n c p q t v l w h hc hn
theorem lat_is (A : Option Addr) (n c : Nat) (p q t v i a b d g er : Int) (l : List UInt8) (w : World) (h : IsB w A n l) (hc : n ≤ c) (hn : n ≤ 1099511627776) (h1 : atP l p q t v i = a) (h2 : atQ l p q t v i = b) (h3 : atT l p q t v i = d) (h4 : atV l p q t v i = g) (h5 : atE l p q t v i = er) :
    Calls Try.prog 37 #[.slice A n c, .agg #[.int .i64 p, .int .i64 q, .int .i64 t, .int .i64 v], .int .i64 i] w fun e w' => e = .returned (.tuple #[.agg #[.int .i64 a, .int .i64 b, .int .i64 d, .int .i64 g], .int .i64 er]) ∧ Below w.heap.size w w' := by
  subst h1 h2 h3 h4 h5
  exact lat_spec A n c p q t v i l w h hc hn
set_option maxHeartbeats 400000 in
theorem of24_spec (p q t v : Int) (w : World) : Calls Try.prog 46 #[.int .i64 p, .int .i64 q, .int .i64 t, .int .i64 v] w fun e w' => e = .returned (.agg #[.int .i64 p, .int .i64 q, .int .i64 t, .int .i64 v]) ∧ Below w.heap.size w w' := by
  go_enter Try.func46, Try.ntmps46
  go_wp2
  refine bodyPost_ret (v := .agg #[.int .i64 p, .int .i64 q, .int .i64 t, .int .i64 v]) (by simp [results, Try.results46, go_sem]) rfl ⟨rfl, ?_⟩
  exact (Below.refl _ _).alloc (Nat.le_refl _) _
set_option maxHeartbeats 400000 in
theorem spans_yes (A : Option Addr) (n c : Nat) (p q t v f a o er : Int) (l : List UInt8) (w : World) (h : IsB w A n l) (hc : n ≤ c) (hn : n ≤ 1099511627776) (h1 : (lsFrom l p q t v : Int) = f) (h2 : (lsAt l p q t v : Int) = a) (h3 : (lsTo l p q t v : Int) = o) (h4 : lsE l p q t v = er) :
    Calls Try.prog 44 #[.slice A n c, .agg #[.int .i64 p, .int .i64 q, .int .i64 t, .int .i64 v], .int .i64 f, .int .i64 a, .int .i64 o, .int .i64 er] w fun e w' => e = .returned (.bool true) ∧ Below w.heap.size w w' := by
  have HL := Lib.hid (h.alloc (.cells #[.int .i64 p, .int .i64 q, .int .i64 t, .int .i64 v] 23))
  have HB := Lib.hid ((Below.refl w.heap.size w).alloc (Nat.le_refl _) (.cells #[.int .i64 p, .int .i64 q, .int .i64 t, .int .i64 v] 23))
  have H1 := Lib.hid h1
  have H2 := Lib.hid h2
  have H3 := Lib.hid h3
  have H4 := Lib.hid h4
  clear h h1 h2 h3 h4
  go_enter Try.func44, Try.ntmps44
  go_wp2_with fail
  go_at_call 33
  refine (lspan_is A n c p q t v f a o er l _ HL.out hc hn H1.out H2.out H3.out H4.out).mono ?_
  rintro e w1 ⟨rfl, hb⟩
  replace HB := Lib.hid (pure_below HB.out hb)
  clear hb
  go_wp2
  go_ret
  exact ⟨rfl, HB.out⟩
set_option maxHeartbeats 400000 in
theorem has_yes (A : Option Addr) (n c : Nat) (p q t v k er : Int) (l : List UInt8) (w : World) (h : IsB w A n l) (hc : n ≤ c) (hn : n ≤ 1099511627776) (h1 : (lsLen l p q t v : Int) = k) (h4 : lsE l p q t v = er) :
    Calls Try.prog 45 #[.slice A n c, .agg #[.int .i64 p, .int .i64 q, .int .i64 t, .int .i64 v], .int .i64 k, .int .i64 er] w fun e w' => e = .returned (.bool true) ∧ Below w.heap.size w w' := by
  have HL := Lib.hid (h.alloc (.cells #[.int .i64 p, .int .i64 q, .int .i64 t, .int .i64 v] 23))
  have HB := Lib.hid ((Below.refl w.heap.size w).alloc (Nat.le_refl _) (.cells #[.int .i64 p, .int .i64 q, .int .i64 t, .int .i64 v] 23))
  have H1 := Lib.hid h1
  have H4 := Lib.hid h4
  clear h h1 h4
  go_enter Try.func45, Try.ntmps45
  go_wp2_with fail
  go_at_call 35
  refine (llen_is A n c p q t v k er l _ HL.out hc hn H1.out H4.out).mono ?_
  rintro e w1 ⟨rfl, hb⟩
  replace HB := Lib.hid (pure_below HB.out hb)
  clear hb
  go_wp2
  go_ret
  exact ⟨rfl, HB.out⟩
set_option maxHeartbeats 400000 in
theorem gives_yes (A : Option Addr) (n c : Nat) (p q t v i a b d g er : Int) (l : List UInt8) (w : World) (h : IsB w A n l) (hc : n ≤ c) (hn : n ≤ 1099511627776) (h1 : atP l p q t v i = a) (h2 : atQ l p q t v i = b) (h3 : atT l p q t v i = d) (h4 : atV l p q t v i = g) (h5 : atE l p q t v i = er) :
    Calls Try.prog 41 #[.slice A n c, .agg #[.int .i64 p, .int .i64 q, .int .i64 t, .int .i64 v], .int .i64 i, .agg #[.int .i64 a, .int .i64 b, .int .i64 d, .int .i64 g], .int .i64 er] w fun e w' => e = .returned (.bool true) ∧ Below w.heap.size w w' := by
  have HL := Lib.hid ((h.alloc (.cells #[.int .i64 p, .int .i64 q, .int .i64 t, .int .i64 v] 23)).alloc (.cells #[.int .i64 a, .int .i64 b, .int .i64 d, .int .i64 g] 23))
  have HB := Lib.hid (((Below.refl w.heap.size w).alloc (Nat.le_refl _) (.cells #[.int .i64 p, .int .i64 q, .int .i64 t, .int .i64 v] 23)).alloc (by simp) (.cells #[.int .i64 a, .int .i64 b, .int .i64 d, .int .i64 g] 23))
  have HK := Lib.hid (Blk.new_ (w := w.alloc (.cells #[.int .i64 p, .int .i64 q, .int .i64 t, .int .i64 v] 23)) (g := w.heap.size + 1) (by simp) 23 #[.int .i64 a, .int .i64 b, .int .i64 d, .int .i64 g])
  have H1 := Lib.hid h1
  have H2 := Lib.hid h2
  have H3 := Lib.hid h3
  have H4 := Lib.hid h4
  have H5 := Lib.hid h5
  clear h h1 h2 h3 h4 h5
  go_enter Try.func41, Try.ntmps41
  go_wp2_with fail
  go_at_call 37
  refine (lat_is A n c p q t v i a b d g er l _ HL.out hc hn H1.out H2.out H3.out H4.out H5.out).mono ?_
  rintro e w1 ⟨rfl, hb⟩
  replace HB := Lib.hid (pure_below HB.out hb)
  have c0 := cell0 (HK.out.pure hb)
  have c1 := cell1 (HK.out.pure hb)
  have c2 := cell2 (HK.out.pure hb)
  have c3 := cell3 (HK.out.pure hb)
  have hlt := (HK.out.pure hb).lt
  clear hb
  go_wp2
  go_ret
  exact ⟨rfl, HB.out.alloc HB.out.size _⟩
end Go.Proofs.Ytaigofpipoimkaa
