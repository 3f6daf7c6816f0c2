/-
  Package text: Place, Key, Str, Blob, Text.
-/
import Derived.Test.YtaigofpipoimkaaTextE
namespace Go.Proofs.Ytaigofpipoimkaa
open Go.RowKit Go.Acc
theorem istc {w : World} {g n : Nat} (ts : List Nat) (vs : Array Value) (hB : Blk w g 3 vs) (hn : ts.length = n) (h : vs.toList = ts.flatMap tc) : Is tc w (some ⟨g, 0, none⟩) n ts := by
  refine ⟨hn, fun j u hu => ⟨_, _, rfl, ?_⟩⟩
  rw [Nat.zero_add, hB.cell j]
  rw [← h] at hu
  simpa using hu
set_option maxHeartbeats 1000000 in
theorem place_spec (A : Option Addr) (n c : Nat) (p q t v : Int) (l : List UInt8) (w : World) (h : IsB w A n l) (hc : n ≤ c) (hn : n ≤ 1099511627776) :
    Calls Try.prog 81 #[.slice A n c, .agg #[.int .i64 p, .int .i64 q, .int .i64 t, .int .i64 v]] w fun e w' => e = .returned (.tuple #[.int .i64 (fndA l p q t v [4, 5, 25]), .int .i64 ((fndL l p q t v [4, 5, 25]).length : Nat), .int .i64 (fndE l p q t v [4, 5, 25])]) ∧ Below w.heap.size w w' := by
  have HL := Lib.hid ((h.alloc (.cells #[.int .i64 p, .int .i64 q, .int .i64 t, .int .i64 v] 23)).alloc (.cells #[.int .i64 4, .int .i64 5, .int .i64 25] 3))
  have HT := Lib.hid (istc (w := (w.alloc (.cells #[.int .i64 p, .int .i64 q, .int .i64 t, .int .i64 v] 23)).alloc (.cells #[.int .i64 4, .int .i64 5, .int .i64 25] 3)) (g := w.heap.size + 1) (n := 3) [4, 5, 25] _ (Blk.new_ (by simp) _ _) rfl rfl)
  have HB := Lib.hid (((Below.refl w.heap.size w).alloc (Nat.le_refl _) (.cells #[.int .i64 p, .int .i64 q, .int .i64 t, .int .i64 v] 23)).alloc (by simp) (.cells #[.int .i64 4, .int .i64 5, .int .i64 25] 3))
  have HL0 := Lib.hid h
  clear h
  go_enter Try.func81, Try.ntmps81
  go_wp2_with fail
  go_at_call 112
  refine (find_spec A n c p q t v _ 3 3 [4, 5, 25] l _ HL.out HT.out hc hn (by decide) (by decide)).mono ?_
  rintro e w1 ⟨AX, nX, cX, rfl, hX, hcX, hb⟩
  have HB := Lib.hid (pure_below HB.out hb)
  have HN := Lib.hid (hX w HL0.out).1
  clear hX hb
  go_wp2_with fail
  go_quiet (fail)
  go_wp2
  go_ret3
  refine ⟨?_, ?_⟩
  · rw [HN.out]; rfl
  · exact below_drewN (HB.out.alloc HB.out.size _) _
set_option maxHeartbeats 1000000 in
theorem text_spec (A : Option Addr) (n c : Nat) (p q t v : Int) (T : Option Addr) (m d : Nat) (ts : List Nat) (l : List UInt8) (w : World) (h : IsB w A n l) (hT : Is tc w T m ts) (hc : n ≤ c) (hn : n ≤ 1099511627776) (hm : 0 < m ∧ m ≤ 100) (hts : ∀ x ∈ ts, x < 256) :
    Calls Try.prog 79 #[.slice A n c, .agg #[.int .i64 p, .int .i64 q, .int .i64 t, .int .i64 v], .slice T m d] w fun e w' => e = .returned (.tuple #[.string ⟨(fndL l p q t v ts).toArray⟩, .int .i64 (fndE l p q t v ts)]) ∧ Below w.heap.size w w' := by
  have HL := Lib.hid (h.alloc (.cells #[.int .i64 p, .int .i64 q, .int .i64 t, .int .i64 v] 23))
  have HT := Lib.hid (hT.alloc (.cells #[.int .i64 p, .int .i64 q, .int .i64 t, .int .i64 v] 23))
  have HB := Lib.hid ((Below.refl w.heap.size w).alloc (Nat.le_refl _) (.cells #[.int .i64 p, .int .i64 q, .int .i64 t, .int .i64 v] 23))
  have HTS := Lib.hid hts
  have HL0 := Lib.hid h
  clear h hT hts
  go_enter Try.func79, Try.ntmps79
  go_wp2_with fail
  go_at_call 112
  refine (find_spec A n c p q t v T m d ts l _ HL.out HT.out hc hn hm HTS.out).mono ?_
  rintro e w1 ⟨AX, nX, cX, rfl, hX, hcX, hb⟩
  have HB := Lib.hid (pure_below HB.out hb)
  have hst := run_str (c := cX) ((hX w HL0.out).pure (HB.out.alloc HB.out.size (.cells #[.int .i64 (fndA l p q t v ts), .slice AX nX cX] 130)))
  clear hX hb
  go_wp2
  go_ret2
  exact ⟨rfl, HB.out.alloc HB.out.size _⟩
set_option maxHeartbeats 1000000 in
theorem keyt_spec (A : Option Addr) (n c : Nat) (p q t v : Int) (l : List UInt8) (w : World) (h : IsB w A n l) (hc : n ≤ c) (hn : n ≤ 1099511627776) :
    Calls Try.prog 28 #[.slice A n c, .agg #[.int .i64 p, .int .i64 q, .int .i64 t, .int .i64 v]] w fun e w' => e = .returned (.tuple #[.string ⟨(fndL l p q t v [4]).toArray⟩, .int .i64 (fndE l p q t v [4])]) ∧ Below w.heap.size w w' := by
  have HL := Lib.hid ((h.alloc (.cells #[.int .i64 p, .int .i64 q, .int .i64 t, .int .i64 v] 23)).alloc (.cells #[.int .i64 4] 3))
  have HT := Lib.hid (istc (w := (w.alloc (.cells #[.int .i64 p, .int .i64 q, .int .i64 t, .int .i64 v] 23)).alloc (.cells #[.int .i64 4] 3)) (g := w.heap.size + 1) (n := 1) [4] _ (Blk.new_ (by simp) _ _) rfl rfl)
  have HB := Lib.hid (((Below.refl w.heap.size w).alloc (Nat.le_refl _) (.cells #[.int .i64 p, .int .i64 q, .int .i64 t, .int .i64 v] 23)).alloc (by simp) (.cells #[.int .i64 4] 3))
  clear h
  go_enter Try.func28, Try.ntmps28
  go_wp2_with fail
  go_at_call 79
  refine (text_spec A n c p q t v _ 1 1 [4] l _ HL.out HT.out hc hn (by decide) (by decide)).mono ?_
  rintro e w1 ⟨rfl, hb⟩
  have HB := Lib.hid (pure_below HB.out hb)
  clear hb
  go_wp2
  go_ret2
  exact ⟨rfl, HB.out⟩
set_option maxHeartbeats 1000000 in
theorem strt_spec (A : Option Addr) (n c : Nat) (p q t v : Int) (l : List UInt8) (w : World) (h : IsB w A n l) (hc : n ≤ c) (hn : n ≤ 1099511627776) :
    Calls Try.prog 82 #[.slice A n c, .agg #[.int .i64 p, .int .i64 q, .int .i64 t, .int .i64 v]] w fun e w' => e = .returned (.tuple #[.string ⟨(fndL l p q t v [5]).toArray⟩, .int .i64 (fndE l p q t v [5])]) ∧ Below w.heap.size w w' := by
  have HL := Lib.hid ((h.alloc (.cells #[.int .i64 p, .int .i64 q, .int .i64 t, .int .i64 v] 23)).alloc (.cells #[.int .i64 5] 3))
  have HT := Lib.hid (istc (w := (w.alloc (.cells #[.int .i64 p, .int .i64 q, .int .i64 t, .int .i64 v] 23)).alloc (.cells #[.int .i64 5] 3)) (g := w.heap.size + 1) (n := 1) [5] _ (Blk.new_ (by simp) _ _) rfl rfl)
  have HB := Lib.hid (((Below.refl w.heap.size w).alloc (Nat.le_refl _) (.cells #[.int .i64 p, .int .i64 q, .int .i64 t, .int .i64 v] 23)).alloc (by simp) (.cells #[.int .i64 5] 3))
  clear h
  go_enter Try.func82, Try.ntmps82
  go_wp2_with fail
  go_at_call 79
  refine (text_spec A n c p q t v _ 1 1 [5] l _ HL.out HT.out hc hn (by decide) (by decide)).mono ?_
  rintro e w1 ⟨rfl, hb⟩
  have HB := Lib.hid (pure_below HB.out hb)
  clear hb
  go_wp2
  go_ret2
  exact ⟨rfl, HB.out⟩
set_option maxHeartbeats 1000000 in
theorem blobt_spec (A : Option Addr) (n c : Nat) (p q t v : Int) (l : List UInt8) (w : World) (h : IsB w A n l) (hc : n ≤ c) (hn : n ≤ 1099511627776) :
    Calls Try.prog 84 #[.slice A n c, .agg #[.int .i64 p, .int .i64 q, .int .i64 t, .int .i64 v]] w fun e w' => e = .returned (.tuple #[.string ⟨(fndL l p q t v [25]).toArray⟩, .int .i64 (fndE l p q t v [25])]) ∧ Below w.heap.size w w' := by
  have HL := Lib.hid ((h.alloc (.cells #[.int .i64 p, .int .i64 q, .int .i64 t, .int .i64 v] 23)).alloc (.cells #[.int .i64 25] 3))
  have HT := Lib.hid (istc (w := (w.alloc (.cells #[.int .i64 p, .int .i64 q, .int .i64 t, .int .i64 v] 23)).alloc (.cells #[.int .i64 25] 3)) (g := w.heap.size + 1) (n := 1) [25] _ (Blk.new_ (by simp) _ _) rfl rfl)
  have HB := Lib.hid (((Below.refl w.heap.size w).alloc (Nat.le_refl _) (.cells #[.int .i64 p, .int .i64 q, .int .i64 t, .int .i64 v] 23)).alloc (by simp) (.cells #[.int .i64 25] 3))
  clear h
  go_enter Try.func84, Try.ntmps84
  go_wp2_with fail
  go_at_call 79
  refine (text_spec A n c p q t v _ 1 1 [25] l _ HL.out HT.out hc hn (by decide) (by decide)).mono ?_
  rintro e w1 ⟨rfl, hb⟩
  have HB := Lib.hid (pure_below HB.out hb)
  clear hb
  go_wp2
  go_ret2
  exact ⟨rfl, HB.out⟩
set_option maxHeartbeats 1000000 in
theorem textt_spec (A : Option Addr) (n c : Nat) (p q t v : Int) (l : List UInt8) (w : World) (h : IsB w A n l) (hc : n ≤ c) (hn : n ≤ 1099511627776) :
    Calls Try.prog 83 #[.slice A n c, .agg #[.int .i64 p, .int .i64 q, .int .i64 t, .int .i64 v]] w fun e w' => e = .returned (.tuple #[.string ⟨(fndL l p q t v [4, 5]).toArray⟩, .int .i64 (fndE l p q t v [4, 5])]) ∧ Below w.heap.size w w' := by
  have HL := Lib.hid ((h.alloc (.cells #[.int .i64 p, .int .i64 q, .int .i64 t, .int .i64 v] 23)).alloc (.cells #[.int .i64 4, .int .i64 5] 3))
  have HT := Lib.hid (istc (w := (w.alloc (.cells #[.int .i64 p, .int .i64 q, .int .i64 t, .int .i64 v] 23)).alloc (.cells #[.int .i64 4, .int .i64 5] 3)) (g := w.heap.size + 1) (n := 2) [4, 5] _ (Blk.new_ (by simp) _ _) rfl rfl)
  have HB := Lib.hid (((Below.refl w.heap.size w).alloc (Nat.le_refl _) (.cells #[.int .i64 p, .int .i64 q, .int .i64 t, .int .i64 v] 23)).alloc (by simp) (.cells #[.int .i64 4, .int .i64 5] 3))
  clear h
  go_enter Try.func83, Try.ntmps83
  go_wp2_with fail
  go_at_call 79
  refine (text_spec A n c p q t v _ 2 2 [4, 5] l _ HL.out HT.out hc hn (by decide) (by decide)).mono ?_
  rintro e w1 ⟨rfl, hb⟩
  have HB := Lib.hid (pure_below HB.out hb)
  clear hb
  go_wp2
  go_ret2
  exact ⟨rfl, HB.out⟩
end Go.Proofs.Ytaigofpipoimkaa
