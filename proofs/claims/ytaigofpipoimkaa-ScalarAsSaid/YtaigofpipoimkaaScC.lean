/-
  Package scalar: Place.
-/
import Derived.Test.YtaigofpipoimkaaScB
import Derived.Deep.DeepCutAuto
namespace Go.Proofs.Ytaigofpipoimkaa
open Go.RowKit Go.Acc
theorem tgt_rg {l : List UInt8} {p q t v : Int} (h : tgtE l p q t v = 0) : 0 ≤ tgt l p q t v ∧ tgt l p q t v ≤ l.length := by
  have hm : mayE l.length p q t v = 0 := by
    by_cases e : mayE l.length p q t v = 0
    · exact e
    · rw [tgtE_may e] at h; exact absurd h e
  obtain ⟨_, h2⟩ := mayE_ok.1 hm
  obtain ⟨h1, _⟩ := mayE_ok.1 hm
  have h2 := inB_iff.1 h2
  have h1 := formed_iff.1 h1
  have hq := isW_iff.1 h1.2.1
  unfold tgtE at h
  rw [if_pos hm] at h
  unfold tgt
  have h' : tgtE l p q t v = 0 := by unfold tgtE; rw [if_pos hm]; exact h
  rw [if_pos h']
  split at h
  · cases h
  · split at h
    · cases h
    · omega
theorem isb_drew {w : World} {A : Option Addr} {n : Nat} {l : List UInt8} (h : IsB w A n l) : IsB w.drew A n l := h
def isS (t : Int) : Bool := (rdF t).isSome
theorem inline_rd {t : Int} (h : inlineT t = true) : isS t = true := by
  have := legal_isT (inline_legal h)
  revert h
  refine t37_all (p := fun t => inlineT t = true → isS t = true) ?_ this
  decide
theorem rd_cases {t : Int} (h : isS t = true) : t = 0 ∨ t = 1 ∨ t = 2 ∨ t = 6 ∨ t = 7 ∨ t = 26 := by
  unfold isS rdF at h
  split at h <;> try omega
  split at h <;> try omega
  split at h <;> try omega
  split at h <;> try omega
  cases h
/-- The error of a place, its offset and its width. -/
def plcE (l : List UInt8) (p q t v : Int) : Int :=
  if mayE l.length p q t v ≠ 0 then mayE l.length p q t v
  else if isS t = false then 60
  else if inlineT t = true then 0
  else if tgtE l p q t v ≠ 0 then tgtE l p q t v
  else if tgt l p q t v % v ≠ 0 then 212
  else if inB l.length (tgt l p q t v) v = false then 211 else 0
def plcA (l : List UInt8) (p q t v : Int) : Int := if plcE l p q t v = 0 then (if inlineT t = true then p else tgt l p q t v) else 0
def plcW (l : List UInt8) (p q t v : Int) : Int := if plcE l p q t v = 0 then (if inlineT t = true then q else v) else 0
def PlcW (w : World) (l : List UInt8) (p q t v : Int) (e : Ending) (w' : World) : Prop :=
  e = .returned (.tuple #[.int .i64 (plcA l p q t v), .int .i64 (plcW l p q t v), .int .i64 (plcE l p q t v)]) ∧ Below w.heap.size w w'
theorem plcw_no {w w' : World} {l : List UInt8} {p q t v er : Int} (h : plcE l p q t v = er) (hne : er ≠ 0) (hb : Below w.heap.size w w') : PlcW w l p q t v (.returned (.tuple #[.int .i64 0, .int .i64 0, .int .i64 er])) w' := by
  unfold PlcW plcA plcW
  rw [h, if_neg hne, if_neg hne]
  exact ⟨rfl, hb⟩
theorem plcw_yes {w w' : World} {l : List UInt8} {p q t v a x : Int} (h : plcE l p q t v = 0) (ha : (if inlineT t = true then p else tgt l p q t v) = a) (hx : (if inlineT t = true then q else v) = x) (hb : Below w.heap.size w w') : PlcW w l p q t v (.returned (.tuple #[.int .i64 a, .int .i64 x, .int .i64 0])) w' := by
  unfold PlcW plcA plcW
  rw [h, if_pos rfl, if_pos rfl, ha, hx]
  exact ⟨rfl, hb⟩
theorem plc_cases (l : List UInt8) (p q t v : Int) : (mayE l.length p q t v ≠ 0 ∧ plcE l p q t v = mayE l.length p q t v) ∨ (mayE l.length p q t v = 0 ∧
    ((isS t = false ∧ plcE l p q t v = 60) ∨ (isS t = true ∧ inlineT t = true ∧ plcE l p q t v = 0) ∨ (isS t = true ∧ inlineT t = false ∧
      ((tgtE l p q t v ≠ 0 ∧ plcE l p q t v = tgtE l p q t v) ∨ (tgtE l p q t v = 0 ∧ tgt l p q t v % v ≠ 0 ∧ plcE l p q t v = 212) ∨ (tgtE l p q t v = 0 ∧ tgt l p q t v % v = 0 ∧ inB l.length (tgt l p q t v) v = false ∧ plcE l p q t v = 211) ∨
        (tgtE l p q t v = 0 ∧ tgt l p q t v % v = 0 ∧ inB l.length (tgt l p q t v) v = true ∧ plcE l p q t v = 0))))) := by
  unfold plcE
  by_cases h1 : mayE l.length p q t v = 0
  · refine .inr ⟨h1, ?_⟩
    rw [if_neg (by simpa using h1)]
    cases h2 : isS t with
    | false => exact .inl ⟨rfl, if_pos rfl⟩
    | true =>
      rw [if_neg (by decide)]
      cases h3 : inlineT t with
      | true => exact .inr (.inl ⟨rfl, rfl, if_pos rfl⟩)
      | false =>
        refine .inr (.inr ⟨rfl, rfl, ?_⟩)
        rw [if_neg (by decide)]
        by_cases h4 : tgtE l p q t v = 0
        · rw [if_neg (by simpa using h4)]
          by_cases h5 : tgt l p q t v % v = 0
          · rw [if_neg (by simpa using h5)]
            cases h6 : inB l.length (tgt l p q t v) v with
            | false => exact .inr (.inr (.inl ⟨h4, h5, rfl, if_pos rfl⟩))
            | true => exact .inr (.inr (.inr ⟨h4, h5, rfl, if_neg (by decide)⟩))
          · rw [if_pos h5]; exact .inr (.inl ⟨h4, h5, rfl⟩)
        · rw [if_pos h4]; exact .inl ⟨h4, rfl⟩
  · rw [if_pos h1]; exact .inl ⟨h1, rfl⟩
theorem find_isS {t : Int} {r : Option (Nat × Value)} (h : r.map (·.2) = rdF t) : r.isSome = isS t := by
  unfold isS; rw [← h]; cases r <;> rfl
theorem zero_fn : ∀ W : World, (zeroValue 125).run Try.prog W = .ok .nilFunc W := by
  intro W
  kernel_rfl
theorem rd_look (t : Int) (W : World) (g : Nat) (hb : W.heap[g]? = some (.map rdEs 6)) :
    (∀ b, (Instr.lookup 126 (.map (some g)) (.int .i64 t) b).run Try.prog W = .ok (if b then .tuple #[(rdF t).getD .nilFunc, .bool (isS t)] else (rdF t).getD .nilFunc) W) := by
  intro b
  obtain ⟨r, h1, h2⟩ := rd_find t
  rw [run_look Try.underlying126 Try.underlying3 .nilFunc zero_fn W rdEs 6 g t b r hb h1, h2, find_isS h2]
set_option maxRecDepth 100000 in
set_option maxHeartbeats 1000000 in
theorem splace_spec (A : Option Addr) (n c : Nat) (p q t v : Int) (l : List UInt8) (w : World) (h : IsB w A n l) (hc : n ≤ c) (hn : n ≤ 9223372036854775807) :
    Calls Try.prog 78 #[.slice A n c, .agg #[.int .i64 p, .int .i64 q, .int .i64 t, .int .i64 v]] w (PlcW w l p q t v) := by
  have hlen := h.1
  subst hlen
  have HL := Lib.hid (h.alloc (.cells #[.int .i64 p, .int .i64 q, .int .i64 t, .int .i64 v] 23))
  have HB := Lib.hid ((Below.refl w.heap.size w).alloc (Nat.le_refl _) (.cells #[.int .i64 p, .int .i64 q, .int .i64 t, .int .i64 v] 23))
  have HX := Lib.hid (Blk.new w 23 #[.int .i64 p, .int .i64 q, .int .i64 t, .int .i64 v])
  have hpc := plc_cases l p q t v
  clear h
  go_enter Try.func78, Try.ntmps78
  go_wp2_with fail
  go_at_call 43
  refine (may_spec A _ c p q t v _ hn).mono ?_
  have x0 := cell0 HX.out
  have x1 := cell1 HX.out
  have x2 := cell2 HX.out
  have x3 := cell3 HX.out
  rintro e w1 ⟨rfl, hb⟩
  clear x0 x1 x2 x3; replace HB := Lib.hid (pure_below HB.out hb); replace HX := Lib.hid (HX.out.pure hb); replace HL := Lib.hid (HL.out.pure hb); clear hb; have x0 := cell0 HX.out; have x1 := cell1 HX.out; have x2 := cell2 HX.out; have x3 := cell3 HX.out
  rcases hpc with ⟨hm, he⟩ | ⟨hm, hpc⟩
  · have HE := Lib.hid he
    have hne : (mayE l.length p q t v != 0) = true := by simpa using hm
    have HM := Lib.hid hm
    clear he hm
    go_wp2
    go_ret3
    exact plcw_no HE.out HM.out HB.out
  · obtain ⟨g1, g2⟩ := mayE_ok.1 hm
    have g2 := inB_iff.1 g2
    have g1 := formed_iff.1 g1
    have v1 := isW_iff.1 g1.2.2
    rw [hm]
    obtain ⟨V, rfl⟩ : ∃ V : Nat, v = V := ⟨v.toNat, by omega⟩
    have hv1 : 1 ≤ V := by omega
    have hv8 : V ≤ 8 := by omega
    have hvz : (V == 0) = false := beq_eq_false_iff_ne.mpr (by omega)
    clear g1 g2 v1
    have HPC := Lib.hid hpc
    have HM := Lib.hid hm
    clear hpc hm
    go_wp2_with fail
    go_upto_region 4 with fail
    go_cut [8, 9] (fun u8 u9 wx => u9 = .bool (isS t) ∧ Below w1.heap.size w1 wx)
    case first =>
      go_region_held3 (fun w' => w'.cell? ⟨w.heap.size, 2, none⟩ = some (.int .i64 t)) (first | assumption | exact x2 | exact cell_pure HB5.out x2)
        (first | (go_at_call 111; refine (readers_spec _).mono ?_; rintro e w5 ⟨g, rfl, hg, hb5⟩; have HB5 := Lib.hid hb5; have hlk := rd_look t w5 g hg; clear hb5 hg))
      go_wp2_with fail
      go_meet
      exact ⟨rfl, pure_below (Below.refl _ _).drew HB5.out⟩
    case rest =>
      obtain ⟨rfl, hb⟩ := hcut
      clear x0 x1 x2 x3; replace HB := Lib.hid (pure_below HB.out hb); replace HX := Lib.hid (HX.out.pure hb); replace HL := Lib.hid (HL.out.pure hb); clear hb; have x0 := cell0 HX.out; have x1 := cell1 HX.out; have x2 := cell2 HX.out; have x3 := cell3 HX.out
      rcases HPC.out with ⟨h1, he⟩ | ⟨h1, h2, he⟩ | ⟨h1, h2, hpc⟩
      · have HE := Lib.hid he
        rw [h1]
        clear he h1 HPC
        go_wp2
        go_ret3
        exact plcw_no HE.out (by decide) HB.out
      · have HE := Lib.hid he
        have HI := Lib.hid h2
        rw [h1]
        clear he h1 HPC h2
        go_wp2_with fail
        go_at_call 60
        refine (inline_spec t _).mono ?_
        rw [HI.out]
        rintro e w2 ⟨rfl, hb⟩
        clear x0 x1 x2 x3; replace HB := Lib.hid (pure_below HB.out hb); replace HX := Lib.hid (HX.out.pure hb); replace HL := Lib.hid (HL.out.pure hb); clear hb; have x0 := cell0 HX.out; have x1 := cell1 HX.out; have x2 := cell2 HX.out; have x3 := cell3 HX.out
        go_wp2_with fail
        go_quiet (fail)
        go_wp2
        go_ret3
        exact plcw_yes HE.out (if_pos HI.out) (if_pos HI.out) (below_drewN HB.out _)
      · have HI := Lib.hid h2
        have HP := Lib.hid hpc
        rw [h1]
        clear h1 HPC h2 hpc
        go_wp2_with fail
        go_at_call 60
        refine (inline_spec t _).mono ?_
        rw [HI.out]
        rintro e w2 ⟨rfl, hb⟩
        clear x0 x1 x2 x3; replace HB := Lib.hid (pure_below HB.out hb); replace HX := Lib.hid (HX.out.pure hb); replace HL := Lib.hid (HL.out.pure hb); clear hb; have x0 := cell0 HX.out; have x1 := cell1 HX.out; have x2 := cell2 HX.out; have x3 := cell3 HX.out
        go_wp2_with fail
        go_at_call 17
        refine (target_spec A _ c p q t V l _ HL.out hc hn).mono ?_
        rintro e w3 ⟨rfl, hb⟩
        clear x0 x1 x2 x3; replace HB := Lib.hid (pure_below HB.out hb); replace HX := Lib.hid (HX.out.pure hb); replace HL := Lib.hid (HL.out.pure hb); clear hb; have x0 := cell0 HX.out; have x1 := cell1 HX.out; have x2 := cell2 HX.out; have x3 := cell3 HX.out
        rcases HP.out with ⟨h1, he⟩ | ⟨h0, h5, he⟩ | ⟨h0, h5, h6, he⟩ | ⟨h0, h5, h6, he⟩
        · have hne : (tgtE l p q t V != 0) = true := by simpa using h1
          have HE := Lib.hid he
          have HN := Lib.hid h1
          clear h1 he HP
          go_wp2
          go_ret3
          exact plcw_no HE.out HN.out HB.out
        · have HE := Lib.hid he
          have htr := tgt_rg h0
          rw [h0]
          obtain ⟨a, ha⟩ : ∃ a : Nat, tgt l p q t V = a := ⟨(tgt l p q t V).toNat, by omega⟩
          rw [ha] at h5 ⊢
          have hm2 : ((a : Int) % (V : Int) != 0) = true := by simpa using h5
          clear h0 h5 he HP ha htr
          go_wp2
          go_ret3
          exact plcw_no HE.out (by decide) HB.out
        · have HE := Lib.hid he
          have htr := tgt_rg h0
          rw [h0]
          obtain ⟨a, ha⟩ : ∃ a : Nat, tgt l p q t V = a := ⟨(tgt l p q t V).toNat, by omega⟩
          rw [ha] at h5 h6 ⊢
          have hm2 : ((a : Int) % (V : Int) != 0) = false := by simpa using h5
          have HIN := Lib.hid h6
          clear h0 h5 h6 he HP ha htr
          go_wp2_with fail
          go_at_call 66
          refine (inside_spec A _ c a V _ hn).mono ?_
          rw [HIN.out]
          rintro e w4 ⟨rfl, rfl⟩
          go_wp2
          go_ret3
          exact plcw_no HE.out (by decide) HB.out
        · have HE := Lib.hid he
          have htr := tgt_rg h0
          rw [h0]
          obtain ⟨a, ha⟩ : ∃ a : Nat, tgt l p q t V = a := ⟨(tgt l p q t V).toNat, by omega⟩
          have HTA := Lib.hid ha
          rw [ha] at h5 h6 ⊢
          have hm2 : ((a : Int) % (V : Int) != 0) = false := by simpa using h5
          have HIN := Lib.hid h6
          clear h0 h5 h6 he HP ha htr
          go_wp2_with fail
          go_at_call 66
          refine (inside_spec A _ c a V _ hn).mono ?_
          rw [HIN.out]
          rintro e w4 ⟨rfl, rfl⟩
          go_wp2_with fail
          go_quiet (fail)
          go_wp2
          go_ret3
          exact plcw_yes HE.out (by rw [if_neg (by rw [HI.out]; decide)]; exact HTA.out) (if_neg (by rw [HI.out]; decide)) (below_drewN HB.out _)
end Go.Proofs.Ytaigofpipoimkaa
