/-
  Package scalar: Place.
  Package scalar: what a number's reference leads to.
-/
import Derived.Test.YtjhigmgkmmjlfaaGreatQ20
import Derived.Deep.DeepCutAuto
namespace Go.Proofs.YtjhigmgkmmjlfaaGreat
open Go.RowKit Go.Acc
theorem tgt_rg {l : List UInt8} {p q t v : Int} (h : tgtE l p q t v = 0) : 0 ≤ tgt l p q t v ∧ tgt l p q t v ≤ l.length := by
  have hm : mayE l.length p q t v = 0 := by
    by_cases e : mayE l.length p q t v = 0
    · exact e
    · rw [tgtE_may e] at h; exact absurd h e
  obtain ⟨_, h2⟩ := mayE_ok.1 hm
  obtain ⟨h1, _⟩ := mayE_ok.1 hm
  have h2 := inB_iff.1 h2
  have h1 := formed_iff.1 h1
  have hq := isW_iff.1 h1.2.1
  unfold tgtE at h
  rw [if_pos hm] at h
  unfold tgt
  have h' : tgtE l p q t v = 0 := by unfold tgtE; rw [if_pos hm]; exact h
  rw [if_pos h']
  split at h
  · cases h
  · split at h
    · cases h
    · omega
theorem isb_drew {w : World} {A : Option Addr} {n : Nat} {l : List UInt8} (h : IsB w A n l) : IsB w.drew A n l := h
def isS (t : Int) : Bool := (rdF t).isSome
theorem inline_rd {t : Int} (h : inlineT t = true) : isS t = true := by
  have := legal_isT (inline_legal h)
  revert h
  refine t37_all (p := fun t => inlineT t = true → isS t = true) ?_ this
  decide
theorem rd_cases {t : Int} (h : isS t = true) : t = 0 ∨ t = 1 ∨ t = 2 ∨ t = 6 ∨ t = 7 ∨ t = 26 := by
  unfold isS rdF at h
  split at h <;> try omega
  split at h <;> try omega
  split at h <;> try omega
  split at h <;> try omega
  cases h
/-- The error of a place, its offset and its width. -/
def plcE (l : List UInt8) (p q t v : Int) : Int :=
  if mayE l.length p q t v ≠ 0 then mayE l.length p q t v
  else if isS t = false then 60
  else if inlineT t = true then 0
  else if tgtE l p q t v ≠ 0 then tgtE l p q t v
  else if tgt l p q t v % v ≠ 0 then 212
  else if inB l.length (tgt l p q t v) v = false then 211 else 0
def plcA (l : List UInt8) (p q t v : Int) : Int := if plcE l p q t v = 0 then (if inlineT t = true then p else tgt l p q t v) else 0
def plcW (l : List UInt8) (p q t v : Int) : Int := if plcE l p q t v = 0 then (if inlineT t = true then q else v) else 0
def PlcW (w : World) (l : List UInt8) (p q t v : Int) (e : Ending) (w' : World) : Prop :=
  e = .returned (.tuple #[.int .i64 (plcA l p q t v), .int .i64 (plcW l p q t v), .int .i64 (plcE l p q t v)]) ∧ Below w.heap.size w w'
theorem plcw_no {w w' : World} {l : List UInt8} {p q t v er : Int} (h : plcE l p q t v = er) (hne : er ≠ 0) (hb : Below w.heap.size w w') : PlcW w l p q t v (.returned (.tuple #[.int .i64 0, .int .i64 0, .int .i64 er])) w' := by
  unfold PlcW plcA plcW
  rw [h, if_neg hne, if_neg hne]
  exact ⟨rfl, hb⟩
theorem plcw_yes {w w' : World} {l : List UInt8} {p q t v a x : Int} (h : plcE l p q t v = 0) (ha : (if inlineT t = true then p else tgt l p q t v) = a) (hx : (if inlineT t = true then q else v) = x) (hb : Below w.heap.size w w') : PlcW w l p q t v (.returned (.tuple #[.int .i64 a, .int .i64 x, .int .i64 0])) w' := by
  unfold PlcW plcA plcW
  rw [h, if_pos rfl, if_pos rfl, ha, hx]
  exact ⟨rfl, hb⟩
theorem plc_cases (l : List UInt8) (p q t v : Int) : (mayE l.length p q t v ≠ 0 ∧ plcE l p q t v = mayE l.length p q t v) ∨ (mayE l.length p q t v = 0 ∧
    ((isS t = false ∧ plcE l p q t v = 60) ∨ (isS t = true ∧ inlineT t = true ∧ plcE l p q t v = 0) ∨ (isS t = true ∧ inlineT t = false ∧
      ((tgtE l p q t v ≠ 0 ∧ plcE l p q t v = tgtE l p q t v) ∨ (tgtE l p q t v = 0 ∧ tgt l p q t v % v ≠ 0 ∧ plcE l p q t v = 212) ∨ (tgtE l p q t v = 0 ∧ tgt l p q t v % v = 0 ∧ inB l.length (tgt l p q t v) v = false ∧ plcE l p q t v = 211) ∨
        (tgtE l p q t v = 0 ∧ tgt l p q t v % v = 0 ∧ inB l.length (tgt l p q t v) v = true ∧ plcE l p q t v = 0))))) := by
  unfold plcE
  by_cases h1 : mayE l.length p q t v = 0
  · refine .inr ⟨h1, ?_⟩
    rw [if_neg (by simpa using h1)]
    cases h2 : isS t with
    | false => exact .inl ⟨rfl, if_pos rfl⟩
    | true =>
      rw [if_neg (by decide)]
      cases h3 : inlineT t with
      | true => exact .inr (.inl ⟨rfl, rfl, if_pos rfl⟩)
      | false =>
        refine .inr (.inr ⟨rfl, rfl, ?_⟩)
        rw [if_neg (by decide)]
        by_cases h4 : tgtE l p q t v = 0
        · rw [if_neg (by simpa using h4)]
          by_cases h5 : tgt l p q t v % v = 0
          · rw [if_neg (by simpa using h5)]
            cases h6 : inB l.length (tgt l p q t v) v with
            | false => exact .inr (.inr (.inl ⟨h4, h5, rfl, if_pos rfl⟩))
            | true => exact .inr (.inr (.inr ⟨h4, h5, rfl, if_neg (by decide)⟩))
          · rw [if_pos h5]; exact .inr (.inl ⟨h4, h5, rfl⟩)
        · rw [if_pos h4]; exact .inl ⟨h4, rfl⟩
  · rw [if_pos h1]; exact .inl ⟨h1, rfl⟩
theorem find_isS {t : Int} {r : Option (Nat × Value)} (h : r.map (·.2) = rdF t) : r.isSome = isS t := by
  unfold isS; rw [← h]; cases r <;> rfl
theorem zero_fn : ∀ W : World, (zeroValue 159).run Tryz.prog W = .ok .nilFunc W := by
  intro W
  kernel_rfl
theorem rd_look (t : Int) (W : World) (g : Nat) (hb : W.heap[g]? = some (.map rdEs 6)) :
    (∀ b, (Instr.lookup 161 (.map (some g)) (.int .i64 t) b).run Tryz.prog W = .ok (if b then .tuple #[(rdF t).getD .nilFunc, .bool (isS t)] else (rdF t).getD .nilFunc) W) := by
  intro b
  obtain ⟨r, h1, h2⟩ := rd_find t
  rw [run_look Tryz.underlying161 Tryz.underlying3 .nilFunc zero_fn W rdEs 6 g t b r hb h1, h2, find_isS h2]
set_option maxRecDepth 100000 in
set_option maxHeartbeats 1000000 in
theorem splace_spec (A : Option Addr) (n c : Nat) (p q t v : Int) (l : List UInt8) (w : World) (h : IsB w A n l) (hc : n ≤ c) (hn : n ≤ 9223372036854775807) :
    Calls Tryz.prog 68 #[.slice A n c, .agg #[.int .i64 p, .int .i64 q, .int .i64 t, .int .i64 v]] w (PlcW w l p q t v) := by
  have hlen := h.1
  subst hlen
  have HL := Lib.hid (h.alloc (.cells #[.int .i64 p, .int .i64 q, .int .i64 t, .int .i64 v] 36))
  have HB := Lib.hid ((Below.refl w.heap.size w).alloc (Nat.le_refl _) (.cells #[.int .i64 p, .int .i64 q, .int .i64 t, .int .i64 v] 36))
  have HX := Lib.hid (Blk.new w 36 #[.int .i64 p, .int .i64 q, .int .i64 t, .int .i64 v])
  have hpc := plc_cases l p q t v
  clear h
  go_enter Tryz.func68, Tryz.ntmps68
  go_wp2_with fail
  go_at_call 16
  refine (may_spec A _ c p q t v _ hn).mono ?_
  have x0 := cell0 HX.out
  have x1 := cell1 HX.out
  have x2 := cell2 HX.out
  have x3 := cell3 HX.out
  rintro e w1 ⟨rfl, hb⟩
  clear x0 x1 x2 x3; replace HB := Lib.hid (pure_below HB.out hb); replace HX := Lib.hid (HX.out.pure hb); replace HL := Lib.hid (HL.out.pure hb); clear hb; have x0 := cell0 HX.out; have x1 := cell1 HX.out; have x2 := cell2 HX.out; have x3 := cell3 HX.out
  rcases hpc with ⟨hm, he⟩ | ⟨hm, hpc⟩
  · have HE := Lib.hid he
    have hne : (mayE l.length p q t v != 0) = true := by simpa using hm
    have HM := Lib.hid hm
    clear he hm
    go_wp2
    go_ret3
    exact plcw_no HE.out HM.out HB.out
  · obtain ⟨g1, g2⟩ := mayE_ok.1 hm
    have g2 := inB_iff.1 g2
    have g1 := formed_iff.1 g1
    have v1 := isW_iff.1 g1.2.2
    rw [hm]
    obtain ⟨V, rfl⟩ : ∃ V : Nat, v = V := ⟨v.toNat, by omega⟩
    have hv1 : 1 ≤ V := by omega
    have hv8 : V ≤ 8 := by omega
    have hvz : (V == 0) = false := beq_eq_false_iff_ne.mpr (by omega)
    clear g1 g2 v1
    have HPC := Lib.hid hpc
    have HM := Lib.hid hm
    clear hpc hm
    go_wp2_with fail
    go_upto_region 4 with fail
    go_cut [8, 9] (fun u8 u9 wx => u9 = .bool (isS t) ∧ Below w1.heap.size w1 wx)
    case first =>
      go_region_held3 (fun w' => w'.cell? ⟨w.heap.size, 2, none⟩ = some (.int .i64 t)) (first | assumption | exact x2 | exact cell_pure HB5.out x2)
        (first | (go_at_call 111; refine (readers_spec _).mono ?_; rintro e w5 ⟨g, rfl, hg, hb5⟩; have HB5 := Lib.hid hb5; have hlk := rd_look t w5 g hg; clear hb5 hg))
      go_wp2_with fail
      go_meet
      exact ⟨rfl, pure_below (Below.refl _ _).drew HB5.out⟩
    case rest =>
      obtain ⟨rfl, hb⟩ := hcut
      clear x0 x1 x2 x3; replace HB := Lib.hid (pure_below HB.out hb); replace HX := Lib.hid (HX.out.pure hb); replace HL := Lib.hid (HL.out.pure hb); clear hb; have x0 := cell0 HX.out; have x1 := cell1 HX.out; have x2 := cell2 HX.out; have x3 := cell3 HX.out
      rcases HPC.out with ⟨h1, he⟩ | ⟨h1, h2, he⟩ | ⟨h1, h2, hpc⟩
      · have HE := Lib.hid he
        rw [h1]
        clear he h1 HPC
        go_wp2
        go_ret3
        exact plcw_no HE.out (by decide) HB.out
      · have HE := Lib.hid he
        have HI := Lib.hid h2
        rw [h1]
        clear he h1 HPC h2
        go_wp2_with fail
        go_at_call 19
        refine (inline_spec t _).mono ?_
        rw [HI.out]
        rintro e w2 ⟨rfl, hb⟩
        clear x0 x1 x2 x3; replace HB := Lib.hid (pure_below HB.out hb); replace HX := Lib.hid (HX.out.pure hb); replace HL := Lib.hid (HL.out.pure hb); clear hb; have x0 := cell0 HX.out; have x1 := cell1 HX.out; have x2 := cell2 HX.out; have x3 := cell3 HX.out
        go_wp2_with fail
        go_quiet (fail)
        go_wp2
        go_ret3
        exact plcw_yes HE.out (if_pos HI.out) (if_pos HI.out) (below_drewN HB.out _)
      · have HI := Lib.hid h2
        have HP := Lib.hid hpc
        rw [h1]
        clear h1 HPC h2 hpc
        go_wp2_with fail
        go_at_call 19
        refine (inline_spec t _).mono ?_
        rw [HI.out]
        rintro e w2 ⟨rfl, hb⟩
        clear x0 x1 x2 x3; replace HB := Lib.hid (pure_below HB.out hb); replace HX := Lib.hid (HX.out.pure hb); replace HL := Lib.hid (HL.out.pure hb); clear hb; have x0 := cell0 HX.out; have x1 := cell1 HX.out; have x2 := cell2 HX.out; have x3 := cell3 HX.out
        go_wp2_with fail
        go_at_call 18
        refine (target_spec A _ c p q t V l _ HL.out hc hn).mono ?_
        rintro e w3 ⟨rfl, hb⟩
        clear x0 x1 x2 x3; replace HB := Lib.hid (pure_below HB.out hb); replace HX := Lib.hid (HX.out.pure hb); replace HL := Lib.hid (HL.out.pure hb); clear hb; have x0 := cell0 HX.out; have x1 := cell1 HX.out; have x2 := cell2 HX.out; have x3 := cell3 HX.out
        rcases HP.out with ⟨h1, he⟩ | ⟨h0, h5, he⟩ | ⟨h0, h5, h6, he⟩ | ⟨h0, h5, h6, he⟩
        · have hne : (tgtE l p q t V != 0) = true := by simpa using h1
          have HE := Lib.hid he
          have HN := Lib.hid h1
          clear h1 he HP
          go_wp2
          go_ret3
          exact plcw_no HE.out HN.out HB.out
        · have HE := Lib.hid he
          have htr := tgt_rg h0
          rw [h0]
          obtain ⟨a, ha⟩ : ∃ a : Nat, tgt l p q t V = a := ⟨(tgt l p q t V).toNat, by omega⟩
          rw [ha] at h5 ⊢
          have hm2 : ((a : Int) % (V : Int) != 0) = true := by simpa using h5
          clear h0 h5 he HP ha htr
          go_wp2
          go_ret3
          exact plcw_no HE.out (by decide) HB.out
        · have HE := Lib.hid he
          have htr := tgt_rg h0
          rw [h0]
          obtain ⟨a, ha⟩ : ∃ a : Nat, tgt l p q t V = a := ⟨(tgt l p q t V).toNat, by omega⟩
          rw [ha] at h5 h6 ⊢
          have hm2 : ((a : Int) % (V : Int) != 0) = false := by simpa using h5
          have HIN := Lib.hid h6
          clear h0 h5 h6 he HP ha htr
          go_wp2_with fail
          go_at_call 50
          refine (inside_spec A _ c a V _ hn).mono ?_
          rw [HIN.out]
          rintro e w4 ⟨rfl, rfl⟩
          go_wp2
          go_ret3
          exact plcw_no HE.out (by decide) HB.out
        · have HE := Lib.hid he
          have htr := tgt_rg h0
          rw [h0]
          obtain ⟨a, ha⟩ : ∃ a : Nat, tgt l p q t V = a := ⟨(tgt l p q t V).toNat, by omega⟩
          have HTA := Lib.hid ha
          rw [ha] at h5 h6 ⊢
          have hm2 : ((a : Int) % (V : Int) != 0) = false := by simpa using h5
          have HIN := Lib.hid h6
          clear h0 h5 h6 he HP ha htr
          go_wp2_with fail
          go_at_call 50
          refine (inside_spec A _ c a V _ hn).mono ?_
          rw [HIN.out]
          rintro e w4 ⟨rfl, rfl⟩
          go_wp2_with fail
          go_quiet (fail)
          go_wp2
          go_ret3
          exact plcw_yes HE.out (by rw [if_neg (by rw [HI.out]; decide)]; exact HTA.out) (if_neg (by rw [HI.out]; decide)) (below_drewN HB.out _)
end Go.Proofs.YtjhigmgkmmjlfaaGreat

namespace Go.Proofs.YtjhigmgkmmjlfaaGreat
open Go.RowKit Go.Acc
def rdN (l : List UInt8) (t a x : Int) : Bool := decide ((t = 1 ∨ t = 6) ∧ loadI l a x < 0)
def rdU (l : List UInt8) (t a x : Int) : Nat := if t = 0 then 0 else if t = 26 then min (loadU l a x) 1 else if t = 1 ∨ t = 6 then (loadI l a x).natAbs else loadU l a x
/-- The sign and the amount that a reference leads to. -/
def scN (l : List UInt8) (p q t v : Int) : Bool := decide (plcE l p q t v = 0) && rdN l t (plcA l p q t v) (plcW l p q t v)
def scU (l : List UInt8) (p q t v : Int) : Nat := if plcE l p q t v = 0 then rdU l t (plcA l p q t v) (plcW l p q t v) else 0
theorem cell_far {w : World} {p q : Addr} {u v : Value} (h : q.block ≠ p.block) (hc : w.cell? q = some v) : (w.setCell p u).cell? q = some v :=
  (World.cell?_of_block (w := w) (Below.heap_setCell w p u q.block h)).trans hc
theorem rd_look2 {t : Int} {F : Value} (h : rdF t = some F) (W : World) (g : Nat) (hb : W.heap[g]? = some (.map rdEs 6)) :
    (Instr.lookup 161 (.map (some g)) (.int .i64 t) false).run Tryz.prog W = .ok F W := by
  have := rd_look t W g hb false
  rw [h] at this
  exact this
theorem plc_isS {l : List UInt8} {p q t v : Int} (h : plcE l p q t v = 0) : isS t = true := by
  rcases plc_cases l p q t v with ⟨h1, e⟩ | ⟨_, ⟨_, e⟩ | ⟨h1, _⟩ | ⟨h1, _⟩⟩
  · rw [e] at h; exact absurd h h1
  · rw [e] at h; cases h
  · exact h1
  · exact h1
set_option maxRecDepth 100000 in
set_option maxHeartbeats 1000000 in
theorem read_spec (A : Option Addr) (n c : Nat) (p q t v : Int) (l : List UInt8) (w : World) (h : IsB w A n l) (hc : n ≤ c) (hn : n ≤ 9223372036854775807) :
    Calls Tryz.prog 69 #[.slice A n c, .agg #[.int .i64 p, .int .i64 q, .int .i64 t, .int .i64 v]] w fun e w' => e = .returned (.tuple #[valV (scN l p q t v) (scU l p q t v), .int .i64 (plcE l p q t v)]) ∧ Below w.heap.size w w' := by
  have hlen := h.1
  subst hlen
  have HL := Lib.hid ((h.alloc (.cells #[.int .i64 p, .int .i64 q, .int .i64 t, .int .i64 v] 36)).alloc (.cells #[.bool false, .int .u64 0] 109))
  have HB := Lib.hid (((Below.refl w.heap.size w).alloc (Nat.le_refl _) (.cells #[.int .i64 p, .int .i64 q, .int .i64 t, .int .i64 v] 36)).alloc (by simp) (.cells #[.bool false, .int .u64 0] 109))
  have HX := Lib.hid ((Blk.new w 36 #[.int .i64 p, .int .i64 q, .int .i64 t, .int .i64 v]).alloc (.cells #[.bool false, .int .u64 0] 109))
  have HK := Lib.hid (Blk.new_ (w := w.alloc (.cells #[.int .i64 p, .int .i64 q, .int .i64 t, .int .i64 v] 36)) (g := w.heap.size + 1) (by simp) 109 #[.bool false, .int .u64 0])
  clear h
  go_enter Tryz.func69, Tryz.ntmps69
  go_wp2_with fail
  go_at_call 68
  refine (splace_spec A _ c p q t v l _ HL.out hc hn).mono ?_
  generalize (w.alloc (.cells #[.int .i64 p, .int .i64 q, .int .i64 t, .int .i64 v] 36)).alloc (.cells #[.bool false, .int .u64 0] 109) = wB at HL HB HX HK ⊢
  have x0 := cell0 HX.out; have x1 := cell1 HX.out; have x2 := cell2 HX.out; have x3 := cell3 HX.out; have c0 : _ = some (Value.bool false) := HK.out.cell 0; have c1 : _ = some (Value.int .u64 0) := HK.out.cell 1; have f0 := HK.out.frozen 0; have f1 := HK.out.frozen 1
  unfold PlcW
  rintro e w1 ⟨rfl, hb⟩
  clear x0 x1 x2 x3 c0 c1 f0 f1; replace HB := Lib.hid (pure_below HB.out hb); replace HX := Lib.hid (HX.out.pure hb); replace HK := Lib.hid (HK.out.pure hb); replace HL := Lib.hid (HL.out.pure hb); clear hb; have x0 := cell0 HX.out; have x1 := cell1 HX.out; have x2 := cell2 HX.out; have x3 := cell3 HX.out; have c0 : _ = some (Value.bool false) := HK.out.cell 0; have c1 : _ = some (Value.int .u64 0) := HK.out.cell 1; have f0 := HK.out.frozen 0; have f1 := HK.out.frozen 1
  by_cases he : plcE l p q t v = 0
  · have hs := rd_cases (plc_isS he)
    have HE := Lib.hid he
    obtain ⟨a, ha⟩ : ∃ a, plcA l p q t v = a := ⟨_, rfl⟩
    obtain ⟨x, hx⟩ : ∃ x, plcW l p q t v = x := ⟨_, rfl⟩
    have HA := Lib.hid ha
    have HXW := Lib.hid hx
    rw [he, ha, hx]
    clear he ha hx
    have HPN := Lib.hid (show scN l p q t v = rdN l t a x by unfold scN; rw [HE.out, HA.out, HXW.out]; rfl)
    have HPU := Lib.hid (show scU l p q t v = rdU l t a x by unfold scU; rw [HE.out, HA.out, HXW.out]; rfl)
    have hcs : t = 0 ∨ t = 26 ∨ (t = 1 ∨ t = 6) ∨ (t = 2 ∨ t = 7) := by omega
    clear hs
    rcases hcs with h0 | h0 | h0 | h0
    · have H0 := Lib.hid h0
      clear h0
      have HF := Lib.hid (show rdF t = some (.func (.func 163) #[] #[]) from by (unfold rdF; rw [if_pos H0.out]))
      go_wp2_with fail
      go_region_held3 (fun w' => w'.cell? ⟨w.heap.size, 2, none⟩ = some (.int .i64 t) ) (first | assumption | exact x2 | exact cell_far (Nat.ne_of_lt (Nat.lt_succ_self _)) (cell_far (Nat.ne_of_lt (Nat.lt_succ_self _)) x2))
        (first
          | (go_at_call 111; refine (readers_spec _).mono ?_; rintro e w5 ⟨g, rfl, hg, hb5⟩; have HB5 := Lib.hid hb5; have hlk := rd_look2 HF.out w5 g hg; replace HK := Lib.hid (HK.out.drew.pure hb5); have HL5 := Lib.hid ((isb_drew HL.out).pure hb5); have x2 := cell_pure hb5 (p := ⟨w.heap.size, 2, none⟩) (u := .int .i64 t) x2; have c0 := cell_pure hb5 (p := ⟨w.heap.size + 1, 0, none⟩) (u := .bool false) c0; have c1 := cell_pure hb5 (p := ⟨w.heap.size + 1, 1, none⟩) (u := .int .u64 0) c1; have f0 := HK.out.frozen 0; have f1 := HK.out.frozen 1; clear hb5 hg)
          | (go_at_call 163; refine (rd1_spec A _ c a x _).mono ?_; unfold valV; rintro e w6 ⟨rfl, hb6⟩; have HB6 := Lib.hid hb6; replace HK := Lib.hid (HK.out.pure hb6); have x2 := cell_pure hb6 (p := ⟨w.heap.size, 2, none⟩) (u := .int .i64 t) x2; have c0 := cell_pure hb6 (p := ⟨w.heap.size + 1, 0, none⟩) (u := .bool false) c0; have c1 := cell_pure hb6 (p := ⟨w.heap.size + 1, 1, none⟩) (u := .int .u64 0) c1; have f0 := HK.out.frozen 0; have f1 := HK.out.frozen 1; clear hb6))
      go_wp2
      refine bodyPost_ret (v := .tuple #[.agg #[.bool false, .int .u64 0], .int .i64 0]) (by simp [results, Tryz.results69, go_sem, c0, c1]) rfl ⟨?_, ?_⟩
      · rw [HPN.out, HPU.out, HE.out]
        unfold rdN rdU
        (rw [if_pos H0.out, decide_eq_false (by have := H0.out; omega)]; rfl)
      · exact ((pure_trans (pure_below HB.out.drew HB5.out) HB6.out).setCell (Nat.le_succ _) _).setCell (Nat.le_succ _) _
    · have H0 := Lib.hid h0
      clear h0
      have HF := Lib.hid (show rdF t = some (.func (.func 164) #[] #[]) from by (have e := H0.out; unfold rdF; rw [if_neg (by omega), if_pos e]))
      go_wp2_with fail
      go_region_held3 (fun w' => w'.cell? ⟨w.heap.size, 2, none⟩ = some (.int .i64 t) ) (first | assumption | exact x2 | exact cell_far (Nat.ne_of_lt (Nat.lt_succ_self _)) (cell_far (Nat.ne_of_lt (Nat.lt_succ_self _)) x2))
        (first
          | (go_at_call 111; refine (readers_spec _).mono ?_; rintro e w5 ⟨g, rfl, hg, hb5⟩; have HB5 := Lib.hid hb5; have hlk := rd_look2 HF.out w5 g hg; replace HK := Lib.hid (HK.out.drew.pure hb5); have HL5 := Lib.hid ((isb_drew HL.out).pure hb5); have x2 := cell_pure hb5 (p := ⟨w.heap.size, 2, none⟩) (u := .int .i64 t) x2; have c0 := cell_pure hb5 (p := ⟨w.heap.size + 1, 0, none⟩) (u := .bool false) c0; have c1 := cell_pure hb5 (p := ⟨w.heap.size + 1, 1, none⟩) (u := .int .u64 0) c1; have f0 := HK.out.frozen 0; have f1 := HK.out.frozen 1; clear hb5 hg)
          | (go_at_call 164; refine (rd2_spec A _ c a x l _ HL5.out hc hn).mono ?_; unfold valV; rintro e w6 ⟨rfl, hb6⟩; have HB6 := Lib.hid hb6; replace HK := Lib.hid (HK.out.pure hb6); have x2 := cell_pure hb6 (p := ⟨w.heap.size, 2, none⟩) (u := .int .i64 t) x2; have c0 := cell_pure hb6 (p := ⟨w.heap.size + 1, 0, none⟩) (u := .bool false) c0; have c1 := cell_pure hb6 (p := ⟨w.heap.size + 1, 1, none⟩) (u := .int .u64 0) c1; have f0 := HK.out.frozen 0; have f1 := HK.out.frozen 1; clear hb6))
      go_wp2
      refine bodyPost_ret (v := .tuple #[.agg #[.bool false, .int .u64 (min (loadU l a x) 1 : Nat)], .int .i64 0]) (by simp [results, Tryz.results69, go_sem, c0, c1]) rfl ⟨?_, ?_⟩
      · rw [HPN.out, HPU.out, HE.out]
        unfold rdN rdU
        (have e := H0.out; rw [if_neg (by omega), if_pos e, decide_eq_false (by omega)]; rfl)
      · exact ((pure_trans (pure_below HB.out.drew HB5.out) HB6.out).setCell (Nat.le_succ _) _).setCell (Nat.le_succ _) _
    · have H0 := Lib.hid h0
      clear h0
      have HF := Lib.hid (show rdF t = some (.func (.func 166) #[] #[]) from by (have e := H0.out; unfold rdF; rw [if_neg (by omega), if_neg (by omega), if_pos e]))
      go_wp2_with fail
      go_region_held3 (fun w' => w'.cell? ⟨w.heap.size, 2, none⟩ = some (.int .i64 t) ) (first | assumption | exact x2 | exact cell_far (Nat.ne_of_lt (Nat.lt_succ_self _)) (cell_far (Nat.ne_of_lt (Nat.lt_succ_self _)) x2))
        (first
          | (go_at_call 111; refine (readers_spec _).mono ?_; rintro e w5 ⟨g, rfl, hg, hb5⟩; have HB5 := Lib.hid hb5; have hlk := rd_look2 HF.out w5 g hg; replace HK := Lib.hid (HK.out.drew.pure hb5); have HL5 := Lib.hid ((isb_drew HL.out).pure hb5); have x2 := cell_pure hb5 (p := ⟨w.heap.size, 2, none⟩) (u := .int .i64 t) x2; have c0 := cell_pure hb5 (p := ⟨w.heap.size + 1, 0, none⟩) (u := .bool false) c0; have c1 := cell_pure hb5 (p := ⟨w.heap.size + 1, 1, none⟩) (u := .int .u64 0) c1; have f0 := HK.out.frozen 0; have f1 := HK.out.frozen 1; clear hb5 hg)
          | (go_at_call 166; refine (with_spec A _ c a x l _ HL5.out hc hn).mono ?_; unfold valV; rintro e w6 ⟨rfl, hb6⟩; have HB6 := Lib.hid hb6; replace HK := Lib.hid (HK.out.pure hb6); have x2 := cell_pure hb6 (p := ⟨w.heap.size, 2, none⟩) (u := .int .i64 t) x2; have c0 := cell_pure hb6 (p := ⟨w.heap.size + 1, 0, none⟩) (u := .bool false) c0; have c1 := cell_pure hb6 (p := ⟨w.heap.size + 1, 1, none⟩) (u := .int .u64 0) c1; have f0 := HK.out.frozen 0; have f1 := HK.out.frozen 1; clear hb6))
      go_wp2
      refine bodyPost_ret (v := .tuple #[.agg #[.bool (decide (loadI l a x < 0)), .int .u64 ((loadI l a x).natAbs : Nat)], .int .i64 0]) (by simp [results, Tryz.results69, go_sem, c0, c1]) rfl ⟨?_, ?_⟩
      · rw [HPN.out, HPU.out, HE.out]
        unfold rdN rdU
        (have e := H0.out; rw [if_neg (by omega), if_neg (by omega), if_pos e, show decide ((t = 1 ∨ t = 6) ∧ loadI l a x < 0) = decide (loadI l a x < 0) from decide_eq_decide.mpr ⟨fun h => h.2, fun h => ⟨e, h⟩⟩]; rfl)
      · exact ((pure_trans (pure_below HB.out.drew HB5.out) HB6.out).setCell (Nat.le_succ _) _).setCell (Nat.le_succ _) _
    · have H0 := Lib.hid h0
      clear h0
      have HF := Lib.hid (show rdF t = some (.func (.func 165) #[] #[]) from by (have e := H0.out; unfold rdF; rw [if_neg (by omega), if_neg (by omega), if_neg (by omega), if_pos e]))
      go_wp2_with fail
      go_region_held3 (fun w' => w'.cell? ⟨w.heap.size, 2, none⟩ = some (.int .i64 t) ) (first | assumption | exact x2 | exact cell_far (Nat.ne_of_lt (Nat.lt_succ_self _)) (cell_far (Nat.ne_of_lt (Nat.lt_succ_self _)) x2))
        (first
          | (go_at_call 111; refine (readers_spec _).mono ?_; rintro e w5 ⟨g, rfl, hg, hb5⟩; have HB5 := Lib.hid hb5; have hlk := rd_look2 HF.out w5 g hg; replace HK := Lib.hid (HK.out.drew.pure hb5); have HL5 := Lib.hid ((isb_drew HL.out).pure hb5); have x2 := cell_pure hb5 (p := ⟨w.heap.size, 2, none⟩) (u := .int .i64 t) x2; have c0 := cell_pure hb5 (p := ⟨w.heap.size + 1, 0, none⟩) (u := .bool false) c0; have c1 := cell_pure hb5 (p := ⟨w.heap.size + 1, 1, none⟩) (u := .int .u64 0) c1; have f0 := HK.out.frozen 0; have f1 := HK.out.frozen 1; clear hb5 hg)
          | (go_at_call 165; refine (without_spec A _ c a x l _ HL5.out hc hn).mono ?_; unfold valV; rintro e w6 ⟨rfl, hb6⟩; have HB6 := Lib.hid hb6; replace HK := Lib.hid (HK.out.pure hb6); have x2 := cell_pure hb6 (p := ⟨w.heap.size, 2, none⟩) (u := .int .i64 t) x2; have c0 := cell_pure hb6 (p := ⟨w.heap.size + 1, 0, none⟩) (u := .bool false) c0; have c1 := cell_pure hb6 (p := ⟨w.heap.size + 1, 1, none⟩) (u := .int .u64 0) c1; have f0 := HK.out.frozen 0; have f1 := HK.out.frozen 1; clear hb6))
      go_wp2
      refine bodyPost_ret (v := .tuple #[.agg #[.bool false, .int .u64 (loadU l a x : Nat)], .int .i64 0]) (by simp [results, Tryz.results69, go_sem, c0, c1]) rfl ⟨?_, ?_⟩
      · rw [HPN.out, HPU.out, HE.out]
        unfold rdN rdU
        (have e := H0.out; rw [if_neg (by omega), if_neg (by omega), if_neg (by omega), decide_eq_false (by omega)]; rfl)
      · exact ((pure_trans (pure_below HB.out.drew HB5.out) HB6.out).setCell (Nat.le_succ _) _).setCell (Nat.le_succ _) _
  · have hne : (plcE l p q t v != 0) = true := by simpa using he
    have HPN := Lib.hid (show scN l p q t v = false by unfold scN; rw [decide_eq_false he]; rfl)
    have HPU := Lib.hid (show scU l p q t v = 0 from if_neg he)
    have hv := HPN.out
    clear he
    go_wp2
    refine bodyPost_ret (v := .tuple #[.agg #[.bool false, .int .u64 0], .int .i64 (plcE l p q t v)]) (by simp [results, Tryz.results69, go_sem, c0, c1]) rfl ⟨?_, ?_⟩
    · rw [HPN.out, HPU.out]; rfl
    · exact (HB.out.setCell (Nat.le_succ _) _).setCell (Nat.le_succ _) _
end Go.Proofs.YtjhigmgkmmjlfaaGreat
