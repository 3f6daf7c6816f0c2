/-
  Package scalar: Place.
  Package scalar: what a number's reference leads to.
  Package le: the plain laws of bytes and numbers (no program in sight).
  Package scalar: Int, Uint, Bool.
  Package le: reading the arguments of the properties.
  Package scalar: the property ScalarOne.
  The document of a number: what Finish needs, and what the readers of scalar find. No program in sight.
  ListNumbers, plain: integers in a vector of a built document. No program in sight.
-/
import Derived.Test.YtfoifdoaleaekaaGreatQf20
import Derived.Deep.DeepCutAuto
import Derived.Lib.SmallJoins
namespace Go.Proofs.YtfoifdoaleaekaaGreat
open Go.RowKit Go.Acc
theorem tgt_rg {l : List UInt8} {p q t v : Int} (h : tgtE l p q t v = 0) : 0 ≤ tgt l p q t v ∧ tgt l p q t v ≤ l.length := by
  have hm : mayE l.length p q t v = 0 := by
    by_cases e : mayE l.length p q t v = 0
    · exact e
    · rw [tgtE_may e] at h; exact absurd h e
  obtain ⟨_, h2⟩ := mayE_ok.1 hm
  obtain ⟨h1, _⟩ := mayE_ok.1 hm
  have h2 := inB_iff.1 h2
  have h1 := formed_iff.1 h1
  have hq := isW_iff.1 h1.2.1
  unfold tgtE at h
  rw [if_pos hm] at h
  unfold tgt
  have h' : tgtE l p q t v = 0 := by unfold tgtE; rw [if_pos hm]; exact h
  rw [if_pos h']
  split at h
  · cases h
  · split at h
    · cases h
    · omega
theorem isb_drew {w : World} {A : Option Addr} {n : Nat} {l : List UInt8} (h : IsB w A n l) : IsB w.drew A n l := h
def isS (t : Int) : Bool := (rdF t).isSome
theorem rd_cases {t : Int} (h : isS t = true) : t = 0 ∨ t = 1 ∨ t = 2 ∨ t = 6 ∨ t = 7 ∨ t = 26 := by
  unfold isS rdF at h
  split at h <;> try omega
  split at h <;> try omega
  split at h <;> try omega
  split at h <;> try omega
  cases h
def plcE (l : List UInt8) (p q t v : Int) : Int :=
  if mayE l.length p q t v ≠ 0 then mayE l.length p q t v
  else if isS t = false then 60
  else if inlineT t = true then 0
  else if tgtE l p q t v ≠ 0 then tgtE l p q t v
  else if tgt l p q t v % v ≠ 0 then 212
  else if inB l.length (tgt l p q t v) v = false then 211 else 0
def plcA (l : List UInt8) (p q t v : Int) : Int := if plcE l p q t v = 0 then (if inlineT t = true then p else tgt l p q t v) else 0
def plcW (l : List UInt8) (p q t v : Int) : Int := if plcE l p q t v = 0 then (if inlineT t = true then q else v) else 0
def PlcW (w : World) (l : List UInt8) (p q t v : Int) (e : Ending) (w' : World) : Prop :=
  e = .returned (.tuple #[.int .i64 (plcA l p q t v), .int .i64 (plcW l p q t v), .int .i64 (plcE l p q t v)]) ∧ Below w.heap.size w w'
theorem plcw_no {w w' : World} {l : List UInt8} {p q t v er : Int} (h : plcE l p q t v = er) (hne : er ≠ 0) (hb : Below w.heap.size w w') : PlcW w l p q t v (.returned (.tuple #[.int .i64 0, .int .i64 0, .int .i64 er])) w' := by
  unfold PlcW plcA plcW
  rw [h, if_neg hne, if_neg hne]
  exact ⟨rfl, hb⟩
theorem plcw_yes {w w' : World} {l : List UInt8} {p q t v a x : Int} (h : plcE l p q t v = 0) (ha : (if inlineT t = true then p else tgt l p q t v) = a) (hx : (if inlineT t = true then q else v) = x) (hb : Below w.heap.size w w') : PlcW w l p q t v (.returned (.tuple #[.int .i64 a, .int .i64 x, .int .i64 0])) w' := by
  unfold PlcW plcA plcW
  rw [h, if_pos rfl, if_pos rfl, ha, hx]
  exact ⟨rfl, hb⟩
theorem plc_cases (l : List UInt8) (p q t v : Int) : (mayE l.length p q t v ≠ 0 ∧ plcE l p q t v = mayE l.length p q t v) ∨ (mayE l.length p q t v = 0 ∧
    ((isS t = false ∧ plcE l p q t v = 60) ∨ (isS t = true ∧ inlineT t = true ∧ plcE l p q t v = 0) ∨ (isS t = true ∧ inlineT t = false ∧
      ((tgtE l p q t v ≠ 0 ∧ plcE l p q t v = tgtE l p q t v) ∨ (tgtE l p q t v = 0 ∧ tgt l p q t v % v ≠ 0 ∧ plcE l p q t v = 212) ∨ (tgtE l p q t v = 0 ∧ tgt l p q t v % v = 0 ∧ inB l.length (tgt l p q t v) v = false ∧ plcE l p q t v = 211) ∨
        (tgtE l p q t v = 0 ∧ tgt l p q t v % v = 0 ∧ inB l.length (tgt l p q t v) v = true ∧ plcE l p q t v = 0))))) := by
  unfold plcE
  by_cases h1 : mayE l.length p q t v = 0
  · refine .inr ⟨h1, ?_⟩
    rw [if_neg (by simpa using h1)]
    cases h2 : isS t with
    | false => exact .inl ⟨rfl, if_pos rfl⟩
    | true =>
      rw [if_neg (by decide)]
      cases h3 : inlineT t with
      | true => exact .inr (.inl ⟨rfl, rfl, if_pos rfl⟩)
      | false =>
        refine .inr (.inr ⟨rfl, rfl, ?_⟩)
        rw [if_neg (by decide)]
        by_cases h4 : tgtE l p q t v = 0
        · rw [if_neg (by simpa using h4)]
          by_cases h5 : tgt l p q t v % v = 0
          · rw [if_neg (by simpa using h5)]
            cases h6 : inB l.length (tgt l p q t v) v with
            | false => exact .inr (.inr (.inl ⟨h4, h5, rfl, if_pos rfl⟩))
            | true => exact .inr (.inr (.inr ⟨h4, h5, rfl, if_neg (by decide)⟩))
          · rw [if_pos h5]; exact .inr (.inl ⟨h4, h5, rfl⟩)
        · rw [if_pos h4]; exact .inl ⟨h4, rfl⟩
  · rw [if_pos h1]; exact .inl ⟨h1, rfl⟩
theorem find_isS {t : Int} {r : Option (Nat × Value)} (h : r.map (·.2) = rdF t) : r.isSome = isS t := by
  unfold isS; rw [← h]; cases r <;> rfl
theorem zero_fn : ∀ W : World, (zeroValue 143).run Tryz.prog W = .ok .nilFunc W := by
  intro W
  kernel_rfl
theorem rd_look (t : Int) (W : World) (g : Nat) (hb : W.heap[g]? = some (.map rdEs 6)) :
    (∀ b, (Instr.lookup 144 (.map (some g)) (.int .i64 t) b).run Tryz.prog W = .ok (if b then .tuple #[(rdF t).getD .nilFunc, .bool (isS t)] else (rdF t).getD .nilFunc) W) := by
  intro b
  obtain ⟨r, h1, h2⟩ := rd_find t
  rw [run_look Tryz.underlying144 Tryz.underlying3 .nilFunc zero_fn W rdEs 6 g t b r hb h1, h2, find_isS h2]
set_option maxRecDepth 100000 in
set_option maxHeartbeats 1000000 in
theorem splace_spec (A : Option Addr) (n c : Nat) (p q t v : Int) (l : List UInt8) (w : World) (h : IsB w A n l) (hc : n ≤ c) (hn : n ≤ 9223372036854775807) :
    Calls Tryz.prog 95 #[.slice A n c, .agg #[.int .i64 p, .int .i64 q, .int .i64 t, .int .i64 v]] w (PlcW w l p q t v) := by
  have hlen := h.1
  subst hlen
  have HL := Lib.hid (h.alloc (.cells #[.int .i64 p, .int .i64 q, .int .i64 t, .int .i64 v] 36))
  have HB := Lib.hid ((Below.refl w.heap.size w).alloc (Nat.le_refl _) (.cells #[.int .i64 p, .int .i64 q, .int .i64 t, .int .i64 v] 36))
  have HX := Lib.hid (Blk.new w 36 #[.int .i64 p, .int .i64 q, .int .i64 t, .int .i64 v])
  have hpc := plc_cases l p q t v
  clear h
  go_enter Tryz.func95, Tryz.ntmps95
  go_wp2_with fail
  go_at_call 14
  refine (may_spec A _ c p q t v _ hn).mono ?_
  have x0 := cell0 HX.out
  have x1 := cell1 HX.out
  have x2 := cell2 HX.out
  have x3 := cell3 HX.out
  rintro e w1 ⟨rfl, hb⟩
  clear x0 x1 x2 x3; replace HB := Lib.hid (pure_below HB.out hb); replace HX := Lib.hid (HX.out.pure hb); replace HL := Lib.hid (HL.out.pure hb); clear hb; have x0 := cell0 HX.out; have x1 := cell1 HX.out; have x2 := cell2 HX.out; have x3 := cell3 HX.out
  rcases hpc with ⟨hm, he⟩ | ⟨hm, hpc⟩
  · have HE := Lib.hid he
    have hne : (mayE l.length p q t v != 0) = true := by simpa using hm
    have HM := Lib.hid hm
    clear he hm
    go_wp2
    go_ret3
    exact plcw_no HE.out HM.out HB.out
  · obtain ⟨g1, g2⟩ := mayE_ok.1 hm
    have g2 := inB_iff.1 g2
    have g1 := formed_iff.1 g1
    have v1 := isW_iff.1 g1.2.2
    rw [hm]
    obtain ⟨V, rfl⟩ : ∃ V : Nat, v = V := ⟨v.toNat, by omega⟩
    have hv1 : 1 ≤ V := by omega
    have hv8 : V ≤ 8 := by omega
    have hvz : (V == 0) = false := beq_eq_false_iff_ne.mpr (by omega)
    clear g1 g2 v1
    have HPC := Lib.hid hpc
    have HM := Lib.hid hm
    clear hpc hm
    go_wp2_with fail
    go_upto_region 4 with fail
    go_cut [8, 9] (fun u8 u9 wx => u9 = .bool (isS t) ∧ Below w1.heap.size w1 wx)
    case first =>
      go_region_held3 (fun w' => w'.cell? ⟨w.heap.size, 2, none⟩ = some (.int .i64 t)) (first | assumption | exact x2 | exact cell_pure HB5.out x2)
        (first | (go_at_call 96; refine (readers_spec _).mono ?_; rintro e w5 ⟨g, rfl, hg, hb5⟩; have HB5 := Lib.hid hb5; have hlk := rd_look t w5 g hg; clear hb5 hg))
      go_wp2_with fail
      go_meet
      exact ⟨rfl, pure_below (Below.refl _ _).drew HB5.out⟩
    case rest =>
      obtain ⟨rfl, hb⟩ := hcut
      clear x0 x1 x2 x3; replace HB := Lib.hid (pure_below HB.out hb); replace HX := Lib.hid (HX.out.pure hb); replace HL := Lib.hid (HL.out.pure hb); clear hb; have x0 := cell0 HX.out; have x1 := cell1 HX.out; have x2 := cell2 HX.out; have x3 := cell3 HX.out
      rcases HPC.out with ⟨h1, he⟩ | ⟨h1, h2, he⟩ | ⟨h1, h2, hpc⟩
      · have HE := Lib.hid he
        rw [h1]
        clear he h1 HPC
        go_wp2
        go_ret3
        exact plcw_no HE.out (by decide) HB.out
      · have HE := Lib.hid he
        have HI := Lib.hid h2
        rw [h1]
        clear he h1 HPC h2
        go_wp2_with fail
        go_at_call 17
        refine (inline_spec t _).mono ?_
        rw [HI.out]
        rintro e w2 ⟨rfl, hb⟩
        clear x0 x1 x2 x3; replace HB := Lib.hid (pure_below HB.out hb); replace HX := Lib.hid (HX.out.pure hb); replace HL := Lib.hid (HL.out.pure hb); clear hb; have x0 := cell0 HX.out; have x1 := cell1 HX.out; have x2 := cell2 HX.out; have x3 := cell3 HX.out
        go_wp2_with fail
        go_quiet (fail)
        go_wp2
        go_ret3
        exact plcw_yes HE.out (if_pos HI.out) (if_pos HI.out) (below_drewN HB.out _)
      · have HI := Lib.hid h2
        have HP := Lib.hid hpc
        rw [h1]
        clear h1 HPC h2 hpc
        go_wp2_with fail
        go_at_call 17
        refine (inline_spec t _).mono ?_
        rw [HI.out]
        rintro e w2 ⟨rfl, hb⟩
        clear x0 x1 x2 x3; replace HB := Lib.hid (pure_below HB.out hb); replace HX := Lib.hid (HX.out.pure hb); replace HL := Lib.hid (HL.out.pure hb); clear hb; have x0 := cell0 HX.out; have x1 := cell1 HX.out; have x2 := cell2 HX.out; have x3 := cell3 HX.out
        go_wp2_with fail
        go_at_call 16
        refine (target_spec A _ c p q t V l _ HL.out hc hn).mono ?_
        rintro e w3 ⟨rfl, hb⟩
        clear x0 x1 x2 x3; replace HB := Lib.hid (pure_below HB.out hb); replace HX := Lib.hid (HX.out.pure hb); replace HL := Lib.hid (HL.out.pure hb); clear hb; have x0 := cell0 HX.out; have x1 := cell1 HX.out; have x2 := cell2 HX.out; have x3 := cell3 HX.out
        rcases HP.out with ⟨h1, he⟩ | ⟨h0, h5, he⟩ | ⟨h0, h5, h6, he⟩ | ⟨h0, h5, h6, he⟩
        · have hne : (tgtE l p q t V != 0) = true := by simpa using h1
          have HE := Lib.hid he
          have HN := Lib.hid h1
          clear h1 he HP
          go_wp2
          go_ret3
          exact plcw_no HE.out HN.out HB.out
        · have HE := Lib.hid he
          have htr := tgt_rg h0
          rw [h0]
          obtain ⟨a, ha⟩ : ∃ a : Nat, tgt l p q t V = a := ⟨(tgt l p q t V).toNat, by omega⟩
          rw [ha] at h5 ⊢
          have hm2 : ((a : Int) % (V : Int) != 0) = true := by simpa using h5
          clear h0 h5 he HP ha htr
          go_wp2
          go_ret3
          exact plcw_no HE.out (by decide) HB.out
        · have HE := Lib.hid he
          have htr := tgt_rg h0
          rw [h0]
          obtain ⟨a, ha⟩ : ∃ a : Nat, tgt l p q t V = a := ⟨(tgt l p q t V).toNat, by omega⟩
          rw [ha] at h5 h6 ⊢
          have hm2 : ((a : Int) % (V : Int) != 0) = false := by simpa using h5
          have HIN := Lib.hid h6
          clear h0 h5 h6 he HP ha htr
          go_wp2_with fail
          go_at_call 35
          refine (inside_spec A _ c a V _ hn).mono ?_
          rw [HIN.out]
          rintro e w4 ⟨rfl, rfl⟩
          go_wp2
          go_ret3
          exact plcw_no HE.out (by decide) HB.out
        · have HE := Lib.hid he
          have htr := tgt_rg h0
          rw [h0]
          obtain ⟨a, ha⟩ : ∃ a : Nat, tgt l p q t V = a := ⟨(tgt l p q t V).toNat, by omega⟩
          have HTA := Lib.hid ha
          rw [ha] at h5 h6 ⊢
          have hm2 : ((a : Int) % (V : Int) != 0) = false := by simpa using h5
          have HIN := Lib.hid h6
          clear h0 h5 h6 he HP ha htr
          go_wp2_with fail
          go_at_call 35
          refine (inside_spec A _ c a V _ hn).mono ?_
          rw [HIN.out]
          rintro e w4 ⟨rfl, rfl⟩
          go_wp2_with fail
          go_quiet (fail)
          go_wp2
          go_ret3
          exact plcw_yes HE.out (by rw [if_neg (by rw [HI.out]; decide)]; exact HTA.out) (if_neg (by rw [HI.out]; decide)) (below_drewN HB.out _)
end Go.Proofs.YtfoifdoaleaekaaGreat

namespace Go.Proofs.YtfoifdoaleaekaaGreat
open Go.RowKit Go.Acc
def rdN (l : List UInt8) (t a x : Int) : Bool := decide ((t = 1 ∨ t = 6) ∧ loadI l a x < 0)
def rdU (l : List UInt8) (t a x : Int) : Nat := if t = 0 then 0 else if t = 26 then min (loadU l a x) 1 else if t = 1 ∨ t = 6 then (loadI l a x).natAbs else loadU l a x
def scN (l : List UInt8) (p q t v : Int) : Bool := decide (plcE l p q t v = 0) && rdN l t (plcA l p q t v) (plcW l p q t v)
def scU (l : List UInt8) (p q t v : Int) : Nat := if plcE l p q t v = 0 then rdU l t (plcA l p q t v) (plcW l p q t v) else 0
theorem cell_far {w : World} {p q : Addr} {u v : Value} (h : q.block ≠ p.block) (hc : w.cell? q = some v) : (w.setCell p u).cell? q = some v :=
  (World.cell?_of_block (w := w) (Below.heap_setCell w p u q.block h)).trans hc
theorem rd_look2 {t : Int} {F : Value} (h : rdF t = some F) (W : World) (g : Nat) (hb : W.heap[g]? = some (.map rdEs 6)) :
    (Instr.lookup 144 (.map (some g)) (.int .i64 t) false).run Tryz.prog W = .ok F W := by
  have := rd_look t W g hb false
  rw [h] at this
  exact this
theorem plc_isS {l : List UInt8} {p q t v : Int} (h : plcE l p q t v = 0) : isS t = true := by
  rcases plc_cases l p q t v with ⟨h1, e⟩ | ⟨_, ⟨_, e⟩ | ⟨h1, _⟩ | ⟨h1, _⟩⟩
  · rw [e] at h; exact absurd h h1
  · rw [e] at h; cases h
  · exact h1
  · exact h1
set_option maxRecDepth 100000 in
set_option maxHeartbeats 1000000 in
theorem read_spec (A : Option Addr) (n c : Nat) (p q t v : Int) (l : List UInt8) (w : World) (h : IsB w A n l) (hc : n ≤ c) (hn : n ≤ 9223372036854775807) :
    Calls Tryz.prog 57 #[.slice A n c, .agg #[.int .i64 p, .int .i64 q, .int .i64 t, .int .i64 v]] w fun e w' => e = .returned (.tuple #[valV (scN l p q t v) (scU l p q t v), .int .i64 (plcE l p q t v)]) ∧ Below w.heap.size w w' := by
  have hlen := h.1
  subst hlen
  have HL := Lib.hid ((h.alloc (.cells #[.int .i64 p, .int .i64 q, .int .i64 t, .int .i64 v] 36)).alloc (.cells #[.bool false, .int .u64 0] 102))
  have HB := Lib.hid (((Below.refl w.heap.size w).alloc (Nat.le_refl _) (.cells #[.int .i64 p, .int .i64 q, .int .i64 t, .int .i64 v] 36)).alloc (by simp) (.cells #[.bool false, .int .u64 0] 102))
  have HX := Lib.hid ((Blk.new w 36 #[.int .i64 p, .int .i64 q, .int .i64 t, .int .i64 v]).alloc (.cells #[.bool false, .int .u64 0] 102))
  have HK := Lib.hid (Blk.new_ (w := w.alloc (.cells #[.int .i64 p, .int .i64 q, .int .i64 t, .int .i64 v] 36)) (g := w.heap.size + 1) (by simp) 102 #[.bool false, .int .u64 0])
  clear h
  go_enter Tryz.func57, Tryz.ntmps57
  go_wp2_with fail
  go_at_call 95
  refine (splace_spec A _ c p q t v l _ HL.out hc hn).mono ?_
  generalize (w.alloc (.cells #[.int .i64 p, .int .i64 q, .int .i64 t, .int .i64 v] 36)).alloc (.cells #[.bool false, .int .u64 0] 102) = wB at HL HB HX HK ⊢
  have x0 := cell0 HX.out; have x1 := cell1 HX.out; have x2 := cell2 HX.out; have x3 := cell3 HX.out; have c0 : _ = some (Value.bool false) := HK.out.cell 0; have c1 : _ = some (Value.int .u64 0) := HK.out.cell 1; have f0 := HK.out.frozen 0; have f1 := HK.out.frozen 1
  unfold PlcW
  rintro e w1 ⟨rfl, hb⟩
  clear x0 x1 x2 x3 c0 c1 f0 f1; replace HB := Lib.hid (pure_below HB.out hb); replace HX := Lib.hid (HX.out.pure hb); replace HK := Lib.hid (HK.out.pure hb); replace HL := Lib.hid (HL.out.pure hb); clear hb; have x0 := cell0 HX.out; have x1 := cell1 HX.out; have x2 := cell2 HX.out; have x3 := cell3 HX.out; have c0 : _ = some (Value.bool false) := HK.out.cell 0; have c1 : _ = some (Value.int .u64 0) := HK.out.cell 1; have f0 := HK.out.frozen 0; have f1 := HK.out.frozen 1
  by_cases he : plcE l p q t v = 0
  · have hs := rd_cases (plc_isS he)
    have HE := Lib.hid he
    obtain ⟨a, ha⟩ : ∃ a, plcA l p q t v = a := ⟨_, rfl⟩
    obtain ⟨x, hx⟩ : ∃ x, plcW l p q t v = x := ⟨_, rfl⟩
    have HA := Lib.hid ha
    have HXW := Lib.hid hx
    rw [he, ha, hx]
    clear he ha hx
    have HPN := Lib.hid (show scN l p q t v = rdN l t a x by unfold scN; rw [HE.out, HA.out, HXW.out]; rfl)
    have HPU := Lib.hid (show scU l p q t v = rdU l t a x by unfold scU; rw [HE.out, HA.out, HXW.out]; rfl)
    have hcs : t = 0 ∨ t = 26 ∨ (t = 1 ∨ t = 6) ∨ (t = 2 ∨ t = 7) := by omega
    clear hs
    rcases hcs with h0 | h0 | h0 | h0
    · have H0 := Lib.hid h0
      clear h0
      have HF := Lib.hid (show rdF t = some (.func (.func 140) #[] #[]) from by (unfold rdF; rw [if_pos H0.out]))
      go_wp2_with fail
      go_region_held3 (fun w' => w'.cell? ⟨w.heap.size, 2, none⟩ = some (.int .i64 t) ) (first | assumption | exact x2 | exact cell_far (Nat.ne_of_lt (Nat.lt_succ_self _)) (cell_far (Nat.ne_of_lt (Nat.lt_succ_self _)) x2))
        (first
          | (go_at_call 96; refine (readers_spec _).mono ?_; rintro e w5 ⟨g, rfl, hg, hb5⟩; have HB5 := Lib.hid hb5; have hlk := rd_look2 HF.out w5 g hg; replace HK := Lib.hid (HK.out.drew.pure hb5); have HL5 := Lib.hid ((isb_drew HL.out).pure hb5); have x2 := cell_pure hb5 (p := ⟨w.heap.size, 2, none⟩) (u := .int .i64 t) x2; have c0 := cell_pure hb5 (p := ⟨w.heap.size + 1, 0, none⟩) (u := .bool false) c0; have c1 := cell_pure hb5 (p := ⟨w.heap.size + 1, 1, none⟩) (u := .int .u64 0) c1; have f0 := HK.out.frozen 0; have f1 := HK.out.frozen 1; clear hb5 hg)
          | (go_at_call 140; refine (rd1_spec A _ c a x _).mono ?_; unfold valV; rintro e w6 ⟨rfl, hb6⟩; have HB6 := Lib.hid hb6; replace HK := Lib.hid (HK.out.pure hb6); have x2 := cell_pure hb6 (p := ⟨w.heap.size, 2, none⟩) (u := .int .i64 t) x2; have c0 := cell_pure hb6 (p := ⟨w.heap.size + 1, 0, none⟩) (u := .bool false) c0; have c1 := cell_pure hb6 (p := ⟨w.heap.size + 1, 1, none⟩) (u := .int .u64 0) c1; have f0 := HK.out.frozen 0; have f1 := HK.out.frozen 1; clear hb6))
      go_wp2
      refine bodyPost_ret (v := .tuple #[.agg #[.bool false, .int .u64 0], .int .i64 0]) (by simp [results, Tryz.results57, go_sem, c0, c1]) rfl ⟨?_, ?_⟩
      · rw [HPN.out, HPU.out, HE.out]
        unfold rdN rdU
        (rw [if_pos H0.out, decide_eq_false (by have := H0.out; omega)]; rfl)
      · exact ((pure_trans (pure_below HB.out.drew HB5.out) HB6.out).setCell (Nat.le_succ _) _).setCell (Nat.le_succ _) _
    · have H0 := Lib.hid h0
      clear h0
      have HF := Lib.hid (show rdF t = some (.func (.func 141) #[] #[]) from by (have e := H0.out; unfold rdF; rw [if_neg (by omega), if_pos e]))
      go_wp2_with fail
      go_region_held3 (fun w' => w'.cell? ⟨w.heap.size, 2, none⟩ = some (.int .i64 t) ) (first | assumption | exact x2 | exact cell_far (Nat.ne_of_lt (Nat.lt_succ_self _)) (cell_far (Nat.ne_of_lt (Nat.lt_succ_self _)) x2))
        (first
          | (go_at_call 96; refine (readers_spec _).mono ?_; rintro e w5 ⟨g, rfl, hg, hb5⟩; have HB5 := Lib.hid hb5; have hlk := rd_look2 HF.out w5 g hg; replace HK := Lib.hid (HK.out.drew.pure hb5); have HL5 := Lib.hid ((isb_drew HL.out).pure hb5); have x2 := cell_pure hb5 (p := ⟨w.heap.size, 2, none⟩) (u := .int .i64 t) x2; have c0 := cell_pure hb5 (p := ⟨w.heap.size + 1, 0, none⟩) (u := .bool false) c0; have c1 := cell_pure hb5 (p := ⟨w.heap.size + 1, 1, none⟩) (u := .int .u64 0) c1; have f0 := HK.out.frozen 0; have f1 := HK.out.frozen 1; clear hb5 hg)
          | (go_at_call 141; refine (rd2_spec A _ c a x l _ HL5.out hc hn).mono ?_; unfold valV; rintro e w6 ⟨rfl, hb6⟩; have HB6 := Lib.hid hb6; replace HK := Lib.hid (HK.out.pure hb6); have x2 := cell_pure hb6 (p := ⟨w.heap.size, 2, none⟩) (u := .int .i64 t) x2; have c0 := cell_pure hb6 (p := ⟨w.heap.size + 1, 0, none⟩) (u := .bool false) c0; have c1 := cell_pure hb6 (p := ⟨w.heap.size + 1, 1, none⟩) (u := .int .u64 0) c1; have f0 := HK.out.frozen 0; have f1 := HK.out.frozen 1; clear hb6))
      go_wp2
      refine bodyPost_ret (v := .tuple #[.agg #[.bool false, .int .u64 (min (loadU l a x) 1 : Nat)], .int .i64 0]) (by simp [results, Tryz.results57, go_sem, c0, c1]) rfl ⟨?_, ?_⟩
      · rw [HPN.out, HPU.out, HE.out]
        unfold rdN rdU
        (have e := H0.out; rw [if_neg (by omega), if_pos e, decide_eq_false (by omega)]; rfl)
      · exact ((pure_trans (pure_below HB.out.drew HB5.out) HB6.out).setCell (Nat.le_succ _) _).setCell (Nat.le_succ _) _
    · have H0 := Lib.hid h0
      clear h0
      have HF := Lib.hid (show rdF t = some (.func (.func 143) #[] #[]) from by (have e := H0.out; unfold rdF; rw [if_neg (by omega), if_neg (by omega), if_pos e]))
      go_wp2_with fail
      go_region_held3 (fun w' => w'.cell? ⟨w.heap.size, 2, none⟩ = some (.int .i64 t) ) (first | assumption | exact x2 | exact cell_far (Nat.ne_of_lt (Nat.lt_succ_self _)) (cell_far (Nat.ne_of_lt (Nat.lt_succ_self _)) x2))
        (first
          | (go_at_call 96; refine (readers_spec _).mono ?_; rintro e w5 ⟨g, rfl, hg, hb5⟩; have HB5 := Lib.hid hb5; have hlk := rd_look2 HF.out w5 g hg; replace HK := Lib.hid (HK.out.drew.pure hb5); have HL5 := Lib.hid ((isb_drew HL.out).pure hb5); have x2 := cell_pure hb5 (p := ⟨w.heap.size, 2, none⟩) (u := .int .i64 t) x2; have c0 := cell_pure hb5 (p := ⟨w.heap.size + 1, 0, none⟩) (u := .bool false) c0; have c1 := cell_pure hb5 (p := ⟨w.heap.size + 1, 1, none⟩) (u := .int .u64 0) c1; have f0 := HK.out.frozen 0; have f1 := HK.out.frozen 1; clear hb5 hg)
          | (go_at_call 143; refine (with_spec A _ c a x l _ HL5.out hc hn).mono ?_; unfold valV; rintro e w6 ⟨rfl, hb6⟩; have HB6 := Lib.hid hb6; replace HK := Lib.hid (HK.out.pure hb6); have x2 := cell_pure hb6 (p := ⟨w.heap.size, 2, none⟩) (u := .int .i64 t) x2; have c0 := cell_pure hb6 (p := ⟨w.heap.size + 1, 0, none⟩) (u := .bool false) c0; have c1 := cell_pure hb6 (p := ⟨w.heap.size + 1, 1, none⟩) (u := .int .u64 0) c1; have f0 := HK.out.frozen 0; have f1 := HK.out.frozen 1; clear hb6))
      go_wp2
      refine bodyPost_ret (v := .tuple #[.agg #[.bool (decide (loadI l a x < 0)), .int .u64 ((loadI l a x).natAbs : Nat)], .int .i64 0]) (by simp [results, Tryz.results57, go_sem, c0, c1]) rfl ⟨?_, ?_⟩
      · rw [HPN.out, HPU.out, HE.out]
        unfold rdN rdU
        (have e := H0.out; rw [if_neg (by omega), if_neg (by omega), if_pos e, show decide ((t = 1 ∨ t = 6) ∧ loadI l a x < 0) = decide (loadI l a x < 0) from decide_eq_decide.mpr ⟨fun h => h.2, fun h => ⟨e, h⟩⟩]; rfl)
      · exact ((pure_trans (pure_below HB.out.drew HB5.out) HB6.out).setCell (Nat.le_succ _) _).setCell (Nat.le_succ _) _
    · have H0 := Lib.hid h0
      clear h0
      have HF := Lib.hid (show rdF t = some (.func (.func 142) #[] #[]) from by (have e := H0.out; unfold rdF; rw [if_neg (by omega), if_neg (by omega), if_neg (by omega), if_pos e]))
      go_wp2_with fail
      go_region_held3 (fun w' => w'.cell? ⟨w.heap.size, 2, none⟩ = some (.int .i64 t) ) (first | assumption | exact x2 | exact cell_far (Nat.ne_of_lt (Nat.lt_succ_self _)) (cell_far (Nat.ne_of_lt (Nat.lt_succ_self _)) x2))
        (first
          | (go_at_call 96; refine (readers_spec _).mono ?_; rintro e w5 ⟨g, rfl, hg, hb5⟩; have HB5 := Lib.hid hb5; have hlk := rd_look2 HF.out w5 g hg; replace HK := Lib.hid (HK.out.drew.pure hb5); have HL5 := Lib.hid ((isb_drew HL.out).pure hb5); have x2 := cell_pure hb5 (p := ⟨w.heap.size, 2, none⟩) (u := .int .i64 t) x2; have c0 := cell_pure hb5 (p := ⟨w.heap.size + 1, 0, none⟩) (u := .bool false) c0; have c1 := cell_pure hb5 (p := ⟨w.heap.size + 1, 1, none⟩) (u := .int .u64 0) c1; have f0 := HK.out.frozen 0; have f1 := HK.out.frozen 1; clear hb5 hg)
          | (go_at_call 142; refine (without_spec A _ c a x l _ HL5.out hc hn).mono ?_; unfold valV; rintro e w6 ⟨rfl, hb6⟩; have HB6 := Lib.hid hb6; replace HK := Lib.hid (HK.out.pure hb6); have x2 := cell_pure hb6 (p := ⟨w.heap.size, 2, none⟩) (u := .int .i64 t) x2; have c0 := cell_pure hb6 (p := ⟨w.heap.size + 1, 0, none⟩) (u := .bool false) c0; have c1 := cell_pure hb6 (p := ⟨w.heap.size + 1, 1, none⟩) (u := .int .u64 0) c1; have f0 := HK.out.frozen 0; have f1 := HK.out.frozen 1; clear hb6))
      go_wp2
      refine bodyPost_ret (v := .tuple #[.agg #[.bool false, .int .u64 (loadU l a x : Nat)], .int .i64 0]) (by simp [results, Tryz.results57, go_sem, c0, c1]) rfl ⟨?_, ?_⟩
      · rw [HPN.out, HPU.out, HE.out]
        unfold rdN rdU
        (have e := H0.out; rw [if_neg (by omega), if_neg (by omega), if_neg (by omega), decide_eq_false (by omega)]; rfl)
      · exact ((pure_trans (pure_below HB.out.drew HB5.out) HB6.out).setCell (Nat.le_succ _) _).setCell (Nat.le_succ _) _
  · have hne : (plcE l p q t v != 0) = true := by simpa using he
    have HPN := Lib.hid (show scN l p q t v = false by unfold scN; rw [decide_eq_false he]; rfl)
    have HPU := Lib.hid (show scU l p q t v = 0 from if_neg he)
    have hv := HPN.out
    clear he
    go_wp2
    refine bodyPost_ret (v := .tuple #[.agg #[.bool false, .int .u64 0], .int .i64 (plcE l p q t v)]) (by simp [results, Tryz.results57, go_sem, c0, c1]) rfl ⟨?_, ?_⟩
    · rw [HPN.out, HPU.out]; rfl
    · exact (HB.out.setCell (Nat.le_succ _) _).setCell (Nat.le_succ _) _
end Go.Proofs.YtfoifdoaleaekaaGreat

namespace Go.Proofs.YtfoifdoaleaekaaGreat
open Go.Acc

structure Shut (p : Prop) : Prop where
  out : p

/-! a stretch of a list replaced -/
end Go.Proofs.YtfoifdoaleaekaaGreat

namespace Go.Proofs.YtfoifdoaleaekaaGreat
open Go.RowKit Go.Acc
def top63 (u : Nat) : Bool := decide (9223372036854775808 ≤ u)
def intV (l : List UInt8) (p q t v : Int) : Int := if scN l p q t v = true then -(scU l p q t v : Int) else if top63 (scU l p q t v) = true then 0 else scU l p q t v
def intE (l : List UInt8) (p q t v : Int) : Int := if plcE l p q t v ≠ 0 then plcE l p q t v else if scN l p q t v = true then 0 else if top63 (scU l p q t v) = true then 10 else 0
theorem sc_neg {l : List UInt8} {p q t v : Int} (h : scN l p q t v = true) : plcE l p q t v = 0 ∧ 1 ≤ scU l p q t v ∧ (scU l p q t v : Int) ≤ 9223372036854775808 := by
  unfold scN at h
  rw [Bool.and_eq_true, decide_eq_true_eq] at h
  obtain ⟨h1, h2⟩ := h
  refine ⟨h1, ?_⟩
  unfold scU
  rw [if_pos h1]
  unfold rdN at h2
  rw [decide_eq_true_eq] at h2
  have h3 := loadI_64 l (plcA l p q t v) (plcW l p q t v)
  unfold rdU
  rw [if_neg (by omega), if_neg (by omega), if_pos h2.1]
  omega
theorem sc_bad {l : List UInt8} {p q t v : Int} (h : plcE l p q t v ≠ 0) : scN l p q t v = false ∧ scU l p q t v = 0 := by
  unfold scN scU
  rw [if_neg h, decide_eq_false h]
  exact ⟨rfl, rfl⟩
theorem wrap_neg (u : Nat) (h1 : 1 ≤ u) (h2 : (u : Int) ≤ 9223372036854775808) : wrap64 (IntKind.u64.wrap (-(u : Int))) = -(u : Int) := by
  rw [IntKind.wrap_u64]
  unfold wrap64
  omega
theorem top_yes {u : Nat} (h : top63 u = true) : decide ((9223372036854775808 : Int) ≤ (u : Int)) = true := by
  unfold top63 at h
  rw [decide_eq_true_eq] at h ⊢
  omega
theorem top_no {u : Nat} (h : top63 u = false) : decide ((9223372036854775808 : Int) ≤ (u : Int)) = false := by
  unfold top63 at h
  rw [decide_eq_false_iff_not] at h ⊢
  omega
theorem wrap_top {u : Nat} (h : top63 u = false) : wrap64 (u : Int) = u := by
  unfold top63 at h
  rw [decide_eq_false_iff_not] at h
  exact wrap64_in _ (by omega)
set_option maxRecDepth 100000 in
set_option maxHeartbeats 1000000 in
theorem sint_spec (A : Option Addr) (n c : Nat) (p q t v : Int) (l : List UInt8) (w : World) (h : IsB w A n l) (hc : n ≤ c) (hn : n ≤ 9223372036854775807) :
    Calls Tryz.prog 23 #[.slice A n c, .agg #[.int .i64 p, .int .i64 q, .int .i64 t, .int .i64 v]] w fun e w' => e = .returned (.tuple #[.int .i64 (intV l p q t v), .int .i64 (intE l p q t v)]) ∧ Below w.heap.size w w' := by
  have hlen := h.1
  subst hlen
  have HL := Lib.hid (h.alloc (.cells #[.int .i64 p, .int .i64 q, .int .i64 t, .int .i64 v] 36))
  have HB := Lib.hid ((Below.refl w.heap.size w).alloc (Nat.le_refl _) (.cells #[.int .i64 p, .int .i64 q, .int .i64 t, .int .i64 v] 36))
  obtain ⟨N, hN⟩ : ∃ x, scN l p q t v = x := ⟨_, rfl⟩
  obtain ⟨U, hU⟩ : ∃ x, scU l p q t v = x := ⟨_, rfl⟩
  obtain ⟨E, hE⟩ : ∃ x, plcE l p q t v = x := ⟨_, rfl⟩
  have hneg : N = true → E = 0 ∧ 1 ≤ U ∧ (U : Int) ≤ 9223372036854775808 := by
    intro e
    have := sc_neg (hN.trans e)
    rwa [hU, hE] at this
  have hbad : E ≠ 0 → N = false ∧ U = 0 := by
    intro e
    have := sc_bad (l := l) (p := p) (q := q) (t := t) (v := v) (by rwa [hE])
    rwa [hN, hU] at this
  have HN := Lib.hid hN
  have HU := Lib.hid hU
  have HE := Lib.hid hE
  have HNEG := Shut.mk hneg
  have HBAD := Shut.mk hbad
  clear hN hU hE hneg hbad h
  go_enter Tryz.func23, Tryz.ntmps23
  go_wp2_with fail
  go_at_call 57
  refine (read_spec A _ c p q t v l _ HL.out hc hn).mono ?_
  rw [HN.out, HU.out, HE.out]
  unfold valV
  rintro e w1 ⟨rfl, hb⟩
  replace HB := Lib.hid ((pure_below HB.out hb).alloc (pure_below HB.out hb).size (.cells #[.bool N, .int .u64 (U : Int)] 102))
  clear hb HL
  by_cases he : E = 0
  · subst he
    cases N with
    | true =>
      have hw := HNEG.out rfl
      have hw2 := wrap_neg U hw.2.1 hw.2.2
      clear hw
      go_wp2
      go_ret2
      unfold intV intE
      rw [HN.out, HU.out, HE.out]
      exact ⟨ret_t2 hw2 rfl, HB.out⟩
    | false =>
      cases ht : top63 U with
      | true =>
        have HT := Lib.hid ht
        have hd := top_yes ht
        clear ht
        go_wp2
        go_ret2
        unfold intV intE
        rw [HN.out, HU.out, HE.out, HT.out]
        exact ⟨rfl, HB.out⟩
      | false =>
        have HT := Lib.hid ht
        have hd := top_no ht
        have hw2 := wrap_top ht
        clear ht
        go_wp2
        go_ret2
        unfold intV intE
        rw [HN.out, HU.out, HE.out, HT.out]
        exact ⟨ret_t2 hw2 rfl, HB.out⟩
  · obtain ⟨rfl, rfl⟩ := HBAD.out he
    have hne : (E != 0) = true := by simpa using he
    have HNE := Lib.hid he
    clear he
    go_wp2
    go_ret2
    unfold intV intE
    rw [HN.out, HU.out, HE.out, if_pos HNE.out]
    exact ⟨rfl, HB.out⟩
end Go.Proofs.YtfoifdoaleaekaaGreat

namespace Go.Proofs.YtfoifdoaleaekaaGreat
open Go.ChangeShapes Go.WideShapes Go.ChangeAt Go.RowKit Go.Acc
theorem acc_own : ownKnob Tryz.prog.godebug = none := by kernel_rfl
theorem acc_laidOut : laidOutB Tryz.prog = true := by kernel_rfl
section
variable {H : Type} {enc : TypeId × Value → H} {W : World} {base : Nat} {spare : Nat → Bool} {held : Bool}
set_option maxRecDepth 100000 in
theorem int_arg {v : Value} {d : DataW H} {p : List MemPlace} (k : Value.okWide Tryz.prog W .any base 3 v) (h : DataW.Trod enc Tryz.prog W 0 (fun _ => true) true 3 v d p) :
    ∃ m : Int, v = .int .i64 m ∧ -9223372036854775808 ≤ m ∧ m ≤ 9223372036854775807 := by
  obtain ⟨m, rfl⟩ := okWide_int Tryz.underlying3 k
  obtain ⟨f, hf⟩ := h
  obtain ⟨m', e, _, hw⟩ := DataW.trod_int Tryz.underlying3 hf
  obtain rfl : m = m' := by simpa [Value.cells] using e
  exact ⟨m, rfl, i64_bd hw⟩
end
end Go.Proofs.YtfoifdoaleaekaaGreat

namespace Go.Proofs.YtfoifdoaleaekaaGreat
open Go.RowKit Go.Acc
theorem int_is (A : Option Addr) (n c : Nat) (p q t v : Int) (l : List UInt8) (x er : Int) (w : World) (h : IsB w A n l) (hc : n ≤ c) (hn : n ≤ 9223372036854775807) (h1 : intV l p q t v = x) (h2 : intE l p q t v = er) :
    Calls Tryz.prog 23 #[.slice A n c, .agg #[.int .i64 p, .int .i64 q, .int .i64 t, .int .i64 v]] w fun e w' => e = .returned (.tuple #[.int .i64 x, .int .i64 er]) ∧ Below w.heap.size w w' := by
  subst h1 h2
  exact sint_spec A n c p q t v l w h hc hn
open Go.ChangeShapes Go.WideShapes Go.ChangeAt
end Go.Proofs.YtfoifdoaleaekaaGreat

namespace Go.Proofs.YtfoifdoaleaekaaGreat
open Go.RowKit Go.Acc
theorem sx_of {w : Nat} {n : Int} (hw : isW (w : Int) = true) (h : bWidthI n ≤ w) (h64 : -9223372036854775808 ≤ n ∧ n ≤ 9223372036854775807) : sx w (bits n % 2 ^ (8 * w)) = n := by
  unfold sx bits
  unfold bWidthI at h
  rcases w_cases hw with rfl | rfl | rfl | rfl
  · split at h
    · split <;> simp at * <;> omega
    · exfalso; (repeat' split at h) <;> omega
  · split at h
    · split <;> simp at * <;> omega
    · split at h
      · split <;> simp at * <;> omega
      · exfalso; (repeat' split at h) <;> omega
  · split at h
    · split <;> simp at * <;> omega
    · split at h
      · split <;> simp at * <;> omega
      · split at h
        · split <;> simp at * <;> omega
        · omega
  · split <;> simp at * <;> omega
end Go.Proofs.YtfoifdoaleaekaaGreat

namespace Go.Proofs.YtfoifdoaleaekaaGreat
open Go.Acc
theorem elt_may {L : List UInt8} {a : Int} {w : Nat} {t : Int} (ht : isS t = true) (hi : inlineT t = true) (hm : mayE L.length a w t w = 0) : plcE L a w t w = 0 ∧ plcA L a w t w = a ∧ plcW L a w t w = w := by
  have hp : plcE L a w t w = 0 := by
    unfold plcE
    rw [if_neg (by rw [hm]; decide), if_neg (by rw [ht]; decide), if_pos hi]
  refine ⟨hp, ?_, ?_⟩
  · unfold plcA
    rw [if_pos hp, if_pos hi]
  · unfold plcW
    rw [if_pos hp, if_pos hi]
theorem elt_int {L : List UInt8} {a n : Int} {w : Nat} (hw : isW (w : Int) = true) (hb : bWidthI n ≤ w) (hn : -9223372036854775808 ≤ n ∧ n ≤ 9223372036854775807) (hl : loadU L a w = bits n % 2 ^ (8 * w)) (hm : mayE L.length a w 1 w = 0) :
    intV L a w 1 w = n ∧ intE L a w 1 w = 0 := by
  obtain ⟨hp, hA, hW⟩ := elt_may (t := 1) (by decide) (by decide) hm
  have hin := inB_iff.1 (mayE_ok.1 hm).2
  have e : loadI L a w = n := by
    unfold loadI
    rw [if_pos ⟨hw, hin.1, hin.2.2⟩, hl, show (w : Int).toNat = w from rfl]
    exact sx_of hw hb hn
  have hN : scN L a w 1 w = decide (n < 0) := by
    unfold scN rdN
    rw [hp, hA, hW, e]
    simp
  have hU : scU L a w 1 w = n.natAbs := by
    unfold scU rdU
    rw [if_pos hp, hA, hW, e, if_neg (by decide), if_neg (by decide), if_pos (by decide)]
  refine ⟨?_, ?_⟩
  · unfold intV
    rw [hN, hU]
    by_cases h0 : n < 0
    · rw [if_pos (decide_eq_true h0)]
      omega
    · rw [if_neg (by simpa using h0), if_neg (by unfold top63; simp; omega)]
      omega
  · unfold intE
    rw [if_neg (by rw [hp]; decide), hN, hU]
    by_cases h0 : n < 0
    · rw [if_pos (decide_eq_true h0)]
    · rw [if_neg (by simpa using h0), if_neg (by unfold top63; simp; omega)]
def leafI (n : Int) : Tr := .mk 3 n 0 [] [] []
theorem inl_elem {L : List UInt8} {s : Nat} {vs : List Bv} {v : Bv} {p q : Int} {T : Nat} (h : LstIn L s vs v) (r : Leads L s v p q) {i : Nat} {y : Bv} (hy : vs[i]? = some y) (hT : y.t = T) (hi : inlineT (T : Int) = true) (hl : legalT (T : Int) = true) (hyw : isW (y.w : Int) = true) (he : tagT (v.t : Int) = false → elemT (v.t : Int) = T) :
    atE L p q (v.t : Int) (v.w : Int) (i : Int) = 0 ∧ atQ L p q (v.t : Int) (v.w : Int) (i : Int) = (v.w : Int) ∧ atT L p q (v.t : Int) (v.w : Int) (i : Int) = (T : Int) ∧ atV L p q (v.t : Int) (v.w : Int) (i : Int) = (v.w : Int) ∧
      mayE L.length (atP L p q (v.t : Int) (v.w : Int) (i : Int)) (v.w : Int) (T : Int) (v.w : Int) = 0 ∧ loadU L (atP L p q (v.t : Int) (v.w : Int) (i : Int)) (v.w : Int) = y.n % 2 ^ (8 * v.w) ∧ y.w ≤ v.w := by
  obtain ⟨a1, a2, a3, a4, a5⟩ := lst_at h r hy (fun _ => ⟨by rw [hT]; exact hl, hyw⟩)
  obtain ⟨e1, e2⟩ := h.el i y hy
  have hiy : inl y.t = true := by rw [hT]; exact hi
  have hle := e1.le
  rw [leBytes_length] at hle
  have ho : ownW v.w y = v.w := by unfold ownW; rw [if_pos hiy]
  refine ⟨a1, a3, ?_, ?_, ?_, ?_, e2.1 hiy⟩
  · rw [a4]
    by_cases ht : tagT (v.t : Int) = true
    · rw [if_pos ht, hT]
    · rw [if_neg ht]
      exact he (by simpa using ht)
  · rw [a5, ho]
    split <;> rfl
  · rw [a2]
    refine mayE_ok.2 ⟨formed_iff.2 ⟨hl, h.w, h.w⟩, inB_iff.2 ⟨by omega, by omega, by omega⟩⟩
  · rw [a2, e1.load h.w, leVal_leBytes]
    unfold elemN
    rw [if_pos hiy, Nat.mod_mod]
end Go.Proofs.YtfoifdoaleaekaaGreat
