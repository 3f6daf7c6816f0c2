/-
  Package scalar: the functions of the readers.
  Package scalar: Place.
  Package scalar: what a number's reference leads to.
  Package le: the plain laws of bytes and numbers (no program in sight).
  Package scalar: Int, Uint, Bool.
-/
import Derived.Test.YtejalfjeihlpeaaGreatQ21
import Derived.Deep.DeepCutAuto
namespace Go.Proofs.YtejalfjeihlpeaaGreat
open Go.RowKit Go.Acc
/-- A value: its sign and its amount. -/
def valV (s : Bool) (u : Nat) : Value := .agg #[.bool s, .int .u64 (u : Int)]
theorem loadU_64 (l : List UInt8) (a x : Int) : (loadU l a x : Int) < 18446744073709551616 := by
  unfold loadU
  split
  · rename_i h
    have h1 := isW_iff.1 h.1
    have hl := leVal_lt ((l.drop a.toNat).take x.toNat)
    have h8 : ((l.drop a.toNat).take x.toNat).length ≤ 8 := by
      have := List.length_take_le x.toNat (l.drop a.toNat)
      omega
    have := Nat.pow_le_pow_right (n := 2) (by omega) (Nat.mul_le_mul_left 8 h8)
    omega
  · omega
theorem sx_bnd {y u : Nat} (hy : y = 1 ∨ y = 2 ∨ y = 4 ∨ y = 8) (hu : u < 2 ^ (8 * y)) : -9223372036854775808 ≤ sx y u ∧ sx y u ≤ 9223372036854775807 := by
  unfold sx
  rcases hy with rfl | rfl | rfl | rfl <;> split <;> simp at * <;> omega
theorem loadI_64 (l : List UInt8) (a x : Int) : -9223372036854775808 ≤ loadI l a x ∧ loadI l a x ≤ 9223372036854775807 := by
  unfold loadI
  split
  · rename_i h
    have h1 := isW_iff.1 h.1
    have hx := loadU_lt l a x.toNat
    rw [show ((x.toNat : Nat) : Int) = x by omega] at hx
    exact sx_bnd (by omega) hx
  · omega
set_option maxRecDepth 100000 in
set_option maxHeartbeats 400000 in
theorem rd1_spec (A : Option Addr) (n c : Nat) (a x : Int) (w : World) : Calls Tryz.prog 140 #[.slice A n c, .int .i64 a, .int .i64 x] w fun e w' => e = .returned (valV false 0) ∧ Below w.heap.size w w' := by
  go_enter Tryz.func140, Tryz.ntmps140
  go_wp2
  refine bodyPost_ret (v := .agg #[.bool false, .int .u64 0]) (by simp [results, Tryz.results140, go_sem]) rfl ⟨rfl, ?_⟩
  exact (Below.refl _ _).alloc (Nat.le_refl _) _
set_option maxRecDepth 100000 in
set_option maxHeartbeats 400000 in
theorem without_spec (A : Option Addr) (n c : Nat) (a x : Int) (l : List UInt8) (w : World) (hl : IsB w A n l) (hc : n ≤ c) (hn : n ≤ 9223372036854775807) :
    Calls Tryz.prog 142 #[.slice A n c, .int .i64 a, .int .i64 x] w fun e w' => e = .returned (valV false (loadU l a x)) ∧ Below w.heap.size w w' := by
  have HL := Lib.hid (hl.alloc (.cells #[.bool false, .int .u64 0] 170))
  have HB := Lib.hid ((Below.refl w.heap.size w).alloc (Nat.le_refl _) (.cells #[.bool false, .int .u64 0] 170))
  have HK := Lib.hid (Blk.new w 170 #[.bool false, .int .u64 0])
  clear hl
  go_enter Tryz.func142, Tryz.ntmps142
  go_wp2_with fail
  go_at_call 87
  refine (load_spec A n c a x l _ HL.out hc hn).mono ?_
  rintro e w1 ⟨rfl, hb⟩
  have HB := Lib.hid (pure_below HB.out hb)
  have HK := Lib.hid (HK.out.pure hb)
  have c0 : w1.cell? ⟨w.heap.size, 0, none⟩ = some (.bool false) := HK.out.cell 0
  have c1 : w1.cell? ⟨w.heap.size, 1, none⟩ = some (.int .u64 0) := HK.out.cell 1
  have f0 := HK.out.frozen 0
  have f1 := HK.out.frozen 1
  clear hb
  go_wp2
  refine bodyPost_ret (v := .agg #[.bool false, .int .u64 (loadU l a x)]) (by simp [results, Tryz.results142, go_sem, c0, c1]) rfl ⟨rfl, ?_⟩
  exact (HB.out.setCell (Nat.le_refl _) _).setCell (Nat.le_refl _) _
set_option maxRecDepth 100000 in
set_option maxHeartbeats 400000 in
theorem rd2_spec (A : Option Addr) (n c : Nat) (a x : Int) (l : List UInt8) (w : World) (hl : IsB w A n l) (hc : n ≤ c) (hn : n ≤ 9223372036854775807) :
    Calls Tryz.prog 141 #[.slice A n c, .int .i64 a, .int .i64 x] w fun e w' => e = .returned (valV false (min (loadU l a x) 1)) ∧ Below w.heap.size w w' := by
  have HL := Lib.hid (hl.alloc (.cells #[.bool false, .int .u64 0] 170))
  have HB := Lib.hid ((Below.refl w.heap.size w).alloc (Nat.le_refl _) (.cells #[.bool false, .int .u64 0] 170))
  have HK := Lib.hid (Blk.new w 170 #[.bool false, .int .u64 0])
  have hf : ∀ W : World, (Instr.field 170 (.agg #[.bool false, .int .u64 (loadU l a x)]) 1).run Tryz.prog W = .ok (.int .u64 (loadU l a x)) W := by
    generalize (loadU l a x : Int) = u
    intro W
    kernel_rfl
  have hmin : (if (1 : Int) < (loadU l a x : Int) then (1 : Int) else (loadU l a x : Int)) = ((min (loadU l a x) 1 : Nat) : Int) := by
    split <;> omega
  obtain ⟨m, hm⟩ : ∃ m, min (loadU l a x) 1 = m := ⟨_, rfl⟩
  rw [hm] at hmin ⊢
  clear hl hm
  go_enter Tryz.func141, Tryz.ntmps141
  go_wp2_with fail
  go_at_call 142
  refine (without_spec A n c a x l _ HL.out hc hn).mono ?_
  unfold valV
  rintro e w1 ⟨rfl, hb⟩
  have HB := Lib.hid (pure_below HB.out hb)
  have HK := Lib.hid (HK.out.pure hb)
  have c0 : w1.cell? ⟨w.heap.size, 0, none⟩ = some (.bool false) := HK.out.cell 0
  have c1 : w1.cell? ⟨w.heap.size, 1, none⟩ = some (.int .u64 0) := HK.out.cell 1
  have f0 := HK.out.frozen 0
  have f1 := HK.out.frozen 1
  clear hb
  go_wp2
  refine bodyPost_ret (v := .agg #[.bool false, .int .u64 m]) (by simp [results, Tryz.results141, go_sem, c0, c1]) rfl ⟨rfl, ?_⟩
  exact (HB.out.setCell (Nat.le_refl _) _).setCell (Nat.le_refl _) _
set_option maxRecDepth 100000 in
set_option maxHeartbeats 400000 in
theorem with_spec (A : Option Addr) (n c : Nat) (a x : Int) (l : List UInt8) (w : World) (hl : IsB w A n l) (hc : n ≤ c) (hn : n ≤ 9223372036854775807) :
    Calls Tryz.prog 143 #[.slice A n c, .int .i64 a, .int .i64 x] w fun e w' => e = .returned (valV (decide (loadI l a x < 0)) (loadI l a x).natAbs) ∧ Below w.heap.size w w' := by
  have HL := Lib.hid (hl.alloc (.cells #[.bool false, .int .u64 0] 170))
  have HB := Lib.hid ((Below.refl w.heap.size w).alloc (Nat.le_refl _) (.cells #[.bool false, .int .u64 0] 170))
  have HK := Lib.hid (Blk.new w 170 #[.bool false, .int .u64 0])
  have hbd := loadI_64 l a x
  have b1 := hbd.1
  have b2 := hbd.2
  obtain ⟨i, hi⟩ : ∃ i, loadI l a x = i := ⟨_, rfl⟩
  rw [hi] at b1 b2 ⊢
  have HI := Lib.hid hi
  clear hl hbd hi
  go_enter Tryz.func143, Tryz.ntmps143
  go_wp2_with fail
  go_at_call 105
  refine (loadi_spec A n c a x l _ HL.out hc hn).mono ?_
  rw [HI.out]
  rintro e w1 ⟨rfl, hb⟩
  have HB := Lib.hid (pure_below HB.out hb)
  have HK := Lib.hid (HK.out.pure hb)
  have c0 : w1.cell? ⟨w.heap.size, 0, none⟩ = some (.bool false) := HK.out.cell 0
  have c1 : w1.cell? ⟨w.heap.size, 1, none⟩ = some (.int .u64 0) := HK.out.cell 1
  have f0 := HK.out.frozen 0
  have f1 := HK.out.frozen 1
  clear hb
  by_cases h0 : i < 0
  · have e1 : IntKind.u64.wrap (-IntKind.u64.wrap i) = ((i.natAbs : Nat) : Int) := by simp only [IntKind.wrap_u64]; omega
    have hd : decide (i < 0) = true := decide_eq_true h0
    have HE := Lib.hid e1
    have HD := Lib.hid hd
    clear e1 b1 b2
    go_wp2
    refine bodyPost_ret (v := .agg #[.bool true, .int .u64 (i.natAbs : Nat)]) (by simp [results, Tryz.results143, go_sem, c0, c1]; try exact HE.out) rfl ⟨by rw [HD.out]; rfl, ?_⟩
    exact (HB.out.setCell (Nat.le_refl _) _).setCell (Nat.le_refl _) _
  · have e1 : IntKind.u64.wrap i = ((i.natAbs : Nat) : Int) := by simp only [IntKind.wrap_u64]; omega
    have hd : decide (i < 0) = false := decide_eq_false h0
    have HE := Lib.hid e1
    have HD := Lib.hid hd
    clear e1 b1 b2
    go_wp2
    refine bodyPost_ret (v := .agg #[.bool false, .int .u64 (i.natAbs : Nat)]) (by simp [results, Tryz.results143, go_sem, c0, c1]; try exact HE.out) rfl ⟨by rw [HD.out]; rfl, ?_⟩
    exact (HB.out.setCell (Nat.le_refl _) _).setCell (Nat.le_refl _) _
end Go.Proofs.YtejalfjeihlpeaaGreat

namespace Go.Proofs.YtejalfjeihlpeaaGreat
open Go.RowKit Go.Acc
theorem tgt_rg {l : List UInt8} {p q t v : Int} (h : tgtE l p q t v = 0) : 0 ≤ tgt l p q t v ∧ tgt l p q t v ≤ l.length := by
  have hm : mayE l.length p q t v = 0 := by
    by_cases e : mayE l.length p q t v = 0
    · exact e
    · rw [tgtE_may e] at h; exact absurd h e
  obtain ⟨_, h2⟩ := mayE_ok.1 hm
  obtain ⟨h1, _⟩ := mayE_ok.1 hm
  have h2 := inB_iff.1 h2
  have h1 := formed_iff.1 h1
  have hq := isW_iff.1 h1.2.1
  unfold tgtE at h
  rw [if_pos hm] at h
  unfold tgt
  have h' : tgtE l p q t v = 0 := by unfold tgtE; rw [if_pos hm]; exact h
  rw [if_pos h']
  split at h
  · cases h
  · split at h
    · cases h
    · omega
theorem isb_drew {w : World} {A : Option Addr} {n : Nat} {l : List UInt8} (h : IsB w A n l) : IsB w.drew A n l := h
def isS (t : Int) : Bool := (rdF t).isSome
theorem inline_rd {t : Int} (h : inlineT t = true) : isS t = true := by
  have := legal_isT (inline_legal h)
  revert h
  refine t37_all (p := fun t => inlineT t = true → isS t = true) ?_ this
  decide
theorem rd_cases {t : Int} (h : isS t = true) : t = 0 ∨ t = 1 ∨ t = 2 ∨ t = 6 ∨ t = 7 ∨ t = 26 := by
  unfold isS rdF at h
  split at h <;> try omega
  split at h <;> try omega
  split at h <;> try omega
  split at h <;> try omega
  cases h
/-- The error of a place, its offset and its width. -/
def plcE (l : List UInt8) (p q t v : Int) : Int :=
  if mayE l.length p q t v ≠ 0 then mayE l.length p q t v
  else if isS t = false then 60
  else if inlineT t = true then 0
  else if tgtE l p q t v ≠ 0 then tgtE l p q t v
  else if tgt l p q t v % v ≠ 0 then 212
  else if inB l.length (tgt l p q t v) v = false then 211 else 0
def plcA (l : List UInt8) (p q t v : Int) : Int := if plcE l p q t v = 0 then (if inlineT t = true then p else tgt l p q t v) else 0
def plcW (l : List UInt8) (p q t v : Int) : Int := if plcE l p q t v = 0 then (if inlineT t = true then q else v) else 0
def PlcW (w : World) (l : List UInt8) (p q t v : Int) (e : Ending) (w' : World) : Prop :=
  e = .returned (.tuple #[.int .i64 (plcA l p q t v), .int .i64 (plcW l p q t v), .int .i64 (plcE l p q t v)]) ∧ Below w.heap.size w w'
theorem plcw_no {w w' : World} {l : List UInt8} {p q t v er : Int} (h : plcE l p q t v = er) (hne : er ≠ 0) (hb : Below w.heap.size w w') : PlcW w l p q t v (.returned (.tuple #[.int .i64 0, .int .i64 0, .int .i64 er])) w' := by
  unfold PlcW plcA plcW
  rw [h, if_neg hne, if_neg hne]
  exact ⟨rfl, hb⟩
theorem plcw_yes {w w' : World} {l : List UInt8} {p q t v a x : Int} (h : plcE l p q t v = 0) (ha : (if inlineT t = true then p else tgt l p q t v) = a) (hx : (if inlineT t = true then q else v) = x) (hb : Below w.heap.size w w') : PlcW w l p q t v (.returned (.tuple #[.int .i64 a, .int .i64 x, .int .i64 0])) w' := by
  unfold PlcW plcA plcW
  rw [h, if_pos rfl, if_pos rfl, ha, hx]
  exact ⟨rfl, hb⟩
theorem plc_cases (l : List UInt8) (p q t v : Int) : (mayE l.length p q t v ≠ 0 ∧ plcE l p q t v = mayE l.length p q t v) ∨ (mayE l.length p q t v = 0 ∧
    ((isS t = false ∧ plcE l p q t v = 60) ∨ (isS t = true ∧ inlineT t = true ∧ plcE l p q t v = 0) ∨ (isS t = true ∧ inlineT t = false ∧
      ((tgtE l p q t v ≠ 0 ∧ plcE l p q t v = tgtE l p q t v) ∨ (tgtE l p q t v = 0 ∧ tgt l p q t v % v ≠ 0 ∧ plcE l p q t v = 212) ∨ (tgtE l p q t v = 0 ∧ tgt l p q t v % v = 0 ∧ inB l.length (tgt l p q t v) v = false ∧ plcE l p q t v = 211) ∨
        (tgtE l p q t v = 0 ∧ tgt l p q t v % v = 0 ∧ inB l.length (tgt l p q t v) v = true ∧ plcE l p q t v = 0))))) := by
  unfold plcE
  by_cases h1 : mayE l.length p q t v = 0
  · refine .inr ⟨h1, ?_⟩
    rw [if_neg (by simpa using h1)]
    cases h2 : isS t with
    | false => exact .inl ⟨rfl, if_pos rfl⟩
    | true =>
      rw [if_neg (by decide)]
      cases h3 : inlineT t with
      | true => exact .inr (.inl ⟨rfl, rfl, if_pos rfl⟩)
      | false =>
        refine .inr (.inr ⟨rfl, rfl, ?_⟩)
        rw [if_neg (by decide)]
        by_cases h4 : tgtE l p q t v = 0
        · rw [if_neg (by simpa using h4)]
          by_cases h5 : tgt l p q t v % v = 0
          · rw [if_neg (by simpa using h5)]
            cases h6 : inB l.length (tgt l p q t v) v with
            | false => exact .inr (.inr (.inl ⟨h4, h5, rfl, if_pos rfl⟩))
            | true => exact .inr (.inr (.inr ⟨h4, h5, rfl, if_neg (by decide)⟩))
          · rw [if_pos h5]; exact .inr (.inl ⟨h4, h5, rfl⟩)
        · rw [if_pos h4]; exact .inl ⟨h4, rfl⟩
  · rw [if_pos h1]; exact .inl ⟨h1, rfl⟩
theorem find_isS {t : Int} {r : Option (Nat × Value)} (h : r.map (·.2) = rdF t) : r.isSome = isS t := by
  unfold isS; rw [← h]; cases r <;> rfl
theorem zero_fn : ∀ W : World, (zeroValue 141).run Tryz.prog W = .ok .nilFunc W := by
  intro W
  kernel_rfl
theorem rd_look (t : Int) (W : World) (g : Nat) (hb : W.heap[g]? = some (.map rdEs 6)) :
    (∀ b, (Instr.lookup 143 (.map (some g)) (.int .i64 t) b).run Tryz.prog W = .ok (if b then .tuple #[(rdF t).getD .nilFunc, .bool (isS t)] else (rdF t).getD .nilFunc) W) := by
  intro b
  obtain ⟨r, h1, h2⟩ := rd_find t
  rw [run_look Tryz.underlying143 Tryz.underlying3 .nilFunc zero_fn W rdEs 6 g t b r hb h1, h2, find_isS h2]
set_option maxRecDepth 100000 in
set_option maxHeartbeats 1000000 in
theorem splace_spec (A : Option Addr) (n c : Nat) (p q t v : Int) (l : List UInt8) (w : World) (h : IsB w A n l) (hc : n ≤ c) (hn : n ≤ 9223372036854775807) :
    Calls Tryz.prog 89 #[.slice A n c, .agg #[.int .i64 p, .int .i64 q, .int .i64 t, .int .i64 v]] w (PlcW w l p q t v) := by
  have hlen := h.1
  subst hlen
  have HL := Lib.hid (h.alloc (.cells #[.int .i64 p, .int .i64 q, .int .i64 t, .int .i64 v] 48))
  have HB := Lib.hid ((Below.refl w.heap.size w).alloc (Nat.le_refl _) (.cells #[.int .i64 p, .int .i64 q, .int .i64 t, .int .i64 v] 48))
  have HX := Lib.hid (Blk.new w 48 #[.int .i64 p, .int .i64 q, .int .i64 t, .int .i64 v])
  have hpc := plc_cases l p q t v
  clear h
  go_enter Tryz.func89, Tryz.ntmps89
  go_wp2_with fail
  go_at_call 86
  refine (may_spec A _ c p q t v _ hn).mono ?_
  have x0 := cell0 HX.out
  have x1 := cell1 HX.out
  have x2 := cell2 HX.out
  have x3 := cell3 HX.out
  rintro e w1 ⟨rfl, hb⟩
  clear x0 x1 x2 x3; replace HB := Lib.hid (pure_below HB.out hb); replace HX := Lib.hid (HX.out.pure hb); replace HL := Lib.hid (HL.out.pure hb); clear hb; have x0 := cell0 HX.out; have x1 := cell1 HX.out; have x2 := cell2 HX.out; have x3 := cell3 HX.out
  rcases hpc with ⟨hm, he⟩ | ⟨hm, hpc⟩
  · have HE := Lib.hid he
    have hne : (mayE l.length p q t v != 0) = true := by simpa using hm
    have HM := Lib.hid hm
    clear he hm
    go_wp2
    go_ret3
    exact plcw_no HE.out HM.out HB.out
  · obtain ⟨g1, g2⟩ := mayE_ok.1 hm
    have g2 := inB_iff.1 g2
    have g1 := formed_iff.1 g1
    have v1 := isW_iff.1 g1.2.2
    rw [hm]
    obtain ⟨V, rfl⟩ : ∃ V : Nat, v = V := ⟨v.toNat, by omega⟩
    have hv1 : 1 ≤ V := by omega
    have hv8 : V ≤ 8 := by omega
    have hvz : (V == 0) = false := beq_eq_false_iff_ne.mpr (by omega)
    clear g1 g2 v1
    have HPC := Lib.hid hpc
    have HM := Lib.hid hm
    clear hpc hm
    go_wp2_with fail
    go_upto_region 4 with fail
    go_cut [8, 9] (fun u8 u9 wx => u9 = .bool (isS t) ∧ Below w1.heap.size w1 wx)
    case first =>
      go_region_held3 (fun w' => w'.cell? ⟨w.heap.size, 2, none⟩ = some (.int .i64 t)) (first | assumption | exact x2 | exact cell_pure HB5.out x2)
        (first | (go_at_call 123; refine (readers_spec _).mono ?_; rintro e w5 ⟨g, rfl, hg, hb5⟩; have HB5 := Lib.hid hb5; have hlk := rd_look t w5 g hg; clear hb5 hg))
      go_wp2_with fail
      go_meet
      exact ⟨rfl, pure_below (Below.refl _ _).drew HB5.out⟩
    case rest =>
      obtain ⟨rfl, hb⟩ := hcut
      clear x0 x1 x2 x3; replace HB := Lib.hid (pure_below HB.out hb); replace HX := Lib.hid (HX.out.pure hb); replace HL := Lib.hid (HL.out.pure hb); clear hb; have x0 := cell0 HX.out; have x1 := cell1 HX.out; have x2 := cell2 HX.out; have x3 := cell3 HX.out
      rcases HPC.out with ⟨h1, he⟩ | ⟨h1, h2, he⟩ | ⟨h1, h2, hpc⟩
      · have HE := Lib.hid he
        rw [h1]
        clear he h1 HPC
        go_wp2
        go_ret3
        exact plcw_no HE.out (by decide) HB.out
      · have HE := Lib.hid he
        have HI := Lib.hid h2
        rw [h1]
        clear he h1 HPC h2
        go_wp2_with fail
        go_at_call 52
        refine (inline_spec t _).mono ?_
        rw [HI.out]
        rintro e w2 ⟨rfl, hb⟩
        clear x0 x1 x2 x3; replace HB := Lib.hid (pure_below HB.out hb); replace HX := Lib.hid (HX.out.pure hb); replace HL := Lib.hid (HL.out.pure hb); clear hb; have x0 := cell0 HX.out; have x1 := cell1 HX.out; have x2 := cell2 HX.out; have x3 := cell3 HX.out
        go_wp2_with fail
        go_quiet (fail)
        go_wp2
        go_ret3
        exact plcw_yes HE.out (if_pos HI.out) (if_pos HI.out) (below_drewN HB.out _)
      · have HI := Lib.hid h2
        have HP := Lib.hid hpc
        rw [h1]
        clear h1 HPC h2 hpc
        go_wp2_with fail
        go_at_call 52
        refine (inline_spec t _).mono ?_
        rw [HI.out]
        rintro e w2 ⟨rfl, hb⟩
        clear x0 x1 x2 x3; replace HB := Lib.hid (pure_below HB.out hb); replace HX := Lib.hid (HX.out.pure hb); replace HL := Lib.hid (HL.out.pure hb); clear hb; have x0 := cell0 HX.out; have x1 := cell1 HX.out; have x2 := cell2 HX.out; have x3 := cell3 HX.out
        go_wp2_with fail
        go_at_call 53
        refine (target_spec A _ c p q t V l _ HL.out hc hn).mono ?_
        rintro e w3 ⟨rfl, hb⟩
        clear x0 x1 x2 x3; replace HB := Lib.hid (pure_below HB.out hb); replace HX := Lib.hid (HX.out.pure hb); replace HL := Lib.hid (HL.out.pure hb); clear hb; have x0 := cell0 HX.out; have x1 := cell1 HX.out; have x2 := cell2 HX.out; have x3 := cell3 HX.out
        rcases HP.out with ⟨h1, he⟩ | ⟨h0, h5, he⟩ | ⟨h0, h5, h6, he⟩ | ⟨h0, h5, h6, he⟩
        · have hne : (tgtE l p q t V != 0) = true := by simpa using h1
          have HE := Lib.hid he
          have HN := Lib.hid h1
          clear h1 he HP
          go_wp2
          go_ret3
          exact plcw_no HE.out HN.out HB.out
        · have HE := Lib.hid he
          have htr := tgt_rg h0
          rw [h0]
          obtain ⟨a, ha⟩ : ∃ a : Nat, tgt l p q t V = a := ⟨(tgt l p q t V).toNat, by omega⟩
          rw [ha] at h5 ⊢
          have hm2 : ((a : Int) % (V : Int) != 0) = true := by simpa using h5
          clear h0 h5 he HP ha htr
          go_wp2
          go_ret3
          exact plcw_no HE.out (by decide) HB.out
        · have HE := Lib.hid he
          have htr := tgt_rg h0
          rw [h0]
          obtain ⟨a, ha⟩ : ∃ a : Nat, tgt l p q t V = a := ⟨(tgt l p q t V).toNat, by omega⟩
          rw [ha] at h5 h6 ⊢
          have hm2 : ((a : Int) % (V : Int) != 0) = false := by simpa using h5
          have HIN := Lib.hid h6
          clear h0 h5 h6 he HP ha htr
          go_wp2_with fail
          go_at_call 119
          refine (inside_spec A _ c a V _ hn).mono ?_
          rw [HIN.out]
          rintro e w4 ⟨rfl, rfl⟩
          go_wp2
          go_ret3
          exact plcw_no HE.out (by decide) HB.out
        · have HE := Lib.hid he
          have htr := tgt_rg h0
          rw [h0]
          obtain ⟨a, ha⟩ : ∃ a : Nat, tgt l p q t V = a := ⟨(tgt l p q t V).toNat, by omega⟩
          have HTA := Lib.hid ha
          rw [ha] at h5 h6 ⊢
          have hm2 : ((a : Int) % (V : Int) != 0) = false := by simpa using h5
          have HIN := Lib.hid h6
          clear h0 h5 h6 he HP ha htr
          go_wp2_with fail
          go_at_call 119
          refine (inside_spec A _ c a V _ hn).mono ?_
          rw [HIN.out]
          rintro e w4 ⟨rfl, rfl⟩
          go_wp2_with fail
          go_quiet (fail)
          go_wp2
          go_ret3
          exact plcw_yes HE.out (by rw [if_neg (by rw [HI.out]; decide)]; exact HTA.out) (if_neg (by rw [HI.out]; decide)) (below_drewN HB.out _)
end Go.Proofs.YtejalfjeihlpeaaGreat

namespace Go.Proofs.YtejalfjeihlpeaaGreat
open Go.RowKit Go.Acc
def rdN (l : List UInt8) (t a x : Int) : Bool := decide ((t = 1 ∨ t = 6) ∧ loadI l a x < 0)
def rdU (l : List UInt8) (t a x : Int) : Nat := if t = 0 then 0 else if t = 26 then min (loadU l a x) 1 else if t = 1 ∨ t = 6 then (loadI l a x).natAbs else loadU l a x
/-- The sign and the amount that a reference leads to. -/
def scN (l : List UInt8) (p q t v : Int) : Bool := decide (plcE l p q t v = 0) && rdN l t (plcA l p q t v) (plcW l p q t v)
def scU (l : List UInt8) (p q t v : Int) : Nat := if plcE l p q t v = 0 then rdU l t (plcA l p q t v) (plcW l p q t v) else 0
theorem cell_far {w : World} {p q : Addr} {u v : Value} (h : q.block ≠ p.block) (hc : w.cell? q = some v) : (w.setCell p u).cell? q = some v :=
  (World.cell?_of_block (w := w) (Below.heap_setCell w p u q.block h)).trans hc
theorem rd_look2 {t : Int} {F : Value} (h : rdF t = some F) (W : World) (g : Nat) (hb : W.heap[g]? = some (.map rdEs 6)) :
    (Instr.lookup 143 (.map (some g)) (.int .i64 t) false).run Tryz.prog W = .ok F W := by
  have := rd_look t W g hb false
  rw [h] at this
  exact this
theorem plc_isS {l : List UInt8} {p q t v : Int} (h : plcE l p q t v = 0) : isS t = true := by
  rcases plc_cases l p q t v with ⟨h1, e⟩ | ⟨_, ⟨_, e⟩ | ⟨h1, _⟩ | ⟨h1, _⟩⟩
  · rw [e] at h; exact absurd h h1
  · rw [e] at h; cases h
  · exact h1
  · exact h1
end Go.Proofs.YtejalfjeihlpeaaGreat

namespace Go.Proofs.YtejalfjeihlpeaaGreat
open Go.Acc

/-- A fact that no tactic looks into. -/
structure Shut (p : Prop) : Prop where
  out : p

theorem leBytes_mod (n u : Nat) : leBytes n (u % 2 ^ (8 * n)) = leBytes n u := by
  unfold leBytes
  refine List.map_congr_left fun i hi => ?_
  have hi : i < n := List.mem_range.1 hi
  apply UInt8.toNat_inj.1
  rw [UInt8.toNat_ofNat', UInt8.toNat_ofNat']
  have e : 2 ^ (8 * n) = 2 ^ (8 * i) * (2 ^ 8 * 2 ^ (8 * (n - i - 1))) := by
    rw [← Nat.pow_add, ← Nat.pow_add]
    congr 1
    omega
  rw [e, Nat.mod_mul_right_div_self]
  exact Nat.mod_mul_right_mod _ _ _
theorem leBytes_congr {n u v : Nat} (h : u % 2 ^ (8 * n) = v % 2 ^ (8 * n)) : leBytes n u = leBytes n v := by
  rw [← leBytes_mod n u, h, leBytes_mod]
theorem leBytes_leVal (l : List UInt8) : leBytes l.length (leVal l) = l := by
  generalize hn : l.length = n
  induction n generalizing l with
  | zero => rw [List.eq_nil_of_length_eq_zero hn]; rfl
  | succ n ih =>
    obtain ⟨l', c, rfl⟩ : ∃ l' c, l = l' ++ [c] := ⟨l.dropLast, l.getLast (by intro e; simp [e] at hn), (List.dropLast_concat_getLast _).symm⟩
    have hn' : l'.length = n := by simpa using hn
    have hlt := leVal_lt l'
    rw [hn'] at hlt
    rw [leBytes_succ, leVal_snoc, hn']
    congr 1
    · rw [← leBytes_mod, Nat.add_mul_mod_self_right, Nat.mod_eq_of_lt hlt]
      exact ih l' hn'
    · congr 1
      rw [Nat.add_mul_div_right _ _ (Nat.two_pow_pos _), Nat.div_eq_of_lt hlt, Nat.zero_add]
      simp
theorem leVal_leBytes_lt {n u : Nat} (h : u < 2 ^ (8 * n)) : leVal (leBytes n u) = u := by
  rw [leVal_leBytes, Nat.mod_eq_of_lt h]

theorem sx_fits {y u : Nat} (hy : isW (y : Int) = true) (hu : u < 2 ^ (8 * y)) : fitsI y (sx y u) = true := by
  rw [fitsI_iff]
  rcases w_cases hy with rfl | rfl | rfl | rfl
  · right; unfold sx; split <;> simp only [Nat.reduceMul, Nat.reduceSub, Nat.reducePow] at * <;> omega
  · right; unfold sx; split <;> simp only [Nat.reduceMul, Nat.reduceSub, Nat.reducePow] at * <;> omega
  · right; unfold sx; split <;> simp only [Nat.reduceMul, Nat.reduceSub, Nat.reducePow] at * <;> omega
  · left; rfl
theorem sx_mod {y u : Nat} (hy : isW (y : Int) = true) (hu : u < 2 ^ (8 * y)) : (sx y u % 18446744073709551616).toNat % 2 ^ (8 * y) = u % 2 ^ (8 * y) := by
  rcases w_cases hy with rfl | rfl | rfl | rfl <;> unfold sx <;> split <;> simp only [Nat.reduceMul, Nat.reduceSub, Nat.reducePow] at * <;> omega
theorem sx_bd {y u : Nat} (hy : isW (y : Int) = true) (hu : u < 2 ^ (8 * y)) : -9223372036854775808 ≤ sx y u ∧ sx y u ≤ 9223372036854775807 := by
  rcases w_cases hy with rfl | rfl | rfl | rfl <;> unfold sx <;> split <;> simp only [Nat.reduceMul, Nat.reduceSub, Nat.reducePow] at * <;> omega
theorem u_small {y u : Nat} (hy : isW (y : Int) = true) (hu : u < 2 ^ (8 * y)) : (u : Int) < 18446744073709551616 := by
  rcases w_cases hy with rfl | rfl | rfl | rfl <;> simp only [Nat.reduceMul, Nat.reducePow] at * <;> omega
theorem fitsU_of {y u : Nat} (hu : u < 2 ^ (8 * y)) : fitsU y u = true := decide_eq_true (.inr hu)
theorem sx_bytes {y u : Nat} (hy : isW (y : Int) = true) (hu : u < 2 ^ (8 * y)) : leBytes y (sx y u % 18446744073709551616).toNat = leBytes y u := leBytes_congr (sx_mod hy hu)

theorem fits_lt {y u : Nat} (h : fitsU y u = true) (hu : (u : Int) < 18446744073709551616) : u < 2 ^ (8 * y) := by
  rcases of_decide_eq_true h with rfl | h
  · simp only [Nat.reduceMul, Nat.reducePow]; omega
  · exact h
/-! a stretch of a list replaced -/
theorem mid_len {l p : List UInt8} {k y : Nat} (hp : p.length = y) (hk : k + y ≤ l.length) : (l.take k ++ p ++ l.drop (k + y)).length = l.length := by simp; omega
theorem mid_part {l p : List UInt8} {k y : Nat} (hp : p.length = y) (hk : k + y ≤ l.length) : ((l.take k ++ p ++ l.drop (k + y)).drop k).take y = p := by
  rw [List.append_assoc, List.drop_left' (by simp; omega), List.take_left' hp]
theorem mid_back {l p : List UInt8} {k y : Nat} (hp : p.length = y) (hk : k + y ≤ l.length) : (l.take k ++ p ++ l.drop (k + y)).take k ++ (l.drop k).take y ++ (l.take k ++ p ++ l.drop (k + y)).drop (k + y) = l := by
  have e1 : (l.take k ++ p ++ l.drop (k + y)).take k = l.take k := by rw [List.append_assoc, List.take_left' (by simp; omega)]
  have e2 : (l.take k ++ p ++ l.drop (k + y)).drop (k + y) = l.drop (k + y) := by rw [List.drop_left' (by simp; omega)]
  rw [e1, e2, List.append_assoc, show l.drop (k + y) = (l.drop k).drop y from by rw [List.drop_drop], List.take_append_drop, List.take_append_drop]
theorem mid_get {l p : List UInt8} {k y i : Nat} (hp : p.length = y) (hk : k + y ≤ l.length) (hi : i < k ∨ k + y ≤ i) : (l.take k ++ p ++ l.drop (k + y))[i]? = l[i]? := by
  rcases hi with hi | hi
  · rw [List.append_assoc, List.getElem?_append_left (by simp; omega), List.getElem?_take, if_pos hi]
  · rw [List.getElem?_append_right (by simp; omega), List.getElem?_drop]
    congr 1
    simp
    omega
end Go.Proofs.YtejalfjeihlpeaaGreat

namespace Go.Proofs.YtejalfjeihlpeaaGreat
open Go.RowKit Go.Acc
def top63 (u : Nat) : Bool := decide (9223372036854775808 ≤ u)
def intV (l : List UInt8) (p q t v : Int) : Int := if scN l p q t v = true then -(scU l p q t v : Int) else if top63 (scU l p q t v) = true then 0 else scU l p q t v
def intE (l : List UInt8) (p q t v : Int) : Int := if plcE l p q t v ≠ 0 then plcE l p q t v else if scN l p q t v = true then 0 else if top63 (scU l p q t v) = true then 10 else 0
def uintV (l : List UInt8) (p q t v : Int) : Nat := if scN l p q t v = true then 0 else scU l p q t v
def uintE (l : List UInt8) (p q t v : Int) : Int := if plcE l p q t v ≠ 0 then plcE l p q t v else if scN l p q t v = true then 10 else 0
def boolV (l : List UInt8) (p q t v : Int) : Bool := (scU l p q t v : Int) != 0
theorem rdU_lt (l : List UInt8) (t a x : Int) : (rdU l t a x : Int) < 18446744073709551616 := by
  have h1 := loadU_64 l a x
  have h2 := loadI_64 l a x
  unfold rdU
  split
  · omega
  · split
    · omega
    · split <;> omega
theorem scU_lt (l : List UInt8) (p q t v : Int) : (scU l p q t v : Int) < 18446744073709551616 := by
  unfold scU
  split
  · exact rdU_lt ..
  · omega
theorem sc_neg {l : List UInt8} {p q t v : Int} (h : scN l p q t v = true) : plcE l p q t v = 0 ∧ 1 ≤ scU l p q t v ∧ (scU l p q t v : Int) ≤ 9223372036854775808 := by
  unfold scN at h
  rw [Bool.and_eq_true, decide_eq_true_eq] at h
  obtain ⟨h1, h2⟩ := h
  refine ⟨h1, ?_⟩
  unfold scU
  rw [if_pos h1]
  unfold rdN at h2
  rw [decide_eq_true_eq] at h2
  have h3 := loadI_64 l (plcA l p q t v) (plcW l p q t v)
  unfold rdU
  rw [if_neg (by omega), if_neg (by omega), if_pos h2.1]
  omega
theorem sc_bad {l : List UInt8} {p q t v : Int} (h : plcE l p q t v ≠ 0) : scN l p q t v = false ∧ scU l p q t v = 0 := by
  unfold scN scU
  rw [if_neg h, decide_eq_false h]
  exact ⟨rfl, rfl⟩
theorem wrap_neg (u : Nat) (h1 : 1 ≤ u) (h2 : (u : Int) ≤ 9223372036854775808) : wrap64 (IntKind.u64.wrap (-(u : Int))) = -(u : Int) := by
  rw [IntKind.wrap_u64]
  unfold wrap64
  omega
theorem top_yes {u : Nat} (h : top63 u = true) : decide ((9223372036854775808 : Int) ≤ (u : Int)) = true := by
  unfold top63 at h
  rw [decide_eq_true_eq] at h ⊢
  omega
theorem top_no {u : Nat} (h : top63 u = false) : decide ((9223372036854775808 : Int) ≤ (u : Int)) = false := by
  unfold top63 at h
  rw [decide_eq_false_iff_not] at h ⊢
  omega
theorem wrap_top {u : Nat} (h : top63 u = false) : wrap64 (u : Int) = u := by
  unfold top63 at h
  rw [decide_eq_false_iff_not] at h
  exact wrap64_in _ (by omega)
end Go.Proofs.YtejalfjeihlpeaaGreat
