/-
  Package scalar's reference: Place, the number, Int, Uint, Bool.
  Package scalar's reference: Int, Uint, Bool.
  Package scalar: the examples of the chapter; the property ScalarReads.
  Chapter 28 in plain terms: what a visit does.
  A map whose keys are structs of three numbers, as a list of the keys stored.
  Package cover: the use of a reference, the closure that collects the parts.
-/
import Derived.Test.YtejalfjeihlpeaaGreatQ22
namespace Go.Proofs.YtejalfjeihlpeaaGreat
open Go.RowKit Go.Acc
theorem isS_67 {t : Int} (h : isS t = true) (hi : inlineT t = false) : t = 6 ∨ t = 7 := by
  rcases rd_cases h with rfl | rfl | rfl | rfl | rfl | rfl
  · exact absurd hi (by decide)
  · exact absurd hi (by decide)
  · exact absurd hi (by decide)
  · exact .inl rfl
  · exact .inr rfl
  · exact absurd hi (by decide)
theorem isS_no {t : Int} (h : isS t = false) : (t != 6) = true ∧ (t != 7) = true := by
  constructor
  · rw [bne_iff_ne]; rintro rfl; exact absurd h (by decide)
  · rw [bne_iff_ne]; rintro rfl; exact absurd h (by decide)
set_option maxRecDepth 100000 in
set_option maxHeartbeats 1000000 in
theorem rsplace_spec (A : Option Addr) (n c : Nat) (p q t v : Int) (l : List UInt8) (w : World) (h : IsB w A n l) (hn : n ≤ 9223372036854775807) :
    Calls Tryz.prog 68 #[.slice A n c, .agg #[.int .i64 p, .int .i64 q, .int .i64 t, .int .i64 v]] w (PlcW w l p q t v) := by
  have hlen := h.1
  subst hlen
  have HL := Lib.hid (h.alloc (.cells #[.int .i64 p, .int .i64 q, .int .i64 t, .int .i64 v] 48))
  have HB := Lib.hid ((Below.refl w.heap.size w).alloc (Nat.le_refl _) (.cells #[.int .i64 p, .int .i64 q, .int .i64 t, .int .i64 v] 48))
  have HX := Lib.hid (Blk.new w 48 #[.int .i64 p, .int .i64 q, .int .i64 t, .int .i64 v])
  have hpc := plc_cases l p q t v
  clear h
  go_enter Tryz.func68, Tryz.ntmps68
  go_wp2_with fail
  go_at_call 98
  refine (rmay_spec A _ c p q t v _ hn).mono ?_
  have x0 := cell0 HX.out
  have x1 := cell1 HX.out
  have x2 := cell2 HX.out
  have x3 := cell3 HX.out
  rintro e w1 ⟨rfl, hb⟩
  clear x0 x1 x2 x3; replace HB := Lib.hid (pure_below HB.out hb); replace HX := Lib.hid (HX.out.pure hb); replace HL := Lib.hid (HL.out.pure hb); clear hb; have x0 := cell0 HX.out; have x1 := cell1 HX.out; have x2 := cell2 HX.out; have x3 := cell3 HX.out
  rcases hpc with ⟨hm, he⟩ | ⟨hm, hpc⟩
  · have HE := Lib.hid he
    have hne : (mayE l.length p q t v != 0) = true := by simpa using hm
    have HM := Lib.hid hm
    clear he hm
    go_wp2
    go_ret3
    exact plcw_no HE.out HM.out HB.out
  · obtain ⟨g1, g2⟩ := mayE_ok.1 hm
    have g2 := inB_iff.1 g2
    have g1 := formed_iff.1 g1
    have v1 := isW_iff.1 g1.2.2
    rw [hm]
    obtain ⟨V, rfl⟩ : ∃ V : Nat, v = V := ⟨v.toNat, by omega⟩
    have hv1 : 1 ≤ V := by omega
    have hv8 : V ≤ 8 := by omega
    have hvz : (V == 0) = false := beq_eq_false_iff_ne.mpr (by omega)
    clear g1 g2 v1
    have HPC := Lib.hid hpc
    have HM := Lib.hid hm
    clear hpc hm
    go_wp2_with fail
    go_at_call 63
    refine (rinline_spec t _).mono ?_
    rintro e w2 ⟨rfl, rfl⟩
    rcases HPC.out with ⟨h1, he⟩ | ⟨h1, h2, he⟩ | ⟨h1, h2, hpc⟩
    · have HE := Lib.hid he
      have hi : inlineT t = false := by
        cases hi : inlineT t with
        | false => rfl
        | true => exact absurd (inline_rd hi) (by rw [h1]; decide)
      obtain ⟨n6, n7⟩ := isS_no h1
      rw [hi]
      clear he h1 HPC hi
      go_wp2
      go_ret3
      exact plcw_no HE.out (by decide) HB.out
    · have HE := Lib.hid he
      have HI := Lib.hid h2
      rw [h2]
      clear he h1 HPC h2
      go_wp2_with fail
      go_quiet (fail)
      go_wp2
      go_ret3
      exact plcw_yes HE.out (if_pos HI.out) (if_pos HI.out) (below_drewN HB.out _)
    · have HI := Lib.hid h2
      have HP := Lib.hid hpc
      have h67 := isS_67 h1 h2
      have h67' : ((t != 6) = false) ∨ ((t != 6) = true ∧ (t != 7) = false) := by
        rcases h67 with rfl | rfl
        · exact .inl rfl
        · exact .inr ⟨rfl, rfl⟩
      rw [h2]
      clear h1 HPC h2 hpc h67
      rcases h67' with n6 | ⟨n6, n7⟩
      all_goals
        go_wp2_with fail
        go_at_call 65
        refine (rtarget_spec A _ c p q t V l _ HL.out hn).mono ?_
        rintro e w3 ⟨rfl, hb⟩
        clear x0 x1 x2 x3; replace HB := Lib.hid (pure_below HB.out hb); replace HX := Lib.hid (HX.out.pure hb); replace HL := Lib.hid (HL.out.pure hb); clear hb; have x0 := cell0 HX.out; have x1 := cell1 HX.out; have x2 := cell2 HX.out; have x3 := cell3 HX.out
        rcases HP.out with ⟨h1, he⟩ | ⟨h0, h5, he⟩ | ⟨h0, h5, h6, he⟩ | ⟨h0, h5, h6, he⟩
        · have hne : (tgtE l p q t V != 0) = true := by simpa using h1
          have HE := Lib.hid he
          have HN := Lib.hid h1
          clear h1 he HP
          go_wp2
          go_ret3
          exact plcw_no HE.out HN.out HB.out
        · have HE := Lib.hid he
          have htr := tgt_rg h0
          rw [h0]
          obtain ⟨a, ha⟩ : ∃ a : Nat, tgt l p q t V = a := ⟨(tgt l p q t V).toNat, by omega⟩
          rw [ha] at h5 ⊢
          have hm2 : ((a : Int) % (V : Int) != 0) = true := by simpa using h5
          clear h0 h5 he HP ha htr
          go_wp2
          go_ret3
          exact plcw_no HE.out (by decide) HB.out
        · have HE := Lib.hid he
          have htr := tgt_rg h0
          rw [h0]
          obtain ⟨a, ha⟩ : ∃ a : Nat, tgt l p q t V = a := ⟨(tgt l p q t V).toNat, by omega⟩
          rw [ha] at h5 h6 ⊢
          have hm2 : ((a : Int) % (V : Int) != 0) = false := by simpa using h5
          have HIN := Lib.hid h6
          clear h0 h5 h6 he HP ha htr
          go_wp2_with fail
          go_at_call 101
          refine (rinside_spec A _ c a V _ hn).mono ?_
          rw [HIN.out]
          rintro e w4 ⟨rfl, rfl⟩
          go_wp2
          go_ret3
          exact plcw_no HE.out (by decide) HB.out
        · have HE := Lib.hid he
          have htr := tgt_rg h0
          rw [h0]
          obtain ⟨a, ha⟩ : ∃ a : Nat, tgt l p q t V = a := ⟨(tgt l p q t V).toNat, by omega⟩
          have HTA := Lib.hid ha
          rw [ha] at h5 h6 ⊢
          have hm2 : ((a : Int) % (V : Int) != 0) = false := by simpa using h5
          have HIN := Lib.hid h6
          clear h0 h5 h6 he HP ha htr
          go_wp2_with fail
          go_at_call 101
          refine (rinside_spec A _ c a V _ hn).mono ?_
          rw [HIN.out]
          rintro e w4 ⟨rfl, rfl⟩
          go_wp2_with fail
          go_quiet (fail)
          go_wp2
          go_ret3
          exact plcw_yes HE.out (by rw [if_neg (by rw [HI.out]; decide)]; exact HTA.out) (if_neg (by rw [HI.out]; decide)) (below_drewN HB.out _)
theorem ret_b2 {k : IntKind} {s s' : Bool} {a b : Int} {v : Value} (h : s = s') (h' : a = b) : Ending.returned (.tuple #[.bool s, .int k a, v]) = .returned (.tuple #[.bool s', .int k b, v]) := by rw [h, h']
end Go.Proofs.YtejalfjeihlpeaaGreat

namespace Go.Proofs.YtejalfjeihlpeaaGreat
open Go.RowKit Go.Acc
theorem top_yes2 {u : Nat} (h : top63 u = true) : decide ((9223372036854775807 : Int) < (u : Int)) = true := by
  unfold top63 at h
  rw [decide_eq_true_eq] at h ⊢
  omega
theorem top_no2 {u : Nat} (h : top63 u = false) : decide ((9223372036854775807 : Int) < (u : Int)) = false := by
  unfold top63 at h
  rw [decide_eq_false_iff_not] at h ⊢
  omega
theorem wrap_back (u : Nat) (h1 : 1 ≤ u) (h2 : (u : Int) ≤ 9223372036854775808) : wrap64 (wrap64 (-wrap64 ((u : Int) - 1)) - 1) = -(u : Int) := by
  unfold wrap64
  omega
end Go.Proofs.YtejalfjeihlpeaaGreat

namespace Go.Proofs.YtejalfjeihlpeaaGreat
open Go.RowKit Go.Acc
theorem plc_is (A : Option Addr) (n c : Nat) (p q t v : Int) (l : List UInt8) (a x er : Int) (w : World) (h : IsB w A n l) (hc : n ≤ c) (hn : n ≤ 9223372036854775807) (h0 : plcA l p q t v = a) (h1 : plcW l p q t v = x) (h2 : plcE l p q t v = er) :
    Calls Tryz.prog 89 #[.slice A n c, .agg #[.int .i64 p, .int .i64 q, .int .i64 t, .int .i64 v]] w fun e w' => e = .returned (.tuple #[.int .i64 a, .int .i64 x, .int .i64 er]) ∧ Below w.heap.size w w' := by
  subst h0 h1 h2
  exact splace_spec A n c p q t v l w h hc hn
end Go.Proofs.YtejalfjeihlpeaaGreat

namespace Go.Proofs.YtejalfjeihlpeaaGreat
open Go.RowKit Go.Acc
/-- A reference. -/
structure Rq where
  p : Int
  q : Int
  t : Int
  v : Int
/-- Three numbers: a part, or data visited. -/
abbrev P3 := Int × Int × Int
/-- The fuel left, the data visited, the parts told. -/
structure CvS where
  left : Int
  had : List P3
  out : List P3
def cvOwn (t : Int) : Int := if t = 0 then 1 else if t = 1 then 2 else if t = 2 then 3 else if t = 26 then 4 else 5
def CvS.tell (s : CvS) (a b c : Int) : CvS := if a < b then { s with out := s.out ++ [(a, b, c)] } else s
def CvS.burn (s : CvS) : CvS := { s with left := s.left - 1 }
def CvS.see (s : CvS) (x : P3) : CvS := { s with had := s.had ++ [x] }
section
variable (l : List UInt8) (go : Rq → CvS → CvS × Int) (r : Rq)
def cvText (s : CvS) : CvS × Int :=
  if fndE l r.p r.q r.t r.v [4, 5, 25] ≠ 0 then (s, fndE l r.p r.q r.t r.v [4, 5, 25])
  else if r.t = 4 then (s.tell (fndA l r.p r.q r.t r.v [4, 5, 25]) (fndA l r.p r.q r.t r.v [4, 5, 25] + (fndL l r.p r.q r.t r.v [4, 5, 25]).length + 1) 9, 0)
  else if r.t = 5 then ((s.tell (fndA l r.p r.q r.t r.v [4, 5, 25] - r.v) (fndA l r.p r.q r.t r.v [4, 5, 25]) 6).tell (fndA l r.p r.q r.t r.v [4, 5, 25]) (fndA l r.p r.q r.t r.v [4, 5, 25] + (fndL l r.p r.q r.t r.v [4, 5, 25]).length + 1) 10, 0)
  else ((s.tell (fndA l r.p r.q r.t r.v [4, 5, 25] - r.v) (fndA l r.p r.q r.t r.v [4, 5, 25]) 6).tell (fndA l r.p r.q r.t r.v [4, 5, 25]) (fndA l r.p r.q r.t r.v [4, 5, 25] + (fndL l r.p r.q r.t r.v [4, 5, 25]).length) 11, 0)
def cvApart (s : CvS) : CvS × Int :=
  if plcE l r.p r.q r.t r.v = 0 then (s.tell (plcA l r.p r.q r.t r.v) (plcA l r.p r.q r.t r.v + plcW l r.p r.q r.t r.v) (if r.t = 6 then 12 else 13), 0)
  else (s, plcE l r.p r.q r.t r.v)
def cvKey : Rq := ⟨kyP l r.p r.q r.t r.v, kyQ l r.p r.q r.t r.v, kyT l r.p r.q r.t r.v, kyV l r.p r.q r.t r.v⟩
def cvAt (i : Nat) : Rq := ⟨atP l r.p r.q r.t r.v i, atQ l r.p r.q r.t r.v i, atT l r.p r.q r.t r.v i, atV l r.p r.q r.t r.v i⟩
def cvKeys (s : CvS) : CvS × Int :=
  if kyE l r.p r.q r.t r.v ≠ 0 then (s, kyE l r.p r.q r.t r.v)
  else if (go (cvKey l r) s).2 ≠ 0 then go (cvKey l r) s
  else ((go (cvKey l r) s).1.tell (lsFrom l r.p r.q r.t r.v + r.v) (lsFrom l r.p r.q r.t r.v + 2 * r.v) 7, 0)
def cvTag (i : Nat) (s : CvS) : CvS :=
  if tagT r.t = true then s.tell ((lsAt l r.p r.q r.t r.v : Int) + lsLen l r.p r.q r.t r.v * r.v + i) ((lsAt l r.p r.q r.t r.v : Int) + lsLen l r.p r.q r.t r.v * r.v + i + 1) 8 else s
def cvElems : Nat → Nat → CvS → CvS × Int
  | 0, _, s => (s, 0)
  | k + 1, i, s =>
    if atE l r.p r.q r.t r.v i ≠ 0 then (cvTag l r i s, atE l r.p r.q r.t r.v i)
    else if (go (cvAt l r i) (cvTag l r i s)).2 ≠ 0 then go (cvAt l r i) (cvTag l r i s)
    else cvElems k (i + 1) (go (cvAt l r i) (cvTag l r i s)).1
def cvLen (s : CvS) : CvS := if lsFrom l r.p r.q r.t r.v < lsAt l r.p r.q r.t r.v then s.tell ((lsAt l r.p r.q r.t r.v : Int) - r.v) (lsAt l r.p r.q r.t r.v) 6 else s
def cvHead (s : CvS) : CvS × Int := if r.t = 9 then cvKeys l go r s else (s, 0)
def cvList (s : CvS) : CvS × Int :=
  if lsE l r.p r.q r.t r.v ≠ 0 then (s, lsE l r.p r.q r.t r.v)
  else if (cvHead l go r s).2 ≠ 0 then cvHead l go r s
  else cvElems l go r (lsLen l r.p r.q r.t r.v) 0 (cvLen l r (cvHead l go r s).1)
def cvData (s : CvS) : CvS × Int := if isIn [4, 5, 25] r.t = true then cvText l r s else if r.t = 6 ∨ r.t = 7 then cvApart l r s else cvList l go r s
def cvSpot : P3 := (tgt l r.p r.q r.t r.v, r.t, r.v)
end
def cvStart (r : Rq) (s : CvS) : CvS := s.burn.tell r.p (r.p + r.q) (cvOwn r.t)
/-- A visit, at most d deep. -/
def cvCome (l : List UInt8) : Nat → Rq → CvS → CvS × Int
  | 0, _, s => (s, 260)
  | d + 1, r, s =>
    if s.left < 1 then (s, 260)
    else if inlineT r.t = true then (cvStart r s, 0)
    else if tgtE l r.p r.q r.t r.v ≠ 0 ∨ cvSpot l r ∈ s.had then (cvStart r s, tgtE l r.p r.q r.t r.v)
    else cvData l (cvCome l d) r ((cvStart r s).see (cvSpot l r))
end Go.Proofs.YtejalfjeihlpeaaGreat

namespace Go.Acc
open Go.RowKit
/-- Three numbers as a struct. -/
def spV (x : Int × Int × Int) : Value := .agg #[.int .i64 x.1, .int .i64 x.2.1, .int .i64 x.2.2]
/-- Block b is a map in which just the keys l are, each with the value true. -/
def MapS (w : World) (b : Nat) (l : List (Int × Int × Int)) : Prop :=
  ∃ es k, w.heap[b]? = some (.map es k) ∧ es.toList.map (·.key) = l.map spV ∧ ∀ x ∈ es.toList, x.val = .bool true
theorem MapS.lt {w : World} {b : Nat} {l : List (Int × Int × Int)} (h : MapS w b l) : b < w.heap.size := by
  obtain ⟨es, k, hb, _⟩ := h
  exact (Array.getElem?_eq_some_iff.1 hb).1
theorem MapS.fr {w w' : World} {b : Nat} {l : List (Int × Int × Int)} {S : Nat → Prop} (h : MapS w b l) (hf : Fr S w w') (hs : ¬ S b) : MapS w' b l := by
  obtain ⟨es, k, hb, r⟩ := h
  exact ⟨es, k, by rw [hf.block b (Array.getElem?_eq_some_iff.1 hb).1 hs]; exact hb, r⟩
theorem MapS.pure {w w' : World} {b : Nat} {l : List (Int × Int × Int)} (h : MapS w b l) (hf : Below w.heap.size w w') : MapS w' b l :=
  h.fr (Fr.of_below hf fun _ => False) (fun h => h)
section
variable {P : Program} {mt kt et : TypeId} {fs : Array Field}
theorem run_ask (heq : ∀ (x y : Int × Int × Int) (W : World), (Op.equal kt (spV x) (spV y)).run P W = .ok (decide (x = y)) W) (x : Int × Int × Int) (W : World) :
    ∀ (l : List (Int × Int × Int)) (es : List MapEntry) (i : Nat), es.map (·.key) = l.map spV → (∀ y ∈ es, y.val = .bool true) →
      ∃ r : Option (Nat × Value), (Instr.findAsking kt (spV x) es i).run P W = .ok r W ∧ r.isSome = decide (x ∈ l) ∧ ∀ p, r = some p → p.2 = .bool true
  | [], [], i, _, _ => ⟨none, by simp [Instr.findAsking], by simp, by simp⟩
  | [], _ :: _, _, h, _ => by simp at h
  | _ :: _, [], _, h, _ => by simp at h
  | y :: l, e :: es, i, h, hv => by
    simp only [List.map_cons, List.cons.injEq] at h
    by_cases hxy : x = y
    · refine ⟨some (i, e.val), ?_, by simp [hxy], fun p hp => ?_⟩
      · simp only [Instr.findAsking, Sem.run_bind, h.1, heq, Result.andThen_ok, decide_eq_true hxy, if_true, Sem.run_pure]
      · injection hp with hp; subst hp; exact hv e (by simp)
    · obtain ⟨r, h1, h2, h3⟩ := run_ask heq x W l es (i + 1) h.2 (fun z hz => hv z (by simp [hz]))
      refine ⟨r, ?_, ?_, h3⟩
      · simp only [Instr.findAsking, Sem.run_bind, h.1, heq, Result.andThen_ok, decide_eq_false hxy]
        rw [if_neg (by decide)]
        exact h1
      · rw [h2]; simp [hxy]
theorem run_findS (hk : P.underlying kt = some (.struct fs)) (heq : ∀ (x y : Int × Int × Int) (W : World), (Op.equal kt (spV x) (spV y)).run P W = .ok (decide (x = y)) W) (x : Int × Int × Int) (W : World)
    (l : List (Int × Int × Int)) (es : List MapEntry) (h : es.map (·.key) = l.map spV) (hv : ∀ y ∈ es, y.val = .bool true) :
      ∃ r : Option (Nat × Value), (Instr.findKey kt (spV x) es).run P W = .ok r W ∧ r.isSome = decide (x ∈ l) ∧ ∀ p, r = some p → p.2 = .bool true := by
  obtain ⟨r, h1, h2, h3⟩ := run_ask heq x W l es 0 h hv
  refine ⟨r, ?_, h2, h3⟩
  cases es with
  | nil =>
    simp only [Instr.findAsking, Sem.run_pure] at h1
    rw [← h1]
    simp [Instr.findKey, run_underlying hk, Instr.findNow, Result.andThen]
  | cons e es => simp [Instr.findKey, run_underlying hk, Instr.findNow, Instr.sameNow, Result.andThen, h1]
/-- Looking up a key. -/
theorem run_lookS (hu : P.underlying mt = some (.map kt et)) (hk : P.underlying kt = some (.struct fs)) (heq : ∀ (x y : Int × Int × Int) (W : World), (Op.equal kt (spV x) (spV y)).run P W = .ok (decide (x = y)) W)
    (hck : ∀ (x : Int × Int × Int) (e : Bool) (W : World), (Instr.checkKey e 10000 kt (spV x)).run P W = .ok () W) (hz : ∀ W, (zeroValue et).run P W = .ok (.bool false) W)
    (b : Nat) (l : List (Int × Int × Int)) (x : Int × Int × Int) (W : World) (h : MapS W b l) : (Instr.lookup mt (.map (some b)) (spV x) false).run P W = .ok (.bool (decide (x ∈ l))) W := by
  obtain ⟨es, k, hb, h1, h2⟩ := h
  obtain ⟨r, h3, h4, h5⟩ := run_findS hk heq x W l es.toList h1 h2
  rw [← h4]
  cases r with
  | none =>
    simp only [Instr.lookup, Sem.run_bind, run_underlying hu, Result.andThen_ok, MapKept.run_getObj_map hb, hck, h3, hz, Sem.run_pure]
    rfl
  | some p =>
    obtain ⟨i, u⟩ := p
    obtain rfl : u = .bool true := h5 _ rfl
    simp only [Instr.lookup, Sem.run_bind, run_underlying hu, Result.andThen_ok, MapKept.run_getObj_map hb, hck, h3, Sem.run_pure]
    rfl
/-- Storing under a new key. -/
theorem run_insS (hu : P.underlying mt = some (.map kt et)) (hk : P.underlying kt = some (.struct fs)) (heq : ∀ (x y : Int × Int × Int) (W : World), (Op.equal kt (spV x) (spV y)).run P W = .ok (decide (x = y)) W)
    (hck : ∀ (x : Int × Int × Int) (e : Bool) (W : World), (Instr.checkKey e 10000 kt (spV x)).run P W = .ok () W)
    (b : Nat) (l : List (Int × Int × Int)) (x : Int × Int × Int) (W : World) (h : MapS W b l) (hx : x ∉ l) :
    ∃ W', (Instr.mapUpdate mt (.map (some b)) (spV x) (.bool true)).run P W = .ok () W' ∧ MapS W' b (l ++ [x]) ∧ Fr (fun k => k = b) W W' ∧ W'.heap.size = W.heap.size := by
  obtain ⟨es, k, hb, h1, h2⟩ := h
  obtain ⟨r, h3, h4, _⟩ := run_findS hk heq x W l es.toList h1 h2
  rw [decide_eq_false hx] at h4
  obtain rfl : r = none := by cases r; rfl; cases h4
  have hs := MapKept.heap_set (w := W) (o' := .map (es.push { key := spV x, val := .bool true, born := k }) (k + 1)) hb
  refine ⟨{ W with heap := W.heap.setIfInBounds b (.map (es.push { key := spV x, val := .bool true, born := k }) (k + 1)) }, ?_, ⟨_, _, hs.1, ?_, ?_⟩, ⟨rfl, rfl, rfl, by simp, fun i hi hne => hs.2 i hne⟩, by simp⟩
  · simp only [Instr.mapUpdate, Sem.run_bind, run_underlying hu, Result.andThen_ok, MapKept.run_getObj_map hb, hck, h3, MapKept.run_setObj_map _ hb]
  · simp [h1]
  · intro y hy
    simp only [Array.toList_push, List.mem_append, List.mem_singleton] at hy
    rcases hy with hy | rfl
    · exact h2 y hy
    · rfl
end
end Go.Acc
namespace Go.Proofs.YtejalfjeihlpeaaGreat
open Go.RowKit Go.Acc
theorem spot_eq : ∀ (x y : Int × Int × Int) (W : World), (Op.equal 90 (spV x) (spV y)).run Tryz.prog W = .ok (decide (x = y)) W := by
  rintro ⟨a, b, c⟩ ⟨a', b', c'⟩ W
  by_cases h1 : a = a' <;> by_cases h2 : b = b' <;> by_cases h3 : c = c' <;> (simp only [spV]; (change (Op.equalIn 10000 _ _ _).run Tryz.prog W = _); go_simp)
theorem spot_ck : ∀ (x : Int × Int × Int) (e : Bool) (W : World), (Instr.checkKey e 10000 90 (spV x)).run Tryz.prog W = .ok () W := by
  rintro ⟨a, b, c⟩ e W
  kernel_rfl
theorem spot_zero : ∀ W : World, (zeroValue 4).run Tryz.prog W = .ok (.bool false) W := by
  intro W
  go_simp
end Go.Proofs.YtejalfjeihlpeaaGreat

namespace Go.Proofs.YtejalfjeihlpeaaGreat
open Go.RowKit Go.Acc
def owEs : Array MapEntry := #[⟨.int .i64 0, .int .i64 1, 0⟩, ⟨.int .i64 1, .int .i64 2, 1⟩, ⟨.int .i64 2, .int .i64 3, 2⟩, ⟨.int .i64 26, .int .i64 4, 3⟩]
theorem ow_look (t : Int) : ∃ (k : Int) (b : Bool), (if b = true then k else 5) = cvOwn t ∧ ∀ (W : World) (g : Nat), W.heap[g]? = some (.map owEs 4) →
    (Instr.lookup 110 (.map (some g)) (.int .i64 t) true).run Tryz.prog W = .ok (.tuple #[.int .i64 k, .bool b]) W := by
  have hz : ∀ W : World, (zeroValue 3).run Tryz.prog W = .ok (.int .i64 0) W := by intro W; go_simp
  have key : ∀ (r : Option (Nat × Value)) (W : World) (g : Nat), Instr.findNow (.int .i64) (.int .i64 t) owEs.toList 0 = some r → W.heap[g]? = some (.map owEs 4) → (Instr.lookup 110 (.map (some g)) (.int .i64 t) true).run Tryz.prog W = .ok (.tuple #[(r.map (·.2)).getD (.int .i64 0), .bool r.isSome]) W := by
    intro r W g h hb
    exact run_look Tryz.underlying110 Tryz.underlying3 (.int .i64 0) hz W owEs 4 g t true r hb h
  by_cases h0 : t = 0
  · subst h0; exact ⟨1, true, rfl, fun W g hb => key (some (0, .int .i64 1)) W g rfl hb⟩
  by_cases h1 : t = 1
  · subst h1; exact ⟨2, true, rfl, fun W g hb => key (some (1, .int .i64 2)) W g rfl hb⟩
  by_cases h2 : t = 2
  · subst h2; exact ⟨3, true, rfl, fun W g hb => key (some (2, .int .i64 3)) W g rfl hb⟩
  by_cases h3 : t = 26
  · subst h3; exact ⟨4, true, rfl, fun W g hb => key (some (3, .int .i64 4)) W g rfl hb⟩
  refine ⟨0, false, by simp [cvOwn, h0, h1, h2, h3], fun W g hb => key none W g ?_ hb⟩
  have e0 : (t == 0) = false := by simpa using h0
  have e1 : (t == 1) = false := by simpa using h1
  have e2 : (t == 2) = false := by simpa using h2
  have e3 : (t == 26) = false := by simpa using h3
  simp only [owEs, Instr.findNow, Instr.sameNow, if_true, e0, e1, e2, e3]
set_option maxRecDepth 100000 in
set_option maxHeartbeats 400000 in
theorem own_spec (t : Int) (w : World) : Calls Tryz.prog 51 #[.int .i64 t] w fun e w' => e = .returned (.int .i64 (cvOwn t)) ∧ Below w.heap.size w w' := by
  have h0 := run_makeMap (P := Tryz.prog) 110
  have h1 : ∀ (W : World) (es : Array MapEntry) (c : Nat) (x : Int) (v : Value), Instr.findNow (.int .i64) (.int .i64 x) es.toList 0 = some none → (Instr.mapUpdate 110 (.map (some W.heap.size)) (.int .i64 x) v).run Tryz.prog (W.alloc (.map es c)) = .ok () (W.alloc (.map (es.push { key := .int .i64 x, val := v, born := c }) (c + 1))) :=
    fun W es c x v h => run_ins Tryz.underlying110 Tryz.underlying3 W es c _ x v rfl h
  have i0 : ∀ W : World, (Instr.mapUpdate 110 (.map (some W.heap.size)) (.int .i64 0) (.int .i64 1)).run Tryz.prog (W.alloc (.map #[] 0)) = .ok () (W.alloc (.map #[⟨.int .i64 0, .int .i64 1, 0⟩] 1)) := fun W => h1 W #[] 0 0 _ rfl
  have i1 : ∀ W : World, (Instr.mapUpdate 110 (.map (some W.heap.size)) (.int .i64 1) (.int .i64 2)).run Tryz.prog (W.alloc (.map #[⟨.int .i64 0, .int .i64 1, 0⟩] 1)) = .ok () (W.alloc (.map #[⟨.int .i64 0, .int .i64 1, 0⟩, ⟨.int .i64 1, .int .i64 2, 1⟩] 2)) := fun W => h1 W #[⟨.int .i64 0, .int .i64 1, 0⟩] 1 1 _ rfl
  have i2 : ∀ W : World, (Instr.mapUpdate 110 (.map (some W.heap.size)) (.int .i64 2) (.int .i64 3)).run Tryz.prog (W.alloc (.map #[⟨.int .i64 0, .int .i64 1, 0⟩, ⟨.int .i64 1, .int .i64 2, 1⟩] 2)) = .ok () (W.alloc (.map #[⟨.int .i64 0, .int .i64 1, 0⟩, ⟨.int .i64 1, .int .i64 2, 1⟩, ⟨.int .i64 2, .int .i64 3, 2⟩] 3)) := fun W => h1 W #[⟨.int .i64 0, .int .i64 1, 0⟩, ⟨.int .i64 1, .int .i64 2, 1⟩] 2 2 _ rfl
  have i3 : ∀ W : World, (Instr.mapUpdate 110 (.map (some W.heap.size)) (.int .i64 26) (.int .i64 4)).run Tryz.prog (W.alloc (.map #[⟨.int .i64 0, .int .i64 1, 0⟩, ⟨.int .i64 1, .int .i64 2, 1⟩, ⟨.int .i64 2, .int .i64 3, 2⟩] 3)) = .ok () (W.alloc (.map owEs 4)) := fun W => h1 W #[⟨.int .i64 0, .int .i64 1, 0⟩, ⟨.int .i64 1, .int .i64 2, 1⟩, ⟨.int .i64 2, .int .i64 3, 2⟩] 3 26 _ rfl
  clear h1
  obtain ⟨k, b, hk, hl⟩ := ow_look t
  have hl0 := hl (w.alloc (.map owEs 4)) w.heap.size (heap_alloc_new w _)
  rw [← hk]
  clear hl hk
  cases b with
  | true =>
    go_enter Tryz.func51, Tryz.ntmps51
    go_wp2
    go_ret
    exact ⟨rfl, (Below.refl _ _).alloc (Nat.le_refl _) _⟩
  | false =>
    go_enter Tryz.func51, Tryz.ntmps51
    go_wp2
    go_ret
    exact ⟨rfl, (Below.refl _ _).alloc (Nat.le_refl _) _⟩
/-! the parts told so far, in the variable that the closure holds -/
def pc (x : P3) : List Value := [.int .i64 x.1, .int .i64 x.2.1, .int .i64 x.2.2]
theorem pc_len (x : P3) : (pc x).length = 3 := rfl
theorem pc_one (x : P3) : ∀ u ∈ pc x, u.oneCell' = true := by
  intro u hu
  simp [pc] at hu
  rcases hu with rfl | rfl | rfl <;> rfl
abbrev IsP := Is pc
abbrev OwnP := Own pc 3 57
theorem info_p : (Tryz.prog.info? 57).map (fun i => (i.zero, i.size, i.bytes)) = some (some (.agg #[.int .i64 0, .int .i64 0, .int .i64 0]), 3, 24) := by kernel_rfl
/-- Block b is the variable, its row (block g) lies from block B on. -/
def OutW (w : World) (B b : Nat) (g : Option Nat) (l : List P3) : Prop := ∃ A n c, Blk w b 24 #[.slice A n c] ∧ OwnP w B A n c l ∧ A.map (·.block) = g
theorem OutW.pure {w w' : World} {B b : Nat} {g : Option Nat} {l : List P3} (h : OutW w B b g l) (hb : Below w.heap.size w w') : OutW w' B b g l := by
  obtain ⟨A, n, c, h1, h2, h3⟩ := h
  exact ⟨A, n, c, h1.pure hb, h2.pure hb, h3⟩
theorem OutW.fr {w w' : World} {B b : Nat} {g : Option Nat} {l : List P3} {S : Nat → Prop} (h : OutW w B b g l) (hf : Fr S w w') (h1 : ¬ S b) (h2 : ∀ k, g = some k → ¬ S k) : OutW w' B b g l := by
  obtain ⟨A, n, c, b1, b2, b3⟩ := h
  exact ⟨A, n, c, b1.fr hf h1, b2.fr hf (fun ad had => h2 _ (by rw [← b3, had]; rfl)), b3⟩
theorem OutW.row {w : World} {B b : Nat} {g : Option Nat} {l : List P3} (h : OutW w B b g l) : ∀ k, g = some k → B ≤ k ∧ k < w.heap.size := by
  obtain ⟨A, n, c, _, h2, rfl⟩ := h
  intro k hk
  cases A with
  | none => cases hk
  | some ad =>
    injection hk with hk
    subst hk
    exact ⟨(h2.addr ad rfl).2.1, (h2.addr ad rfl).2.2⟩
def Told (B b : Nat) (g : Option Nat) (l : List P3) (w w' : World) : Prop := ∃ g', OutW w' B b g' l ∧ Fr (fun k => k = b ∨ some k = g) w w' ∧ (g' = g ∨ ∃ k, g' = some k ∧ w.heap.size ≤ k)
theorem isp_lit (W : World) (x y z : Int) : IsP (W.alloc (.cells #[.int .i64 x, .int .i64 y, .int .i64 z] 57)) (some ⟨W.heap.size, 0, none⟩) 1 [(x, y, z)] := by
  refine ⟨rfl, fun j u hu => ⟨_, _, rfl, ?_⟩⟩
  rw [Nat.zero_add, (Blk.new W _ _).cell j]
  simpa [pc] using hu
set_option maxHeartbeats 400000 in
theorem tell_yes (B b : Nat) (g : Option Nat) (x y z : Int) (l : List P3) (w : World) (h : OutW w B b g l) (hxy : x < y) (hlen : l.length ≤ 1073741824) (hB : B ≤ w.heap.size) (hbB : b < B) :
    Calls Tryz.prog 26 #[.int .i64 x, .int .i64 y, .int .i64 z, .pointer (some ⟨b, 0, none⟩)] w fun e w' => e = .returned (.tuple #[]) ∧ Told B b g (l ++ [(x, y, z)]) w w' := by
  obtain ⟨A, n, c, hb, ho, rfl⟩ := h
  rw [ho.1] at hlen
  have c0 : w.cell? ⟨b, 0, none⟩ = some (.slice A n c) := hb.cell 0
  have HO := Lib.hid (ho.pure ((Below.refl _ _).alloc (Nat.le_refl _) (.cells #[.int .i64 x, .int .i64 y, .int .i64 z] 57)))
  have HB := Lib.hid (hb.alloc (.cells #[.int .i64 x, .int .i64 y, .int .i64 z] 57))
  have hne : ∀ ad, A = some ad → ad.block ≠ b := fun ad had => by have := (ho.addr ad had).2.1; omega
  have HN := Lib.hid hne
  have HA := Lib.hid (ho.addr)
  have hlt := hb.lt
  clear hb ho hne
  go_enter Tryz.func26, Tryz.ntmps26
  go_wp2_with (at_builtin; refine wpl_app _ rfl (.tmp 10) (.tmp 15) _ rfl 57 _ 3 24 Tryz.underlying24 info_p rfl (by omega) pc_len pc_one _ _ _ _ _ rfl HO.out _ _ _ _ rfl (isp_lit w x y z) (by omega) (by simp; omega) ?_; intro A1 c1 w1 hown1 hfr1 hat1; have B1 := HB.out.fr hfr1 (by rintro ⟨ad, h, h'⟩; exact HN.out ad h h'.symm); have d0 : w1.cell? ⟨b, 0, none⟩ = some (.slice A n c) := B1.cell 0; have f0 := B1.frozen 0; have HB1 := Lib.hid B1; have HO1 := Lib.hid hown1; have HF1 := Lib.hid hfr1; clear B1 hown1 hfr1)
  go_end0
  have hset : Fr (fun k => k = b) w1 (w1.setCell ⟨b, 0, none⟩ (.slice A1 (n + 1) c1)) := Fr.setCell (S := fun k => k = b) (Fr.refl _ _) (fun _ => rfl) _
  refine ⟨rfl, A1.map (·.block), ⟨A1, n + 1, c1, by simpa using HB1.out.set_ 0 (.slice A1 (n + 1) c1), HO1.out.fr hset ?_, rfl⟩, ?_, ?_⟩
  · intro ad had e
    have := (HO1.out.addr ad had).2.1
    omega
  · have e0 : Fr (fun k => k = b ∨ some k = A.map (·.block)) w (w.alloc (.cells #[.int .i64 x, .int .i64 y, .int .i64 z] 57)) := (Fr.refl _ _).alloc _
    have e1 : Fr (fun k => k = b ∨ some k = A.map (·.block)) (w.alloc (.cells #[.int .i64 x, .int .i64 y, .int .i64 z] 57)) w1 := HF1.out.mono (by
      rintro k hk ⟨ad, h1, rfl⟩
      exact .inr (by rw [h1]; rfl))
    exact (e0.trans e1 fun _ _ h => h).trans hset (fun k _ h => .inl h)
  · rcases hat1 with h | h
    · exact .inl h
    · exact .inr ⟨_, h, by simp⟩
set_option maxHeartbeats 400000 in
theorem tell_no (B b : Nat) (g : Option Nat) (x y z : Int) (l : List P3) (w : World) (h : OutW w B b g l) (hxy : ¬ x < y) :
    Calls Tryz.prog 26 #[.int .i64 x, .int .i64 y, .int .i64 z, .pointer (some ⟨b, 0, none⟩)] w fun e w' => e = .returned (.tuple #[]) ∧ Told B b g l w w' := by
  have H := Lib.hid h
  clear h
  go_enter Tryz.func26, Tryz.ntmps26
  go_wp2
  go_end0
  exact ⟨rfl, g, H.out, Fr.refl _ _, .inl rfl⟩
end Go.Proofs.YtejalfjeihlpeaaGreat
