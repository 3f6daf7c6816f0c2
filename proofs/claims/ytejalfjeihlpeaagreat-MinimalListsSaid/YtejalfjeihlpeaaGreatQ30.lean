/-
  Package cover: the list sorted and without duplicates; the parts of a document.
  Package cover: the examples of the chapter.
  Package cover: the examples of the chapter, all together; two lists of parts compared.
-/
import Derived.Test.YtejalfjeihlpeaaGreatQ29
namespace Go.Proofs.YtejalfjeihlpeaaGreat
open Go.RowKit Go.Acc
theorem cvSort_len (l : List P3) : (cvSort l).length ≤ l.length := by
  have h : ∀ (x : P3) (m : List P3), (insP x m).length ≤ m.length + 1 := by
    intro x m
    induction m with
    | nil => simp [insP]
    | cons y m ih =>
      unfold insP
      split
      · simp only [List.length_cons]; omega
      · split <;> simp
  have h2 : ∀ (l m : List P3), (l.foldl (fun m x => insP x m) m).length ≤ m.length + l.length := by
    intro l
    induction l with
    | nil => intro m; simp
    | cons x l ih =>
      intro m
      rw [List.foldl_cons, List.length_cons]
      have := ih (insP x m)
      have := h x m
      omega
  have := h2 l []
  simpa [cvSort] using this
set_option maxHeartbeats 400000 in
theorem only_spec (B g n c : Nat) (l : List P3) (w : World) (h : OwnP w B (some ⟨g, 0, none⟩) n c l) (hn : n ≤ 2147483648) :
    Calls Tryz.prog 28 #[.slice (some ⟨g, 0, none⟩) n c, .func (.func 29) #[] #[]] w fun e w' => ∃ k, e = .returned (.slice (some ⟨g, 0, none⟩) k c) ∧ OwnP w' B (some ⟨g, 0, none⟩) k c (cvSort l) ∧ Fr (fun k => k = g) w w' := by
  have HO := Lib.hid h
  clear h
  go_enter Tryz.func28, Tryz.ntmps28
  go_wp2_with fail
  go_at_call 57
  refine (sort_parts B g n c l _ HO.out hn).mono ?_
  rintro e w1 ⟨rfl, m, hp, hr, ho, hf⟩
  have HP := Lib.hid hp
  have HR := Lib.hid hr
  have HM := Lib.hid ho
  have HF := Lib.hid hf
  clear hp hr ho hf
  go_wp2_with fail
  go_at_call 58
  refine (compact_spec B g n c m.toArray _ HM.out hn).mono ?_
  rintro e w2 ⟨k, hk, rfl, ho, hf⟩
  have e1 := compact_sorted l m HP.out HR.out
  rw [e1] at ho
  have HM := Lib.hid ho
  have HF := Lib.hid (HF.out.trans hf (fun _ _ h => h))
  clear hk ho hf e1
  go_wp2_with fail
  go_ret
  exact ⟨k, rfl, HM.out, HF.out⟩
theorem heap_new_ {w : World} {g : Nat} (h : w.heap.size = g) (o : Obj) : (w.alloc o).heap[g]? = some o := by subst h; exact heap_alloc_new w o
theorem root_ok {l : List UInt8} (h : rootE l = 0) : RqOk l.length ⟨(rootR l).1, (rootR l).2.1, (rootR l).2.2.1, (rootR l).2.2.2⟩ ∧ 3 ≤ l.length := by
  obtain ⟨x, hx⟩ : ∃ x, l.getD (l.length - 1) 0 = x := ⟨_, rfl⟩
  obtain ⟨y, hy⟩ : ∃ x, l.getD (l.length - 2) 0 = x := ⟨_, rfl⟩
  have h3 : ¬ l.length < 3 := fun h3 => by rw [rootE_1 h3] at h; cases h
  have hw : isW (x.toNat : Int) = true := by
    cases hw : isW (x.toNat : Int) with
    | true => rfl
    | false => rw [rootE_2 hx hw] at h; cases h
  have hu : unE y = 0 := by
    refine Decidable.byContradiction fun hu => ?_
    rw [rootE_3 h3 hx hy hw hu] at h
    exact hu h
  have h4 := rootE_4 h3 hx hy hw hu
  rw [h] at h4
  have hr := rootR_ok hx hy h
  rw [hr]
  have hW := isW_iff.1 hw
  refine ⟨⟨?_, ?_, ?_, ?_⟩, by omega⟩
  · simp only
    split at h4
    · cases h4
    · omega
  · simp only; omega
  · simp only; omega
  · simp only; omega
/-- The root reference. -/
def cvRoot (l : List UInt8) : Rq := ⟨(rootR l).1, (rootR l).2.1, (rootR l).2.2.1, (rootR l).2.2.2⟩
def cvS1 (l : List UInt8) (fuel : Int) : CvS := (CvS.tell ⟨fuel, [], []⟩ ((l.length : Int) - 1) l.length 14).tell ((l.length : Int) - 2) ((l.length : Int) - 1) 8
def cvVisit (l : List UInt8) (fuel : Int) : CvS × Int := cvCome l (fuel.toNat + 1) (cvRoot l) (cvS1 l fuel)
def cvPartsE (l : List UInt8) (fuel : Int) : Int := if rootE l ≠ 0 then rootE l else (cvVisit l fuel).2
def cvParts (l : List UInt8) (fuel : Int) : List P3 := if cvPartsE l fuel ≠ 0 then [] else cvSort (cvVisit l fuel).1.out
set_option maxRecDepth 100000 in
set_option maxHeartbeats 1000000 in
theorem parts_spec (A : Option Addr) (n c : Nat) (fuel : Int) (l : List UInt8) (w : World) (hl : IsB w A n l) (hc : n ≤ c) (hn : n ≤ 4294967296) (hf : fuel ≤ 100000000) :
    Calls Tryz.prog 8 #[.slice A n c, .int .i64 fuel] w fun e w' => ∃ A' k c', e = .returned (.tuple #[.slice A' k c', .int .i64 (cvPartsE l fuel)]) ∧ OwnP w' w.heap.size A' k c' (cvParts l fuel) ∧ Below w.heap.size w w' := by
  have hlen := hl.1
  have HI := Lib.hid hl
  clear hl
  by_cases hr : rootE l = 0
  · obtain ⟨hok, h3⟩ := root_ok hr
    have HOK := Lib.hid hok
    have HR := Lib.hid hr
    clear hok hr
    go_enter Tryz.func8, Tryz.ntmps8
    go_wp2_with fail
    go_at_call 25
    refine (root_spec A n c l _ HI.out (by omega)).mono ?_
    rintro e w1 ⟨rfl, hb⟩
    rw [HR.out]
    obtain ⟨a, ha⟩ : ∃ a, (rootR l).1 = a := ⟨_, rfl⟩
    obtain ⟨b, hb'⟩ : ∃ a, (rootR l).2.1 = a := ⟨_, rfl⟩
    obtain ⟨d, hd⟩ : ∃ a, (rootR l).2.2.1 = a := ⟨_, rfl⟩
    obtain ⟨f, hf'⟩ : ∃ a, (rootR l).2.2.2 = a := ⟨_, rfl⟩
    rw [ha, hb', hd, hf']
    replace HI := Lib.hid (HI.out.pure hb)
    have HB := Lib.hid hb
    have hrt : cvRoot l = ⟨a, b, d, f⟩ := by unfold cvRoot; rw [ha, hb', hd, hf']
    rw [ha, hb', hd, hf'] at HOK
    have HRT := Lib.hid hrt
    clear hb ha hb' hd hf' hrt
    have h0 := run_makeMap (P := Tryz.prog) 52
    go_upto_region 7 with fail
    obtain ⟨E, hE⟩ : ∃ E : CvE, E = ⟨w1.heap.size, w1.heap.size + 1 + 1 + 1 + 1, w1.heap.size + 1 + 1 + 1, w1.heap.size + 1 + 1, w1.heap.size + 1, A, n, c, l⟩ := ⟨_, rfl⟩
    have hok : E.Ok := by
      subst hE
      refine ⟨?_, ?_, ?_, ?_, ?_, ?_, ?_, ?_, ?_, ?_, hc, hn⟩ <;> (try (simp only; omega))
      intro ad had
      obtain ⟨b', off, e, hlt⟩ := HI.out.some_ bc_len (by omega) (by omega)
      simp only at had
      rw [e] at had
      injection had with had
      subst had
      exact hlt
    obtain ⟨W, hW⟩ : ∃ W, W = (((w1.alloc (.cells #[.int .i64 a, .int .i64 b, .int .i64 d, .int .i64 f] 48)).alloc (.cells #[.slice none 0 0] 24)).alloc (.map #[] 0)).alloc (.cells #[.slice A n c, .int .i64 fuel, .map (some (w1.heap.size + 1 + 1)), .func (.func 26) #[] #[.pointer (some ⟨w1.heap.size + 1, 0, none⟩)]] 55) := ⟨_, rfl⟩
    have hsz : W.heap.size = w1.heap.size + 1 + 1 + 1 + 1 := by subst hW; simp
    have hbW : Below w1.heap.size w1 W := by
      subst hW
      exact ((((Below.refl _ _).alloc (Nat.le_refl _) _).alloc (by simp <;> omega) _).alloc (by simp <;> omega) _).alloc (by simp <;> omega) _
    have hX : Lone E none W w1.heap.size 48 #[.int .i64 a, .int .i64 b, .int .i64 d, .int .i64 f] := by
      refine ⟨?_, ?_⟩
      · subst hW
        exact (((Blk.new w1 _ _).alloc _).alloc _).alloc _
      · subst hE
        refine ⟨?_, ?_, ?_, ?_⟩ <;> (try (simp only; omega))
        simp
    have hC : CvW E none ⟨fuel, [], []⟩ W := by
      refine ⟨hok, ?_, ?_, ?_, ?_, ?_⟩
      · subst hE
        exact HI.out.pure hbW
      · subst hE hW
        exact Blk.new_ (by simp) _ _
      · subst hE hW
        exact ⟨#[], 0, (Below.heap_alloc _ _ _ (by simp)).trans (heap_new_ (by simp) _), rfl, by simp⟩
      · subst hE
        refine ⟨none, 0, 0, ?_, Own.nil _ _, rfl⟩
        subst hW
        exact ((Blk.new_ (by simp) _ _).alloc _).alloc _
      · subst hE
        rw [hsz]
        exact Nat.le_refl _
    have hbl : E.bl = w1.heap.size + 1 := by rw [hE]
    have hbw : E.bw = w1.heap.size + 1 + 1 + 1 := by rw [hE]
    have hEl : E.l = l := by rw [hE]
    have hB0 : E.B0 = w1.heap.size := by rw [hE]
    have hbm : E.bm = w1.heap.size + 1 + 1 := by rw [hE]
    have hEA : E.A = A := by rw [hE]
    have hEn : E.n = n := by rw [hE]
    have hEc : E.c = c := by rw [hE]
    rw [← hW, ← hbw, ← hbm, ← hbl]
    rw [← hEA, ← hEn, ← hEc]
    have hpos : E.B0 ≤ W.heap.size := by rw [hsz, hB0]; omega
    have HLE := Lib.hid (show w.heap.size ≤ E.B0 by rw [hB0]; exact HB.out.size)
    have HLE2 := Lib.hid (show w.heap.size ≤ E.B2 by have := HB.out.size; rw [hE]; simp only; omega)
    have HW0 := Lib.hid (HB.out.trans (hbW.mono HB.out.size))
    have HC := Lib.hid hC
    have HC0 := Lib.hid hC
    have HX := Lib.hid hX
    have HB0 := Lib.hid hB0
    have HE := Lib.hid hE
    have HS0 := Lib.hid (show cvS1 l fuel = ((CvS.mk fuel [] []).tell ((l.length : Int) - 1) l.length 14).tell ((l.length : Int) - 2) ((l.length : Int) - 1) 8 from rfl)
    have HBW := Lib.hid hbW
    have HBB := Lib.hid (CvTo.refl E none W)
    have HPO := Lib.hid hpos
    clear hW hsz hbW hX hC hbl hbw hbm hB0 hE hpos h0
    have hwr1 : IntKind.i64.wrap ((n : Int) - 1) = (n : Int) - 1 := IntWalk.i64_in _ (by omega)
    have hwr2 : IntKind.i64.wrap ((n : Int) - 2) = (n : Int) - 2 := IntWalk.i64_in _ (by omega)
    generalize w1.heap.size = br at HX ⊢
    obtain ⟨c0, c1, c2, c3⟩ := HC.out.cells; have x0 := cell0 HX.out.1; have x1 := cell1 HX.out.1; have x2 := cell2 HX.out.1; have x3 := cell3 HX.out.1
    obtain ⟨W0, rfl⟩ : ∃ W0 : World, W0 = W := ⟨_, rfl⟩
    have HB := HBB
    clear HBB
    have HBW0 := Lib.hid HB0.out
    go_wp2_with fail
    go_at_call 26
    with_reducible refine (tell_cv ((n : Int) - 1) n 14 HC.out (by simp)).mono ?_
    rintro e w2 ⟨rfl, g2, hC2, hT2⟩
    replace HB := Lib.hid (HB.out.trans hT2); replace HX := Lib.hid (HX.out.to hT2); replace HC := Lib.hid hC2; clear c0 c1 c2 c3 x0 x1 x2 x3; clear hC2 hT2; obtain ⟨c0, c1, c2, c3⟩ := HC.out.cells; have x0 := cell0 HX.out.1; have x1 := cell1 HX.out.1; have x2 := cell2 HX.out.1; have x3 := cell3 HX.out.1
    go_wp2_with fail
    go_at_call 26
    with_reducible refine (tell_cv ((n : Int) - 2) ((n : Int) - 1) 8 HC.out (by unfold CvS.tell; split <;> simp)).mono ?_
    rintro e w3 ⟨rfl, g3, hC3, hT3⟩
    replace HB := Lib.hid (HB.out.trans hT3); replace HX := Lib.hid (HX.out.to hT3); replace HC := Lib.hid hC3; clear c0 c1 c2 c3 x0 x1 x2 x3; clear hC3 hT3; obtain ⟨c0, c1, c2, c3⟩ := HC.out.cells; have x0 := cell0 HX.out.1; have x1 := cell1 HX.out.1; have x2 := cell2 HX.out.1; have x3 := cell3 HX.out.1
    have hs1 : ((CvS.mk fuel [] []).tell ((n : Int) - 1) n 14).tell ((n : Int) - 2) ((n : Int) - 1) 8 = cvS1 l fuel := by rw [HS0.out, hlen]
    have hsl : (cvS1 l fuel).left = fuel := by unfold cvS1; rw [tell_left, tell_left]
    have hso : (cvS1 l fuel).out = [((n : Int) - 1, (n : Int), 14), ((n : Int) - 2, (n : Int) - 1, 8)] := by
      rw [← hs1]
      unfold CvS.tell
      rw [if_pos (by omega), if_pos (by omega)]
      rfl
    have hsz : (cvS1 l fuel).size ≤ 900000000 := by
      unfold CvS.size
      rw [hso, hsl]
      simp only [List.length_cons, List.length_nil]
      omega
    rw [hs1] at HC
    obtain ⟨y, hy⟩ : ∃ y, cvVisit l fuel = y := ⟨_, rfl⟩
    have hcome : cvCome E.l (fuel.toNat + 1) ⟨a, b, d, f⟩ (cvS1 l fuel) = y := by rw [hEl, ← HRT.out]; exact hy
    have hadd := come_in l (fuel.toNat + 1) (cvRoot l) (cvS1 l fuel) (by rw [HRT.out]; exact HOK.out)
    rw [show (cvCome l (fuel.toNat + 1) (cvRoot l) (cvS1 l fuel)) = y from hy] at hadd
    have hcs := comes_spec E (fuel.toNat + 1) g3 (cvS1 l fuel) a b d f w3 HC.out (by rw [hsl]; omega) hsz (by rw [hEl]; exact HOK.out)
    rw [hcome] at hcs
    have hpe : cvPartsE l fuel = y.2 := by unfold cvPartsE; rw [if_neg (by simp [HR.out]), hy]
    have hps : cvParts l fuel = if y.2 ≠ 0 then [] else cvSort y.1.out := by unfold cvParts; rw [hpe, hy]
    have HCS := Lib.hid hcs
    have HY := Lib.hid (show (cvCome l (fuel.toNat + 1) (cvRoot l) (cvS1 l fuel)).1 = y.1 by rw [← hy]; rfl)
    have HPE := Lib.hid hpe
    have HPS := Lib.hid hps
    have HAD := Lib.hid hadd
    have HSO := Lib.hid hso
    have HSZ := Lib.hid hsz
    clear hs1 hsl hso hsz hcome hadd hcs hpe hps hy HS0
    go_wp2_with fail
    go_at_call 27
    refine HCS.out.mono ?_
    rintro e w4 ⟨rfl, g4, hC4, hT4⟩
    obtain ⟨s4, er⟩ := y
    simp only at hC4 HPS HAD HPE HY ⊢
    replace HB := Lib.hid (HB.out.trans hT4); replace HX := Lib.hid (HX.out.to hT4); replace HC := Lib.hid hC4; clear c0 c1 c2 c3 x0 x1 x2 x3; clear hC4 hT4; obtain ⟨c0, c1, c2, c3⟩ := HC.out.cells; have x0 := cell0 HX.out.1; have x1 := cell1 HX.out.1; have x2 := cell2 HX.out.1; have x3 := cell3 HX.out.1
    have hbf : Below w.heap.size w w4 := by
      exact HW0.out.trans ((HB.out.belowB HC0.out).mono HLE.out)
    have HBF := Lib.hid hbf
    clear hbf
    by_cases her : er = 0
    · subst her
      have hps : cvParts l fuel = cvSort s4.out := by rw [HPS.out]; rfl
      have HPS2 := Lib.hid hps
      obtain ⟨A', n', c', hblk, hown, hg⟩ := HC.out.O
      obtain ⟨t, ht, _⟩ := HAD.out
      rw [HSO.out] at ht
      have hlen' : s4.out.length = n' := hown.1
      have hn1 : 1 ≤ n' := by rw [← hlen', ht]; simp
      have hn2 : n' ≤ 2147483648 := by
        have h1 := ((come_goes l (fuel.toNat + 1)) (cvRoot l) (cvS1 l fuel)).1.2
        have h2 := size_out s4
        have h3 : (cvCome l (fuel.toNat + 1) (cvRoot l) (cvS1 l fuel)).1 = s4 := HY.out
        rw [h3] at h1
        have := HSZ.out
        omega
      have hA : ∃ g, A' = some ⟨g, 0, none⟩ ∧ E.B2 ≤ g := by
        cases A' with
        | none => exact absurd (hown.is.none_ pc_len (by omega)).2 (by omega)
        | some ad =>
          obtain ⟨h1, h2, _⟩ := hown.addr ad rfl
          exact ⟨ad.block, by rw [h1], h2⟩
      obtain ⟨g, rfl, hg2⟩ := hA
      have v0 : _ = some (Value.slice (some ⟨g, 0, none⟩) n' c') := hblk.cell 0
      have HOW := Lib.hid hown
      have HG := Lib.hid hg2
      clear hps ht hlen' hn1 hg hg2 hown hblk
      go_wp2_with fail
      go_at_call 28
      refine (only_spec E.B2 g n' c' s4.out _ HOW.out hn2).mono ?_
      rintro e w5 ⟨k, rfl, hO5, hF5⟩
      have HO5 := Lib.hid hO5
      have hbf : Below w.heap.size w w5 := by
        refine HBF.out.trans (hF5.belowB ?_ HBF.out.size)
        rintro k hk rfl
        have := HLE2.out
        have := HG.out
        omega
      have HBF2 := Lib.hid hbf
      clear hO5 hF5 hbf
      go_wp2_with fail
      go_ret2
      rw [HPE.out, HPS2.out]
      exact ⟨_, k, c', rfl, HO5.out.rebase HLE2.out, HBF2.out⟩
    · have hne : (er != 0) = true := by simpa using her
      have hps : cvParts l fuel = [] := by rw [HPS.out, if_pos her]
      have HPS2 := Lib.hid hps
      clear hps her
      go_wp2_with fail
      go_ret2
      rw [HPE.out, HPS2.out]
      exact ⟨none, 0, 0, rfl, Own.nil _ _, HBF.out⟩
  · have hne : (rootE l != 0) = true := by simpa using hr
    have hpe : cvPartsE l fuel = rootE l := by unfold cvPartsE; rw [if_pos hr]
    have hps : cvParts l fuel = [] := by unfold cvParts; rw [hpe, if_pos hr]
    have HPE := Lib.hid hpe
    have HPS := Lib.hid hps
    clear hpe hps hr
    go_enter Tryz.func8, Tryz.ntmps8
    go_wp2_with fail
    go_at_call 25
    refine (root_spec A n c l _ HI.out (by omega)).mono ?_
    rintro e w1 ⟨rfl, hb⟩
    have HB := Lib.hid (hb.alloc hb.size (.cells #[.int .i64 (rootR l).1, .int .i64 (rootR l).2.1, .int .i64 (rootR l).2.2.1, .int .i64 (rootR l).2.2.2] 48))
    clear hb
    go_wp2_with fail
    go_ret2
    rw [HPE.out, HPS.out]
    exact ⟨none, 0, 0, rfl, Own.nil _ _, HB.out⟩
end Go.Proofs.YtejalfjeihlpeaaGreat

namespace Go.Proofs.YtejalfjeihlpeaaGreat
open Go.RowKit Go.Acc
set_option maxHeartbeats 400000 in
theorem part28_spec (a b c : Int) (w : World) : Calls Tryz.prog 36 #[.int .i64 a, .int .i64 b, .int .i64 c] w fun e w' => e = .returned (.agg #[.int .i64 a, .int .i64 b, .int .i64 c]) ∧ Below w.heap.size w w' := by
  go_enter Tryz.func36, Tryz.ntmps36
  go_wp2
  refine bodyPost_ret (v := .agg #[.int .i64 a, .int .i64 b, .int .i64 c]) (by simp [results, Tryz.results36, go_sem]) rfl ⟨rfl, ?_⟩
  exact (Below.refl _ _).alloc (Nat.le_refl _) _
theorem str_bytes (s : ByteArray) (w : World) : ∃ c w', (convert 9 22 (.string s)).run Tryz.prog w = .ok (.slice (some ⟨w.heap.size, 0, none⟩) s.size c) w' ∧ s.size ≤ c ∧ IsB w' (some ⟨w.heap.size, 0, none⟩) s.size s.data.toList ∧ Below w.heap.size w w' := by
  refine ⟨_, _, run_bytes_of_string w 9 22 5 s Tryz.underlying9 Tryz.underlying22 Tryz.underlying5, ?_, ?_, (Below.refl _ _).drew.alloc (Nat.le_refl _) _⟩
  · exact grownCap_ge _ _ _ _
  · refine ⟨Array.length_toList, fun j u hu => ⟨_, _, rfl, ?_⟩⟩
    have hj : j < s.data.size := by
      have := (List.getElem?_eq_some_iff.1 hu).1
      rw [fm_length bc_len] at this
      simpa using this
    have hg := heap_alloc_new w.drew (.cells (bytesRow s (grownCap w s.size 0 5)) 5 ((bytesRow s (grownCap w s.size 0 5)).size, (bytesRow s (grownCap w s.size 0 5)).size + 1))
    change _[w.heap.size]? = _ at hg
    rw [cell_of_row _ _ _ _ _ _ hg, Nat.zero_add, bytesRow_at s _ j hj, ← hu]
    have h1 := fm_at bc_len s.data.toList j 0 (by simpa using hj) (by omega)
    rw [Nat.mul_one, Nat.add_zero] at h1
    rw [h1]
    rfl
theorem isp_at {w : World} {A : Option Addr} {n k : Nat} {L : List P3} (h : IsP w A n L) (hk : k < n) : ∃ b off, A = some ⟨b, off, none⟩ ∧ ∀ x y z, L[k]? = some (x, y, z) → w.cell? ⟨b, off + k * 3, none⟩ = some (.int .i64 x) ∧ w.cell? ⟨b, off + k * 3 + 1, none⟩ = some (.int .i64 y) ∧ w.cell? ⟨b, off + k * 3 + 2, none⟩ = some (.int .i64 z) := by
  obtain ⟨b, off, e1, hk', h1⟩ := h.at_ pc_len (by omega) hk
  refine ⟨b, off, e1, fun x y z hx => ?_⟩
  rw [List.getElem?_eq_getElem hk'] at hx
  injection hx with hx
  rw [hx] at h1
  have h0 := h1 0 (by omega)
  have h2 := h1 1 (by omega)
  have h3 := h1 2 (by omega)
  exact ⟨h0, h2, h3⟩
set_option maxRecDepth 100000 in
set_option maxHeartbeats 1000000 in
theorem told_yes (s : ByteArray) (fuel er : Int) (A2 : Option Addr) (m c2 : Nat) (L : List P3) (w : World) (h : IsP w A2 m L) (hm : m ≤ 2147483648) (hf : fuel ≤ 100000000) (hs : s.size ≤ 1000) (h1 : cvPartsE s.data.toList fuel = er) (h2 : cvParts s.data.toList fuel = L) :
    Calls Tryz.prog 35 #[.string s, .int .i64 fuel, .int .i64 er, .slice A2 m c2] w fun e w' => e = .returned (.bool true) ∧ Below w.heap.size w w' := by
  have HL := Lib.hid h
  have H1 := Lib.hid h1
  have H2 := Lib.hid h2
  have hLm : L.length = m := h.1
  obtain ⟨c, w1, hcv, hc, hi, hb⟩ := str_bytes s w
  have HI := Lib.hid hi
  have HB := Lib.hid hb
  replace HL := Lib.hid (h.pure hb)
  have HLM := Lib.hid hLm
  clear h h1 h2 hi hb hLm
  go_enter Tryz.func35, Tryz.ntmps35
  go_wp2_with fail
  go_at_call 8
  refine (parts_spec _ s.size c fuel s.data.toList _ HI.out hc (by omega) hf).mono ?_
  rw [H1.out, H2.out]
  rintro e w2 ⟨A1, k, c1, rfl, ho, hb⟩
  replace HL := Lib.hid (HL.out.pure hb)
  replace HB := Lib.hid (pure_below HB.out hb)
  obtain rfl : m = k := by rw [← HLM.out]; exact ho.1
  have HO := Lib.hid ho.is
  clear ho hb hcv HI
  go_wp2_with fail
  go_loopw [11] (fun i wr => ∃ k : Nat, k ≤ m ∧ i = .int .i64 k ∧ Below w.heap.size w wr ∧ IsP wr A1 m L ∧ IsP wr A2 m L) (fun i _ => m - (intOf i).toNat)
  case atStart => exact ⟨0, by omega, rfl, HB.out, HO.out, HL.out⟩
  case round =>
    clear HB HO HL
    obtain ⟨k, hk, rfl, hb, h1, h2⟩ := hrel
    have HB := Lib.hid hb
    have I1 := Lib.hid h1
    have I2 := Lib.hid h2
    have hLn : L.length = m := h1.1
    clear hb h1 h2
    by_cases hkn : k < m
    · obtain ⟨b1, o1, e1, h1⟩ := isp_at I1.out hkn
      obtain ⟨b2, o2, e2, h2⟩ := isp_at I2.out hkn
      obtain ⟨⟨x, y, z⟩, hx⟩ : ∃ x, L[k]? = some x := ⟨_, List.getElem?_eq_getElem (by omega)⟩
      obtain ⟨a0, a1, a2⟩ := h1 x y z hx
      obtain ⟨c0, c1, c2⟩ := h2 x y z hx
      have heq := part_neq (x, y, z) (x, y, z) false (by simp)
      have hk0 : (0 : Int) ≤ k := by omega
      have hkI : (k : Int) < m := by omega
      have hwk : IntKind.i64.wrap ((k : Int) + 1) = (k : Int) + 1 := IntWalk.i64_in _ (by omega)
      subst e1 e2
      clear h1 h2 hx hLn
      go_wp2_with fail
      go_quiet (fail)
      go_wp2_with fail
      go_roundw
      case rel => exact ⟨k + 1, by omega, by go_num, below_drewN HB.out _, I1.out.drewN _, I2.out.drewN _⟩
      case measure => simp [intOf]; omega
    · obtain rfl : k = m := by omega
      clear hLn
      go_wp2
      go_ret
      exact ⟨rfl, HB.out⟩
theorem w28_1 : cvPartsE [5, 4, 1] 1 = 0 ∧ cvParts [5, 4, 1] 1 = [(0, 1, 2), (1, 2, 8), (2, 3, 14)] := by decide
theorem w28_2 : cvPartsE [2, 104, 105, 0, 3, 20, 1] 9 = 0 ∧ cvParts [2, 104, 105, 0, 3, 20, 1] 9 = [(0, 1, 6), (1, 4, 10), (4, 5, 5), (5, 6, 8), (6, 7, 14)] := by decide
theorem w28_3 : cvPartsE [97, 0, 2, 3, 4, 2, 56, 1] 9 = 0 ∧ cvParts [97, 0, 2, 3, 4, 2, 56, 1] 9 = [(0, 2, 9), (2, 3, 6), (3, 4, 5), (4, 5, 5), (5, 6, 5), (6, 7, 8), (7, 8, 14)] := by decide
theorem w28_4 : cvPartsE [5, 4, 1] 0 = 260 ∧ cvParts [5, 4, 1] 0 = [] := by decide
theorem w28_5 : cvPartsE [4, 1] 9 = 210 ∧ cvParts [4, 1] 9 = [] := by decide
theorem w28_6 : cvPartsE [2, 104, 105, 1, 3, 20, 1] 9 = 213 ∧ cvParts [2, 104, 105, 1, 3, 20, 1] 9 = [] := by decide
end Go.Proofs.YtejalfjeihlpeaaGreat

namespace Go.Proofs.YtejalfjeihlpeaaGreat
open Go.RowKit Go.Acc
theorem isp_vs (W : World) (vs : Array Value) (n : Nat) (L : List P3) (hn : L.length = n) (h : vs.toList = L.flatMap pc) : IsP (W.alloc (.cells vs 57)) (some ⟨W.heap.size, 0, none⟩) n L :=
  ⟨hn, fun j u hj => ⟨_, _, rfl, by rw [(Blk.new W 57 vs).cell, Nat.zero_add, ← Array.getElem?_toList, h]; exact hj⟩⟩
set_option maxRecDepth 100000 in
set_option maxHeartbeats 2000000 in
theorem cvworks_spec (w : World) : Calls Tryz.prog 12 #[] w fun e w' => e = .returned (.bool true) ∧ Below w.heap.size w w' := by
  have HB := Lib.hid (Below.refl w.heap.size w)
  go_enter Tryz.func12, Tryz.ntmps12
  go_wp2_with fail
  go_at_call 36
  refine (part28_spec 0 1 2 _).mono ?_
  rintro e wn ⟨rfl, hb⟩
  replace HB := Lib.hid (pure_below HB.out hb)
  clear hb
  go_wp2_with fail
  go_at_call 36
  refine (part28_spec 1 2 8 _).mono ?_
  rintro e wn ⟨rfl, hb⟩
  replace HB := Lib.hid (pure_below HB.out hb)
  clear hb
  go_wp2_with fail
  go_at_call 36
  refine (part28_spec 2 3 14 _).mono ?_
  rintro e wn ⟨rfl, hb⟩
  replace HB := Lib.hid (pure_below HB.out hb)
  clear hb
  go_wp2_with fail
  have HX := Lib.hid (isp_vs wn #[.int .i64 0, .int .i64 1, .int .i64 2, .int .i64 1, .int .i64 2, .int .i64 8, .int .i64 2, .int .i64 3, .int .i64 14] 3 [(0, 1, 2), (1, 2, 8), (2, 3, 14)] (by rfl) (by rfl))
  replace HB := Lib.hid (HB.out.alloc HB.out.size (.cells #[.int .i64 0, .int .i64 1, .int .i64 2, .int .i64 1, .int .i64 2, .int .i64 8, .int .i64 2, .int .i64 3, .int .i64 14] 57))
  go_at_call 35
  refine (told_yes _ 1 0 _ 3 3 [(0, 1, 2), (1, 2, 8), (2, 3, 14)] _ HX.out (by decide) (by decide) (by decide) w28_1.1 w28_1.2).mono ?_
  rintro e wn ⟨rfl, hb⟩
  replace HB := Lib.hid (pure_below HB.out hb)
  clear hb HX
  go_wp2_with fail
  go_at_call 36
  refine (part28_spec 0 1 6 _).mono ?_
  rintro e wn ⟨rfl, hb⟩
  replace HB := Lib.hid (pure_below HB.out hb)
  clear hb
  go_wp2_with fail
  go_at_call 36
  refine (part28_spec 1 4 10 _).mono ?_
  rintro e wn ⟨rfl, hb⟩
  replace HB := Lib.hid (pure_below HB.out hb)
  clear hb
  go_wp2_with fail
  go_at_call 36
  refine (part28_spec 4 5 5 _).mono ?_
  rintro e wn ⟨rfl, hb⟩
  replace HB := Lib.hid (pure_below HB.out hb)
  clear hb
  go_wp2_with fail
  go_at_call 36
  refine (part28_spec 5 6 8 _).mono ?_
  rintro e wn ⟨rfl, hb⟩
  replace HB := Lib.hid (pure_below HB.out hb)
  clear hb
  go_wp2_with fail
  go_at_call 36
  refine (part28_spec 6 7 14 _).mono ?_
  rintro e wn ⟨rfl, hb⟩
  replace HB := Lib.hid (pure_below HB.out hb)
  clear hb
  go_wp2_with fail
  have HX := Lib.hid (isp_vs wn #[.int .i64 0, .int .i64 1, .int .i64 6, .int .i64 1, .int .i64 4, .int .i64 10, .int .i64 4, .int .i64 5, .int .i64 5, .int .i64 5, .int .i64 6, .int .i64 8, .int .i64 6, .int .i64 7, .int .i64 14] 5 [(0, 1, 6), (1, 4, 10), (4, 5, 5), (5, 6, 8), (6, 7, 14)] (by rfl) (by rfl))
  replace HB := Lib.hid (HB.out.alloc HB.out.size (.cells #[.int .i64 0, .int .i64 1, .int .i64 6, .int .i64 1, .int .i64 4, .int .i64 10, .int .i64 4, .int .i64 5, .int .i64 5, .int .i64 5, .int .i64 6, .int .i64 8, .int .i64 6, .int .i64 7, .int .i64 14] 57))
  go_at_call 35
  refine (told_yes _ 9 0 _ 5 5 [(0, 1, 6), (1, 4, 10), (4, 5, 5), (5, 6, 8), (6, 7, 14)] _ HX.out (by decide) (by decide) (by decide) w28_2.1 w28_2.2).mono ?_
  rintro e wn ⟨rfl, hb⟩
  replace HB := Lib.hid (pure_below HB.out hb)
  clear hb HX
  go_wp2_with fail
  go_at_call 36
  refine (part28_spec 0 2 9 _).mono ?_
  rintro e wn ⟨rfl, hb⟩
  replace HB := Lib.hid (pure_below HB.out hb)
  clear hb
  go_wp2_with fail
  go_at_call 36
  refine (part28_spec 2 3 6 _).mono ?_
  rintro e wn ⟨rfl, hb⟩
  replace HB := Lib.hid (pure_below HB.out hb)
  clear hb
  go_wp2_with fail
  go_at_call 36
  refine (part28_spec 3 4 5 _).mono ?_
  rintro e wn ⟨rfl, hb⟩
  replace HB := Lib.hid (pure_below HB.out hb)
  clear hb
  go_wp2_with fail
  go_at_call 36
  refine (part28_spec 4 5 5 _).mono ?_
  rintro e wn ⟨rfl, hb⟩
  replace HB := Lib.hid (pure_below HB.out hb)
  clear hb
  go_wp2_with fail
  go_at_call 36
  refine (part28_spec 5 6 5 _).mono ?_
  rintro e wn ⟨rfl, hb⟩
  replace HB := Lib.hid (pure_below HB.out hb)
  clear hb
  go_wp2_with fail
  go_at_call 36
  refine (part28_spec 6 7 8 _).mono ?_
  rintro e wn ⟨rfl, hb⟩
  replace HB := Lib.hid (pure_below HB.out hb)
  clear hb
  go_wp2_with fail
  go_at_call 36
  refine (part28_spec 7 8 14 _).mono ?_
  rintro e wn ⟨rfl, hb⟩
  replace HB := Lib.hid (pure_below HB.out hb)
  clear hb
  go_wp2_with fail
  have HX := Lib.hid (isp_vs wn #[.int .i64 0, .int .i64 2, .int .i64 9, .int .i64 2, .int .i64 3, .int .i64 6, .int .i64 3, .int .i64 4, .int .i64 5, .int .i64 4, .int .i64 5, .int .i64 5, .int .i64 5, .int .i64 6, .int .i64 5, .int .i64 6, .int .i64 7, .int .i64 8, .int .i64 7, .int .i64 8, .int .i64 14] 7 [(0, 2, 9), (2, 3, 6), (3, 4, 5), (4, 5, 5), (5, 6, 5), (6, 7, 8), (7, 8, 14)] (by rfl) (by rfl))
  replace HB := Lib.hid (HB.out.alloc HB.out.size (.cells #[.int .i64 0, .int .i64 2, .int .i64 9, .int .i64 2, .int .i64 3, .int .i64 6, .int .i64 3, .int .i64 4, .int .i64 5, .int .i64 4, .int .i64 5, .int .i64 5, .int .i64 5, .int .i64 6, .int .i64 5, .int .i64 6, .int .i64 7, .int .i64 8, .int .i64 7, .int .i64 8, .int .i64 14] 57))
  go_at_call 35
  refine (told_yes _ 9 0 _ 7 7 [(0, 2, 9), (2, 3, 6), (3, 4, 5), (4, 5, 5), (5, 6, 5), (6, 7, 8), (7, 8, 14)] _ HX.out (by decide) (by decide) (by decide) w28_3.1 w28_3.2).mono ?_
  rintro e wn ⟨rfl, hb⟩
  replace HB := Lib.hid (pure_below HB.out hb)
  clear hb HX
  go_wp2_with fail
  go_at_call 35
  refine (told_yes _ 0 260 _ 0 0 [] _ (Is.nil _ _) (by decide) (by decide) (by decide) w28_4.1 w28_4.2).mono ?_
  rintro e wn ⟨rfl, hb⟩
  replace HB := Lib.hid (pure_below HB.out hb)
  clear hb
  go_wp2_with fail
  go_at_call 35
  refine (told_yes _ 9 210 _ 0 0 [] _ (Is.nil _ _) (by decide) (by decide) (by decide) w28_5.1 w28_5.2).mono ?_
  rintro e wn ⟨rfl, hb⟩
  replace HB := Lib.hid (pure_below HB.out hb)
  clear hb
  go_wp2_with fail
  go_at_call 35
  refine (told_yes _ 9 213 _ 0 0 [] _ (Is.nil _ _) (by decide) (by decide) (by decide) w28_6.1 w28_6.2).mono ?_
  rintro e wn ⟨rfl, hb⟩
  replace HB := Lib.hid (pure_below HB.out hb)
  clear hb
  go_wp2
  go_ret
  exact ⟨rfl, HB.out⟩
end Go.Proofs.YtejalfjeihlpeaaGreat
