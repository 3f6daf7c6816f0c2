/-
  Package minimal: documents that are a vector of unsigned numbers, in plain terms.
-/
import Derived.Test.YtejalfjeihlpeaaGreatQ39
namespace Go.Proofs.YtejalfjeihlpeaaGreat
open Go.RowKit Go.Acc
/-- A vector of unsigned numbers: its length, its numbers, the tags, bytes behind them; the reference to it. -/
structure VecD where
  w : Nat
  ls : List Nat
  tags : List UInt8
  pad : List UInt8
  v : Nat
  c : UInt8
  t : Int
def VecD.off (D : VecD) : Nat := D.ls.length * D.w + D.tags.length + D.pad.length
def VecD.body (D : VecD) : List UInt8 := leBytes D.w D.ls.length ++ D.ls.flatMap (leBytes D.w) ++ D.tags ++ D.pad
def VecD.doc (D : VecD) : List UInt8 := D.body ++ leBytes D.v D.off ++ [D.c, UInt8.ofNat D.v]
structure VecD.Ok (D : VecD) : Prop where
  hw : isW (D.w : Int) = true
  hv : isW (D.v : Int) = true
  hc : unE D.c = 0
  hct : unT D.c = D.t
  hcw : unW D.c = D.w
  ht : (D.t = 12 ∧ D.tags = []) ∨ (D.t = 10 ∧ D.tags.length = D.ls.length ∧ ∀ b ∈ D.tags, unE b = 0 ∧ unT b = 2)
  hn : D.ls.length ≤ 100
  hp : D.pad.length ≤ 8
  hl : ∀ u ∈ D.ls, u < 2 ^ (8 * D.w)
  hm : (D.w + D.off) % D.v = 0
  ho : D.off < 2 ^ (8 * D.v)
  h2 : 1 < D.v → 255 < D.off ∧ D.v = 2
section
variable {D : VecD}
theorem flat_len (w : Nat) (ls : List Nat) : (ls.flatMap (leBytes w)).length = ls.length * w := by
  induction ls with
  | nil => simp
  | cons x ls ih => rw [List.flatMap_cons, List.length_append, leBytes_length, ih, List.length_cons, Nat.succ_mul, Nat.add_comm]
theorem body_len : D.body.length = D.w + D.off := by
  unfold VecD.body VecD.off
  rw [List.length_append, List.length_append, List.length_append, leBytes_length, flat_len]
  omega
theorem doc_len : D.doc.length = D.w + D.off + D.v + 2 := by
  unfold VecD.doc
  rw [List.length_append, List.length_append, body_len, leBytes_length]
  rfl
theorem VecD.Ok.w8 (h : D.Ok) : 1 ≤ D.w ∧ D.w ≤ 8 := by have := isW_iff.1 h.hw; omega
theorem VecD.Ok.v8 (h : D.Ok) : 1 ≤ D.v ∧ D.v ≤ 8 := by have := isW_iff.1 h.hv; omega
theorem vec_root (h : D.Ok) : rootE D.doc = 0 ∧ cvRoot D.doc = ⟨(D.w + D.off : Nat), D.v, D.t, D.w⟩ := by
  have h8 := h.v8
  have hlen := doc_len (D := D)
  have hg : ∀ i, D.doc.getD (D.w + D.off + D.v + i) 0 = [D.c, UInt8.ofNat D.v].getD i 0 := by
    intro i
    have := getD_pre (D.body ++ leBytes D.v D.off) [D.c, UInt8.ofNat D.v] i 0
    rw [List.length_append, body_len, leBytes_length] at this
    exact this
  have hx : D.doc.getD (D.doc.length - 1) 0 = UInt8.ofNat D.v := by
    rw [hlen, show D.w + D.off + D.v + 2 - 1 = D.w + D.off + D.v + 1 from rfl, hg]
    rfl
  have hy : D.doc.getD (D.doc.length - 2) 0 = D.c := by
    rw [hlen, show D.w + D.off + D.v + 2 - 2 = D.w + D.off + D.v + 0 from rfl, hg]
    rfl
  have hxn : (UInt8.ofNat D.v).toNat = D.v := by rw [UInt8.toNat_ofNat']; omega
  have h4 := rootE_4 (l := D.doc) (by omega) hx hy (by rw [hxn]; exact h.hv) h.hc
  have hz : ((D.doc.length : Nat) : Int) - 2 - ((UInt8.ofNat D.v).toNat : Nat) = (D.w + D.off : Nat) := by rw [hlen, hxn]; omega
  have hE : rootE D.doc = 0 := by
    rw [h4, hz, hxn, if_neg]
    rintro (h1 | h1)
    · omega
    · apply h1
      have := h.hm
      rw [← Int.natCast_emod, this]
      rfl
  refine ⟨hE, ?_⟩
  have hr := rootR_ok hx hy hE
  unfold cvRoot
  rw [hr, hz, hxn, h.hct, h.hcw]
theorem vec_t (h : D.Ok) : legalT D.t = true ∧ inlineT D.t = false ∧ isL D.t = true ∧ aheadT D.t = 1 ∧ manyT D.t = 0 ∧ D.t ≠ 9 ∧ D.t ≠ 4 ∧ isIn [4, 5, 25] D.t = false ∧ ¬ (D.t = 6 ∨ D.t = 7) ∧ D.t ≠ 5 ∧ D.t ≠ 25 := by
  rcases h.ht with ⟨e, _⟩ | ⟨e, _⟩ <;> rw [e] <;> decide
theorem vec_tgt (h : D.Ok) : tgtE D.doc (D.w + D.off : Nat) D.v D.t D.w = 0 ∧ tgt D.doc (D.w + D.off : Nat) D.v D.t D.w = D.w := by
  obtain ⟨h1, h2, _⟩ := vec_t h
  have hm : mayE D.doc.length (D.w + D.off : Nat) D.v D.t D.w = 0 := mayE_ok.2 ⟨formed_iff.2 ⟨h1, h.hv, h.hw⟩, inB_iff.2 ⟨by omega, by omega, by rw [doc_len]; omega⟩⟩
  have hl : loadU D.doc (D.w + D.off : Nat) D.v = D.off := back_load (l := D.body) (k := [D.c, UInt8.ofNat D.v]) (n := D.w + D.off) h.hv h.ho body_len
  have hn : ¬ ((D.w + D.off : Nat) : Int) < (loadU D.doc (D.w + D.off : Nat) D.v : Int) := by rw [hl]; omega
  refine ⟨tgtE_ok hm h2 hn, ?_⟩
  rw [tgt_ok hm h2 hn, hl]
  omega
theorem vec_doc1 : ∃ k, D.doc = leBytes D.w D.ls.length ++ k := ⟨D.ls.flatMap (leBytes D.w) ++ D.tags ++ D.pad ++ leBytes D.v D.off ++ [D.c, UInt8.ofNat D.v], by unfold VecD.doc VecD.body; simp only [List.append_assoc]⟩
theorem len_lt (h : D.Ok) : D.ls.length < 2 ^ (8 * D.w) := by
  have h1 : 2 ^ 8 ≤ 2 ^ (8 * D.w) := Nat.pow_le_pow_right (by decide) (by have := h.w8; omega)
  have := h.hn
  omega
theorem vec_ls (h : D.Ok) : lsE D.doc (D.w + D.off : Nat) D.v D.t D.w = 0 ∧ lsLen D.doc (D.w + D.off : Nat) D.v D.t D.w = D.ls.length ∧ lsAt D.doc (D.w + D.off : Nat) D.v D.t D.w = D.w ∧ lsFrom D.doc (D.w + D.off : Nat) D.v D.t D.w = 0 := by
  obtain ⟨h1, h2, h3, h4, h5, _⟩ := vec_t h
  obtain ⟨g1, g2⟩ := vec_tgt h
  have hN : lsN D.doc (D.w + D.off : Nat) D.v D.t D.w = D.ls.length := by
    unfold lsN
    rw [if_neg (by rw [h5]; decide), g2]
    obtain ⟨k, hk⟩ := vec_doc1 (D := D)
    rw [hk, show ((D.w : Int) - D.w) = ((0 : Nat) : Int) by omega]
    have := back_load (l := []) (k := k) (n := 0) h.hw (len_lt h) rfl
    rw [List.nil_append] at this
    exact this
  have hE : lsE D.doc (D.w + D.off : Nat) D.v D.t D.w = 0 := by
    refine ls_zero0 (may_tgt g1).1 h3 g1 (by rw [g2]; exact Int.emod_self) (by rw [g2, h4]; omega) ?_
    rw [g2, hN, doc_len, Int.toNat_natCast]
    unfold lsX tgs
    rcases h.ht with ⟨e, e2⟩ | ⟨e, e2, _⟩
    · rw [e, if_neg (by decide), Int.toNat_natCast, Nat.add_zero]
      unfold VecD.off
      omega
    · rw [e, if_pos (by decide), Int.toNat_natCast, Nat.mul_add]
      unfold VecD.off
      omega
  refine ⟨hE, ?_, ?_, ?_⟩
  · unfold lsLen; rw [if_pos hE, hN]
  · unfold lsAt; rw [if_pos hE, g2, Int.toNat_natCast]
  · unfold lsFrom; rw [if_pos hE, g2, h4, Int.toNat_natCast]; omega
theorem vec_at (h : D.Ok) {i : Nat} (hi : i < D.ls.length) : cvAt D.doc ⟨(D.w + D.off : Nat), D.v, D.t, D.w⟩ i = ⟨(D.w + i * D.w : Nat), D.w, 2, (cvAt D.doc ⟨(D.w + D.off : Nat), D.v, D.t, D.w⟩ i).v⟩ ∧ atE D.doc (D.w + D.off : Nat) D.v D.t D.w i = 0 := by
  obtain ⟨e1, e2, e3, e4⟩ := vec_ls h
  have hA : atE D.doc (D.w + D.off : Nat) D.v D.t D.w i = 0 ∧ (if tagT D.t = true then unT (tagB D.doc (D.w + D.off : Nat) D.v D.t D.w i) else elemT D.t) = 2 := by
    unfold atE
    rw [if_neg (by rw [e1]; decide), if_neg (by rw [e2]; omega)]
    rcases h.ht with ⟨e, _⟩ | ⟨e, g1, g2⟩
    · rw [e]
      exact ⟨rfl, rfl⟩
    · have hb : tagB D.doc (D.w + D.off : Nat) D.v D.t D.w i = D.tags.getD i 0 := by
        unfold tagB
        rw [e2, e3, Int.toNat_natCast, Int.toNat_natCast]
        have hd : D.doc = (leBytes D.w D.ls.length ++ D.ls.flatMap (leBytes D.w)) ++ (D.tags ++ (D.pad ++ leBytes D.v D.off ++ [D.c, UInt8.ofNat D.v])) := by unfold VecD.doc VecD.body; simp only [List.append_assoc]
        have hl : (leBytes D.w D.ls.length ++ D.ls.flatMap (leBytes D.w)).length = D.w + D.ls.length * D.w := by rw [List.length_append, leBytes_length, flat_len]
        have := getD_pre (leBytes D.w D.ls.length ++ D.ls.flatMap (leBytes D.w)) (D.tags ++ (D.pad ++ leBytes D.v D.off ++ [D.c, UInt8.ofNat D.v])) i 0
        rw [hl] at this
        rw [hd, this, List.getD_eq_getElem?_getD, List.getD_eq_getElem?_getD, List.getElem?_append_left (by omega)]
      have hm := g2 (D.tags.getD i 0) (by
        rw [List.getD_eq_getElem?_getD, List.getElem?_eq_getElem (by omega)]
        exact List.getElem_mem _)
      rw [hb, e, if_pos (by decide), if_pos (by decide)]
      exact hm
  refine ⟨?_, hA.1⟩
  unfold cvAt atP atQ atT
  simp only [hA.1, if_true, e3, hA.2, Int.toNat_natCast, Rq.mk.injEq, and_true]
  omega
theorem flat_at (w : Nat) : ∀ (ls : List Nat) (i : Nat) (hi : i < ls.length), ∃ a b, ls.flatMap (leBytes w) = a ++ leBytes w ls[i] ++ b ∧ a.length = i * w
  | x :: ls, 0, _ => ⟨[], ls.flatMap (leBytes w), by simp, by simp⟩
  | x :: ls, i + 1, hi => by
    obtain ⟨a, b, h1, h2⟩ := flat_at w ls i (by simpa using hi)
    refine ⟨leBytes w x ++ a, b, ?_, ?_⟩
    · rw [List.flatMap_cons, h1]
      simp only [List.append_assoc, List.getElem_cons_succ]
    · rw [List.length_append, leBytes_length, h2, Nat.succ_mul, Nat.add_comm]
theorem vec_load (h : D.Ok) {i : Nat} (hi : i < D.ls.length) : loadU D.doc (D.w + i * D.w : Nat) D.w = D.ls[i] := by
  obtain ⟨a, b, h1, h2⟩ := flat_at D.w D.ls i hi
  have hd : D.doc = (leBytes D.w D.ls.length ++ a) ++ leBytes D.w D.ls[i] ++ (b ++ (D.tags ++ (D.pad ++ (leBytes D.v D.off ++ [D.c, UInt8.ofNat D.v])))) := by
    unfold VecD.doc VecD.body
    rw [h1]
    simp only [List.append_assoc]
  rw [hd]
  exact back_load (n := D.w + i * D.w) h.hw (h.hl _ (List.getElem_mem hi)) (by rw [List.length_append, leBytes_length, h2])
/-- The visit of the elements. -/
theorem vec_elems (h : D.Ok) (d : Nat) : ∀ (m i : Nat) (s : CvS), i + m ≤ D.ls.length → (m : Int) ≤ s.left → (cvElems D.doc (cvCome D.doc (d + 1)) ⟨(D.w + D.off : Nat), D.v, D.t, D.w⟩ m i s).2 = 0
  | 0, _, _, _, _ => rfl
  | m + 1, i, s, hi, hs => by
    obtain ⟨h1, h2⟩ := vec_at h (i := i) (by omega)
    have hl : (cvTag D.doc ⟨(D.w + D.off : Nat), D.v, D.t, D.w⟩ i s).left = s.left := by
      unfold cvTag
      split
      · exact tell_left _ _ _ _
      · rfl
    have hc : cvCome D.doc (d + 1) (cvAt D.doc ⟨(D.w + D.off : Nat), D.v, D.t, D.w⟩ i) (cvTag D.doc ⟨(D.w + D.off : Nat), D.v, D.t, D.w⟩ i s) = (cvStart (cvAt D.doc ⟨(D.w + D.off : Nat), D.v, D.t, D.w⟩ i) (cvTag D.doc ⟨(D.w + D.off : Nat), D.v, D.t, D.w⟩ i s), 0) := by
      unfold cvCome
      rw [if_neg (by rw [hl]; omega), if_pos (by rw [h1]; rfl)]
    have a1 : ¬ atE D.doc (D.w + D.off : Nat) D.v D.t D.w i ≠ 0 := by rw [h2]; decide
    unfold cvElems
    rw [if_neg a1, hc, if_neg (by simp)]
    refine vec_elems h d m (i + 1) _ (by omega) ?_
    unfold cvStart CvS.burn
    rw [tell_left]
    simp only [hl]
    omega
theorem vec_parts (h : D.Ok) : cvPartsE D.doc 2000 = 0 := by
  obtain ⟨hE, hR⟩ := vec_root h
  obtain ⟨g1, g2⟩ := vec_tgt h
  obtain ⟨e1, e2, e3, e4⟩ := vec_ls h
  obtain ⟨t1, t2, t3, t4, t5, t6, t7, t8, t9, _⟩ := vec_t h
  have hl : (cvS1 D.doc 2000).left = 2000 := by unfold cvS1; rw [tell_left, tell_left]
  have hh : (cvS1 D.doc 2000).had = [] := by unfold cvS1; rw [tell_had, tell_had]
  have a1 : ¬ rootE D.doc ≠ 0 := by rw [hE]; decide
  unfold cvPartsE cvVisit
  rw [if_neg a1, hR]
  show (cvCome _ (1999 + 1 + 1) _ _).2 = 0
  rw [cvCome, if_neg (by rw [hl]; decide)]
  simp only
  rw [if_neg (by rw [t2]; decide), if_neg (by rw [g1, hh]; simp)]
  unfold cvData
  simp only
  rw [if_neg (by rw [t8]; decide), if_neg t9]
  unfold cvList cvHead
  simp only
  rw [if_neg (by rw [e1]; decide), if_neg t6]
  simp only [ne_eq, not_true_eq_false, if_false]
  rw [e2]
  refine vec_elems h 1999 D.ls.length 0 _ (by omega) ?_
  have hn := h.hn
  have hk : ∀ s : CvS, (cvLen D.doc ⟨(D.w + D.off : Nat), D.v, D.t, D.w⟩ s).left = s.left := by
    intro s
    unfold cvLen
    split
    · exact tell_left _ _ _ _
    · rfl
  rw [hk]
  unfold CvS.see cvStart CvS.burn
  rw [tell_left]
  simp only [hl]
  omega
/-- The numbers fit half of the width. -/
def VecD.thin (D : VecD) : Prop := 1 < D.w ∧ ∀ u ∈ D.ls, wdU u ≤ (D.w : Int) / 2
theorem vec_fits (h : D.Ok) (h1 : 1 < D.w) : mnFits D.doc ⟨(D.w + D.off : Nat), D.v, D.t, D.w⟩ ((D.w : Int) / 2) = true ↔ D.thin := by
  obtain ⟨e1, e2, e3, e4⟩ := vec_ls h
  obtain ⟨t1, t2, t3, t4, t5, t6, t7, t8, t9, t10, t11⟩ := vec_t h
  have h8 := h.w8
  have hah : mnAhead D.doc ⟨(D.w + D.off : Nat), D.v, D.t, D.w⟩ = 1 := by
    unfold mnAhead
    simp only [e3, e4]
    rw [show ((D.w : Nat) : Int) - ((0 : Nat) : Int) = D.w by omega]
    exact Int.ediv_self (by omega)
  have hf : mnFits D.doc ⟨(D.w + D.off : Nat), D.v, D.t, D.w⟩ ((D.w : Int) / 2) = mnList D.doc ⟨(D.w + D.off : Nat), D.v, D.t, D.w⟩ ((D.w : Int) / 2) := by
    unfold mnFits
    simp only
    rw [if_neg (fun h => h.elim t10 t11), if_neg (fun h => t9 (.inl h)), if_neg (fun h => t9 (.inr h))]
  rw [hf]
  unfold mnList
  rw [hah]
  simp only [e2]
  have hn : wdU D.ls.length = 1 := by
    unfold wdU
    rw [if_pos (by have := h.hn; omega)]
  rw [hn, if_neg (by omega), if_neg (by simp), List.all_eq_true]
  have key : ∀ i, (hi : i < D.ls.length) → mnElem D.doc ⟨(D.w + D.off : Nat), D.v, D.t, D.w⟩ ((D.w : Int) / 2) i = decide (wdU D.ls[i] ≤ (D.w : Int) / 2) := by
    intro i hi
    unfold mnElem
    rw [(vec_at h hi).1]
    unfold mnStands mnP
    simp only
    rw [if_neg (by decide), if_pos trivial, vec_load h hi]
  constructor
  · intro hall
    refine ⟨h1, fun u hu => ?_⟩
    obtain ⟨i, hi, rfl⟩ := List.mem_iff_getElem.1 hu
    have := hall i (List.mem_range.2 hi)
    rw [key i hi] at this
    exact of_decide_eq_true this
  · intro ht i hi
    have hi := List.mem_range.1 hi
    rw [key i hi]
    exact decide_eq_true (ht.2 _ (List.getElem_mem hi))
theorem vec_each (h : D.Ok) (d : Nat) : ∀ (is : List Nat) (had : List P3), (∀ i ∈ is, i < D.ls.length) → mnEach (mnGo D.doc (d + 1)) D.doc ⟨(D.w + D.off : Nat), D.v, D.t, D.w⟩ is had = some (.ok had)
  | [], _, _ => rfl
  | i :: is, had, hi => by
    have h1 := (vec_at h (hi i (List.mem_cons_self ..))).1
    have hg : mnGo D.doc (d + 1) (cvAt D.doc ⟨(D.w + D.off : Nat), D.v, D.t, D.w⟩ i) had = some (.ok had) := by
      unfold mnGo
      rw [if_pos (by rw [h1]; rfl)]
    unfold mnEach
    rw [hg]
    exact vec_each h d is had (fun j hj => hi j (List.mem_cons_of_mem _ hj))
open Classical in
theorem vec_check (h : D.Ok) : mnCheck D.doc 2000 = if D.thin then ((D.w : Int), 10) else (0, 0) := by
  obtain ⟨hE, hR⟩ := vec_root h
  obtain ⟨g1, g2⟩ := vec_tgt h
  obtain ⟨e1, e2, e3, e4⟩ := vec_ls h
  obtain ⟨t1, t2, t3, t4, t5, t6, t7, t8, t9, t10, t11⟩ := vec_t h
  have hP := vec_parts h
  have a1 : ¬ cvPartsE D.doc 2000 ≠ 0 := by rw [hP]; decide
  have hs : ¬ (1 < (D.v : Int) ∧ mnStands D.doc (D.w + D.off : Nat) D.v D.t D.w (D.w + D.off : Nat) ((D.v : Int) / 2) = true) := by
    rintro ⟨h1, h2⟩
    obtain ⟨h3, h4⟩ := h.h2 (by omega)
    unfold mnStands at h2
    have n1 : D.t ≠ 1 := by rintro e; rw [e] at t2; exact absurd t2 (by decide)
    have n2 : D.t ≠ 2 := by rintro e; rw [e] at t2; exact absurd t2 (by decide)
    rw [if_neg n1, if_neg n2, if_neg (by rw [t2]; decide), g2] at h2
    have h5 : (((D.w + D.off : Nat) : Int) - (D.w : Nat)).toNat = D.off := by omega
    rw [h5, h4] at h2
    have h6 := of_decide_eq_true (Bool.and_eq_true_iff.1 h2).2
    unfold wdU at h6
    rw [if_neg (by omega)] at h6
    (repeat' split at h6) <;> omega
  have hm : mnRun D.doc ⟨(D.w + D.off : Nat), D.v, D.t, D.w⟩ = if D.thin then .error (D.w : Int) else .ok [mnHere D.doc ⟨(D.w + D.off : Nat), D.v, D.t, D.w⟩] := by
    have hg : mnGo D.doc (mnFuel D.doc) ⟨(D.w + D.off : Nat), D.v, D.t, D.w⟩ [] = some (if D.thin then .error (D.w : Int) else .ok [mnHere D.doc ⟨(D.w + D.off : Nat), D.v, D.t, D.w⟩]) := by
      have hF : mnFuel D.doc = ((D.doc.length + 1) * 576 - 1) + 1 + 1 := by unfold mnFuel; omega
      rw [hF, mnGo]
      simp only
      rw [if_neg (by rw [t2]; decide), if_neg (by simp [t7])]
      by_cases hth : D.thin
      · rw [if_pos ⟨by have := hth.1; omega, (vec_fits h hth.1).2 hth⟩, if_pos hth, g2]
      · rw [if_neg (fun hx => hth ((vec_fits h (by have := hx.1; omega)).1 hx.2)), if_neg hth]
        unfold mnRest
        simp only
        rw [if_neg t6, e2]
        exact vec_each h _ _ _ (fun i hi => List.mem_range.1 hi)
    unfold mnRun
    rw [hg]
    rfl
  unfold mnCheck
  rw [if_neg a1, hR]
  simp only
  rw [if_neg hs, hm]
  by_cases hth : D.thin
  · rw [if_pos hth, if_pos hth]
    rfl
  · rw [if_neg hth, if_neg hth]
    rfl
end
end Go.Proofs.YtejalfjeihlpeaaGreat
