/-
  Bytes before a document: what is too wide is found likewise, in plain terms; the offsets and the errors of Check.
  Package minimal: the errors of Check, in plain terms; the property MinimalErrors.
  Package le: the property LeBack.
-/
import Derived.Test.YtejalfjeihlpeaaGreatQ36
import Derived.Test.YtejalfjeihlpeaaGreatQ38
namespace Go.Proofs.YtejalfjeihlpeaaGreat
open Go.RowKit Go.Acc
section
variable {pre l : List UInt8}
theorem mns_pre {a x v : Int} (ha : 0 ≤ a) : mnS (pre ++ l) (a + pre.length) x v = mnS l a x v := by unfold mnS; rw [loadI_pre ha]
theorem mnp_pre {a x v : Int} (ha : 0 ≤ a) : mnP (pre ++ l) (a + pre.length) x v = mnP l a x v := by unfold mnP; rw [loadU_pre ha]
theorem stands_pre {p q t w pos v : Int} (hp : 0 ≤ p) (h : inlineT t = true ∨ tgtE l p q t w = 0) : mnStands (pre ++ l) (p + pre.length) q t w (pos + pre.length) v = mnStands l p q t w pos v := by
  unfold mnStands
  rw [mns_pre hp, mnp_pre hp]
  rcases h with h | h
  · rw [if_pos h, if_pos h]
  · rw [(tgt_pre h).2]
    have e1 : decide (tgt l p q t w + (pre.length : Int) ≤ pos + pre.length) = decide (tgt l p q t w ≤ pos) := decide_eq_decide.2 (by omega)
    have e2 : pos + (pre.length : Int) - (tgt l p q t w + pre.length) = pos - tgt l p q t w := by omega
    rw [e1, e2]
theorem good_stands {H : List P3} {c : Rq} (h : GoodC l H c) (pos v : Int) : mnStands (pre ++ l) (c.sh pre.length).p (c.sh pre.length).q (c.sh pre.length).t (c.sh pre.length).v (pos + pre.length) v = mnStands l c.p c.q c.t c.v pos v :=
  stands_pre h.1 (h.2.imp id fun h => h.2.1)
theorem list_t {t : Int} (h : isL t = true) : isIn [4, 5, 25] t = false ∧ ¬ (t = 6 ∨ t = 7) ∧ t ≠ 5 ∧ t ≠ 25 ∧ t ≠ 6 ∧ t ≠ 7 := by
  have ht : isT t = true := by
    cases e : isT t with
    | true => rfl
    | false =>
      unfold isL vecT at h
      rw [tRow_no e] at h
      have h9 : ¬ (t = 9 ∨ t = 10) := by
        have : ¬ (0 ≤ t ∧ t < 37) := by rw [← isT_iff, e]; decide
        omega
      simp [h9] at h
  revert h
  exact t37_all (p := fun t => isL t = true → isIn [4, 5, 25] t = false ∧ ¬ (t = 6 ∨ t = 7) ∧ t ≠ 5 ∧ t ≠ 25 ∧ t ≠ 6 ∧ t ≠ 7) (by decide) ht
theorem list_pre {H : List P3} {r : Rq} {f : Int} (hk : pre.length % 8 = 0) (hl : lsE l r.p r.q r.t r.v = 0) (hw : Whole l H r) : mnList (pre ++ l) (r.sh pre.length) f = mnList l r f := by
  obtain ⟨e1, e2, e3, e4⟩ := ls_pre hk hl
  obtain ⟨_, hL, _, _, hA, _⟩ := ls_parts hl
  obtain ⟨h1, h2, _⟩ := list_t hL
  have hw0 := hw
  unfold Whole at hw
  rw [if_neg (by rw [h1]; decide), if_neg h2] at hw
  have hah : mnAhead (pre ++ l) (r.sh pre.length) = mnAhead l r := by
    unfold mnAhead Rq.sh
    simp only [e2, e3]
    congr 1
    omega
  have hW := isW_iff.1 (may_tgt (ls_parts hl).2.2.1).2.2.2.2.2.2
  have h9 : mnAhead l r = 3 → r.t = 9 := by
    intro h3
    have e : mnAhead l r = aheadT r.t := by
      unfold mnAhead lsAt lsFrom
      rw [if_pos hl, if_pos hl]
      have : ((tgt l r.p r.q r.t r.v).toNat : Int) - (((tgt l r.p r.q r.t r.v).toNat - aheadT r.t * r.v.toNat : Nat) : Int) = (aheadT r.t : Int) * r.v := by
        have e5 : ((aheadT r.t * r.v.toNat : Nat) : Int) = (aheadT r.t : Int) * r.v := by rw [Int.natCast_mul, Int.toNat_of_nonneg (by omega)]
        rw [← e5]
        omega
      rw [this]
      exact Int.mul_ediv_cancel _ (by omega)
    rw [h3] at e
    unfold aheadT at e
    by_cases h : r.t = 9
    · exact h
    · rw [if_neg h] at e
      split at e <;> omega
  unfold mnList
  have e4' : lsLen (pre ++ l) (r.sh pre.length).p (r.sh pre.length).q (r.sh pre.length).t (r.sh pre.length).v = lsLen l r.p r.q r.t r.v := e4
  have e2' : lsFrom (pre ++ l) (r.sh pre.length).p (r.sh pre.length).q (r.sh pre.length).t (r.sh pre.length).v = lsFrom l r.p r.q r.t r.v + pre.length := e2
  rw [hah, e4', e2']
  have hkey : mnAhead l r = 3 → mnStands (pre ++ l) (cvKey (pre ++ l) (r.sh pre.length)).p (cvKey (pre ++ l) (r.sh pre.length)).q (cvKey (pre ++ l) (r.sh pre.length)).t (cvKey (pre ++ l) (r.sh pre.length)).v ((lsFrom l r.p r.q r.t r.v + pre.length : Nat) : Int) f = mnStands l (cvKey l r).p (cvKey l r).q (cvKey l r).t (cvKey l r).v (lsFrom l r.p r.q r.t r.v) f := by
    intro h3
    obtain ⟨k1, k2⟩ := hw.2.1 (h9 h3)
    rw [(ky_pre hk k1).2, show ((lsFrom l r.p r.q r.t r.v + pre.length : Nat) : Int) = (lsFrom l r.p r.q r.t r.v : Int) + pre.length by omega]
    exact good_stands k2 _ _
  have hel : (List.range (lsLen l r.p r.q r.t r.v)).all (mnElem (pre ++ l) (r.sh pre.length) f) = (List.range (lsLen l r.p r.q r.t r.v)).all (mnElem l r f) := by
    rw [Bool.eq_iff_iff, List.all_eq_true, List.all_eq_true]
    have key : ∀ i ∈ List.range (lsLen l r.p r.q r.t r.v), mnElem (pre ++ l) (r.sh pre.length) f i = mnElem l r f i := by
      intro i hi
      obtain ⟨k1, k2⟩ := hw.2.2 i (List.mem_range.1 hi)
      unfold mnElem
      rw [at_pre hk hl k1, hah, e2', show ((lsFrom l r.p r.q r.t r.v + pre.length : Nat) : Int) + (mnAhead l r + i) * f = ((lsFrom l r.p r.q r.t r.v : Int) + (mnAhead l r + i) * f) + pre.length by omega]
      exact good_stands k2 _ _
    exact ⟨fun h i hi => (key i hi) ▸ h i hi, fun h i hi => (key i hi).symm ▸ h i hi⟩
  rw [hel]
  by_cases h3 : mnAhead l r = 3
  · rw [hkey h3]
  · have a1 : ∀ b : Bool, ¬ (mnAhead l r = 3 ∧ b = false) := fun b h => h3 h.1
    rw [if_neg (a1 _), if_neg (a1 _)]
theorem fits_pre {H : List P3} {r : Rq} {f : Int} (hk : pre.length % 8 = 0) (h4 : r.t ≠ 4) (hw : Whole l H r) : mnFits (pre ++ l) (r.sh pre.length) f = mnFits l r f := by
  have ht : (r.sh pre.length).t = r.t := rfl
  have hw0 := hw
  unfold Whole at hw
  unfold mnFits
  rw [ht]
  by_cases h5 : r.t = 5 ∨ r.t = 25
  · have hin : isIn [4, 5, 25] r.t = true := by rcases h5 with h | h <;> rw [h] <;> decide
    rw [if_pos hin] at hw
    rw [if_pos h5, if_pos h5]
    unfold mnText
    have := (fnd_pre hk hw).2
    unfold Rq.sh
    simp only [this]
  rw [if_neg h5, if_neg h5]
  by_cases h6 : r.t = 6
  · rw [if_neg (by rw [h6]; decide), if_pos (.inl h6)] at hw
    obtain ⟨_, e1, e2, e3⟩ := plc_pre hk hw
    rw [if_pos h6, if_pos h6]
    unfold mnInt Rq.sh
    simp only [e1, e2]
    exact mns_pre e3
  rw [if_neg h6, if_neg h6]
  by_cases h7 : r.t = 7
  · rw [if_neg (by rw [h7]; decide), if_pos (.inr h7)] at hw
    obtain ⟨_, e1, e2, e3⟩ := plc_pre hk hw
    rw [if_pos h7, if_pos h7]
    unfold mnUint Rq.sh
    simp only [e1, e2]
    exact mnp_pre e3
  rw [if_neg h7, if_neg h7]
  by_cases hin : isIn [4, 5, 25] r.t = true
  · rw [if_pos hin] at hw
    exfalso
    have hm : mayE l.length r.p r.q r.t r.v = 0 := by
      unfold fndE at hw
      split at hw
      · contradiction
      · rename_i h; exact Decidable.of_not_not h
    have htt := isT_iff.1 (legal_isT (formed_iff.1 (mayE_ok.1 hm).1).1)
    rw [in3 htt.1] at hin
    have := of_decide_eq_true hin
    omega
  · rw [if_neg hin, if_neg (by omega)] at hw
    exact list_pre hk hw.1 hw0
/-- What is found, moved. -/
def shX (k : Nat) : Except Int (List P3) → Except Int (List P3)
  | .error a => .error (a + k)
  | .ok h => .ok (h.map (sh3 k))
theorem each_pre {H : List P3} {r : Rq} (hk : pre.length % 8 = 0) (hl : lsE l r.p r.q r.t r.v = 0) (go go' : Rq → List P3 → Option (Except Int (List P3)))
    (hg : ∀ c had, GoodC l H c → go' (c.sh pre.length) (had.map (sh3 pre.length)) = (go c had).map (shX pre.length)) :
    ∀ (is : List Nat) (had : List P3), (∀ i ∈ is, atE l r.p r.q r.t r.v i = 0 ∧ GoodC l H (cvAt l r i)) → mnEach go' (pre ++ l) (r.sh pre.length) is (had.map (sh3 pre.length)) = (mnEach go l r is had).map (shX pre.length)
  | [], _, _ => rfl
  | i :: is, had, hi => by
    obtain ⟨k1, k2⟩ := hi i (List.mem_cons_self ..)
    unfold mnEach
    rw [at_pre hk hl k1, hg _ _ k2]
    cases go (cvAt l r i) had with
    | none => rfl
    | some res =>
      cases res with
      | error a => rfl
      | ok h => exact each_pre hk hl go go' hg is h (fun j hj => hi j (List.mem_cons_of_mem _ hj))
theorem mngo_pre {H : List P3} (hk : pre.length % 8 = 0) (hH : ∀ y ∈ H, Complete l H y) : ∀ (d : Nat) (r : Rq) (had : List P3), GoodC l H r → mnGo (pre ++ l) d (r.sh pre.length) (had.map (sh3 pre.length)) = (mnGo l d r had).map (shX pre.length)
  | 0, _, _, _ => rfl
  | d + 1, r, had, hr => by
    have ht : (r.sh pre.length).t = r.t := rfl
    have hv : (r.sh pre.length).v = r.v := rfl
    unfold mnGo
    rw [ht, hv]
    by_cases h1 : inlineT r.t = true
    · rw [if_pos h1, if_pos h1]
      rfl
    rw [if_neg h1, if_neg h1]
    obtain ⟨_, hte, hm⟩ := hr.2.resolve_left h1
    have hsp : mnHere (pre ++ l) (r.sh pre.length) = sh3 pre.length (mnHere l r) := spot_pre hte
    obtain ⟨r0, e0, hte0, hw0⟩ := hH _ hm
    have hw : Whole l H r := whole_spot hte0 hte e0 hw0
    by_cases h2 : mnHere l r ∈ had ∨ r.t = 4
    · rw [if_pos h2, if_pos (show mnHere (pre ++ l) (r.sh pre.length) ∈ had.map (sh3 pre.length) ∨ r.t = 4 by rw [hsp]; exact h2.imp sh3_mem.2 id)]
      rfl
    rw [if_neg h2, if_neg (show ¬ (mnHere (pre ++ l) (r.sh pre.length) ∈ had.map (sh3 pre.length) ∨ r.t = 4) by rw [hsp]; exact fun h => h2 (h.imp sh3_mem.1 id))]
    rw [fits_pre hk (fun h => h2 (.inr h)) hw]
    by_cases h3 : 1 < r.v ∧ mnFits l r (r.v / 2) = true
    · rw [if_pos h3, if_pos h3]
      have e := (tgt_pre (pre := pre) hte).2
      unfold Rq.sh
      simp only [e]
      rfl
    rw [if_neg h3, if_neg h3]
    have hlst : r.t = 5 ∨ r.t = 25 ∨ r.t = 6 ∨ r.t = 7 → lsE l r.p r.q r.t r.v ≠ 0 := by
      intro h he
      obtain ⟨_, hL, _⟩ := ls_parts he
      have := list_t hL
      omega
    have hah : had.map (sh3 pre.length) ++ [sh3 pre.length (mnHere l r)] = (had ++ [mnHere l r]).map (sh3 pre.length) := by simp
    rw [hsp, hah]
    have hgo := fun c had (hc : GoodC l H c) => mngo_pre hk hH d c had hc
    unfold mnRest
    rw [ht]
    by_cases hl : lsE l r.p r.q r.t r.v = 0
    · obtain ⟨_, hL, _⟩ := ls_parts hl
      obtain ⟨g1, g2, _⟩ := list_t hL
      unfold Whole at hw
      rw [if_neg (by rw [g1]; decide), if_neg g2] at hw
      have e4 : lsLen (pre ++ l) (r.sh pre.length).p (r.sh pre.length).q r.t (r.sh pre.length).v = lsLen l r.p r.q r.t r.v := (ls_pre hk hl).2.2.2
      rw [e4]
      have hea := fun had => each_pre hk hl (mnGo l d) (mnGo (pre ++ l) d) hgo (List.range (lsLen l r.p r.q r.t r.v)) had (fun i hi => hw.2.2 i (List.mem_range.1 hi))
      by_cases h9 : r.t = 9
      · obtain ⟨k1, k2⟩ := hw.2.1 h9
        rw [if_pos h9, if_pos h9, (ky_pre hk k1).2, hgo _ _ k2]
        cases mnGo l d (cvKey l r) (had ++ [mnHere l r]) with
        | none => rfl
        | some res =>
          cases res with
          | error a => rfl
          | ok h => exact hea h
      · rw [if_neg h9, if_neg h9]
        exact hea _
    · have hne : ¬ (isIn [4, 5, 25] r.t = false ∧ ¬ (r.t = 6 ∨ r.t = 7)) := by
        rintro ⟨g1, g2⟩
        unfold Whole at hw
        rw [if_neg (by rw [g1]; decide), if_neg g2] at hw
        exact hl hw.1
      have h9 : ¬ r.t = 9 := by
        intro h9
        exact hne ⟨by rw [h9]; decide, by omega⟩
      have hnl : isL r.t = false := by
        cases e : isL r.t with
        | false => rfl
        | true => exact absurd ⟨(list_t e).1, (list_t e).2.1⟩ hne
      have hz : ∀ (m : List UInt8) (p q : Int), lsLen m p q r.t r.v = 0 := by
        intro m p q
        unfold lsLen
        rw [if_neg]
        intro h
        rw [(ls_parts h).2.1] at hnl
        cases hnl
      rw [if_neg h9, if_neg h9, hz, hv, hz]
      rfl
end
theorem each_mono (l : List UInt8) (r : Rq) (go go' : Rq → List P3 → Option (Except Int (List P3))) (hg : ∀ c h res, go c h = some res → go' c h = some res) : ∀ (is : List Nat) (h : List P3) (res : Except Int (List P3)), mnEach go l r is h = some res → mnEach go' l r is h = some res
  | [], _, _, e => e
  | i :: is, h, res, e => by
    unfold mnEach at e ⊢
    cases hgo : go (cvAt l r i) h with
    | none => rw [hgo] at e; cases e
    | some x =>
      rw [hgo] at e
      rw [hg _ _ _ hgo]
      cases x with
      | error a => exact e
      | ok h' => exact each_mono l r go go' hg is h' res e
theorem mngo_mono (l : List UInt8) : ∀ (d d' : Nat), d ≤ d' → ∀ (r : Rq) (h : List P3) (res : Except Int (List P3)), mnGo l d r h = some res → mnGo l d' r h = some res
  | 0, _, _, _, _, _, e => by cases e
  | d + 1, 0, hd, _, _, _, _ => by omega
  | d + 1, d' + 1, hd, r, h, res, e => by
    have ih := mngo_mono l d d' (by omega)
    unfold mnGo at e ⊢
    by_cases h1 : inlineT r.t = true
    · rw [if_pos h1] at e ⊢
      exact e
    rw [if_neg h1] at e ⊢
    by_cases h2 : mnHere l r ∈ h ∨ r.t = 4
    · rw [if_pos h2] at e ⊢
      exact e
    rw [if_neg h2] at e ⊢
    by_cases h3 : 1 < r.v ∧ mnFits l r (r.v / 2) = true
    · rw [if_pos h3] at e ⊢
      exact e
    rw [if_neg h3] at e ⊢
    unfold mnRest at e ⊢
    by_cases h9 : r.t = 9
    · rw [if_pos h9] at e ⊢
      cases hgo : mnGo l d (cvKey l r) (h ++ [mnHere l r]) with
      | none => rw [hgo] at e; cases e
      | some x =>
        rw [hgo] at e
        rw [ih _ _ _ hgo]
        cases x with
        | error a => exact e
        | ok h' => exact each_mono l r _ _ ih _ _ _ e
    · rw [if_neg h9] at e ⊢
      exact each_mono l r _ _ ih _ _ _ e
theorem root_pre {pre l : List UInt8} (hk : pre.length % 8 = 0) (h : rootE l = 0) : rootE (pre ++ l) = 0 ∧ cvRoot (pre ++ l) = (cvRoot l).sh pre.length := by
  obtain ⟨x, hx⟩ : ∃ x, l.getD (l.length - 1) 0 = x := ⟨_, rfl⟩
  obtain ⟨y, hy⟩ : ∃ x, l.getD (l.length - 2) 0 = x := ⟨_, rfl⟩
  have h3 : ¬ l.length < 3 := fun h3 => by rw [rootE_1 h3] at h; cases h
  have hw : isW (x.toNat : Int) = true := by
    cases hw : isW (x.toNat : Int) with
    | true => rfl
    | false => rw [rootE_2 hx hw] at h; cases h
  have hu : unE y = 0 := by
    refine Decidable.byContradiction fun hu => ?_
    rw [rootE_3 h3 hx hy hw hu] at h
    exact hu h
  have h4 := rootE_4 h3 hx hy hw hu
  rw [h] at h4
  have hlen : (pre ++ l).length = pre.length + l.length := List.length_append
  have hx' : (pre ++ l).getD ((pre ++ l).length - 1) 0 = x := by rw [hlen, show pre.length + l.length - 1 = pre.length + (l.length - 1) by omega, getD_pre, hx]
  have hy' : (pre ++ l).getD ((pre ++ l).length - 2) 0 = y := by rw [hlen, show pre.length + l.length - 2 = pre.length + (l.length - 2) by omega, getD_pre, hy]
  have h4' := rootE_4 (l := pre ++ l) (by omega) hx' hy' hw hu
  have hW := isW_iff.1 hw
  have hE : rootE (pre ++ l) = 0 := by
    rw [h4']
    split at h4
    · cases h4
    · rename_i g
      rw [if_neg]
      intro g'
      apply g
      rw [hlen] at g'
      have e : ((pre.length + l.length : Nat) : Int) - 2 - x.toNat = ((l.length : Int) - 2 - x.toNat) + pre.length := by omega
      rw [e, mod_pre hw (by omega)] at g'
      by_cases hneg : (l.length : Int) - 2 - x.toNat < 0
      · exact .inl hneg
      · exact .inr (g'.resolve_left (by omega))
  refine ⟨hE, ?_⟩
  have hr := rootR_ok hx hy h
  have hr' := rootR_ok hx' hy' hE
  unfold cvRoot Rq.sh
  rw [hr, hr']
  simp only [hlen, Rq.mk.injEq, and_true]
  omega
end Go.Proofs.YtejalfjeihlpeaaGreat

namespace Go.Proofs.YtejalfjeihlpeaaGreat
open Go.RowKit Go.Acc
theorem tgt_lt (l : List UInt8) (p q t v : Int) (h : 0 < l.length) : 0 ≤ tgt l p q t v ∧ tgt l p q t v < l.length := by
  refine ⟨(tgt_bd l p q t v).1, ?_⟩
  by_cases g : tgtE l p q t v = 0
  · obtain ⟨hm, hi, hu, hp, hpq, hq, _⟩ := may_tgt g
    have := isW_iff.1 hq
    rw [tgt_ok hm hi (by omega)]
    omega
  · unfold tgt
    rw [if_neg g]
    omega
theorem each_err (l : List UInt8) (r : Rq) (go : Rq → List P3 → Option (Except Int (List P3))) (P : Int → Prop) (hg : ∀ c h a, go c h = some (.error a) → P a) : ∀ (is : List Nat) (h : List P3) (a : Int), mnEach go l r is h = some (.error a) → P a
  | [], _, _, e => by simp [mnEach] at e
  | i :: is, h, a, e => by
    unfold mnEach at e
    cases hgo : go (cvAt l r i) h with
    | none => rw [hgo] at e; cases e
    | some x =>
      rw [hgo] at e
      cases x with
      | error b =>
        injection e with e
        injection e with e
        subst e
        exact hg _ _ _ hgo
      | ok h' => exact each_err l r go P hg is h' a e
theorem mngo_err (l : List UInt8) (hl : 0 < l.length) : ∀ (d : Nat) (r : Rq) (h : List P3) (a : Int), mnGo l d r h = some (.error a) → 0 ≤ a ∧ a < l.length
  | 0, _, _, _, e => by cases e
  | d + 1, r, h, a, e => by
    have ih := mngo_err l hl d
    unfold mnGo at e
    by_cases h1 : inlineT r.t = true
    · rw [if_pos h1] at e
      injection e with e
      cases e
    rw [if_neg h1] at e
    by_cases h2 : mnHere l r ∈ h ∨ r.t = 4
    · rw [if_pos h2] at e
      injection e with e
      cases e
    rw [if_neg h2] at e
    by_cases h3 : 1 < r.v ∧ mnFits l r (r.v / 2) = true
    · rw [if_pos h3] at e
      injection e with e
      injection e with e
      subst e
      exact tgt_lt l _ _ _ _ hl
    rw [if_neg h3] at e
    unfold mnRest at e
    by_cases h9 : r.t = 9
    · rw [if_pos h9] at e
      cases hgo : mnGo l d (cvKey l r) (h ++ [mnHere l r]) with
      | none => rw [hgo] at e; cases e
      | some x =>
        rw [hgo] at e
        cases x with
        | error b =>
          injection e with e
          injection e with e
          subst e
          exact ih _ _ _ hgo
        | ok h' => exact each_err l r _ _ ih _ _ _ e
    · rw [if_neg h9] at e
      exact each_err l r _ _ ih _ _ _ e
theorem mncheck_no {l : List UInt8} {f : Int} (h : cvPartsE l f ≠ 0) : mnCheck l f = (0, cvPartsE l f) := by
  unfold mnCheck
  rw [if_pos h]
theorem mncheck_ok {l : List UInt8} {f : Int} (h : cvPartsE l f = 0) : mnCheck l f = (0, 0) ∨ ∃ a, mnCheck l f = (a, 10) ∧ 0 ≤ a ∧ a < l.length := by
  have hr := root_of_parts h
  obtain ⟨hok, hrq⟩ := mnok_root hr
  have h3 := (root_ok hr).2
  obtain ⟨g1, g2, _, g4⟩ := hrq
  unfold mnCheck
  rw [if_neg (by rw [h]; decide)]
  split
  · exact .inr ⟨_, rfl, g1, by omega⟩
  · cases hres : mnRun l (cvRoot l) with
    | error a =>
      have e := mnrun_is (l := l) hok
      rw [hres] at e
      exact .inr ⟨a, rfl, mngo_err l (by omega) _ _ _ _ e⟩
    | ok x => exact .inl rfl
set_option maxRecDepth 100000 in
set_option maxHeartbeats 400000 in
theorem bytes30_spec (A : Option Addr) (n c : Nat) (l : List UInt8) (w : World) (h : IsB w A n l) (hc : n ≤ c) :
    Calls Tryz.prog 13 #[.slice A n c] w fun e w' => ∃ A' n' c', e = .returned (.slice A' n' c') ∧ n' ≤ 1500 ∧ OwnB w' w.heap.size A' n' c' (l.take 1500) ∧ Below w.heap.size w w' := by
  obtain ⟨M, hMn, hMB, hmin, hcut⟩ := cut_facts A n c 1500 1500 rfl hc
  have hl := h.1
  have hM : l.take 1500 = l.take M := by
    by_cases hn : n ≤ 1500
    · have : M = n := by split at hmin <;> omega
      rw [this, List.take_of_length_le (by omega), List.take_of_length_le (by omega)]
    · have : M = 1500 := by split at hmin <;> omega
      rw [this]
  rw [hM]
  have hmin2 : min (n : Int) 1500 = M := by split at hmin <;> omega
  have HM := Lib.hid (h.take bc_len hMn)
  clear h hl hM
  go_enter Tryz.func13, Tryz.ntmps13
  go_wp2_with fail
  go_at_call 24
  refine (copyb_spec A M c (l.take M) _ HM.out (by omega)).mono ?_
  rintro e w1 ⟨A1, n1, c1, rfl, hO1, hb1⟩
  obtain rfl : M = n1 := by rw [← hO1.1, HM.out.1]
  have HO := Lib.hid hO1
  have HB := Lib.hid hb1
  clear hO1 hb1
  go_wp2_with fail
  go_ret
  exact ⟨A1, M, c1, rfl, by omega, HO.out, HB.out⟩
theorem check_is (A : Option Addr) (n c : Nat) (fuel a e0 : Int) (l : List UInt8) (w : World) (hl : IsB w A n l) (hc : n ≤ c) (hn : n ≤ 4294967296) (hf : fuel ≤ 100000000) (h : mnCheck l fuel = (a, e0)) :
    Calls Tryz.prog 14 #[.slice A n c, .int .i64 fuel] w fun e w' => e = .returned (.tuple #[.int .i64 a, .int .i64 e0]) ∧ Below w.heap.size w w' := by
  have := check_spec A n c fuel l w hl hc hn hf
  rw [h] at this
  exact this
end Go.Proofs.YtejalfjeihlpeaaGreat

namespace Go.Proofs.YtejalfjeihlpeaaGreat
open Go.RowKit Go.Acc
theorem putB_ok {l : List UInt8} {y u : Nat} {b : Bool} (h : isW (y : Int) = true) (hb : b = true) : putB l y u b = l ++ leBytes y u := by subst hb; simp [putB, h]
theorem putE_ok {y : Nat} {b : Bool} (h : isW (y : Int) = true) (hb : b = true) : putE y b = 0 := by subst hb; simp [putE, h]
theorem back_load {l k : List UInt8} {y u n : Nat} (h : isW (y : Int) = true) (hu : u < 2 ^ (8 * y)) (hl : l.length = n) : loadU (l ++ leBytes y u ++ k) n y = u := by
  subst hl
  unfold loadU
  rw [if_pos ⟨h, by omega, by simp [leBytes_length]; omega⟩]
  show leVal (((l ++ leBytes y u ++ k).drop l.length).take y) = u
  rw [List.append_assoc, List.drop_left, List.take_left' (leBytes_length _ _), leVal_leBytes_lt hu]
theorem back_ok {n m y : Nat} (h : isW (y : Int) = true) (hm : n + y ≤ m) : loadE m n y = 0 := by
  unfold loadE
  rw [if_pos h, if_pos ⟨by omega, by omega⟩]
theorem back_loadi {l k : List UInt8} {y u n : Nat} (h : isW (y : Int) = true) (hu : u < 2 ^ (8 * y)) (hl : l.length = n) : loadI (l ++ leBytes y u ++ k) n y = sx y u := by
  unfold loadI
  rw [if_pos ⟨h, by omega, by subst hl; simp [leBytes_length]; omega⟩, back_load h hu hl]
  rfl
theorem wrap_u64 (x : Int) : IntKind.u64.wrap x = x % 18446744073709551616 := rfl
end Go.Proofs.YtejalfjeihlpeaaGreat
