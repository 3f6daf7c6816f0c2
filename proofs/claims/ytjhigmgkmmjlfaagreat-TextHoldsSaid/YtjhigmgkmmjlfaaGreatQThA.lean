/-
  The document of a key, a string, a blob: what Finish needs, and what the readers of text find, with bytes ahead and behind. No program in sight.
-/
import Derived.Test.YtjhigmgkmmjlfaaGreatQ27
namespace Go.Proofs.YtjhigmgkmmjlfaaGreat
open Go.RowKit Go.Acc
theorem alignB_le8 {w : Nat} (b : List UInt8) (hw : isW (w : Int) = true) : (alignB w b).length ≤ b.length + 8 := by
  simp only [alignB, List.length_append, List.length_replicate, padN]
  rcases w_cases hw with rfl | rfl | rfl | rfl <;> omega
/-- What Finish needs of a value that some width takes. -/
theorem finok_gen {l : List UInt8} {v : Bv} (ht : legalT v.t = true) (hv : isW (v.w : Int) = true) (hf : Fit l.length v) (hl : l.length + 20 ≤ 1048576) : FinOk l v (leastW (fitsV v l.length 0)) := by
  obtain ⟨hw, hfit⟩ := leastW_is (fitsV v l.length 0) (fitsV8 hf 0)
  have hw := isW_nat.2 hw
  obtain ⟨y, hy⟩ : ∃ y, leastW (fitsV v l.length 0) = y := ⟨_, rfl⟩
  rw [hy] at hw hfit ⊢
  obtain ⟨a1, a2, a3⟩ := align_len hw l
  cases hi : inl v.t with
  | true =>
    have he : elemN y (alignB y l).length v = v.n % 2 ^ (8 * y) := by unfold elemN; rw [if_pos hi]
    exact ⟨ht, hv, hy, hw, by rw [he]; exact fits_low _ _, by rw [he]; exact low_lt _ hw, (fun h => absurd hi (by rw [h]; decide)), hl⟩
  | false =>
    obtain ⟨h1, h2⟩ := fits_off hi hfit
    have he : elemN y (alignB y l).length v = (alignB y l).length - v.n := by unfold elemN; rw [if_neg (by rw [hi]; decide)]
    have h8 := alignB_le8 l hw
    rw [Nat.zero_mul, Nat.add_zero, ← a1] at h2
    have hlt := bWidth_lt hw (by omega) h2
    exact ⟨ht, hv, hy, hw, by rw [he]; exact decide_eq_true (.inr hlt), by rw [he]; omega, fun _ => by omega, hl⟩
/-- The target of the root, with bytes ahead and behind. -/
theorem docz_target {x b z : List UInt8} {v : Bv} {w : Nat} (hw : isW w = true) (ht : legalT v.t = true) (hv : isW v.w = true) (hb : b.length < 2 ^ 32) (hf : fitsV v b.length 0 w = true) (hi : inlineT v.t = false) :
    mayE (x ++ docB b v w ++ z).length ((x.length + (alignB w b).length : Nat) : Int) w v.t v.w = 0 ∧ tgtE (x ++ docB b v w ++ z) ((x.length + (alignB w b).length : Nat) : Int) w v.t v.w = 0 ∧
      tgt (x ++ docB b v w ++ z) ((x.length + (alignB w b).length : Nat) : Int) w v.t v.w = ((x.length + v.n : Nat) : Int) := by
  have hi' : inl v.t = false := hi
  have hm : mayE (x ++ docB b v w ++ z).length ((x.length + (alignB w b).length : Nat) : Int) w v.t v.w = 0 := by
    refine mayE_ok.2 ⟨formed_iff.2 ⟨ht, hw, hv⟩, inB_iff.2 ⟨by omega, by omega, ?_⟩⟩
    rw [List.length_append, bdoc_len]
    omega
  obtain ⟨h1, h2⟩ := fits_off hi' hf
  obtain ⟨a1, a2, a3⟩ := align_len hw b
  rw [Nat.zero_mul, Nat.add_zero, ← a1] at h2
  have hpad := alignB_le8 b hw
  have hlt := bWidth_lt hw (by omega) h2
  have hat : At (x ++ docB b v w ++ z) (x.length + (alignB w b).length) (leBytes w (elemN w (alignB w b).length v)) := by
    refine At.app ?_ z
    refine At.ahead ?_ x
    exact (At.last _ _).app _
  have hld : loadU (x ++ docB b v w ++ z) ((x.length + (alignB w b).length : Nat) : Int) w = (alignB w b).length - v.n := by
    rw [hat.load hw, leVal_leBytes]
    have he : elemN w (alignB w b).length v = (alignB w b).length - v.n := by rw [elemN, if_neg (by simp [hi'])]
    rw [he, Nat.mod_eq_of_lt hlt]
  have hu : ¬ ((x.length + (alignB w b).length : Nat) : Int) < (loadU (x ++ docB b v w ++ z) ((x.length + (alignB w b).length : Nat) : Int) w : Int) := by
    rw [hld]
    omega
  refine ⟨hm, tgtE_ok hm hi hu, ?_⟩
  rw [tgt_ok hm hi hu, hld]
  omega
theorem zeroAt_at {L s : List UInt8} {a : Nat} (h : At L a (s ++ [0])) (h0 : (0 : UInt8) ∉ s) : zeroAt L a = a + s.length ∧ a + s.length < L.length := by
  have hle := h.le
  rw [List.length_append, List.length_singleton] at hle
  refine ⟨?_, by omega⟩
  obtain ⟨p, q, rfl, rfl⟩ := h
  unfold zeroAt
  rw [show p ++ (s ++ [0]) ++ q = p ++ (s ++ ([0] ++ q)) by simp only [List.append_assoc], List.drop_left, List.findIdx_append]
  have hn : s.findIdx (· == 0) = s.length := by
    rw [List.findIdx_eq_length]
    intro c hc
    cases hb : (c == 0) with
    | false => rfl
    | true => exact absurd (by rw [beq_iff_eq] at hb; rw [← hb]; exact hc) h0
  rw [hn, if_neg (Nat.lt_irrefl _)]
  simp [List.findIdx_cons]
theorem keyL_at {L s : List UInt8} {a : Nat} (h : At L a (s ++ [0])) (h0 : (0 : UInt8) ∉ s) : keyE L a = 0 ∧ keyL L a = s := by
  obtain ⟨h1, h2⟩ := zeroAt_at h h0
  refine ⟨keyE_yes (by omega), ?_⟩
  unfold keyL
  rw [h1, show a + s.length - a = s.length by omega]
  exact (h.left).take
theorem cntL_at {L s z : List UInt8} {c w k : Nat} (hw : isW (w : Int) = true) (hc : c % w = 0) (h : At L c (leBytes w s.length ++ s ++ z)) (hs : s.length < 2 ^ (8 * w)) (hz : z = List.replicate k 0) : cntE L (c + w) w k = 0 ∧ cntL L (c + w) w = s := by
  have h1 := h.left.left
  have h2 := h.left.right
  have h3 := h.right
  rw [leBytes_length] at h2
  rw [List.length_append, leBytes_length] at h3
  have hl : loadU L (((c + w : Nat) : Int) - (w : Int)) w = s.length := by
    rw [show ((c + w : Nat) : Int) - (w : Int) = (c : Int) by omega, h1.load hw, leVal_leBytes, Nat.mod_eq_of_lt hs]
  have hle := h3.le
  have ht := h3.take
  have hzl : z.length = k := by rw [hz]; simp
  rw [hzl] at hle ht
  have hm : (c + w) % w = 0 := by rw [Nat.add_mod_right]; exact hc
  refine ⟨?_, ?_⟩
  · unfold cntE
    rw [if_neg (by omega), if_neg (by omega), hl, if_neg (by omega), if_pos]
    rw [show c + w + s.length = c + (w + s.length) by omega, ht, hz]
  · unfold cntL
    rw [hl]
    exact h2.take
/-- The bytes and the value of a key, a string, a blob. -/
def txtB (k : Int) (s : List UInt8) : List UInt8 := if k = 5 then s ++ [0] else leBytes (bWidth s.length) s.length ++ s ++ (if k = 6 then [0] else [])
def txtV (k : Int) (s : List UInt8) : Bv := if k = 5 then ⟨4, 1, 0⟩ else ⟨if k = 6 then 5 else 25, bWidth s.length, bWidth s.length⟩
theorem leaf_txt (f : Nat) {k : Int} (n : Int) (u : Nat) (s : List UInt8) (hk : k = 5 ∨ k = 6 ∨ k = 7) : (Bd.new.leaf f k n u s).b = txtB k s ∧ (Bd.new.leaf f k n u s).s = [txtV k s] := by
  have e0 : alignB (bWidth s.length) [] = [] := by unfold alignB padN; simp
  have eg : ∀ q : Bool, (if q = true then getP [] s else none) = none := fun q => by cases q <;> rfl
  rcases hk with rfl | rfl | rfl
  · have e : Bd.new.leaf f 5 n u s = Bd.new.key f s := by unfold Bd.leaf; simp
    rw [e]
    unfold Bd.key Bd.put
    rw [show Bd.new.keys = [] from rfl, eg]
    exact ⟨rfl, rfl⟩
  · have e : Bd.new.leaf f 6 n u s = Bd.new.str f s := by unfold Bd.leaf; simp
    rw [e]
    unfold Bd.str
    simp only []
    rw [show Bd.new.texts = [] from rfl, eg, show Bd.new.b = [] from rfl, e0]
    refine ⟨rfl, ?_⟩
    have el : ([] ++ leBytes (bWidth s.length) s.length).length = bWidth s.length := by rw [List.nil_append, leBytes_length]
    show [] ++ [(⟨5, bWidth s.length, ([] ++ leBytes (bWidth s.length) s.length).length⟩ : Bv)] = _
    rw [el]
    rfl
  · have e : Bd.new.leaf f 7 n u s = Bd.new.blob s := by unfold Bd.leaf; simp
    rw [e]
    unfold Bd.blob
    simp only []
    rw [show Bd.new.b = [] from rfl, e0]
    refine ⟨?_, ?_⟩
    · show [] ++ leBytes (bWidth s.length) s.length ++ s = _
      unfold txtB
      rw [if_neg (by decide), if_neg (by decide)]; simp
    have el : ([] ++ leBytes (bWidth s.length) s.length).length = bWidth s.length := by rw [List.nil_append, leBytes_length]
    show [] ++ [(⟨25, bWidth s.length, ([] ++ leBytes (bWidth s.length) s.length).length⟩ : Bv)] = _
    rw [el]
    rfl
theorem txt_facts {k : Int} (s : List UInt8) (hk : k = 5 ∨ k = 6 ∨ k = 7) (hs : s.length ≤ 300) : legalT (txtV k s).t = true ∧ isW ((txtV k s).w : Int) = true ∧ inl (txtV k s).t = false ∧ Fit (txtB k s).length (txtV k s) ∧ (txtB k s).length ≤ 310 := by
  have h8 := bWidth_le s.length
  have hb := bWidth_is s.length
  rcases hk with rfl | rfl | rfl
  · refine ⟨(show legalT ((4 : Nat) : Int) = true by decide), (show isW ((1 : Nat) : Int) = true by decide), (show inl 4 = false by decide), ⟨fun _ => (show 1 ≤ 8 by omega), fun _ => Nat.zero_le _⟩, ?_⟩
    show (s ++ [0]).length ≤ 310
    simp; omega
  · have e : (txtB 6 s).length = bWidth s.length + s.length + 1 := by
      show (leBytes (bWidth s.length) s.length ++ s ++ [0]).length = _
      simp [leBytes_length]; omega
    refine ⟨(show legalT ((5 : Nat) : Int) = true by decide), hb, (show inl 5 = false by decide), ⟨fun _ => h8, fun _ => ?_⟩, by omega⟩
    rw [e]
    show bWidth s.length ≤ _
    omega
  · have e : (txtB 7 s).length = bWidth s.length + s.length := by
      show (leBytes (bWidth s.length) s.length ++ s ++ []).length = _
      simp [leBytes_length]
    refine ⟨(show legalT ((25 : Nat) : Int) = true by decide), hb, (show inl 25 = false by decide), ⟨fun _ => h8, fun _ => ?_⟩, by omega⟩
    rw [e]
    show bWidth s.length ≤ _
    omega
/-- What the readers of text find at such a root. -/
structure TxtF (L : List UInt8) (p q t v : Int) (k : Int) (s : List UInt8) : Prop where
  ty : t = if k = 5 then 4 else if k = 6 then 5 else 25
  yes : ∀ ts, isIn ts t = true → fndE L p q t v ts = 0 ∧ fndL L p q t v ts = s
  no : ∀ ts, isIn ts t = false → fndE L p q t v ts = 60 ∧ fndL L p q t v ts = []
  at_ : ∃ a : Nat, (∀ ts, isIn ts t = true → fndA L p q t v ts = a) ∧ a + s.length ≤ L.length ∧ (L.drop a).take s.length = s
theorem txt_find {x z : List UInt8} {k : Int} {s : List UInt8} {y : Nat} (hk : k = 5 ∨ k = 6 ∨ k = 7) (hs : s.length ≤ 300) (h0 : k = 5 → (0 : UInt8) ∉ s) (hx : x.length % 8 = 0) (hy : leastW (fitsV (txtV k s) (txtB k s).length 0) = y) :
    TxtF (x ++ docB (txtB k s) (txtV k s) y ++ z) ((x.length + (alignB y (txtB k s)).length : Nat) : Int) y (txtV k s).t (txtV k s).w k s := by
  obtain ⟨f1, f2, f3, f4, f5⟩ := txt_facts s hk hs
  obtain ⟨hw, hfit⟩ := leastW_is (fitsV (txtV k s) (txtB k s).length 0) (fitsV8 f4 0)
  have hw := isW_nat.2 hw
  rw [hy] at hw hfit
  obtain ⟨m1, m2, m3⟩ := docz_target (x := x) (b := txtB k s) (z := z) (v := txtV k s) (w := y) hw f1 f2 (by omega) hfit f3
  have hbw := bWidth_is s.length
  have hlt : s.length < 2 ^ (8 * bWidth s.length) := bWidth_lt hbw (by omega) (Nat.le_refl _)
  have hatb : At (x ++ docB (txtB k s) (txtV k s) y ++ z) x.length (txtB k s) := by
    refine ⟨x, List.replicate (padN y (txtB k s).length) 0 ++ (leBytes y (elemN y (alignB y (txtB k s)).length (txtV k s)) ++ [bTag y (txtV k s), UInt8.ofNat y] ++ z), ?_, rfl⟩
    unfold docB
    conv => lhs; rw [alignB]
    simp only [List.append_assoc, alignB]
  generalize x ++ docB (txtB k s) (txtV k s) y ++ z = L at *
  generalize ((x.length + (alignB y (txtB k s)).length : Nat) : Int) = P at *
  have hmain : (if ((txtV k s).t : Int) = 4 then keyE L (x.length + (txtV k s).n) else cntE L (x.length + (txtV k s).n) (txtV k s).w (if ((txtV k s).t : Int) = 5 then 1 else 0)) = 0 ∧
      (if ((txtV k s).t : Int) = 4 then keyL L (x.length + (txtV k s).n) else cntL L (x.length + (txtV k s).n) (txtV k s).w) = s ∧ At L (x.length + (txtV k s).n) s := by
    rcases hk with rfl | rfl | rfl
    · obtain ⟨k1, k2⟩ := keyL_at (s := s) hatb (h0 rfl)
      exact ⟨k1, k2, hatb.left⟩
    · have hat6 : At L x.length (leBytes (bWidth s.length) s.length ++ s ++ [0]) := hatb
      obtain ⟨k1, k2⟩ := cntL_at (k := 1) hbw (by rcases w_cases hbw with e | e | e | e <;> rw [e] <;> omega) hat6 hlt rfl
      have h3 := hat6.left.right
      rw [leBytes_length] at h3
      exact ⟨k1, k2, h3⟩
    · have hat7 : At L x.length (leBytes (bWidth s.length) s.length ++ s ++ []) := hatb
      obtain ⟨k1, k2⟩ := cntL_at (k := 0) hbw (by rcases w_cases hbw with e | e | e | e <;> rw [e] <;> omega) hat7 hlt rfl
      have h3 := hat7.left.right
      rw [leBytes_length] at h3
      exact ⟨k1, k2, h3⟩
  obtain ⟨g1, g2, g3⟩ := hmain
  have hgen : ∀ ts, isIn ts ((txtV k s).t : Int) = true → fndE L P y (txtV k s).t (txtV k s).w ts = 0 := by
    intro ts ht
    unfold fndE
    rw [if_neg (by rw [m1]; decide), if_neg (by rw [ht]; decide), if_neg (by rw [m2]; decide), m3]
    exact g1
  refine ⟨by rcases hk with rfl | rfl | rfl <;> rfl, fun ts ht => ⟨hgen ts ht, ?_⟩, fun ts ht => ?_, x.length + (txtV k s).n, fun ts ht => ?_, g3.le, g3.take⟩
  · unfold fndL
    rw [if_pos (hgen ts ht), m3]
    exact g2
  · have e : fndE L P y (txtV k s).t (txtV k s).w ts = 60 := by
      unfold fndE
      rw [if_neg (by rw [m1]; decide), if_pos ht]
    refine ⟨e, ?_⟩
    unfold fndL
    rw [if_neg (by rw [e]; decide)]
  · unfold fndA
    rw [if_pos (hgen ts ht), m3]
end Go.Proofs.YtjhigmgkmmjlfaaGreat
