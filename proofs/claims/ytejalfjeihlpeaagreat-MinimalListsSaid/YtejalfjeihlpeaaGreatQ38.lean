/-
  Bytes before a document: the parts are found likewise; what has been found holds together, in plain terms.
-/
import Derived.Test.YtejalfjeihlpeaaGreatQ24
import Derived.Test.YtejalfjeihlpeaaGreatQ37
namespace Go.Proofs.YtejalfjeihlpeaaGreat
open Go.RowKit Go.Acc
/-- Two states of a visit, one of them moved. -/
structure CvSh (k : Nat) (s s' : CvS) : Prop where
  left : s'.left = s.left
  had : s'.had = s.had.map (sh3 k)
theorem CvSh.tell {k : Nat} {s s' : CvS} (h : CvSh k s s') (a b c a' b' c' : Int) : CvSh k (s.tell a b c) (s'.tell a' b' c') := ⟨by rw [tell_left, tell_left]; exact h.left, by rw [tell_had, tell_had]; exact h.had⟩
theorem CvSh.start {k : Nat} {s s' : CvS} (h : CvSh k s s') (r r' : Rq) : CvSh k (cvStart r s) (cvStart r' s') := by
  unfold cvStart
  exact CvSh.tell (show CvSh k s.burn s'.burn from ⟨by unfold CvS.burn; simp only [h.left], h.had⟩) _ _ _ _ _ _
theorem CvSh.see {k : Nat} {s s' : CvS} (h : CvSh k s s') (y : P3) : CvSh k (s.see y) (s'.see (sh3 k y)) := by
  unfold CvS.see
  refine ⟨h.left, ?_⟩
  simp only [h.had, List.map_append, List.map_cons, List.map_nil]
theorem len_same (l : List UInt8) (r : Rq) (s : CvS) : (cvLen l r s).left = s.left ∧ (cvLen l r s).had = s.had := by
  unfold cvLen
  split
  · exact ⟨tell_left _ _ _ _, tell_had _ _ _ _⟩
  · exact ⟨rfl, rfl⟩
def Moves (k : Nat) (go go' : Rq → CvS → CvS × Int) : Prop := ∀ r s s', CvSh k s s' → (go r s).2 = 0 → (go' (r.sh k) s').2 = 0 ∧ CvSh k (go r s).1 (go' (r.sh k) s').1
section
variable {pre l : List UInt8} {go go' : Rq → CvS → CvS × Int} (r : Rq) (hk : pre.length % 8 = 0)
include hk
theorem text_moves (s s' : CvS) (h : CvSh pre.length s s') (h0 : (cvText l r s).2 = 0) : (cvText (pre ++ l) (r.sh pre.length) s').2 = 0 ∧ CvSh pre.length (cvText l r s).1 (cvText (pre ++ l) (r.sh pre.length) s').1 := by
  by_cases hf : fndE l r.p r.q r.t r.v [4, 5, 25] = 0
  · have hf' : fndE (pre ++ l) (r.sh pre.length).p (r.sh pre.length).q (r.sh pre.length).t (r.sh pre.length).v [4, 5, 25] = 0 := (fnd_pre hk hf).1
    have ht : (r.sh pre.length).t = r.t := rfl
    have a1 : ¬ fndE l r.p r.q r.t r.v [4, 5, 25] ≠ 0 := by rw [hf]; decide
    have a2 : ¬ fndE (pre ++ l) (r.sh pre.length).p (r.sh pre.length).q (r.sh pre.length).t (r.sh pre.length).v [4, 5, 25] ≠ 0 := by rw [hf']; decide
    unfold cvText
    rw [if_neg a1, if_neg a2, ht]
    by_cases h4 : r.t = 4
    · rw [if_pos h4, if_pos h4]
      exact ⟨rfl, h.tell _ _ _ _ _ _⟩
    rw [if_neg h4, if_neg h4]
    by_cases h5 : r.t = 5
    · rw [if_pos h5, if_pos h5]
      exact ⟨rfl, (h.tell _ _ _ _ _ _).tell _ _ _ _ _ _⟩
    rw [if_neg h5, if_neg h5]
    exact ⟨rfl, (h.tell _ _ _ _ _ _).tell _ _ _ _ _ _⟩
  · unfold cvText at h0
    rw [if_pos hf] at h0
    exact absurd h0 hf
theorem apart_moves (s s' : CvS) (h : CvSh pre.length s s') (h0 : (cvApart l r s).2 = 0) : (cvApart (pre ++ l) (r.sh pre.length) s').2 = 0 ∧ CvSh pre.length (cvApart l r s).1 (cvApart (pre ++ l) (r.sh pre.length) s').1 := by
  by_cases hf : plcE l r.p r.q r.t r.v = 0
  · have hf' : plcE (pre ++ l) (r.sh pre.length).p (r.sh pre.length).q (r.sh pre.length).t (r.sh pre.length).v = 0 := (plc_pre hk hf).1
    unfold cvApart
    rw [if_pos hf, if_pos hf']
    exact ⟨rfl, h.tell _ _ _ _ _ _⟩
  · unfold cvApart at h0
    rw [if_neg hf] at h0
    exact absurd h0 hf
theorem keys_moves (hg : Moves pre.length go go') (s s' : CvS) (h : CvSh pre.length s s') (h0 : (cvKeys l go r s).2 = 0) : (cvKeys (pre ++ l) go' (r.sh pre.length) s').2 = 0 ∧ CvSh pre.length (cvKeys l go r s).1 (cvKeys (pre ++ l) go' (r.sh pre.length) s').1 := by
  by_cases hf : kyE l r.p r.q r.t r.v = 0
  · obtain ⟨e1, e2⟩ := ky_pre hk hf
    have hf' : kyE (pre ++ l) (r.sh pre.length).p (r.sh pre.length).q (r.sh pre.length).t (r.sh pre.length).v = 0 := e1
    by_cases hgo : (go (cvKey l r) s).2 = 0
    · obtain ⟨g1, g2⟩ := hg (cvKey l r) s s' h hgo
      have a1 : ¬ kyE l r.p r.q r.t r.v ≠ 0 := by rw [hf]; decide
      have a2 : ¬ kyE (pre ++ l) (r.sh pre.length).p (r.sh pre.length).q (r.sh pre.length).t (r.sh pre.length).v ≠ 0 := by rw [hf']; decide
      have a3 : ¬ (go (cvKey l r) s).2 ≠ 0 := by rw [hgo]; decide
      have a4 : ¬ (go' ((cvKey l r).sh pre.length) s').2 ≠ 0 := by rw [g1]; decide
      unfold cvKeys
      rw [if_neg a1, if_neg a2, e2, if_neg a3, if_neg a4]
      exact ⟨rfl, g2.tell _ _ _ _ _ _⟩
    · unfold cvKeys at h0
      rw [if_neg (by rw [hf]; decide), if_pos hgo] at h0
      exact absurd h0 hgo
  · unfold cvKeys at h0
    rw [if_pos hf] at h0
    exact absurd h0 hf
theorem elems_moves (hg : Moves pre.length go go') (hl : lsE l r.p r.q r.t r.v = 0) : ∀ (n i : Nat) (s s' : CvS), CvSh pre.length s s' → (cvElems l go r n i s).2 = 0 → (cvElems (pre ++ l) go' (r.sh pre.length) n i s').2 = 0 ∧ CvSh pre.length (cvElems l go r n i s).1 (cvElems (pre ++ l) go' (r.sh pre.length) n i s').1
  | 0, _, _, _, h, _ => ⟨rfl, h⟩
  | n + 1, i, s, s', h, h0 => by
    have htag : CvSh pre.length (cvTag l r i s) (cvTag (pre ++ l) (r.sh pre.length) i s') := by
      unfold cvTag
      have ht : (r.sh pre.length).t = r.t := rfl
      rw [ht]
      split
      · exact h.tell _ _ _ _ _ _
      · exact h
    by_cases hf : atE l r.p r.q r.t r.v i = 0
    · have hf' : atE (pre ++ l) (r.sh pre.length).p (r.sh pre.length).q (r.sh pre.length).t (r.sh pre.length).v i = 0 := (ate_pre hk hl i).trans hf
      by_cases hgo : (go (cvAt l r i) (cvTag l r i s)).2 = 0
      · obtain ⟨g1, g2⟩ := hg (cvAt l r i) _ _ htag hgo
        have a1 : ¬ atE l r.p r.q r.t r.v i ≠ 0 := by rw [hf]; decide
        have a2 : ¬ atE (pre ++ l) (r.sh pre.length).p (r.sh pre.length).q (r.sh pre.length).t (r.sh pre.length).v i ≠ 0 := by rw [hf']; decide
        have a3 : ¬ (go (cvAt l r i) (cvTag l r i s)).2 ≠ 0 := by rw [hgo]; decide
        have a4 : ¬ (go' ((cvAt l r i).sh pre.length) (cvTag (pre ++ l) (r.sh pre.length) i s')).2 ≠ 0 := by rw [g1]; decide
        unfold cvElems at h0 ⊢
        rw [if_neg a1, if_neg a3] at h0
        rw [if_neg a1, if_neg a2, at_pre hk hl hf, if_neg a3, if_neg a4]
        exact elems_moves hg hl n (i + 1) _ _ g2 h0
      · unfold cvElems at h0
        rw [if_neg (by rw [hf]; decide), if_pos hgo] at h0
        exact absurd h0 hgo
    · unfold cvElems at h0
      rw [if_pos hf] at h0
      exact absurd h0 hf
theorem list_moves (hg : Moves pre.length go go') (s s' : CvS) (h : CvSh pre.length s s') (h0 : (cvList l go r s).2 = 0) : (cvList (pre ++ l) go' (r.sh pre.length) s').2 = 0 ∧ CvSh pre.length (cvList l go r s).1 (cvList (pre ++ l) go' (r.sh pre.length) s').1 := by
  by_cases hl : lsE l r.p r.q r.t r.v = 0
  · have hl' : lsE (pre ++ l) (r.sh pre.length).p (r.sh pre.length).q (r.sh pre.length).t (r.sh pre.length).v = 0 := (ls_pre hk hl).1
    have hn' : lsLen (pre ++ l) (r.sh pre.length).p (r.sh pre.length).q (r.sh pre.length).t (r.sh pre.length).v = lsLen l r.p r.q r.t r.v := (ls_pre hk hl).2.2.2
    by_cases hh : (cvHead l go r s).2 = 0
    · have hhd : (cvHead (pre ++ l) go' (r.sh pre.length) s').2 = 0 ∧ CvSh pre.length (cvHead l go r s).1 (cvHead (pre ++ l) go' (r.sh pre.length) s').1 := by
        unfold cvHead at hh ⊢
        have ht : (r.sh pre.length).t = r.t := rfl
        rw [ht]
        split
        · rename_i h9
          rw [if_pos h9] at hh
          exact keys_moves r hk hg s s' h hh
        · exact ⟨rfl, h⟩
      have hln : CvSh pre.length (cvLen l r (cvHead l go r s).1) (cvLen (pre ++ l) (r.sh pre.length) (cvHead (pre ++ l) go' (r.sh pre.length) s').1) := by
        refine ⟨?_, ?_⟩
        · rw [(len_same _ _ _).1, (len_same _ _ _).1]
          exact hhd.2.left
        · rw [(len_same _ _ _).2, (len_same _ _ _).2]
          exact hhd.2.had
      have a1 : ¬ lsE l r.p r.q r.t r.v ≠ 0 := by rw [hl]; decide
      have a2 : ¬ lsE (pre ++ l) (r.sh pre.length).p (r.sh pre.length).q (r.sh pre.length).t (r.sh pre.length).v ≠ 0 := by rw [hl']; decide
      have a3 : ¬ (cvHead l go r s).2 ≠ 0 := by rw [hh]; decide
      have a4 : ¬ (cvHead (pre ++ l) go' (r.sh pre.length) s').2 ≠ 0 := by rw [hhd.1]; decide
      unfold cvList at h0 ⊢
      rw [if_neg a1, if_neg a3] at h0
      rw [if_neg a1, if_neg a3, if_neg a2, if_neg a4, hn']
      exact elems_moves r hk hg hl _ _ _ _ hln h0
    · unfold cvList at h0
      rw [if_neg (by rw [hl]; decide), if_pos hh] at h0
      exact absurd h0 hh
  · unfold cvList at h0
    rw [if_pos hl] at h0
    exact absurd h0 hl
theorem data_moves (hg : Moves pre.length go go') (s s' : CvS) (h : CvSh pre.length s s') (h0 : (cvData l go r s).2 = 0) : (cvData (pre ++ l) go' (r.sh pre.length) s').2 = 0 ∧ CvSh pre.length (cvData l go r s).1 (cvData (pre ++ l) go' (r.sh pre.length) s').1 := by
  have ht : (r.sh pre.length).t = r.t := rfl
  unfold cvData at h0 ⊢
  rw [ht]
  by_cases h1 : isIn [4, 5, 25] r.t = true
  · rw [if_pos h1] at h0
    rw [if_pos h1, if_pos h1]
    exact text_moves r hk s s' h h0
  rw [if_neg h1] at h0
  rw [if_neg h1, if_neg h1]
  by_cases h2 : r.t = 6 ∨ r.t = 7
  · rw [if_pos h2] at h0
    rw [if_pos h2, if_pos h2]
    exact apart_moves r hk s s' h h0
  rw [if_neg h2] at h0
  rw [if_neg h2, if_neg h2]
  exact list_moves r hk hg s s' h h0
end
theorem come_moves {pre l : List UInt8} (hk : pre.length % 8 = 0) : ∀ d, Moves pre.length (cvCome l d) (cvCome (pre ++ l) d)
  | 0 => fun _ _ _ _ h => by cases h
  | d + 1 => fun r s s' h h0 => by
    have ht : (r.sh pre.length).t = r.t := rfl
    unfold cvCome at h0 ⊢
    by_cases h1 : s.left < 1
    · rw [if_pos h1] at h0
      cases h0
    rw [if_neg h1] at h0
    rw [if_neg h1, if_neg (show ¬ s'.left < 1 by rw [h.left]; exact h1), ht]
    by_cases h2 : inlineT r.t = true
    · rw [if_pos h2, if_pos h2]
      exact ⟨rfl, h.start _ _⟩
    rw [if_neg h2] at h0
    rw [if_neg h2, if_neg h2]
    have hte : tgtE l r.p r.q r.t r.v = 0 := by
      by_cases h3 : tgtE l r.p r.q r.t r.v ≠ 0 ∨ cvSpot l r ∈ s.had
      · rw [if_pos h3] at h0
        exact h0
      · exact Decidable.of_not_not fun h => h3 (.inl h)
    have hte' : tgtE (pre ++ l) (r.sh pre.length).p (r.sh pre.length).q r.t (r.sh pre.length).v = 0 := (tgt_pre hte).1
    rw [hte, hte', spot_pre hte, h.had]
    rw [hte] at h0
    by_cases h3 : (0 : Int) ≠ 0 ∨ cvSpot l r ∈ s.had
    · rw [if_pos h3, if_pos (show (0 : Int) ≠ 0 ∨ sh3 pre.length (cvSpot l r) ∈ s.had.map (sh3 pre.length) from h3.imp id sh3_mem.2)]
      exact ⟨rfl, h.start _ _⟩
    rw [if_neg h3] at h0
    rw [if_neg h3, if_neg (show ¬ ((0 : Int) ≠ 0 ∨ sh3 pre.length (cvSpot l r) ∈ s.had.map (sh3 pre.length)) from fun h => h3 (h.imp id sh3_mem.1))]
    exact data_moves r hk (come_moves hk d) _ _ ((h.start r _).see _) h0
/-- A reference whose data has been visited, if it has any. -/
def GoodC (l : List UInt8) (H : List P3) (c : Rq) : Prop := 0 ≤ c.p ∧ (inlineT c.t = true ∨ (inlineT c.t = false ∧ tgtE l c.p c.q c.t c.v = 0 ∧ cvSpot l c ∈ H))
/-- The data of a reference is whole, and the data of all that it refers to has been visited. -/
def Whole (l : List UInt8) (H : List P3) (r : Rq) : Prop :=
  if isIn [4, 5, 25] r.t = true then fndE l r.p r.q r.t r.v [4, 5, 25] = 0
  else if r.t = 6 ∨ r.t = 7 then plcE l r.p r.q r.t r.v = 0
  else lsE l r.p r.q r.t r.v = 0 ∧ (r.t = 9 → kyE l r.p r.q r.t r.v = 0 ∧ GoodC l H (cvKey l r)) ∧ ∀ i : Nat, i < lsLen l r.p r.q r.t r.v → atE l r.p r.q r.t r.v i = 0 ∧ GoodC l H (cvAt l r i)
def Complete (l : List UInt8) (H : List P3) (y : P3) : Prop := ∃ r, cvSpot l r = y ∧ tgtE l r.p r.q r.t r.v = 0 ∧ Whole l H r
theorem GoodC.mono {l : List UInt8} {H H' : List P3} {c : Rq} (hs : ∀ y ∈ H, y ∈ H') (h : GoodC l H c) : GoodC l H' c := ⟨h.1, h.2.imp id fun h => ⟨h.1, h.2.1, hs _ h.2.2⟩⟩
theorem Whole.mono {l : List UInt8} {H H' : List P3} {r : Rq} (hs : ∀ y ∈ H, y ∈ H') (h : Whole l H r) : Whole l H' r := by
  unfold Whole at h ⊢
  split
  · rename_i h1
    rw [if_pos h1] at h
    exact h
  rename_i h1
  rw [if_neg h1] at h
  split
  · rename_i h2
    rw [if_pos h2] at h
    exact h
  rename_i h2
  rw [if_neg h2] at h
  exact ⟨h.1, fun h9 => ⟨(h.2.1 h9).1, (h.2.1 h9).2.mono hs⟩, fun i hi => ⟨(h.2.2 i hi).1, (h.2.2 i hi).2.mono hs⟩⟩
theorem Complete.mono {l : List UInt8} {H H' : List P3} {y : P3} (hs : ∀ y ∈ H, y ∈ H') : Complete l H y → Complete l H' y
  | ⟨r, h1, h2, h3⟩ => ⟨r, h1, h2, h3.mono hs⟩
/-- What a visit leaves behind. -/
structure GrewV (l : List UInt8) (s s' : CvS) : Prop where
  sub : ∀ y ∈ s.had, y ∈ s'.had
  new : ∀ y ∈ s'.had, y ∈ s.had ∨ Complete l s'.had y
section
variable {l : List UInt8} {s s' s'' : CvS}
theorem GrewV.same (h : s'.had = s.had) : GrewV l s s' := ⟨fun _ hy => h ▸ hy, fun _ hy => .inl (h ▸ hy)⟩
theorem GrewV.trans (h : GrewV l s s') (k : GrewV l s' s'') : GrewV l s s'' := ⟨fun y hy => k.sub y (h.sub y hy), fun y hy => by
  rcases k.new y hy with h1 | h1
  · exact (h.new y h1).imp id (fun h2 => h2.mono k.sub)
  · exact .inr h1⟩
theorem GrewV.tell (h : GrewV l s s') (a b c : Int) : GrewV l s (s'.tell a b c) := h.trans (GrewV.same (tell_had _ _ _ _))
end
def Finds (l : List UInt8) (go : Rq → CvS → CvS × Int) : Prop := ∀ r s, 0 ≤ r.p → (go r s).2 = 0 → GrewV l s (go r s).1 ∧ GoodC l (go r s).1.had r
theorem key_pos {l : List UInt8} {r : Rq} (h : kyE l r.p r.q r.t r.v = 0) : 0 ≤ (cvKey l r).p := by
  unfold cvKey kyP
  simp only [h, if_true]
  omega
theorem at_pos {l : List UInt8} {r : Rq} {i : Nat} (h : atE l r.p r.q r.t r.v i = 0) : 0 ≤ (cvAt l r i).p := by
  unfold cvAt atP
  simp only [h, if_true]
  omega
section
variable {l : List UInt8} {go : Rq → CvS → CvS × Int} (r : Rq)
theorem elems_finds (hg : Finds l go) : ∀ (n i : Nat) (s : CvS), (cvElems l go r n i s).2 = 0 → GrewV l s (cvElems l go r n i s).1 ∧ ∀ j : Nat, i ≤ j → j < i + n → atE l r.p r.q r.t r.v j = 0 ∧ GoodC l (cvElems l go r n i s).1.had (cvAt l r j)
  | 0, _, _, _ => ⟨GrewV.same rfl, fun j h1 h2 => by omega⟩
  | n + 1, i, s, h0 => by
    have htag : (cvTag l r i s).had = s.had := by
      unfold cvTag
      split
      · exact tell_had _ _ _ _
      · rfl
    by_cases hf : atE l r.p r.q r.t r.v i = 0
    · by_cases hgo : (go (cvAt l r i) (cvTag l r i s)).2 = 0
      · obtain ⟨g1, g2⟩ := hg (cvAt l r i) _ (at_pos hf) hgo
        unfold cvElems at h0 ⊢
        rw [if_neg (by rw [hf]; decide), if_neg (by rw [hgo]; decide)] at h0 ⊢
        obtain ⟨g3, g4⟩ := elems_finds hg n (i + 1) _ h0
        refine ⟨((GrewV.same htag).trans g1).trans g3, fun j h1 h2 => ?_⟩
        by_cases hj : j = i
        · subst hj
          exact ⟨hf, g2.mono g3.sub⟩
        · exact g4 j (by omega) (by omega)
      · unfold cvElems at h0
        rw [if_neg (by rw [hf]; decide), if_pos hgo] at h0
        exact absurd h0 hgo
    · unfold cvElems at h0
      rw [if_pos hf] at h0
      exact absurd h0 hf
theorem head_finds (hg : Finds l go) (s : CvS) (h0 : (cvHead l go r s).2 = 0) : GrewV l s (cvHead l go r s).1 ∧ (r.t = 9 → kyE l r.p r.q r.t r.v = 0 ∧ GoodC l (cvHead l go r s).1.had (cvKey l r)) := by
  unfold cvHead at h0 ⊢
  split
  · rename_i h9
    rw [if_pos h9] at h0
    by_cases hf : kyE l r.p r.q r.t r.v = 0
    · by_cases hgo : (go (cvKey l r) s).2 = 0
      · obtain ⟨g1, g2⟩ := hg (cvKey l r) s (key_pos hf) hgo
        unfold cvKeys
        rw [if_neg (by rw [hf]; decide), if_neg (by rw [hgo]; decide)]
        exact ⟨g1.tell _ _ _, fun _ => ⟨hf, by simp only [tell_had]; exact g2⟩⟩
      · unfold cvKeys at h0
        rw [if_neg (by rw [hf]; decide), if_pos hgo] at h0
        exact absurd h0 hgo
    · unfold cvKeys at h0
      rw [if_pos hf] at h0
      exact absurd h0 hf
  · rename_i h9
    exact ⟨GrewV.same rfl, fun h => absurd h h9⟩
theorem data_finds (hg : Finds l go) (s : CvS) (h0 : (cvData l go r s).2 = 0) : GrewV l s (cvData l go r s).1 ∧ Whole l (cvData l go r s).1.had r := by
  unfold cvData at h0 ⊢
  unfold Whole
  by_cases h1 : isIn [4, 5, 25] r.t = true
  · rw [if_pos h1] at h0
    rw [if_pos h1, if_pos h1]
    by_cases hf : fndE l r.p r.q r.t r.v [4, 5, 25] = 0
    · refine ⟨GrewV.same ?_, hf⟩
      unfold cvText
      (repeat' split) <;> simp only [tell_had]
    · unfold cvText at h0
      rw [if_pos hf] at h0
      exact absurd h0 hf
  rw [if_neg h1] at h0
  rw [if_neg h1, if_neg h1]
  by_cases h2 : r.t = 6 ∨ r.t = 7
  · rw [if_pos h2] at h0
    rw [if_pos h2, if_pos h2]
    by_cases hf : plcE l r.p r.q r.t r.v = 0
    · refine ⟨GrewV.same ?_, hf⟩
      unfold cvApart
      (repeat' split) <;> simp only [tell_had]
    · unfold cvApart at h0
      rw [if_neg hf] at h0
      exact absurd h0 hf
  rw [if_neg h2] at h0
  rw [if_neg h2, if_neg h2]
  by_cases hl : lsE l r.p r.q r.t r.v = 0
  · by_cases hh : (cvHead l go r s).2 = 0
    · obtain ⟨g1, g2⟩ := head_finds r hg s hh
      have hln : (cvLen l r (cvHead l go r s).1).had = (cvHead l go r s).1.had := by
        unfold cvLen
        split
        · exact tell_had _ _ _ _
        · rfl
      unfold cvList at h0 ⊢
      rw [if_neg (by rw [hl]; decide), if_neg (by rw [hh]; decide)] at h0 ⊢
      obtain ⟨g3, g4⟩ := elems_finds r hg _ _ _ h0
      have g5 := (GrewV.same hln).trans g3
      exact ⟨g1.trans g5, hl, fun h9 => ⟨(g2 h9).1, (g2 h9).2.mono g5.sub⟩, fun i hi => g4 i (Nat.zero_le _) (by omega)⟩
    · unfold cvList at h0
      rw [if_neg (by rw [hl]; decide), if_pos hh] at h0
      exact absurd h0 hh
  · unfold cvList at h0
    rw [if_pos hl] at h0
    exact absurd h0 hl
end
theorem start_had (r : Rq) (s : CvS) : (cvStart r s).had = s.had := by
  unfold cvStart
  rw [tell_had]
  rfl
theorem come_finds (l : List UInt8) : ∀ d, Finds l (cvCome l d)
  | 0 => fun _ _ _ h => by cases h
  | d + 1 => fun r s hp h0 => by
    unfold cvCome at h0 ⊢
    by_cases h1 : s.left < 1
    · rw [if_pos h1] at h0
      cases h0
    rw [if_neg h1] at h0 ⊢
    by_cases h2 : inlineT r.t = true
    · rw [if_pos h2]
      exact ⟨GrewV.same (start_had _ _), hp, .inl h2⟩
    rw [if_neg h2] at h0 ⊢
    by_cases h3 : tgtE l r.p r.q r.t r.v ≠ 0 ∨ cvSpot l r ∈ s.had
    · rw [if_pos h3] at h0 ⊢
      simp only at h0
      refine ⟨GrewV.same (start_had _ _), hp, .inr ⟨by simpa using h2, h0, ?_⟩⟩
      rw [start_had]
      exact h3.resolve_left fun h => h h0
    · rw [if_neg h3] at h0 ⊢
      obtain ⟨g1, g2⟩ := data_finds r (come_finds l d) _ h0
      have hte : tgtE l r.p r.q r.t r.v = 0 := Decidable.of_not_not fun h => h3 (.inl h)
      have hs : ((cvStart r s).see (cvSpot l r)).had = s.had ++ [cvSpot l r] := by
        unfold CvS.see
        simp only [start_had]
      refine ⟨⟨fun y hy => g1.sub y (by rw [hs]; exact List.mem_append_left _ hy), fun y hy => ?_⟩, hp, .inr ⟨by simpa using h2, hte, g1.sub _ (by rw [hs]; exact List.mem_append_right _ (List.mem_singleton.2 rfl))⟩⟩
      rcases g1.new y hy with h4 | h4
      · rw [hs] at h4
        rcases List.mem_append.1 h4 with h5 | h5
        · exact .inl h5
        · exact .inr ⟨r, (List.mem_singleton.1 h5).symm, hte, g2⟩
      · exact .inr h4
/-- Two references to the same data. -/
theorem whole_spot {l : List UInt8} {H : List P3} {r r' : Rq} (h : tgtE l r.p r.q r.t r.v = 0) (h' : tgtE l r'.p r'.q r'.t r'.v = 0) (e : cvSpot l r = cvSpot l r') (hw : Whole l H r) : Whole l H r' := by
  obtain ⟨p, q, t, v⟩ := r
  obtain ⟨p', q', t', v'⟩ := r'
  unfold cvSpot at e
  simp only [Prod.mk.injEq] at e h h'
  obtain ⟨e, rfl, rfl⟩ := e
  have hm := (may_tgt h).1
  have hm' := (may_tgt h').1
  have e1 : lsN l p q t v = lsN l p' q' t v := by unfold lsN; rw [e]
  have e2 : lsE l p q t v = lsE l p' q' t v := by unfold lsE; rw [hm, hm', h, h', e, e1]
  have e3 : lsFrom l p q t v = lsFrom l p' q' t v := by unfold lsFrom; rw [e2, e]
  have e4 : lsAt l p q t v = lsAt l p' q' t v := by unfold lsAt; rw [e2, e]
  have e5 : lsLen l p q t v = lsLen l p' q' t v := by unfold lsLen; rw [e2, e1]
  have e6 : fndE l p q t v [4, 5, 25] = fndE l p' q' t v [4, 5, 25] := by unfold fndE; rw [hm, hm', h, h', e]
  have e7 : plcE l p q t v = plcE l p' q' t v := by unfold plcE; rw [hm, hm', h, h', e]
  have e8 : kyU l p q t v = kyU l p' q' t v := by unfold kyU; rw [e3]
  have e9 : kyE l p q t v = kyE l p' q' t v := by unfold kyE; rw [hm, hm', e2, e8]
  have e10 : ∀ i, tagB l p q t v i = tagB l p' q' t v i := fun i => by unfold tagB; rw [e4, e5]
  have e11 : ∀ i, atE l p q t v i = atE l p' q' t v i := fun i => by unfold atE; rw [e2, e5, e10]
  have e12 : cvKey l ⟨p, q, t, v⟩ = cvKey l ⟨p', q', t, v⟩ := by unfold cvKey kyP kyQ kyT kyV; simp only [e9, e3, e8]
  have e13 : ∀ i, cvAt l ⟨p, q, t, v⟩ i = cvAt l ⟨p', q', t, v⟩ i := fun i => by unfold cvAt atP atQ atT atV; simp only [e11, e4, e10]
  unfold Whole at hw ⊢
  simp only at hw ⊢
  rw [e2, e5, e6, e7, e9, e12] at hw
  split
  · rename_i h1
    rw [if_pos h1] at hw
    exact hw
  rename_i h1
  rw [if_neg h1] at hw
  split
  · rename_i h2
    rw [if_pos h2] at hw
    exact hw
  rename_i h2
  rw [if_neg h2] at hw
  refine ⟨hw.1, hw.2.1, fun i hi => ?_⟩
  have := hw.2.2 i hi
  rw [e11, e13] at this
  exact this
end Go.Proofs.YtejalfjeihlpeaaGreat
