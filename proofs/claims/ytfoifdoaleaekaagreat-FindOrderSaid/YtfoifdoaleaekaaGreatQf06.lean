/-
  Package build: the document's root. No program in sight.
  Package build: the root of a document, with bytes ahead. No program in sight.
  Package build: the target of a document's root, with bytes ahead. No program in sight.
  Package build: the length, the elements and the tags of a vector, with bytes ahead. No program in sight.
  Package build: the head, the elements and the tags of a map, with bytes ahead. No program in sight.
  Package tree: the check of a tree; a checked tree is Ok. No program in sight.
  Package key: the sorted tree; a checked tree, sorted, is Ok. No program in sight.
  Package key: the keys of a sorted map ascend. No program in sight.
  Package build: the document of a checked tree: its bytes, its root's value, its kind. No program in sight.
  Package ref and its reference: Inside, isWidth, Same.
-/
import Derived.Test.YtfoifdoaleaekaaGreatQf05
namespace Go.Proofs.YtfoifdoaleaekaaGreat
open Go.Acc
theorem leastW_is (f : Nat → Bool) (h : f 8 = true) : (leastW f = 1 ∨ leastW f = 2 ∨ leastW f = 4 ∨ leastW f = 8) ∧ f (leastW f) = true := by
  unfold leastW
  by_cases h1 : f 1 = true
  · rw [if_pos h1]; exact ⟨Or.inl rfl, h1⟩
  · by_cases h2 : f 2 = true
    · rw [if_neg h1, if_pos h2]; exact ⟨Or.inr (Or.inl rfl), h2⟩
    · by_cases h4 : f 4 = true
      · rw [if_neg h1, if_neg h2, if_pos h4]; exact ⟨Or.inr (Or.inr (Or.inl rfl)), h4⟩
      · rw [if_neg h1, if_neg h2, if_neg h4, if_pos h]; exact ⟨Or.inr (Or.inr (Or.inr rfl)), h⟩
theorem isW_nat {w : Nat} : isW w = true ↔ w = 1 ∨ w = 2 ∨ w = 4 ∨ w = 8 := by
  simp only [isW, decide_eq_true_eq]
  omega
theorem fitsV8 {a : Nat} {v : Bv} (h : Fit a v) (i : Nat) : fitsV v a i 8 = true := by
  unfold fitsV
  cases e : inl v.t with
  | true => simp [h.1 e]
  | false => simp [h.2 e, bWidth_le]
theorem fitsL8 {a : Nat} : ∀ (vs : List Bv) (i : Nat), (∀ x ∈ vs, Fit a x) → fitsL a 8 i vs = true
  | [], _, _ => rfl
  | v :: r, i, h => by
    rw [fitsL, fitsV8 (h v (by simp)), fitsL8 r (i + 1) (fun x hx => h x (by simp [hx]))]
    rfl
theorem fitAll8 {a ahead : Nat} {k : Option Bv} {vs : List Bv} (hk : ∀ x, k = some x → Fit a x) (h : ∀ x ∈ vs, Fit a x) : isW (fitAll a ahead k vs) = true := by
  refine isW_nat.2 (leastW_is _ ?_).1
  rw [fitF, fitsL8 vs ahead h]
  cases k with
  | none => simp [fitK, bWidth_le]
  | some x => simp [fitK, bWidth_le, fitsV8 (hk x rfl)]
theorem VecAt.width {l : List UInt8} {t : Nat} {len tags : Bool} {vs : List Bv} {v : Bv} (h : VecAt l t len tags vs v) : v.t = t ∧ isW v.w = true := by
  obtain ⟨b, m, _, rfl, hf⟩ := h
  exact ⟨rfl, show isW ((fitAll b.length (if len = true then 1 else 0) none vs : Nat) : Int) = true from fitAll8 (k := none) (fun _ e => by cases e) hf⟩
theorem MapAt.width {l : List UInt8} {k : Bv} {vs : List Bv} {v : Bv} (h : MapAt l k vs v) : v.t = 9 ∧ isW v.w = true := by
  obtain ⟨b, m, _, rfl, hk, hf⟩ := h
  exact ⟨rfl, show isW ((fitAll b.length 3 (some k) vs : Nat) : Int) = true from fitAll8 (k := some k) (fun x e => by injection e with e; exact e ▸ hk) hf⟩
theorem bWidth_is (u : Nat) : isW (bWidth u) = true := isW_nat.2 (by unfold bWidth; (repeat' split) <;> simp)
theorem bWidthI_is (n : Int) : isW (bWidthI n) = true := isW_nat.2 (by unfold bWidthI; (repeat' split) <;> simp)
def FixOk (t : Tr) : Prop := t.k = 15 ∨ t.k = 16 → t.l.length = 2 ∨ t.l.length = 3 ∨ t.l.length = 4
theorem Rep.legal {l : List UInt8} {v : Bv} {t : Tr} (h : Rep l v t) (hx : FixOk t) : legalT v.t = true ∧ isW v.w = true ∧ kindT v.t = t.k := by
  cases h with
  | null => exact ⟨by decide, by decide, show kindT 0 = 1 by decide⟩
  | truth n u s ks c => exact ⟨show legalT 26 = true by decide, show isW 1 = true by decide, show kindT 26 = 2 by decide⟩
  | int n u s ks c => exact ⟨show legalT 1 = true by decide, bWidthI_is n, show kindT 1 = 3 by decide⟩
  | uint n u s ks c => exact ⟨show legalT 2 = true by decide, bWidth_is u, show kindT 2 = 4 by decide⟩
  | key _ _ _ _ h => rw [h.1, h.2.1]; exact ⟨by decide, by decide, show kindT 4 = 5 by decide⟩
  | str _ _ _ _ h => rw [h.1, h.2.1]; exact ⟨by decide, bWidth_is _, show kindT 5 = 6 by decide⟩
  | blob _ _ _ _ h => rw [h.1, h.2.1]; exact ⟨by decide, bWidth_is _, show kindT 25 = 7 by decide⟩
  | indInt _ _ _ _ h => rw [h.1, h.2.1]; exact ⟨by decide, bWidthI_is _, show kindT 6 = 8 by decide⟩
  | indUint _ _ _ _ h => rw [h.1, h.2.1]; exact ⟨by decide, bWidth_is _, show kindT 7 = 9 by decide⟩
  | ints _ _ _ _ h => rw [h.width.1]; exact ⟨by decide, h.width.2, show kindT 11 = 11 by decide⟩
  | uints _ _ _ _ h => rw [h.width.1]; exact ⟨by decide, h.width.2, show kindT 12 = 12 by decide⟩
  | bools _ _ _ _ h => rw [h.width.1]; exact ⟨by decide, h.width.2, show kindT 36 = 14 by decide⟩
  | keys _ _ _ _ _ h => rw [h.width.1]; exact ⟨by decide, h.width.2, show kindT 14 = 13 by decide⟩
  | vec _ _ _ _ _ _ h => rw [h.width.1]; exact ⟨by decide, h.width.2, show kindT 10 = 10 by decide⟩
  | map _ _ _ _ _ _ _ h => rw [h.width.1]; exact ⟨by decide, h.width.2, show kindT 9 = 17 by decide⟩
  | fixInts _ _ _ _ h =>
    rename_i c n u s ks
    have hx : c.length = 2 ∨ c.length = 3 ∨ c.length = 4 := hx (Or.inl rfl)
    have hw := h.width.2
    rw [h.width.1]
    rcases hx with e | e | e <;> rw [e]
    · exact ⟨by decide, hw, show kindT 16 = 15 by decide⟩
    · exact ⟨by decide, hw, show kindT 19 = 15 by decide⟩
    · exact ⟨by decide, hw, show kindT 22 = 15 by decide⟩
  | fixUints _ _ _ _ h =>
    rename_i c n u s ks
    have hx : c.length = 2 ∨ c.length = 3 ∨ c.length = 4 := hx (Or.inr rfl)
    have hw := h.width.2
    rw [h.width.1]
    rcases hx with e | e | e <;> rw [e]
    · exact ⟨by decide, hw, show kindT 17 = 16 by decide⟩
    · exact ⟨by decide, hw, show kindT 20 = 16 by decide⟩
    · exact ⟨by decide, hw, show kindT 23 = 16 by decide⟩
theorem tag_is (t w : Nat) (ht : legalT t = true) (hw : isW w = true) : unT (UInt8.ofNat (4 * t + bCode w)) = t ∧ unW (UInt8.ofNat (4 * t + bCode w)) = w ∧ unE (UInt8.ofNat (4 * t + bCode w)) = 0 := by
  have h37 := isT_iff.1 (legal_isT ht)
  have hc : bCode w < 4 := by unfold bCode; (repeat' split) <;> omega
  have hn : (UInt8.ofNat (4 * t + bCode w)).toNat = 4 * t + bCode w := by
    rw [UInt8.toNat_ofNat']
    omega
  have hd : (((UInt8.ofNat (4 * t + bCode w)).toNat : Nat) : Int) / 4 = t := by rw [hn]; omega
  have hm : (UInt8.ofNat (4 * t + bCode w)).toNat % 4 = bCode w := by rw [hn]; omega
  refine ⟨by rw [unT, hd, if_pos ht], ?_, by rw [unE, hd, if_pos ht]⟩
  rw [unW, hd, if_pos ht, hm]
  rcases isW_nat.1 hw with rfl | rfl | rfl | rfl <;> rfl
end Go.Proofs.YtfoifdoaleaekaaGreat

namespace Go.Proofs.YtfoifdoaleaekaaGreat
open Go.Acc
theorem align_len {w : Nat} (hw : isW w = true) (b : List UInt8) : (alignB w b).length = upN b.length w ∧ (alignB w b).length % w = 0 ∧ b.length ≤ (alignB w b).length := by
  simp only [alignB, List.length_append, List.length_replicate, padN, upN]
  rcases isW_nat.1 hw with rfl | rfl | rfl | rfl <;> omega
theorem bWidth_lt {u w : Nat} (hw : isW w = true) (hu : u < 2 ^ 64) (h : bWidth u ≤ w) : u < 2 ^ (8 * w) := by
  unfold bWidth at h
  rcases isW_nat.1 hw with rfl | rfl | rfl | rfl <;> (repeat' split at h) <;> omega
def docB (b : List UInt8) (v : Bv) (w : Nat) : List UInt8 := alignB w b ++ leBytes w (elemN w (alignB w b).length v) ++ [bTag w v, UInt8.ofNat w]
theorem last_two (y : List UInt8) (a b : UInt8) : (y ++ [a, b]).length = y.length + 2 ∧ (y ++ [a, b]).getD ((y ++ [a, b]).length - 1) 0 = b ∧ (y ++ [a, b]).getD ((y ++ [a, b]).length - 2) 0 = a := by
  refine ⟨by simp, ?_, ?_⟩
  · rw [List.getD_eq_getElem?_getD, List.getElem?_append_right (by simp)]
    simp
  · rw [List.getD_eq_getElem?_getD, List.getElem?_append_right (by simp)]
    simp
def ownW (w : Nat) (v : Bv) : Nat := if inl v.t = true then w else v.w
theorem root_doc {x b : List UInt8} {v : Bv} {w : Nat} (hx : x.length % 8 = 0) (hw : isW w = true) (ht : legalT v.t = true) (hv : isW v.w = true) :
    rootE (x ++ docB b v w) = 0 ∧ rootR (x ++ docB b v w) = (((x.length + (alignB w b).length : Nat) : Int), (w : Int), (v.t : Int), (ownW w v : Int)) := by
  obtain ⟨y, hy⟩ : ∃ y, x ++ (alignB w b ++ leBytes w (elemN w (alignB w b).length v)) = y := ⟨_, rfl⟩
  have hl : x ++ docB b v w = y ++ [bTag w v, UInt8.ofNat w] := by rw [← hy, docB]; simp only [List.append_assoc]
  have hn : y.length = x.length + (alignB w b).length + w := by rw [← hy]; simp only [List.length_append, leBytes_length]; omega
  obtain ⟨h1, h2, h3⟩ := last_two y (bTag w v) (UInt8.ofNat w)
  obtain ⟨_, ha, _⟩ := align_len hw b
  have how : isW (ownW w v) = true := by unfold ownW; split <;> assumption
  obtain ⟨t1, t2, t3⟩ := tag_is v.t (ownW w v) ht how
  have ht : bTag w v = UInt8.ofNat (4 * v.t + bCode (ownW w v)) := rfl
  rw [← ht] at t1 t2 t3
  have hwb : (UInt8.ofNat w).toNat = w := by
    rw [UInt8.toNat_ofNat']
    rcases isW_nat.1 hw with rfl | rfl | rfl | rfl <;> rfl
  have he : rootE (x ++ docB b v w) = 0 := by
    rw [hl]
    unfold rootE
    rw [h2, h3, hwb, t3, if_neg, if_neg (by simp), if_neg]
    · rw [h1, hn]
      rcases isW_nat.1 hw with rfl | rfl | rfl | rfl <;> omega
    · rw [h1, hn, hw]
      rcases isW_nat.1 hw with rfl | rfl | rfl | rfl <;> simp <;> omega
  refine ⟨he, ?_⟩
  unfold rootR
  rw [if_pos he, hl, h2, h3, hwb, t1, t2, h1, hn]
  simp only [Prod.mk.injEq, and_true]
  omega
end Go.Proofs.YtfoifdoaleaekaaGreat

namespace Go.Proofs.YtfoifdoaleaekaaGreat
open Go.Acc
theorem bdoc_len (x b : List UInt8) (v : Bv) (w : Nat) : (x ++ docB b v w).length = x.length + (alignB w b).length + w + 2 := by
  simp only [docB, List.length_append, leBytes_length, List.length_cons, List.length_nil]
  omega
theorem doc_may {x b : List UInt8} {v : Bv} {w : Nat} (hw : isW w = true) (ht : legalT v.t = true) (hv : isW v.w = true) :
    mayE (x ++ docB b v w).length ((x.length + (alignB w b).length : Nat) : Int) w v.t (ownW w v : Nat) = 0 := by
  have how : isW (ownW w v) = true := by unfold ownW; split <;> assumption
  refine mayE_ok.2 ⟨formed_iff.2 ⟨ht, hw, how⟩, inB_iff.2 ⟨by omega, by omega, ?_⟩⟩
  rw [bdoc_len]
  omega
theorem fits_off {v : Bv} {a i w : Nat} (hi : inl v.t = false) (h : fitsV v a i w = true) : v.n ≤ a ∧ bWidth (upN a w + i * w - v.n) ≤ w := by
  unfold fitsV at h
  rw [if_neg (by simp [hi])] at h
  exact of_decide_eq_true h
theorem doc_load {x b : List UInt8} {v : Bv} {w : Nat} (hw : isW w = true) (hi : inl v.t = false) (hb : b.length < 2 ^ 32) (hf : fitsV v b.length 0 w = true) :
    loadU (x ++ docB b v w) ((x.length + (alignB w b).length : Nat) : Int) w = (alignB w b).length - v.n ∧ v.n ≤ (alignB w b).length := by
  obtain ⟨h1, h2⟩ := fits_off hi hf
  obtain ⟨a1, a2, a3⟩ := align_len hw b
  rw [Nat.zero_mul, Nat.add_zero, ← a1] at h2
  have hpad : (alignB w b).length ≤ b.length + 8 := by
    simp only [alignB, List.length_append, List.length_replicate, padN]
    rcases isW_nat.1 hw with rfl | rfl | rfl | rfl <;> omega
  have hlt := bWidth_lt hw (by omega) h2
  have hat : At (x ++ docB b v w) (x.length + (alignB w b).length) (leBytes w (elemN w (alignB w b).length v)) := by
    refine At.ahead ?_ x
    exact (At.last _ _).app _
  rw [hat.load hw, leVal_leBytes]
  have he : elemN w (alignB w b).length v = (alignB w b).length - v.n := by rw [elemN, if_neg (by simp [hi])]
  rw [he, Nat.mod_eq_of_lt hlt]
  exact ⟨rfl, by omega⟩
theorem doc_target {x b : List UInt8} {v : Bv} {w : Nat} (hw : isW w = true) (ht : legalT v.t = true) (hv : isW v.w = true) (hb : b.length < 2 ^ 32) (hf : fitsV v b.length 0 w = true) :
    (inlineT v.t = true → tgtE (x ++ docB b v w) ((x.length + (alignB w b).length : Nat) : Int) w v.t (ownW w v : Nat) = 60 ∧ tgt (x ++ docB b v w) ((x.length + (alignB w b).length : Nat) : Int) w v.t (ownW w v : Nat) = 0) ∧
    (inlineT v.t = false → tgtE (x ++ docB b v w) ((x.length + (alignB w b).length : Nat) : Int) w v.t (ownW w v : Nat) = 0 ∧ tgt (x ++ docB b v w) ((x.length + (alignB w b).length : Nat) : Int) w v.t (ownW w v : Nat) = ((x.length + v.n : Nat) : Int) ∧ v.n ≤ (alignB w b).length) := by
  have hm := doc_may (x := x) (b := b) hw ht hv
  refine ⟨fun hi => ⟨tgtE_inl hm hi, tgt_inl hm hi⟩, fun hi => ?_⟩
  obtain ⟨h1, h2⟩ := doc_load (x := x) hw hi hb hf
  have hu : ¬ ((x.length + (alignB w b).length : Nat) : Int) < (loadU (x ++ docB b v w) ((x.length + (alignB w b).length : Nat) : Int) w : Int) := by
    rw [h1]
    omega
  refine ⟨tgtE_ok hm hi hu, ?_, h2⟩
  rw [tgt_ok hm hi hu, h1]
  omega
end Go.Proofs.YtfoifdoaleaekaaGreat

namespace Go.Proofs.YtfoifdoaleaekaaGreat
open Go.Acc
theorem fitsL_at {a w : Nat} : ∀ (vs : List Bv) (i j : Nat) (y : Bv), fitsL a w i vs = true → vs[j]? = some y → fitsV y a (i + j) w = true
  | [], _, _, _, _, h => by simp at h
  | v :: r, i, 0, y, hf, h => by
    rw [fitsL, Bool.and_eq_true] at hf
    have e : v = y := by simpa using h
    subst e
    exact hf.1
  | v :: r, i, j + 1, y, hf, h => by
    rw [fitsL, Bool.and_eq_true] at hf
    have := fitsL_at r (i + 1) j y hf.2 (by simpa using h)
    rwa [show i + 1 + j = i + (j + 1) by omega] at this
def Elem (w p : Nat) (y : Bv) : Prop := (inl y.t = true → y.w ≤ w) ∧ (inl y.t = false → y.n ≤ p ∧ p - y.n < 2 ^ (8 * w))
theorem elem_of {y : Bv} {a i w : Nat} (hw : isW w = true) (hs : upN a w + i * w < 2 ^ 40) (h : fitsV y a i w = true) : Elem w (upN a w + i * w) y := by
  refine ⟨fun e => ?_, fun e => ?_⟩
  · unfold fitsV at h
    rw [if_pos e] at h
    exact of_decide_eq_true h
  · obtain ⟨h1, h2⟩ := fits_off e h
    have hup : a ≤ upN a w := by
      unfold upN
      rcases isW_nat.1 hw with rfl | rfl | rfl | rfl <;> omega
    exact ⟨by omega, bWidth_lt hw (by omega) h2⟩
theorem fitAll_is {a ahead : Nat} {k : Option Bv} {vs : List Bv} (hk : ∀ x, k = some x → Fit a x) (h : ∀ x ∈ vs, Fit a x) :
    (ahead = 0 ∨ bWidth vs.length ≤ fitAll a ahead k vs) ∧ (∀ x, k = some x → fitsV x a 0 (fitAll a ahead k vs) = true) ∧ fitsL a (fitAll a ahead k vs) ahead vs = true := by
  have h8 : fitF a ahead k vs 8 = true := by
    rw [fitF, fitsL8 vs ahead h]
    cases k with
    | none => simp [fitK, bWidth_le]
    | some x => simp [fitK, bWidth_le, fitsV8 (hk x rfl)]
  have hf : fitF a ahead k vs (fitAll a ahead k vs) = true := (leastW_is _ h8).2
  rw [fitF, Bool.and_eq_true, Bool.and_eq_true, Bool.or_eq_true, decide_eq_true_eq, decide_eq_true_eq] at hf
  refine ⟨hf.1.1, fun x e => ?_, hf.2⟩
  subst e
  exact hf.1.2
structure VecIn (L : List UInt8) (s : Nat) (len tags : Bool) (vs : List Bv) (v : Bv) : Prop where
  w : isW v.w = true
  len : len = true → ∃ c, v.n = c + v.w ∧ At L (s + c) (leBytes v.w vs.length) ∧ vs.length < 2 ^ (8 * v.w)
  el : ∀ (i : Nat) y, vs[i]? = some y → At L (s + (v.n + i * v.w)) (leBytes v.w (elemN v.w (v.n + i * v.w) y)) ∧ Elem v.w (v.n + i * v.w) y
  tags : tags = true → At L (s + (v.n + vs.length * v.w)) (vs.map (bTag v.w))
  le : s + (v.n + vs.length * v.w) ≤ L.length
theorem VecAt.facts {l : List UInt8} {t : Nat} {len tags : Bool} {vs : List Bv} {v : Bv} (h : VecAt l t len tags vs v) (hb : l.length < 2 ^ 32) (x : List UInt8) : VecIn (x ++ l) x.length len tags vs v := by
  have hw0 := h.width.2
  obtain ⟨b, m, rfl, rfl, hf⟩ := h
  obtain ⟨f1, _, f3⟩ := fitAll_is (a := b.length) (ahead := if len = true then 1 else 0) (k := none) (fun _ e => by cases e) hf
  have hw : isW ((fitAll b.length (if len = true then 1 else 0) none vs : Nat) : Int) = true := hw0
  clear hw0
  obtain ⟨w, hwd⟩ : ∃ w, fitAll b.length (if len = true then 1 else 0) none vs = w := ⟨_, rfl⟩
  obtain ⟨c, hc⟩ : ∃ c, alignB w b ++ (if len = true then leBytes w vs.length else []) = c := ⟨_, rfl⟩
  simp only [bVec, hwd, hc] at hb hw f1 f3 ⊢
  obtain ⟨a1, a2, a3⟩ := align_len hw b
  obtain ⟨q, e, hq⟩ := elemsB_app w vs c
  have hcl : c.length = upN b.length w + (if len = true then 1 else 0) * w := by
    rw [← hc, List.length_append, a1]
    cases len <;> simp [leBytes_length]
  have hlen : c.length + w * vs.length ≤ (elemsB w c vs ++ (if tags = true then vs.map (bTag w) else []) ++ m).length := by
    rw [e]
    simp only [List.length_append, hq]
    omega
  have hvl : vs.length ≤ w * vs.length := Nat.le_mul_of_pos_left _ (by rcases isW_nat.1 hw with rfl | rfl | rfl | rfl <;> omega)
  refine ⟨hw, fun hl => ?_, fun i y hy => ?_, fun ht => ?_, ?_⟩
  · subst hl
    simp only [if_true] at hc hcl f1
    refine ⟨(alignB w b).length, by simp only [hcl]; omega, ?_, bWidth_lt hw (by omega) (f1.resolve_left (by omega))⟩
    refine At.ahead ?_ x
    refine At.app ?_ m
    refine At.app ?_ _
    rw [e, ← hc]
    exact (At.last _ _).app q
  · have hi : i < vs.length := by
      rw [← Nat.not_le]
      intro hn
      rw [List.getElem?_eq_none hn] at hy
      cases hy
    have hiw : i * w ≤ w * vs.length := by rw [Nat.mul_comm]; exact Nat.mul_le_mul_left _ (by omega)
    refine ⟨At.ahead (((elemsB_at w vs c i y hy).app _).app m) x, ?_⟩
    have h1 := fitsL_at vs _ i y f3 hy
    have h2 : upN b.length w + ((if len = true then 1 else 0) + i) * w = c.length + i * w := by rw [hcl, Nat.add_mul, Nat.add_assoc]
    have h3 := elem_of hw (by rw [h2]; omega) h1
    rw [h2] at h3
    exact h3
  · subst ht
    refine At.ahead ?_ x
    refine At.app ?_ m
    have : (elemsB w c vs).length = c.length + vs.length * w := by rw [e, List.length_append, hq, Nat.mul_comm]
    rw [← this]
    exact At.last _ _
  · show x.length + (c.length + vs.length * w) ≤ _
    rw [List.length_append, Nat.mul_comm vs.length]
    omega
end Go.Proofs.YtfoifdoaleaekaaGreat

namespace Go.Proofs.YtfoifdoaleaekaaGreat
open Go.Acc
structure MapIn (L : List UInt8) (s : Nat) (k : Bv) (vs : List Bv) (v : Bv) : Prop where
  w : isW v.w = true
  head : ∃ c, v.n = c + 3 * v.w ∧ At L (s + c) (leBytes v.w (c - k.n)) ∧ k.n ≤ c ∧ c - k.n < 2 ^ (8 * v.w) ∧ At L (s + (c + v.w)) (leBytes v.w k.w) ∧ At L (s + (c + 2 * v.w)) (leBytes v.w vs.length) ∧ vs.length < 2 ^ (8 * v.w)
  el : ∀ (i : Nat) y, vs[i]? = some y → At L (s + (v.n + i * v.w)) (leBytes v.w (elemN v.w (v.n + i * v.w) y)) ∧ Elem v.w (v.n + i * v.w) y
  tags : At L (s + (v.n + vs.length * v.w)) (vs.map (bTag v.w))
  le : s + (v.n + vs.length * v.w) ≤ L.length
theorem MapAt.facts {l : List UInt8} {k : Bv} {vs : List Bv} {v : Bv} (h : MapAt l k vs v) (hk0 : inl k.t = false) (hb : l.length < 2 ^ 32) (x : List UInt8) : MapIn (x ++ l) x.length k vs v := by
  have hw0 := h.width.2
  obtain ⟨b, m, rfl, rfl, hk, hf⟩ := h
  obtain ⟨f1, f2, f3⟩ := fitAll_is (a := b.length) (ahead := 3) (k := some k) (fun x e => by injection e with e; exact e ▸ hk) hf
  have f2 := f2 k rfl
  have hw : isW ((fitAll b.length 3 (some k) vs : Nat) : Int) = true := hw0
  clear hw0
  obtain ⟨w, hwd⟩ : ∃ w, fitAll b.length 3 (some k) vs = w := ⟨_, rfl⟩
  obtain ⟨a, ha⟩ : ∃ a, alignB w b = a := ⟨_, rfl⟩
  obtain ⟨c, hc⟩ : ∃ c, a ++ leBytes w (a.length - k.n) ++ leBytes w k.w ++ leBytes w vs.length = c := ⟨_, rfl⟩
  simp only [mapB, hwd, ha, hc] at hb hw f1 f2 f3 ⊢
  obtain ⟨a1, a2, a3⟩ := align_len hw b
  rw [ha] at a1 a2 a3
  obtain ⟨q, e, hq⟩ := elemsB_app w vs c
  have hcl : c.length = a.length + 3 * w := by
    rw [← hc]
    simp only [List.length_append, leBytes_length]
    omega
  have hlen : c.length + w * vs.length ≤ (elemsB w c vs ++ vs.map (bTag w) ++ m).length := by
    rw [e]
    simp only [List.length_append, hq]
    omega
  have hvl : vs.length ≤ w * vs.length := Nat.le_mul_of_pos_left _ (by rcases isW_nat.1 hw with rfl | rfl | rfl | rfl <;> omega)
  obtain ⟨g1, g2⟩ := fits_off hk0 f2
  rw [Nat.zero_mul, Nat.add_zero, ← a1] at g2
  refine ⟨hw, ⟨a.length, hcl, ?_, by omega, bWidth_lt hw (by omega) g2, ?_, ?_, bWidth_lt hw (by omega) (f1.resolve_left (by omega))⟩, fun i y hy => ?_, ?_, ?_⟩
  · refine At.ahead (At.app (At.app ?_ _) m) x
    rw [e, ← hc]
    exact (((At.last a _).app _).app _).app q
  · refine At.ahead (At.app (At.app ?_ _) m) x
    rw [e, ← hc]
    have := At.last (a ++ leBytes w (a.length - k.n)) (leBytes w k.w)
    rw [List.length_append, leBytes_length] at this
    exact (this.app _).app q
  · refine At.ahead (At.app (At.app ?_ _) m) x
    rw [e, ← hc]
    have := At.last (a ++ leBytes w (a.length - k.n) ++ leBytes w k.w) (leBytes w vs.length)
    rw [List.length_append, List.length_append, leBytes_length, leBytes_length, show a.length + w + w = a.length + 2 * w by omega] at this
    exact this.app q
  · have hi : i < vs.length := by
      rw [← Nat.not_le]
      intro hn
      rw [List.getElem?_eq_none hn] at hy
      cases hy
    have hiw : i * w ≤ w * vs.length := by rw [Nat.mul_comm]; exact Nat.mul_le_mul_left _ (by omega)
    refine ⟨At.ahead (((elemsB_at w vs c i y hy).app _).app m) x, ?_⟩
    have h1 := fitsL_at vs _ i y f3 hy
    have h2 : upN b.length w + (3 + i) * w = c.length + i * w := by rw [hcl, Nat.add_mul, a1, Nat.add_assoc]
    have h3 := elem_of hw (by rw [h2]; omega) h1
    rw [h2] at h3
    exact h3
  · refine At.ahead (At.app ?_ m) x
    have : (elemsB w c vs).length = c.length + vs.length * w := by rw [e, List.length_append, hq, Nat.mul_comm]
    rw [← this]
    exact At.last _ _
  · show x.length + (c.length + vs.length * w) ≤ _
    rw [List.length_append, Nat.mul_comm vs.length]
    omega
end Go.Proofs.YtfoifdoaleaekaaGreat

namespace Go.Proofs.YtfoifdoaleaekaaGreat
open Go.Acc
def partOf (k : Int) : Int := if k = 10 ∨ k = 17 then 0 else if k = 11 ∨ k = 15 then 3 else if k = 12 ∨ k = 16 then 4 else if k = 13 then 5 else if k = 14 then 2 else -1
def suchT (t : Tr) : Bool :=
  decide (1 ≤ t.k ∧ t.k ≤ 17) && decide (t.k = 2 ∨ t.k = 3 ∨ t.k = 8 ∨ t.n = 0) && decide (t.k = 4 ∨ t.k = 9 ∨ t.u = 0) && decide (t.k = 5 ∨ t.k = 6 ∨ t.k = 7 ∨ t.s = []) && decide (t.k = 17 ∨ t.ks = []) && decide (t.k = 2 → t.n = 0 ∨ t.n = 1) && decide (t.k = 17 → t.ks.length = t.l.length) && decide (t.k = 15 ∨ t.k = 16 → 2 ≤ t.l.length ∧ t.l.length ≤ 4) && t.l.all fun x => decide (partOf t.k = 0 ∨ x.k = partOf t.k)
def hasZero (s : List UInt8) : Bool := s.any fun c => c == 0
def keysE (ez et : Int) : List (List UInt8) → List (List UInt8) → Int
  | _, [] => 0
  | had, k :: r => if hasZero k = true then ez else if had.contains k = true then et else keysE ez et (k :: had) r
def keyedE (ez et : Int) (t : Tr) : Int := if t.k = 5 ∧ hasZero t.s = true then ez else keysE ez et [] t.ks
structure Ers where
  limit : Int
  deep : Int
  kind : Int
  key : Int
  twice : Int
mutual
/-- The first error at a node and below it, and the count of the nodes that were met. -/
def chk (e : Ers) (d : Nat) : Tr → Nat → Int × Nat
  | .mk k n u s ks l, c =>
    if c + 1 > 4096 then (e.limit, c + 1)
    else if d ≥ 64 then (e.deep, c + 1)
    else if suchT (.mk k n u s ks l) = false then (e.kind, c + 1)
    else if keyedE e.key e.twice (.mk k n u s ks l) ≠ 0 then (keyedE e.key e.twice (.mk k n u s ks l), c + 1)
    else chkL e (d + 1) l (c + 1)
def chkL (e : Ers) (d : Nat) : List Tr → Nat → Int × Nat
  | [], c => (0, c)
  | t :: r, c => if (chk e d t c).1 ≠ 0 then chk e d t c else chkL e d r (chk e d t c).2
end
theorem hasZero_no {s : List UInt8} (h : hasZero s = false) : (0 : UInt8) ∉ s := by
  intro hm
  have : hasZero s = true := List.any_eq_true.2 ⟨0, hm, by simp⟩
  rw [h] at this
  cases this
theorem keysE_ok {ez et : Int} (hz : ez ≠ 0) (ht : et ≠ 0) : ∀ (l had : List (List UInt8)), keysE ez et had l = 0 → (∀ s ∈ l, (0 : UInt8) ∉ s) ∧ l.Nodup ∧ ∀ s ∈ l, s ∉ had
  | [], _, _ => ⟨fun s h => by simp at h, List.nodup_nil, fun s h => by simp at h⟩
  | k :: r, had, h => by
    unfold keysE at h
    by_cases h1 : hasZero k = true
    · rw [if_pos h1] at h; exact absurd h hz
    · by_cases h2 : had.contains k = true
      · rw [if_neg h1, if_pos h2] at h; exact absurd h ht
      · rw [if_neg h1, if_neg h2] at h
        obtain ⟨a, b, c⟩ := keysE_ok hz ht r (k :: had) h
        have hk : k ∉ had := fun hm => h2 (by simpa using hm)
        refine ⟨fun s hs => ?_, List.nodup_cons.2 ⟨fun hm => c k hm (by simp), b⟩, fun s hs => ?_⟩
        · rcases List.mem_cons.1 hs with rfl | hs
          · exact hasZero_no (by simpa using h1)
          · exact a s hs
        · rcases List.mem_cons.1 hs with rfl | hs
          · exact hk
          · exact fun hm => c s hs (by simp [hm])
end Go.Proofs.YtfoifdoaleaekaaGreat

namespace Go.Proofs.YtfoifdoaleaekaaGreat
open Go.Acc
inductive Val : Tr → Prop
  | mk {k n : Int} {u : Nat} {s : List UInt8} {ks : List (List UInt8)} {l : List Tr} (h1 : suchT (.mk k n u s ks l) = true) (h2 : k = 5 → (0 : UInt8) ∉ s) (h3 : ∀ x ∈ ks, (0 : UInt8) ∉ x) (h4 : ks.Nodup) (h : ∀ t ∈ l, Val t) : Val (.mk k n u s ks l)
structure Ers.Ok (e : Ers) : Prop where
  limit : e.limit ≠ 0
  deep : e.deep ≠ 0
  kind : e.kind ≠ 0
  key : e.key ≠ 0
  twice : e.twice ≠ 0
mutual
theorem chk_val {e : Ers} (he : e.Ok) : ∀ (t : Tr) (d c : Nat), (chk e d t c).1 = 0 → Val t
  | .mk k n u s ks l, d, c, h => by
    rw [chk] at h
    by_cases h1 : c + 1 > 4096
    · rw [if_pos h1] at h; exact absurd h he.limit
    rw [if_neg h1] at h
    by_cases h2 : d ≥ 64
    · rw [if_pos h2] at h; exact absurd h he.deep
    rw [if_neg h2] at h
    by_cases h3 : suchT (.mk k n u s ks l) = false
    · rw [if_pos h3] at h; exact absurd h he.kind
    rw [if_neg h3] at h
    by_cases h4 : keyedE e.key e.twice (.mk k n u s ks l) ≠ 0
    · rw [if_pos h4] at h; exact absurd h h4
    rw [if_neg h4] at h
    have h4 : keyedE e.key e.twice (.mk k n u s ks l) = 0 := Decidable.not_not.1 h4
    have h4 : (if k = 5 ∧ hasZero s = true then e.key else keysE e.key e.twice [] ks) = 0 := h4
    by_cases h5 : k = 5 ∧ hasZero s = true
    · rw [if_pos h5] at h4; exact absurd h4 he.key
    rw [if_neg h5] at h4
    obtain ⟨a, b, _⟩ := keysE_ok he.key he.twice ks [] h4
    exact .mk (by simpa using h3) (fun hk => hasZero_no (by cases hz : hasZero s with | false => rfl | true => exact absurd ⟨hk, hz⟩ h5)) a b (chkL_val he l (d + 1) (c + 1) h)
theorem chkL_val {e : Ers} (he : e.Ok) : ∀ (l : List Tr) (d c : Nat), (chkL e d l c).1 = 0 → ∀ t ∈ l, Val t
  | [], _, _, _, t, ht => by simp at ht
  | x :: r, d, c, h, t, ht => by
    rw [chkL] at h
    by_cases h1 : (chk e d x c).1 ≠ 0
    · rw [if_pos h1] at h; exact absurd h h1
    rw [if_neg h1] at h
    have h1 : (chk e d x c).1 = 0 := Decidable.not_not.1 h1
    rcases List.mem_cons.1 ht with e1 | hr
    · rw [e1]; exact chk_val he x d c h1
    · exact chkL_val he r d _ h t hr
end
def insE (x : List UInt8 × Tr) : List (List UInt8 × Tr) → List (List UInt8 × Tr)
  | [] => [x]
  | y :: r => if x.1 < y.1 then x :: y :: r else y :: insE x r
def sortE (l : List (List UInt8 × Tr)) : List (List UInt8 × Tr) := l.foldr insE []
mutual
def sortT : Tr → Tr
  | .mk k n u s ks l => if k = 17 then .mk k n u s ((sortE (ks.zip (sortL l))).map (·.1)) ((sortE (ks.zip (sortL l))).map (·.2)) else .mk k n u s ks (sortL l)
def sortL : List Tr → List Tr
  | [] => []
  | t :: r => sortT t :: sortL r
end
theorem sortL_map : ∀ (l : List Tr), sortL l = l.map sortT
  | [] => rfl
  | t :: r => by rw [sortL, sortL_map r]; rfl
theorem insE_perm (x : List UInt8 × Tr) : ∀ (l : List (List UInt8 × Tr)), (insE x l).Perm (x :: l)
  | [] => List.Perm.refl _
  | y :: r => by
    rw [insE]
    split
    · exact List.Perm.refl _
    · exact ((insE_perm x r).cons y).trans (List.Perm.swap x y r)
theorem sortE_perm : ∀ (l : List (List UInt8 × Tr)), (sortE l).Perm l
  | [] => List.Perm.refl _
  | x :: r => (insE_perm x _).trans ((sortE_perm r).cons x)
theorem val_ok {t : Tr} (h : Val t) : Ok (sortT t) := by
  induction h with
  | mk h1 h2 h3 h4 hl ih =>
    rename_i k n u s ks l
    have hm : ∀ t ∈ sortL l, Ok t := by
      intro t ht
      rw [sortL_map] at ht
      obtain ⟨x, hx, rfl⟩ := List.mem_map.1 ht
      exact ih x hx
    simp only [suchT, Bool.and_eq_true, decide_eq_true_eq] at h1
    obtain ⟨⟨⟨⟨⟨⟨⟨⟨⟨g1, g2⟩, _⟩, _⟩, _⟩, _⟩, _⟩, glen⟩, _⟩, _⟩ := h1
    have g1 : 1 ≤ k := g1
    have g2 : k ≤ 17 := g2
    rw [sortT]
    by_cases hk : k = 17
    · rw [if_pos hk]
      subst hk
      have hp := sortE_perm (ks.zip (sortL l))
      refine .map n u s (by simp) (fun x hx => ?_) (fun t ht => ?_)
      · obtain ⟨y, hy, rfl⟩ := List.mem_map.1 hx
        exact h3 _ (List.of_mem_zip (hp.mem_iff.1 hy)).1
      · obtain ⟨y, hy, rfl⟩ := List.mem_map.1 ht
        exact hm _ (List.of_mem_zip (hp.mem_iff.1 hy)).2
    · rw [if_neg hk]
      by_cases h10 : k = 10
      · subst h10
        exact .vec n u s ks hm
      · by_cases h9 : k ≤ 9
        · exact .leaf n u s ks _ g1 h9
        · exact .flat n u s ks _ (by omega) (by omega)
end Go.Proofs.YtfoifdoaleaekaaGreat

namespace Go.Proofs.YtfoifdoaleaekaaGreat
open Go.Acc
theorem key_lt {a b : List UInt8} (h : ¬ a < b) (hne : a ≠ b) : b < a := by
  rcases List.le_total a b with h1 | h1
  · exact absurd (List.le_antisymm h1 (List.not_lt.1 h)) hne
  · exact Decidable.byContradiction fun h2 => hne (List.le_antisymm (List.not_lt.1 h2) h1)
theorem insE_up (x : List UInt8 × Tr) : ∀ (l : List (List UInt8 × Tr)), l.Pairwise (fun a b => a.1 < b.1) → (∀ y ∈ l, x.1 ≠ y.1) → (insE x l).Pairwise (fun a b => a.1 < b.1)
  | [], _, _ => by simp [insE]
  | y :: r, h, hne => by
    obtain ⟨h1, h2⟩ := List.pairwise_cons.1 h
    rw [insE]
    by_cases hlt : x.1 < y.1
    · rw [if_pos hlt]
      refine List.pairwise_cons.2 ⟨fun z hz => ?_, h⟩
      rcases List.mem_cons.1 hz with rfl | hz
      · exact hlt
      · exact List.lt_trans hlt (h1 z hz)
    · rw [if_neg hlt]
      refine List.pairwise_cons.2 ⟨fun z hz => ?_, insE_up x r h2 (fun z hz => hne z (by simp [hz]))⟩
      rcases List.mem_cons.1 ((insE_perm x r).mem_iff.1 hz) with rfl | hz
      · exact key_lt hlt (hne y (by simp))
      · exact h1 z hz
theorem sortE_up : ∀ (l : List (List UInt8 × Tr)), (l.map (·.1)).Nodup → (sortE l).Pairwise (fun a b => a.1 < b.1)
  | [], _ => List.Pairwise.nil
  | x :: r, h => by
    rw [List.map_cons, List.nodup_cons] at h
    refine insE_up x _ (sortE_up r h.2) (fun y hy e => h.1 ?_)
    exact List.mem_map.2 ⟨y, (sortE_perm r).mem_iff.1 hy, e.symm⟩
end Go.Proofs.YtfoifdoaleaekaaGreat

namespace Go.Proofs.YtfoifdoaleaekaaGreat
open Go.Acc
theorem sort_k (t : Tr) : (sortT t).k = t.k := by
  obtain ⟨k, n, u, s, ks, l⟩ := t
  rw [sortT]
  split <;> rfl
theorem sort_fix {t : Tr} (h : Val t) : FixOk (sortT t) := by
  cases h with
  | mk h1 h2 h3 h4 h =>
    rename_i k n u s ks l
    intro hk
    rw [sort_k] at hk
    have hk : k = 15 ∨ k = 16 := hk
    simp only [suchT, Bool.and_eq_true, decide_eq_true_eq] at h1
    have hl : k = 15 ∨ k = 16 → 2 ≤ l.length ∧ l.length ≤ 4 := h1.1.2
    have hl := hl hk
    rw [sortT, if_neg (by omega)]
    show (sortL l).length = 2 ∨ (sortL l).length = 3 ∨ (sortL l).length = 4
    rw [sortL_map, List.length_map]
    omega
end Go.Proofs.YtfoifdoaleaekaaGreat

namespace Go.Proofs.YtfoifdoaleaekaaGreat
open Go.RowKit Go.Acc
def codeE (x : Int) : Int := if isW x = true then 0 else 2
def codeW (x : Int) : Int := if x = 2 then 1 else if x = 4 then 2 else if x = 8 then 3 else 0
set_option maxHeartbeats 1000000 in
theorem code_spec (x : Int) (w : World) : Calls Tryz.prog 84 #[.int .i64 x] w fun e w' => e = .returned (.tuple #[.int .i64 (codeW x), .int .i64 (codeE x)]) ∧ w = w' := by
  cases hw : isW x with
  | true =>
    have hx := isW_iff.1 hw
    clear hw
    rcases hx with rfl | rfl | rfl | rfl
    all_goals
      go_enter Tryz.func84, Tryz.ntmps84
      go_wp2
      refine wp_loop_rounds 5 ?_
      repeat (rw [rounds_succ]; go_wp2)
      go_ret2
      exact ⟨rfl, rfl⟩
  | false =>
    have hx := isW_no.1 hw
    have H1 := Lib.hid (show codeW x = 0 by unfold codeW; rw [if_neg hx.2.1, if_neg hx.2.2.1, if_neg hx.2.2.2])
    have H2 := Lib.hid (show codeE x = 2 by unfold codeE; rw [hw]; rfl)
    rw [H1.out, H2.out]
    have e1 : (x == 1) = false := beq_eq_false_iff_ne.mpr hx.1
    have e2 : (x == 2) = false := beq_eq_false_iff_ne.mpr hx.2.1
    have e4 : (x == 4) = false := beq_eq_false_iff_ne.mpr hx.2.2.1
    have e8 : (x == 8) = false := beq_eq_false_iff_ne.mpr hx.2.2.2
    clear hx hw
    go_enter Tryz.func84, Tryz.ntmps84
    go_wp2
    refine wp_loop_rounds 5 ?_
    repeat (rw [rounds_succ]; go_wp2)
    go_ret2
    exact ⟨rfl, rfl⟩
theorem codeE_no {x : Int} (h : isW x = false) : codeE x = 2 := by unfold codeE; rw [h]; rfl
theorem codeE_yes {x : Int} (h : isW x = true) : codeE x = 0 := by unfold codeE; rw [h]; rfl
set_option maxHeartbeats 400000 in
theorem iswidth_spec (x : Int) (w : World) : Calls Tryz.prog 41 #[.int .i64 x] w fun e w' => e = .returned (.bool (isW x)) ∧ w = w' := by
  cases hw : isW x with
  | true =>
    have H := Lib.hid (codeE_yes hw)
    clear hw
    go_enter Tryz.func41, Tryz.ntmps41
    go_wp2_with fail
    go_at_call 84
    refine (code_spec _ _).mono ?_
    rw [H.out]
    rintro e w1 ⟨rfl, rfl⟩
    go_wp2
    go_ret
    exact ⟨rfl, rfl⟩
  | false =>
    have H := Lib.hid (codeE_no hw)
    clear hw
    go_enter Tryz.func41, Tryz.ntmps41
    go_wp2_with fail
    go_at_call 84
    refine (code_spec _ _).mono ?_
    rw [H.out]
    rintro e w1 ⟨rfl, rfl⟩
    go_wp2
    go_ret
    exact ⟨rfl, rfl⟩
set_option maxHeartbeats 1000000 in
theorem inside_spec (A : Option Addr) (n c : Nat) (a m : Int) (w : World) (hn : n ≤ 9223372036854775807) : Calls Tryz.prog 35 #[.slice A n c, .int .i64 a, .int .i64 m] w fun e w' => e = .returned (.bool (inB n a m)) ∧ w = w' := by
  by_cases h1 : 0 ≤ a
  · by_cases h2 : 0 ≤ m
    · by_cases h3 : a ≤ n
      · have ha : (0 : Int) ≤ (n : Int) - a := by omega
        by_cases h4 : m ≤ (n : Int) - a
        · have H := Lib.hid (show inB n a m = true from inB_iff.2 ⟨h1, h2, by omega⟩)
          go_enter Tryz.func35, Tryz.ntmps35
          go_wp2
          go_ret
          exact ⟨ret_bool H.out.symm, rfl⟩
        · have H := Lib.hid (show inB n a m = false from decide_eq_false (fun h => h4 (by omega)))
          have hd : decide (m ≤ (n : Int) - a) = false := decide_eq_false h4
          go_enter Tryz.func35, Tryz.ntmps35
          go_wp2
          go_ret
          exact ⟨ret_bool H.out.symm, rfl⟩
      · have H := Lib.hid (show inB n a m = false from decide_eq_false (fun h => h3 (by omega)))
        have hd : decide (a ≤ (n : Int)) = false := decide_eq_false h3
        go_enter Tryz.func35, Tryz.ntmps35
        go_wp2
        go_ret
        exact ⟨ret_bool H.out.symm, rfl⟩
    · have H := Lib.hid (show inB n a m = false from decide_eq_false (fun h => h2 (by omega)))
      have hd : decide (0 ≤ m) = false := decide_eq_false h2
      go_enter Tryz.func35, Tryz.ntmps35
      go_wp2
      go_ret
      exact ⟨ret_bool H.out.symm, rfl⟩
  · have H := Lib.hid (show inB n a m = false from decide_eq_false (fun h => h1 (by omega)))
    have hd : decide (0 ≤ a) = false := decide_eq_false h1
    go_enter Tryz.func35, Tryz.ntmps35
    go_wp2
    go_ret
    exact ⟨ret_bool H.out.symm, rfl⟩
theorem cell0 {w : World} {g : Nat} {t : TypeId} {p q t' v : Value} (h : Blk w g t #[p, q, t', v]) : w.cell? ⟨g, 0, none⟩ = some p := h.cell 0
theorem cell1 {w : World} {g : Nat} {t : TypeId} {p q t' v : Value} (h : Blk w g t #[p, q, t', v]) : w.cell? ⟨g, 1, none⟩ = some q := h.cell 1
theorem cell2 {w : World} {g : Nat} {t : TypeId} {p q t' v : Value} (h : Blk w g t #[p, q, t', v]) : w.cell? ⟨g, 2, none⟩ = some t' := h.cell 2
theorem cell3 {w : World} {g : Nat} {t : TypeId} {p q t' v : Value} (h : Blk w g t #[p, q, t', v]) : w.cell? ⟨g, 3, none⟩ = some v := h.cell 3
end Go.Proofs.YtfoifdoaleaekaaGreat
