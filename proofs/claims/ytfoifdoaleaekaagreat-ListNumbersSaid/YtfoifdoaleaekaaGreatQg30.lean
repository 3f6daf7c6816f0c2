/-
  Package pool: what a pool finds, and what it finds when a string is laid in. The pool in memory, opened and shut.
  Package pool: Get and Put.
  Package build: a string or a blob is written.
  Package build: a flag is looked at; strings and blobs are written.
  Package build: a string is written, or found.
-/
import Derived.Test.YtfoifdoaleaekaaGreatQg29
import Derived.Laws.Bits64b
namespace Go.Proofs.YtfoifdoaleaekaaGreat
open Go.RowKit Go.Acc
theorem kl_irr : ∀ x : List UInt8, Op.bytesLess x x = false
  | [] => rfl
  | a :: x => by
    show (decide (a < a) || (a == a && Op.bytesLess x x)) = false
    rw [kl_irr x]
    simp
theorem kl_tot : ∀ x y : List UInt8, Op.bytesLess x y = false → x ≠ y → Op.bytesLess y x = true
  | [], [], _, h => absurd rfl h
  | [], _ :: _, h, _ => by cases h
  | _ :: _, [], _, _ => rfl
  | a :: x, b :: y, h, hne => by
    have g : (decide (a < b) || (a == b && Op.bytesLess x y)) = false := h
    show (decide (b < a) || (b == a && Op.bytesLess y x)) = true
    rw [Bool.or_eq_false_iff, Bool.and_eq_false_iff, decide_eq_false_iff_not] at g
    rw [Bool.or_eq_true, Bool.and_eq_true, decide_eq_true_eq, beq_iff_eq]
    by_cases e : a = b
    · subst e
      refine .inr ⟨rfl, kl_tot x y ?_ (fun e => hne (by rw [e]))⟩
      rcases g.2 with g | g
      · simp at g
      · exact g
    · left
      have := g.1
      rcases UInt8.lt_or_lt_of_ne e with h | h
      · exact absurd h this
      · exact h
abbrev SortedK (ks : List (List UInt8)) : Prop := ks.Pairwise (fun x y => Op.bytesLess x y = true)
theorem place_not {ks : List (List UInt8)} {s : List UInt8} {i : Nat} (h : PlaceI ks s i) (hs : SortedK ks) (hn : ks[i]? ≠ some s) : s ∉ ks := by
  intro hm
  obtain ⟨j, hj, e⟩ := List.getElem_of_mem hm
  have ej : ks[j]? = some s := by rw [List.getElem?_eq_getElem hj, e]
  rcases Nat.lt_or_ge j i with c | c
  · have := h.lo j s c ej
    rw [kl_irr] at this
    cases this
  · by_cases e2 : j = i
    · exact hn (e2 ▸ ej)
    · have hi : i < ks.length := by omega
      have h1 := h.hi i _ (Nat.le_refl _) (List.getElem?_eq_getElem hi)
      have h2 := List.pairwise_iff_getElem.1 hs i j hi hj (by omega)
      rw [e] at h2
      rw [h1] at h2
      cases h2
theorem place_sorted {ks : List (List UInt8)} {s : List UInt8} {i : Nat} (h : PlaceI ks s i) (hs : SortedK ks) (hn : s ∉ ks) : SortedK (ks.take i ++ [s] ++ ks.drop i) := by
  have ha : ∀ x ∈ ks.take i, Op.bytesLess x s = true := by
    intro x hx
    obtain ⟨j, hj, e⟩ := List.getElem_of_mem hx
    have hj' : j < i := by simp at hj; omega
    refine h.lo j x hj' ?_
    rw [← e, List.getElem_take, List.getElem?_eq_getElem (by simp at hj; omega)]
  have hb : ∀ x ∈ ks.drop i, Op.bytesLess s x = true := by
    intro x hx
    obtain ⟨j, hj, e⟩ := List.getElem_of_mem hx
    have hj' : i + j < ks.length := by simp at hj; omega
    have e2 : ks[i + j]? = some x := by rw [← e, List.getElem_drop, List.getElem?_eq_getElem hj']
    exact kl_tot x s (h.hi (i + j) x (by omega) e2) (fun e3 => hn (e3 ▸ List.mem_of_mem_drop hx))
  have hab := hs
  rw [show ks = ks.take i ++ ks.drop i from (List.take_append_drop i ks).symm, SortedK, List.pairwise_append] at hab
  obtain ⟨p1, p2, p3⟩ := hab
  rw [SortedK, List.append_assoc, List.pairwise_append]
  refine ⟨p1, ?_, ?_⟩
  · rw [List.singleton_append, List.pairwise_cons]
    exact ⟨hb, p2⟩
  · intro x hx y hy
    rw [List.singleton_append, List.mem_cons] at hy
    rcases hy with rfl | hy
    · exact ha x hx
    · exact p3 x hx y hy
theorem getP_cons (x : List UInt8 × Nat) (l : List (List UInt8 × Nat)) (k : List UInt8) : getP (x :: l) k = if x.1 = k then some x.2 else getP l k := by
  unfold getP
  rw [List.find?_cons]
  by_cases e : x.1 = k
  · rw [if_pos e]; simp [e]
  · rw [if_neg e]
    have : (x.1 == k) = false := beq_eq_false_iff_ne.mpr e
    rw [this]
theorem getP_zip_some : ∀ (ks : List (List UInt8)) (ns : List Nat) (i : Nat) (s : List UInt8) (a : Nat), SortedK ks → ks[i]? = some s → ns[i]? = some a → getP (ks.zip ns) s = some a
  | [], _, _, _, _, _, h, _ => by simp at h
  | _ :: _, [], _, _, _, _, _, h => by simp at h
  | k :: ks, n :: ns, 0, s, a, _, h1, h2 => by
    rw [List.zip_cons_cons, getP_cons]
    simp at h1 h2
    rw [if_pos h1, h2]
  | k :: ks, n :: ns, i + 1, s, a, hs, h1, h2 => by
    rw [List.zip_cons_cons, getP_cons]
    simp at h1 h2
    rw [SortedK, List.pairwise_cons] at hs
    rw [if_neg ?_]
    · exact getP_zip_some ks ns i s a hs.2 h1 h2
    · intro e
      have hm : s ∈ ks := List.mem_of_getElem? h1
      have := hs.1 s hm
      rw [show k = s from e, kl_irr] at this
      cases this
theorem getP_zip_none : ∀ (ks : List (List UInt8)) (ns : List Nat) (s : List UInt8), s ∉ ks → getP (ks.zip ns) s = none
  | [], _, _, _ => rfl
  | _ :: _, [], _, _ => rfl
  | k :: ks, n :: ns, s, h => by
    rw [List.zip_cons_cons, getP_cons, if_neg (fun e => h (by rw [← e]; exact List.mem_cons_self))]
    exact getP_zip_none ks ns s (fun e => h (List.mem_cons_of_mem _ e))
theorem getP_app : ∀ (l m : List (List UInt8 × Nat)) (k : List UInt8), getP (l ++ m) k = match getP l k with | some a => some a | none => getP m k
  | [], m, k => by simp [getP]
  | x :: l, m, k => by
    rw [List.cons_append, getP_cons, getP_cons]
    by_cases e : x.1 = k
    · rw [if_pos e, if_pos e]
    · rw [if_neg e, if_neg e]; exact getP_app l m k
theorem getP_ins {ks : List (List UInt8)} {ns : List Nat} (hl : ks.length = ns.length) {s : List UInt8} (a i : Nat) (hn : s ∉ ks) (k : List UInt8) :
    getP ((ks.take i ++ [s] ++ ks.drop i).zip (ns.take i ++ [a] ++ ns.drop i)) k = if s = k then some a else getP (ks.zip ns) k := by
  rw [List.zip_append (by simp [hl]), List.zip_append (by simp [hl]), List.append_assoc, getP_app]
  have hz : ks.zip ns = (ks.take i).zip (ns.take i) ++ (ks.drop i).zip (ns.drop i) := by
    rw [← List.zip_append (by simp [hl]), List.take_append_drop, List.take_append_drop]
  by_cases e : s = k
  · subst e
    rw [if_pos rfl, getP_zip_none _ _ _ (fun h => hn (List.mem_of_mem_take h))]
    simp [getP]
  · have h2 : getP (([s] : List (List UInt8)).zip [a]) k = none := by
      show getP [(s, a)] k = _
      rw [getP_cons, if_neg e]; rfl
    rw [if_neg e, hz, getP_app, h2, getP_app]
theorem getP_putP (m : List (List UInt8 × Nat)) (s k : List UInt8) (a : Nat) (h : getP m s = none) : getP (putP m s a) k = if s = k then some a else getP m k := by
  have e1 : putP m s a = m ++ [(s, a)] := by unfold putP; rw [if_neg (by rw [h]; decide)]
  rw [e1, getP_app]
  by_cases e : s = k
  · subst e
    rw [h, if_pos rfl]
    show getP [(s, a)] s = _
    rw [getP_cons, if_pos rfl]
  · rw [if_neg e]
    have : getP [(s, a)] k = none := by rw [getP_cons, if_neg e]; rfl
    rw [this]
    cases getP m k <;> rfl
theorem own_blk {α : Type} {f : α → List Value} {sz : Nat} {e : TypeId} {w : World} {B n c : Nat} {ad : Addr} {l : List α} (h : Go.Acc.Own f sz e w B (some ad) n c l) : ∃ cur, Blk w ad.block e cur := by
  rcases h.2.2 with ⟨hv, _⟩ | ⟨g', cap, cur, hv, hb, hg, _⟩
  · cases hv
  · injection hv with e1
    injection e1 with e1
    subst e1
    exact ⟨cur, hg⟩
structure PoolP (m : List (List UInt8 × Nat)) (n : Nat) (ks : List (List UInt8)) (ns : List Nat) : Prop where
  sorted : SortedK ks
  get : ∀ s, getP m s = getP (ks.zip ns) s
  le : n ≤ m.length
  at_ : ∀ a ∈ ns, a ≤ 1048576
  kl : ks.length = n
  nl : ns.length = n
theorem PoolO.open_ {w : World} {o : Nat → Nat} {i p : Nat} {m : List (List UInt8 × Nat)} (h : PoolO w o i p m) : ∃ A1 A2 n c1 c2 ks ns, Lay2 w p A1 A2 A1 n c1 ks A2 n c2 ns (.slice A1 n c1) (.slice A2 n c2) w ∧ Of o A1 i ∧ Of o A2 i ∧ o p = i ∧ PoolP m n ks ns := by
  obtain ⟨A1, A2, n, c1, c2, ks, ns, hb, h1, h2, o1, o2, op, hs, hg, hn, ha⟩ := h
  refine ⟨A1, A2, n, c1, c2, ks, ns, ⟨hb, h1, h2, ?_, ?_, ?_, Fr.refl _ _, .inl rfl, .inl rfl⟩, o1, o2, op, ⟨hs, hg, hn, ha, h1.is.1, h2.is.1⟩⟩
  · rintro a rfl e
    obtain ⟨cur, hc⟩ := own_blk h1
    rw [e] at hc
    exact Blk.ne_ hc hb (by decide) rfl
  · rintro a rfl e
    obtain ⟨cur, hc⟩ := own_blk h2
    rw [e] at hc
    exact Blk.ne_ hc hb (by decide) rfl
  · rintro a b rfl rfl e
    obtain ⟨cur, hc⟩ := own_blk h1
    obtain ⟨cur', hc'⟩ := own_blk h2
    rw [e] at hc
    exact Blk.ne_ hc hc' (by decide) rfl
theorem PoolO.shut {w w' : World} {o : Nat → Nat} {i p n c1 c2 : Nat} {A10 A20 A1 A2 : Option Addr} {m : List (List UInt8 × Nat)} {ks : List (List UInt8)} {ns : List Nat} (h : Lay2 w p A10 A20 A1 n c1 ks A2 n c2 ns (.slice A1 n c1) (.slice A2 n c2) w')
    (hp : PoolP m n ks ns) (h1 : Of o A10 i) (h2 : Of o A20 i) (op : o p = i) (hlt : p < w.heap.size) (b1 : ∀ a, A10 = some a → a.block < w.heap.size) (b2 : ∀ a, A20 = some a → a.block < w.heap.size) : PoolO w' (newO o w.heap.size i) i p m ∧ To (fun x => x = i) w o w' (newO o w.heap.size i) := by
  have hof : ∀ {A A0 : Option Addr}, Of o A0 i → (∀ a, A0 = some a → a.block < w.heap.size) → (A.map (·.block) = A0.map (·.block) ∨ ∃ k, A.map (·.block) = some k ∧ w.heap.size ≤ k) → Of (newO o w.heap.size i) A i := by
    intro A A0 ha hb hw ad hA
    subst hA
    rcases hw with e | ⟨k, e, hk⟩
    · cases A0 with
      | none => cases e
      | some a0 =>
        injection e with e
        have e : ad.block = a0.block := e
        rw [e, newO_old (hb a0 rfl)]
        exact ha a0 rfl
    · injection e with e
      have e : ad.block = k := e
      rw [e, newO_new hk]
  refine ⟨⟨A1, A2, n, c1, c2, ks, ns, h.blk, h.o1, h.o2, hof h1 b1 h.w1, hof h2 b2 h.w2, by rw [newO_old hlt]; exact op, hp.sorted, hp.get, hp.le, hp.at_⟩, To.of_fr h.fr ?_ i⟩
  rintro k _ (rfl | ⟨a, e, rfl⟩ | ⟨a, e, rfl⟩)
  · exact op
  · exact h1 a e
  · exact h2 a e
theorem PoolP.ins {m : List (List UInt8 × Nat)} {n : Nat} {ks : List (List UInt8)} {ns : List Nat} (h : PoolP m n ks ns) {s : List UInt8} {i a : Nat} (hp : PlaceI ks s i) (hn : ks[i]? ≠ some s) (ha : a ≤ 1048576) :
    PoolP (putP m s a) (n + 1) (ks.take i ++ [s] ++ ks.drop i) (ns.take i ++ [a] ++ ns.drop i) := by
  have hnm := place_not hp h.sorted hn
  have hg : getP m s = none := by rw [h.get, getP_zip_none _ _ _ hnm]
  have hi := hp.le
  have k1 := h.kl
  have k2 := h.nl
  refine ⟨place_sorted hp h.sorted hnm, fun k => ?_, ?_, ?_, by simp; omega, by simp; omega⟩
  · rw [getP_putP m s k a hg, getP_ins (by omega) a i hnm, h.get]
  · have := h.le
    unfold putP
    rw [if_neg (by rw [hg]; decide)]
    simp
    omega
  · intro x hx
    simp only [List.mem_append, List.mem_singleton] at hx
    rcases hx with (hx | rfl) | hx
    · exact h.at_ x (List.mem_of_mem_take hx)
    · exact ha
    · exact h.at_ x (List.mem_of_mem_drop hx)
theorem PoolP.get_none {m : List (List UInt8 × Nat)} {n : Nat} {ks : List (List UInt8)} {ns : List Nat} (h : PoolP m n ks ns) {s : List UInt8} {i : Nat} (hp : PlaceI ks s i) (hn : ks[i]? ≠ some s) : getP m s = none := by
  rw [h.get, getP_zip_none _ _ _ (place_not hp h.sorted hn)]
theorem PoolP.get_some {m : List (List UInt8 × Nat)} {n : Nat} {ks : List (List UInt8)} {ns : List Nat} (h : PoolP m n ks ns) {s : List UInt8} {i : Nat} (hs : ks[i]? = some s) : ∃ a, ns[i]? = some a ∧ getP m s = some a ∧ i < n := by
  have hi : i < ks.length := (List.getElem?_eq_some_iff.1 hs).1
  have k1 := h.kl
  have k2 := h.nl
  refine ⟨ns[i]'(by omega), List.getElem?_eq_getElem (by omega), ?_, by omega⟩
  rw [h.get]
  exact getP_zip_some ks ns i s _ h.sorted hs (List.getElem?_eq_getElem (by omega))
end Go.Proofs.YtfoifdoaleaekaaGreat

namespace Go.Proofs.YtfoifdoaleaekaaGreat
open Go.RowKit Go.Acc
theorem pnone_spec (p : Nat) (w : World) (h : w.cell? ⟨p, 2, none⟩ = some (.bool true)) : Calls Tryz.prog 246 #[.pointer (some ⟨p, 0, none⟩)] w fun e w' => e = .returned (.bool false) ∧ w = w' := by
  go_enter Tryz.func246, Tryz.ntmps246
  go_wp2
  go_ret
  exact ⟨rfl, rfl⟩
def optN (x : Option Nat) : Value := .tuple #[.int .i64 ((x.getD 0 : Nat) : Int), .bool x.isSome]
set_option maxRecDepth 100000 in
set_option maxHeartbeats 1000000 in
theorem pget_spec (i p : Nat) (m : List (List UInt8 × Nat)) (s : List UInt8) (w : World) (o : Nat → Nat) (h : PoolO w o i p m) (hm : m.length ≤ 1048576) :
    Calls Tryz.prog 217 #[.pointer (some ⟨p, 0, none⟩), .string ⟨s.toArray⟩] w fun e w' => e = .returned (optN (getP m s)) ∧ Below w.heap.size w w' := by
  obtain ⟨A1, A2, n, c1, c2, ks, ns, hL, o1, o2, op, hP⟩ := h.open_
  have HL := Lib.hid hL
  have HP := Lib.hid hP
  have hn : n ≤ 1048576 := Nat.le_trans hP.le hm
  have x0 : w.cell? ⟨p, 0, none⟩ = some (.slice A1 n c1) := hL.blk.cell 0
  have x1 : w.cell? ⟨p, 1, none⟩ = some (.slice A2 n c2) := hL.blk.cell 1
  have x2 : w.cell? ⟨p, 2, none⟩ = some (.bool true) := hL.blk.cell 2
  clear h hL o1 o2 op hP
  go_enter Tryz.func217, Tryz.ntmps217
  go_wp2_with fail
  go_at_call 246
  refine (pnone_spec p w x2).mono ?_
  rintro e w' ⟨rfl, rfl⟩
  go_wp2_with fail
  go_at_call 247
  refine (pplace_spec p n c1 A1 ks s w x0 HL.out.o1.is hn HP.out.sorted).mono ?_
  rintro e w1 ⟨j, hj, rfl, hb⟩
  have x1' := cell_pure hb x1
  have HI := Lib.hid (HL.out.o2.is.pure hb)
  have HB := Lib.hid hb
  have HJ := Lib.hid hj
  by_cases hk : ks[j]? = some s
  · obtain ⟨a, ha, hg, hjn⟩ := HP.out.get_some hk
    have hd : decide (ks[j]? = some s) = true := decide_eq_true hk
    rw [hd]
    obtain ⟨g, off, rfl, hk', hc⟩ := HI.out.at_ inc_len (by omega) hjn
    have hcx : w1.cell? ⟨g, off + j, none⟩ = some (.int .i64 (a : Int)) := by
      have h3 := hc 0 (by omega)
      have e : ns[j] = a := by rw [List.getElem?_eq_getElem hk'] at ha; injection ha
      rw [e, Nat.mul_one, Nat.add_zero] at h3
      exact h3
    have HG := Lib.hid hg
    have hj0 : (0 : Int) ≤ (j : Int) := by omega
    have hj1 : (j : Int) < (n : Int) := by omega
    clear hk hd ha hg hk' hc hb x0 x1 x2 hj
    go_wp2_with fail
    go_ret2
    refine ⟨by rw [HG.out]; rfl, HB.out⟩
  · have hd : decide (ks[j]? = some s) = false := decide_eq_false hk
    have HG := Lib.hid (HP.out.get_none hj hk)
    rw [hd]
    clear hk hd hb x0 x1 x2 hj
    go_wp2_with fail
    go_ret2
    exact ⟨by rw [HG.out]; rfl, HB.out⟩
set_option maxRecDepth 100000 in
set_option maxHeartbeats 1000000 in
theorem pput_spec (i p : Nat) (m : List (List UInt8 × Nat)) (s : List UInt8) (a : Nat) (w : World) (o : Nat → Nat) (h : PoolO w o i p m) (hm : m.length ≤ 1048575) (ha : a ≤ 1048576) :
    Calls Tryz.prog 219 #[.pointer (some ⟨p, 0, none⟩), .string ⟨s.toArray⟩, .int .i64 (a : Int)] w fun e w' => (∃ x, e = .returned (.int .i64 x)) ∧ ∃ o', PoolO w' o' i p (putP m s a) ∧ To (fun k => k = i) w o w' o' := by
  have H := Lib.hid h
  obtain ⟨A1, A2, n, c1, c2, ks, ns, hL, o1, o2, op, hP⟩ := h.open_
  have HL := Lib.hid hL
  have HP := Lib.hid hP
  have HO1 := Lib.hid o1
  have HO2 := Lib.hid o2
  have HOP := Lib.hid op
  have hn : n ≤ 1048575 := Nat.le_trans hP.le hm
  have x0 : w.cell? ⟨p, 0, none⟩ = some (.slice A1 n c1) := hL.blk.cell 0
  have x2 : w.cell? ⟨p, 2, none⟩ = some (.bool true) := hL.blk.cell 2
  have ha0 : ¬ (a : Int) < 0 := by omega
  have ha1 : ¬ (9007199254740991 : Int) < (a : Int) := by omega
  clear h hL o1 o2 op hP
  go_enter Tryz.func219, Tryz.ntmps219
  go_wp2_with fail
  go_at_call 246
  refine (pnone_spec p w x2).mono ?_
  rintro e w' ⟨rfl, rfl⟩
  go_wp2_with fail
  go_at_call 247
  refine (pplace_spec p n c1 A1 ks s w x0 HL.out.o1.is (by omega) HP.out.sorted).mono ?_
  rintro e w1 ⟨j, hj, rfl, hb⟩
  have HB := Lib.hid hb
  have HJ := Lib.hid hj
  have hjn : j ≤ n := by have := hj.le; have := HP.out.kl; omega
  by_cases hk : ks[j]? = some s
  · obtain ⟨a', _, hg, _⟩ := HP.out.get_some hk
    have hd : decide (ks[j]? = some s) = true := decide_eq_true hk
    rw [hd]
    have HG := Lib.hid (show putP m s a = m by unfold putP; rw [hg]; rfl)
    clear hk hd hg hb x0 x2 hj
    go_wp2_with fail
    go_ret
    rw [HG.out]
    exact ⟨⟨_, rfl⟩, o, H.out.to_ (To.pure (fun _ => False) HB.out o) (fun h => h), To.pure _ HB.out o⟩
  · have hd : decide (ks[j]? = some s) = false := decide_eq_false hk
    have HK := Lib.hid hk
    have HL1 := Lib.hid (HL.out.below HB.out)
    have HL2 := Lib.hid (Lay2.mk HL1.out.blk HL1.out.o1 HL1.out.o2 HL1.out.d1 HL1.out.d2 HL1.out.d12 (Fr.refl _ w1) (.inl rfl) (.inl rfl))
    rw [hd]
    clear hk hd hb x0 x2 hj
    go_wp2_with fail
    go_at_call 248
    refine (lay_spec p j n c1 c2 A1 A2 ks ns s a w1 HL2.out hjn hn).mono ?_
    rintro e w2 ⟨rfl, A1', A2', c1', c2', h2⟩
    have H2 := Lib.hid h2
    clear h2
    go_wp2_with fail
    go_ret
    obtain ⟨r1, r2⟩ := PoolO.shut (i := i) (o := o) H2.out (HP.out.ins HJ.out HK.out ha) HO1.out HO2.out HOP.out HL1.out.blk.lt (fun x e => (HL1.out.o1.addr x e).2.2) (fun x e => (HL1.out.o2.addr x e).2.2)
    exact ⟨⟨_, rfl⟩, _, r1, (To.pure _ HB.out o).trans r2⟩
end Go.Proofs.YtfoifdoaleaekaaGreat

namespace Go.Proofs.YtfoifdoaleaekaaGreat
open Go.RowKit Go.Acc
theorem two_strs (W : World) (s z : List UInt8) : IsS (W.alloc (.cells #[.string ⟨s.toArray⟩, .string ⟨z.toArray⟩] 9)) (some ⟨W.heap.size, 0, none⟩) 2 [s, z] := by
  refine ⟨rfl, fun j u hu => ⟨_, _, rfl, ?_⟩⟩
  rw [Nat.zero_add, (Blk.new W _ _).cell j]
  simpa [stc] using hu
theorem wd_fits (n : Nat) (hn : n < 18446744073709551616) : fitsU (bWidth n) n = true := decide_eq_true (.inr (bWidth_lt (bWidth_is n) hn (Nat.le_refl _)))
def bText (t : Nat) (s z : List UInt8) (b : Bd) : Bd :=
  let c := alignB (bWidth s.length) b.b ++ leBytes (bWidth s.length) s.length
  ({ b with b := c ++ s ++ z, texts := if t = 5 then putP b.texts s c.length else b.texts } : Bd).push ⟨t, bWidth s.length, c.length⟩
theorem head_tb {M : Bp} {fl : Int} {w : World} {o : Nat → Nat} {vals : List Bv} (h : HeadO M fl w o vals) : w.cell? ⟨M.β, 0, none⟩ = some (.pointer (some ⟨M.bb, 0, none⟩)) ∧ w.cell? ⟨M.β, 3, none⟩ = some (.int .i64 fl) ∧ w.cell? ⟨M.β, 4, none⟩ = some (.pointer (some ⟨M.kb, 0, none⟩)) ∧ w.cell? ⟨M.β, 5, none⟩ = some (.pointer (some ⟨M.tb, 0, none⟩)) ∧ w.cell? ⟨M.β, 6, none⟩ = some (.pointer (some ⟨M.lb, 0, none⟩)) ∧ w.cell? ⟨M.β, 7, none⟩ = some (.map (some M.mb)) := by
  obtain ⟨A, n, c, hb, _⟩ := h
  exact ⟨hb.cell 0, hb.cell 3, hb.cell 4, hb.cell 5, hb.cell 6, hb.cell 7⟩
theorem bld_5 {i : Nat} (h : i = 5) : Bld i := by subst h; exact ⟨by omega, by omega⟩
set_option maxRecDepth 100000 in
set_option maxHeartbeats 2000000 in
theorem wtext_spec (M : Bp) (fl : Int) (b : Bd) (t : Nat) (s z : List UInt8) (w : World) (o : Nat → Nat) (h : BM M fl w o b) (hs : b.s.length < 65536) (hm : b.b.length + s.length + z.length + 20 ≤ 1048576) (htx : b.texts.length ≤ 1048575) :
    Calls Tryz.prog 230 #[.pointer (some ⟨M.β, 0, none⟩), .int .i64 (t : Int), .string ⟨s.toArray⟩, .string ⟨z.toArray⟩] w (BTo M fl (bText t s z b) w o) := by
  have HM := Lib.hid h
  have HS := Lib.hid hs
  have HTX := Lib.hid htx
  obtain ⟨n, hn⟩ : ∃ n, s.length = n := ⟨_, rfl⟩
  obtain ⟨y, hy⟩ : ∃ y, bWidth n = y := ⟨_, rfl⟩
  have hn64 : n < 18446744073709551616 := by omega
  have HW := Lib.hid (show wdU n = (y : Int) by rw [wdU_b, hy])
  have hyw : isW (y : Int) = true := by rw [← hy]; exact bWidth_is n
  have HY := Lib.hid hyw
  have hy8 : y ≤ 8 := by rcases w_cases hyw with rfl | rfl | rfl | rfl <;> omega
  have HF := Lib.hid (show fitsU y n = true by rw [← hy]; exact wd_fits n hn64)
  have HL7 := Lib.hid (show b.b.length + 7 ≤ 1048576 by omega)
  have hal := alignB_len b.b hy8
  have HLN := Lib.hid (show (alignB y b.b).length + y ≤ 1048576 by omega)
  have hlt : (alignB y b.b ++ leBytes y n).length + [s, z].flatten.length ≤ 1048576 := by
    rw [List.length_append, leBytes_length]; simp; omega
  have HLT := Lib.hid hlt
  obtain ⟨m, hmm⟩ : ∃ m, (alignB y b.b ++ leBytes y n).length = m := ⟨_, rfl⟩
  have hm20 : m ≤ 1048576 := by omega
  have HMM := Lib.hid hmm
  have HN64 := Lib.hid (show (n : Int) < 18446744073709551616 by omega)
  have HBL := Lib.hid (show bText t s z b = ({ b with b := alignB y b.b ++ leBytes y n ++ [s, z].flatten, texts := if t = 5 then putP b.texts s m else b.texts } : Bd).push ⟨t, y, m⟩ by
    unfold bText Bd.push
    simp only [hn, hy, hmm]
    simp)
  have hwn : IntKind.u64.wrap (n : Int) = (n : Int) := u64_in _ (by omega)
  have hwm : IntKind.u64.wrap (m : Int) = (m : Int) := u64_in _ (by omega)
  have hsz : (⟨s.toArray⟩ : ByteArray).size = n := hn
  have HN64' := Lib.hid hn64
  obtain ⟨b0, b3, b4, b5, b6, b7⟩ := head_tb h.head
  clear h hs hm hy hyw hal hmm hn64 b3 b4 b6 b7 hlt htx
  go_enter Tryz.func230, Tryz.ntmps230
  go_wp2_with fail
  go_at_call 215
  refine (wof_is n (y : Int) w HN64'.out HW.out).mono ?_
  rintro e w' ⟨rfl, rfl⟩
  go_wp2_with fail
  go_at_call 130
  refine (balign_spec M.bb y b.b w o HM.out.buf HY.out HL7.out).mono ?_
  rintro e w1 ⟨rfl, o1, hB1, hT1⟩
  have HM1 := Lib.hid (HM.out.buf_ hT1 hB1)
  have HT1 := Lib.hid hT1
  clear hB1 hT1 b0 b5
  obtain ⟨b0, _, _, b5, _⟩ := head_tb HM1.out.head
  go_wp2_with fail
  go_at_call 133
  refine (bnum_spec M.bb y n (alignB y b.b) w1 o1 HM1.out.buf HY.out HF.out HN64.out HLN.out).mono ?_
  rintro e w2 ⟨rfl, o2, hB2, hT2⟩
  have HM2 := Lib.hid (HM1.out.buf_ hT2 hB2)
  have HT2 := Lib.hid (HT1.out.trans hT2)
  clear hB2 hT2 b0 b5 HT1 HM1
  obtain ⟨b0, _, _, b5, _⟩ := head_tb HM2.out.head
  go_wp2_with fail
  go_at_call 129
  refine (blen_is m HM2.out.buf HMM.out).mono ?_
  rintro e w' ⟨rfl, rfl⟩
  go_wp2_with fail
  go_at_call 134
  refine (btext_spec M.bb 2 2 _ [s, z] (alignB y b.b ++ leBytes y n) _ (newO o2 w2.heap.size 0) (HM2.out.fresh ((Below.refl _ _).alloc (Nat.le_refl _) _) 0).buf (two_strs w2 s z) ?_ HLT.out (by omega)).mono ?_
  · rintro ad e
    injection e with e
    subst e
    show newO o2 w2.heap.size 0 w2.heap.size ≠ 1
    rw [newO_new (Nat.le_refl _)]
    omega
  rintro e w3 ⟨rfl, o3, hB3, hT3⟩
  have HM3 := Lib.hid ((HM2.out.fresh ((Below.refl _ _).alloc (Nat.le_refl _) (.cells #[.string ⟨s.toArray⟩, .string ⟨z.toArray⟩] 9)) 0).buf_ hT3 hB3)
  have HT3 := Lib.hid (HT2.out.trans ((To.fresh (fun i => i = 1) ((Below.refl w2.heap.size w2).alloc (Nat.le_refl _) (.cells #[.string ⟨s.toArray⟩, .string ⟨z.toArray⟩] 9)) o2 0).trans hT3))
  clear hB3 hT3 b0 b5 HT2 HM2
  obtain ⟨b0, b3, b4, b5, b6, b7⟩ := head_tb HM3.out.head
  clear b3 b4 b6 b7
  by_cases ht : t = 5
  · have HE := Lib.hid ht
    have e1 : ((t : Int) == 5) = true := by rw [ht]; rfl
    clear ht
    go_wp2_with fail
    go_at_call 219
    refine (pput_spec 5 M.tb b.texts s m w3 o3 HM3.out.texts HTX.out hm20).mono ?_
    rintro e w4 ⟨⟨x, rfl⟩, o4, hB4, hT4⟩
    have HM4 := Lib.hid (HM3.out.texts_ hT4 hB4)
    have HT4 := Lib.hid ((HT3.out.mono (fun _ h => bld_1 h)).trans (hT4.mono (fun _ h => bld_5 h)))
    clear hB4 hT4 b0 b5 HT3 HM3
    obtain ⟨b0, _⟩ := head_tb HM4.out.head
    go_wp2_with fail
    go_at_call 173
    refine (pushp_is M fl _ t y m w4 o4 HM4.out HS.out).mono ?_
    rintro e w5 ⟨rfl, o5, hM5, hT5⟩
    have HM5 := Lib.hid hM5
    have HT5 := Lib.hid (HT4.out.trans hT5)
    clear hM5 hT5
    go_wp2
    go_end0
    rw [HBL.out, if_pos HE.out]
    exact ⟨rfl, o5, HM5.out, HT5.out⟩
  · have HE := Lib.hid ht
    have e1 : ((t : Int) == 5) = false := beq_eq_false_iff_ne.mpr (by omega)
    clear ht
    go_wp2_with fail
    go_at_call 173
    refine (pushp_is M fl _ t y m w3 o3 HM3.out HS.out).mono ?_
    rintro e w5 ⟨rfl, o5, hM5, hT5⟩
    have HM5 := Lib.hid hM5
    have HT5 := Lib.hid ((HT3.out.mono (fun _ h => bld_1 h)).trans hT5)
    clear hM5 hT5
    go_wp2
    go_end0
    rw [HBL.out, if_neg HE.out]
    exact ⟨rfl, o5, HM5.out, HT5.out⟩
end Go.Proofs.YtfoifdoaleaekaaGreat

namespace Go.Proofs.YtfoifdoaleaekaaGreat
open Go.RowKit Go.Acc
theorem bits_and_i64 (fl : Int) (k : Nat) (hk : k ≤ 4) : Go.bits .and .i64 fl (k : Int) = ((Go.Proofs.YtfoifdoaleaekaaGreat.bits fl &&& k : Nat) : Int) := by
  have hx : Go.Proofs.YtfoifdoaleaekaaGreat.bits fl &&& k ≤ k := Nat.and_le_right
  have h1 : (BitVec.ofInt 64 fl).toNat = Go.Proofs.YtfoifdoaleaekaaGreat.bits fl := by
    rw [BitVec.toNat_ofInt]; rfl
  have h2 : (BitVec.ofInt 64 (k : Int)).toNat = k := by
    rw [BitVec.ofInt_natCast, BitVec.toNat_ofNat]; exact Nat.mod_eq_of_lt (by omega)
  show IntKind.i64.wrap ((BitVec.ofInt 64 fl &&& BitVec.ofInt 64 (k : Int)).toNat : Int) = _
  rw [BitVec.toNat_and, h1, h2]
  exact IntWalk.i64_in _ (by omega)
theorem and_pow (x i : Nat) : x &&& 2 ^ i = if x / 2 ^ i % 2 = 1 then 2 ^ i else 0 := by
  refine Nat.eq_of_testBit_eq fun j => ?_
  rw [Nat.testBit_and, Nat.testBit_two_pow]
  by_cases e : i = j
  · subst e
    rw [Nat.testBit_eq_decide_div_mod_eq]
    by_cases h : x / 2 ^ i % 2 = 1
    · rw [if_pos h]; simp [h]
    · rw [if_neg h]; simp [h]
  · split
    · rw [Nat.testBit_two_pow]; simp [e]
    · simp [e]
theorem on_and (fl : Int) (k i : Nat) (hk : k ≤ 4) (hi : k = 2 ^ i) : (!(Go.bits .and .i64 fl (k : Int) == 0)) = onF (Go.Proofs.YtfoifdoaleaekaaGreat.bits fl) k := by
  rw [bits_and_i64 fl k hk, hi, and_pow]
  unfold onF
  by_cases h : Go.Proofs.YtfoifdoaleaekaaGreat.bits fl / 2 ^ i % 2 = 1
  · rw [if_pos h, decide_eq_true h]
    have h2 : 0 < 2 ^ i := Nat.two_pow_pos i
    obtain ⟨z, hz⟩ : ∃ z, 2 ^ i = z := ⟨_, rfl⟩
    rw [hz] at h2 ⊢
    have h3 : ((z : Nat) : Int) ≠ 0 := by omega
    simpa using h3
  · rw [if_neg h, decide_eq_false h]
    rfl
theorem on_spec (β k i : Nat) (fl : Int) (r : Bool) (w : World) (h : w.cell? ⟨β, 3, none⟩ = some (.int .i64 fl)) (hk : k ≤ 4) (hi : k = 2 ^ i) (hr : onF (Go.Proofs.YtfoifdoaleaekaaGreat.bits fl) k = r) :
    Calls Tryz.prog 218 #[.pointer (some ⟨β, 3, none⟩), .int .i64 (k : Int)] w fun e w' => e = .returned (.bool r) ∧ w = w' := by
  have e1 := on_and fl k i hk hi
  rw [hr] at e1
  obtain ⟨q, hq⟩ : ∃ q, Go.bits .and .i64 fl (k : Int) = q := ⟨_, rfl⟩
  rw [hq] at e1
  clear hk hi hr
  go_enter Tryz.func218, Tryz.ntmps218
  go_wp2
  go_ret
  exact ⟨by rw [← e1]; rfl, rfl⟩
structure TxC (M : Bp) (s : List UInt8) (bx bs : Nat) (w : World) (o : Nat → Nat) : Prop where
  x : Blk w bx 122 #[.pointer (some ⟨M.β, 0, none⟩)]
  s : Blk w bs 9 #[.string ⟨s.toArray⟩]
  ox : o bx = 0
  os : o bs = 0
theorem TxC.cells {M : Bp} {s : List UInt8} {bx bs : Nat} {w : World} {o : Nat → Nat} (h : TxC M s bx bs w o) : w.cell? ⟨bx, 0, none⟩ = some (.pointer (some ⟨M.β, 0, none⟩)) ∧ w.cell? ⟨bs, 0, none⟩ = some (.string ⟨s.toArray⟩) := ⟨h.x.cell 0, h.s.cell 0⟩
theorem TxC.pure {M : Bp} {s : List UInt8} {bx bs : Nat} {w w' : World} {o : Nat → Nat} (h : TxC M s bx bs w o) (hb : Below w.heap.size w w') : TxC M s bx bs w' o := ⟨h.x.pure hb, h.s.pure hb, h.ox, h.os⟩
theorem txc_new (M : Bp) (s : List UInt8) (w : World) (o : Nat → Nat) : TxC M s w.heap.size (w.heap.size + 1) ((w.alloc (.cells #[.pointer (some ⟨M.β, 0, none⟩)] 122)).alloc (.cells #[.string ⟨s.toArray⟩] 9)) (newO o w.heap.size 0) :=
  ⟨(Blk.new w 122 #[.pointer (some ⟨M.β, 0, none⟩)]).alloc _, blk_new2 w _ 9 #[.string ⟨s.toArray⟩], newO_new (by omega), newO_new (by omega)⟩
theorem blob_eq (s : List UInt8) (b : Bd) : bText 25 s [] b = b.blob s := by
  unfold bText Bd.blob Bd.push
  simp
theorem str_eq (f : Nat) (s : List UInt8) (b : Bd) : b.str f s = match (if onF f 2 = true then getP b.texts s else none) with
  | some a => b.push ⟨5, bWidth s.length, a⟩
  | none => bText 5 s [0] b := by
  unfold Bd.str bText Bd.push
  cases (if onF f 2 = true then getP b.texts s else none) <;> simp
structure RoomS (b : Bd) (s : List UInt8) : Prop where
  st : b.s.length < 65536
  len : b.b.length + s.length + 21 ≤ 1048576
  tx : b.texts.length ≤ 1048575
set_option maxHeartbeats 400000 in
theorem cblob1_spec (M : Bp) (fl : Int) (b : Bd) (s : List UInt8) (bx bs : Nat) (w : World) (o : Nat → Nat) (h : BM M fl w o b) (hc : TxC M s bx bs w o) (hr : RoomS b s) :
    Calls Tryz.prog 231 #[.pointer (some ⟨bx, 0, none⟩), .pointer (some ⟨bs, 0, none⟩)] w (BTo M fl (b.blob s) w o) := by
  have HM := Lib.hid h
  have HR := Lib.hid hr
  obtain ⟨x0, s0⟩ := hc.cells
  have hlen := Lib.hid (show b.b.length + s.length + ([] : List UInt8).length + 20 ≤ 1048576 by have := hr.len; simp; omega)
  clear h hc hr
  go_enter Tryz.func231, Tryz.ntmps231
  go_wp2_with fail
  go_at_call 230
  refine (wtext_spec M fl b 25 s [] w o HM.out HR.out.st hlen.out HR.out.tx).mono ?_
  intro e w1 hR
  obtain rfl := hR.1
  have HT := Lib.hid hR
  clear hR
  go_wp2
  go_end0
  rw [← blob_eq]
  exact HT.out
set_option maxHeartbeats 400000 in
theorem cblob_spec (M : Bp) (fl : Int) (b : Bd) (s : List UInt8) (w : World) (o : Nat → Nat) (h : BM M fl w o b) (hr : RoomS b s) :
    Calls Tryz.prog 187 #[.pointer (some ⟨M.β, 0, none⟩), .string ⟨s.toArray⟩] w (BTo M fl (b.blob s) w o) := by
  have HR := Lib.hid hr
  have hB := below_two w (.cells #[.pointer (some ⟨M.β, 0, none⟩)] 122) (.cells #[.string ⟨s.toArray⟩] 9)
  have HB := Lib.hid hB
  have HM := Lib.hid (h.fresh hB 0)
  have HC := Lib.hid (txc_new M s w o)
  clear h hr hB
  go_enter Tryz.func187, Tryz.ntmps187
  go_wp2_with fail
  go_at_call 163
  refine (unless_spec M fl 231 _ _ (newO o w.heap.size 0) b.vals _ HM.out.head Tryz.call231 ((cblob1_spec M fl b s w.heap.size (w.heap.size + 1) _ (newO o w.heap.size 0) HM.out HC.out HR.out).mono fun e w' h => ⟨h.1, h⟩)).mono ?_
  rintro e w' hR
  obtain rfl := hR.1
  have HR := Lib.hid (hR.from_fresh HB.out)
  clear hR
  go_wp2
  go_end0
  exact HR.out
end Go.Proofs.YtfoifdoaleaekaaGreat

namespace Go.Proofs.YtfoifdoaleaekaaGreat
open Go.RowKit Go.Acc
set_option maxRecDepth 100000 in
set_option maxHeartbeats 2000000 in
theorem cstr1_spec (M : Bp) (fl : Int) (b : Bd) (s : List UInt8) (bx bs : Nat) (w : World) (o : Nat → Nat) (h : BM M fl w o b) (hc : TxC M s bx bs w o) (hr : RoomS b s) :
    Calls Tryz.prog 229 #[.pointer (some ⟨bx, 0, none⟩), .pointer (some ⟨bs, 0, none⟩)] w (BTo M fl (b.str (Go.Proofs.YtfoifdoaleaekaaGreat.bits fl) s) w o) := by
  have HM := Lib.hid h
  have HR := Lib.hid hr
  have HC := Lib.hid hc
  obtain ⟨n, hn⟩ : ∃ n, s.length = n := ⟨_, rfl⟩
  obtain ⟨y, hy⟩ : ∃ y, bWidth n = y := ⟨_, rfl⟩
  have HN64 := Lib.hid (show n < 18446744073709551616 by have := hr.len; omega)
  have HW := Lib.hid (show wdU n = (y : Int) by rw [wdU_b, hy])
  have hwn : IntKind.u64.wrap (n : Int) = (n : Int) := u64_in _ (by have := hr.len; omega)
  have hsz : (⟨s.toArray⟩ : ByteArray).size = n := hn
  obtain ⟨g, hg⟩ : ∃ g, getP b.texts s = g := ⟨_, rfl⟩
  obtain ⟨q, hq⟩ : ∃ q, onF (Go.Proofs.YtfoifdoaleaekaaGreat.bits fl) 2 = q := ⟨_, rfl⟩
  have HE := Lib.hid (str_eq (Go.Proofs.YtfoifdoaleaekaaGreat.bits fl) s b)
  obtain ⟨gv, hgv⟩ : ∃ v, g.getD 0 = v := ⟨_, rfl⟩
  obtain ⟨had, hhad⟩ : ∃ v, g.isSome = v := ⟨_, rfl⟩
  have HG := Lib.hid (show optN (getP b.texts s) = .tuple #[.int .i64 (gv : Int), .bool had] by rw [hg]; unfold optN; rw [hgv, hhad])
  have HGG := Lib.hid hg
  have HGV := Lib.hid (And.intro hgv hhad)
  have HQ := Lib.hid hq
  have HNY := Lib.hid (show bWidth s.length = y by rw [hn, hy])
  have hlen := Lib.hid (show b.b.length + s.length + ([0] : List UInt8).length + 20 ≤ 1048576 by have := hr.len; simp; omega)
  have HTX := Lib.hid (show b.texts.length ≤ 1048576 by have := hr.tx; omega)
  have HAT := Lib.hid (show ∀ a, g = some a → a ≤ 1048576 by
    intro a ha
    obtain ⟨A1, A2, n', c1, c2, ks, ns, hL, o1, o2, op, hP⟩ := h.texts.open_
    rw [ha, hP.get] at hg
    unfold getP at hg
    rw [Option.map_eq_some_iff] at hg
    obtain ⟨x, hx, rfl⟩ := hg
    exact hP.at_ _ (List.of_mem_zip (List.mem_of_find?_eq_some hx)).2)
  obtain ⟨a0, a1⟩ := hc.cells
  obtain ⟨_, a2, _, a3, _⟩ := head_tb h.head
  clear h hr hc hn hy hg hq hgv hhad
  go_enter Tryz.func229, Tryz.ntmps229
  go_wp2_with fail
  go_region_held3 (fun w' => w'.cell? ⟨bx, 0, none⟩ = some (.pointer (some ⟨M.β, 0, none⟩)) ∧ w'.cell? ⟨bs, 0, none⟩ = some (.string ⟨s.toArray⟩) ∧ w'.cell? ⟨M.β, 3, none⟩ = some (.int .i64 fl) ∧ w'.cell? ⟨M.β, 5, none⟩ = some (.pointer (some ⟨M.tb, 0, none⟩))) (first | with_reducible exact ⟨a0, a1, a2, a3⟩ | with_reducible exact ⟨kdrew a0, kdrew a1, kdrew a2, kdrew a3⟩ | with_reducible exact ⟨x0, x1, x2, x3⟩) (first | (go_at_call 217; (with_reducible refine (pget_spec 5 M.tb b.texts s _ o HM.out.drew.texts HTX.out).mono ?_); rintro e w1 ⟨rfl, hB⟩; rw [HG.out]; have x0 := cell_pure hB (kdrew a0); have x1 := cell_pure hB (kdrew a1); have x2 := cell_pure hB (kdrew a2); have x3 := cell_pure hB (kdrew a3); have HB := Lib.hid (pure_trans (below_dr w) hB); clear hB))
  have HM1 := Lib.hid (HM.out.pure HB.out)
  clear a0 a1 a2 a3
  obtain ⟨hg, hgh⟩ := HGV.out
  cases g with
  | none =>
    obtain rfl : had = false := by rw [← hgh]; rfl
    clear hg hgh
    have HNO := Lib.hid (show (if onF (Go.Proofs.YtfoifdoaleaekaaGreat.bits fl) 2 = true then getP b.texts s else none) = none by rw [HGG.out]; split <;> rfl)
    go_wp2_with fail
    go_at_call 230
    refine (wtext_spec M fl b 5 s [0] w1 o HM1.out HR.out.st hlen.out HR.out.tx).mono ?_
    intro e w2 hT
    obtain rfl := hT.1
    have HT := Lib.hid (hT.from_pure HB.out)
    clear hT
    go_wp2
    go_end0
    rw [HE.out, HNO.out]
    exact HT.out
  | some a =>
    obtain rfl : had = true := by rw [← hgh]; rfl
    obtain rfl : gv = a := by rw [← hg]; rfl
    have hwa : IntKind.u64.wrap (gv : Int) = (gv : Int) := u64_in _ (by have := HAT.out gv rfl; omega)
    clear hg hgh
    go_wp2_with fail
    go_at_call 218
    refine (on_spec M.β 2 1 fl q w1 x2 (by omega) rfl HQ.out).mono ?_
    rintro e w' ⟨rfl, rfl⟩
    cases q with
    | false =>
      have HNO := Lib.hid (show (if onF (Go.Proofs.YtfoifdoaleaekaaGreat.bits fl) 2 = true then getP b.texts s else none) = none by rw [HQ.out]; rfl)
      go_wp2_with fail
      go_at_call 230
      refine (wtext_spec M fl b 5 s [0] w1 o HM1.out HR.out.st hlen.out HR.out.tx).mono ?_
      intro e w2 hT
      obtain rfl := hT.1
      have HT := Lib.hid (hT.from_pure HB.out)
      clear hT
      go_wp2
      go_end0
      rw [HE.out, HNO.out]
      exact HT.out
    | true =>
      have HPP := Lib.hid (show Calls Tryz.prog 173 #[.pointer (some ⟨M.β, 0, none⟩), .agg #[.int .i64 5, .int .i64 (y : Int), .int .u64 (gv : Int)]] w1.drew (BTo M fl (b.push ⟨5, y, gv⟩) w1.drew o) from pushp_is M fl b 5 y gv _ o HM1.out.drew HR.out.st)
      go_wp2_with fail
      go_region_held3 (fun w' => w'.cell? ⟨bx, 0, none⟩ = some (.pointer (some ⟨M.β, 0, none⟩)) ∧ w'.cell? ⟨bs, 0, none⟩ = some (.string ⟨s.toArray⟩) ∧ w'.cell? ⟨M.β, 3, none⟩ = some (.int .i64 fl) ∧ w'.cell? ⟨M.β, 5, none⟩ = some (.pointer (some ⟨M.tb, 0, none⟩))) (first | with_reducible exact ⟨x0, x1, x2, x3⟩ | with_reducible exact ⟨kdrew x0, kdrew x1, kdrew x2, kdrew x3⟩ | with_reducible exact ⟨z0, z1, z2, z3⟩) (first | (go_at_call 215; (with_reducible refine (wof_is n (y : Int) _ HN64.out HW.out).mono ?_); rintro e w' ⟨rfl, rfl⟩) | (go_at_call 173; (with_reducible refine HPP.out.mono ?_); rintro e W3 ⟨rfl, o3, hM3, hT3⟩; have HM3 := Lib.hid hM3; have HT3 := Lib.hid hT3.from_drew; have hC3 := ((HC.out.pure HB.out).pure (below_dr w1)); have hx3 := hC3.x.to_ hT3 (by rw [hC3.ox]; exact bld_0); have hs3 := hC3.s.to_ hT3 (by rw [hC3.os]; exact bld_0); have z0 : W3.cell? ⟨bx, 0, none⟩ = some (.pointer (some ⟨M.β, 0, none⟩)) := hx3.cell 0; have z1 : W3.cell? ⟨bs, 0, none⟩ = some (.string ⟨s.toArray⟩) := hs3.cell 0; obtain ⟨_, z2, _, z3, _⟩ := head_tb hM3.head; clear hM3 hT3 hC3 hx3 hs3))
      go_wp2
      go_end0
      rw [HE.out, show (if onF (Go.Proofs.YtfoifdoaleaekaaGreat.bits fl) 2 = true then getP b.texts s else none) = some gv by rw [HQ.out, HGG.out]; rfl, HNY.out]
      exact ⟨rfl, o3, HM3.out, (To.pure _ HB.out o).trans HT3.out⟩
set_option maxHeartbeats 400000 in
theorem cstr_spec (M : Bp) (fl : Int) (b : Bd) (s : List UInt8) (w : World) (o : Nat → Nat) (h : BM M fl w o b) (hr : RoomS b s) :
    Calls Tryz.prog 186 #[.pointer (some ⟨M.β, 0, none⟩), .string ⟨s.toArray⟩] w (BTo M fl (b.str (Go.Proofs.YtfoifdoaleaekaaGreat.bits fl) s) w o) := by
  have HR := Lib.hid hr
  have hB := below_two w (.cells #[.pointer (some ⟨M.β, 0, none⟩)] 122) (.cells #[.string ⟨s.toArray⟩] 9)
  have HB := Lib.hid hB
  have HM := Lib.hid (h.fresh hB 0)
  have HC := Lib.hid (txc_new M s w o)
  clear h hr hB
  go_enter Tryz.func186, Tryz.ntmps186
  go_wp2_with fail
  go_at_call 163
  refine (unless_spec M fl 229 _ _ (newO o w.heap.size 0) b.vals _ HM.out.head Tryz.call229 ((cstr1_spec M fl b s w.heap.size (w.heap.size + 1) _ (newO o w.heap.size 0) HM.out HC.out HR.out).mono fun e w' h => ⟨h.1, h⟩)).mono ?_
  rintro e w' hR
  obtain rfl := hR.1
  have HR := Lib.hid (hR.from_fresh HB.out)
  clear hR
  go_wp2
  go_end0
  exact HR.out
end Go.Proofs.YtfoifdoaleaekaaGreat
