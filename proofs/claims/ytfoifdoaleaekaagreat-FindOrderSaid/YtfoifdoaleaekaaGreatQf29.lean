/-
  Package pool: what a pool finds, and what it finds when a string is laid in. The pool in memory, opened and shut.
  Package pool: Get and Put.
  Package build: a string or a blob is written.
  Package build: a flag is looked at; strings and blobs are written.
-/
import Derived.Test.YtfoifdoaleaekaaGreatQf28
import Derived.Laws.Bits64b
namespace Go.Proofs.YtfoifdoaleaekaaGreat
open Go.RowKit Go.Acc
theorem kl_irr : ∀ x : List UInt8, Op.bytesLess x x = false
  | [] => rfl
  | a :: x => by
    show (decide (a < a) || (a == a && Op.bytesLess x x)) = false
    rw [kl_irr x]
    simp
theorem kl_tot : ∀ x y : List UInt8, Op.bytesLess x y = false → x ≠ y → Op.bytesLess y x = true
  | [], [], _, h => absurd rfl h
  | [], _ :: _, h, _ => by cases h
  | _ :: _, [], _, _ => rfl
  | a :: x, b :: y, h, hne => by
    have g : (decide (a < b) || (a == b && Op.bytesLess x y)) = false := h
    show (decide (b < a) || (b == a && Op.bytesLess y x)) = true
    rw [Bool.or_eq_false_iff, Bool.and_eq_false_iff, decide_eq_false_iff_not] at g
    rw [Bool.or_eq_true, Bool.and_eq_true, decide_eq_true_eq, beq_iff_eq]
    by_cases e : a = b
    · subst e
      refine .inr ⟨rfl, kl_tot x y ?_ (fun e => hne (by rw [e]))⟩
      rcases g.2 with g | g
      · simp at g
      · exact g
    · left
      have := g.1
      rcases UInt8.lt_or_lt_of_ne e with h | h
      · exact absurd h this
      · exact h
abbrev SortedK (ks : List (List UInt8)) : Prop := ks.Pairwise (fun x y => Op.bytesLess x y = true)
theorem place_not {ks : List (List UInt8)} {s : List UInt8} {i : Nat} (h : PlaceI ks s i) (hs : SortedK ks) (hn : ks[i]? ≠ some s) : s ∉ ks := by
  intro hm
  obtain ⟨j, hj, e⟩ := List.getElem_of_mem hm
  have ej : ks[j]? = some s := by rw [List.getElem?_eq_getElem hj, e]
  rcases Nat.lt_or_ge j i with c | c
  · have := h.lo j s c ej
    rw [kl_irr] at this
    cases this
  · by_cases e2 : j = i
    · exact hn (e2 ▸ ej)
    · have hi : i < ks.length := by omega
      have h1 := h.hi i _ (Nat.le_refl _) (List.getElem?_eq_getElem hi)
      have h2 := List.pairwise_iff_getElem.1 hs i j hi hj (by omega)
      rw [e] at h2
      rw [h1] at h2
      cases h2
theorem place_sorted {ks : List (List UInt8)} {s : List UInt8} {i : Nat} (h : PlaceI ks s i) (hs : SortedK ks) (hn : s ∉ ks) : SortedK (ks.take i ++ [s] ++ ks.drop i) := by
  have ha : ∀ x ∈ ks.take i, Op.bytesLess x s = true := by
    intro x hx
    obtain ⟨j, hj, e⟩ := List.getElem_of_mem hx
    have hj' : j < i := by simp at hj; omega
    refine h.lo j x hj' ?_
    rw [← e, List.getElem_take, List.getElem?_eq_getElem (by simp at hj; omega)]
  have hb : ∀ x ∈ ks.drop i, Op.bytesLess s x = true := by
    intro x hx
    obtain ⟨j, hj, e⟩ := List.getElem_of_mem hx
    have hj' : i + j < ks.length := by simp at hj; omega
    have e2 : ks[i + j]? = some x := by rw [← e, List.getElem_drop, List.getElem?_eq_getElem hj']
    exact kl_tot x s (h.hi (i + j) x (by omega) e2) (fun e3 => hn (e3 ▸ List.mem_of_mem_drop hx))
  have hab := hs
  rw [show ks = ks.take i ++ ks.drop i from (List.take_append_drop i ks).symm, SortedK, List.pairwise_append] at hab
  obtain ⟨p1, p2, p3⟩ := hab
  rw [SortedK, List.append_assoc, List.pairwise_append]
  refine ⟨p1, ?_, ?_⟩
  · rw [List.singleton_append, List.pairwise_cons]
    exact ⟨hb, p2⟩
  · intro x hx y hy
    rw [List.singleton_append, List.mem_cons] at hy
    rcases hy with rfl | hy
    · exact ha x hx
    · exact p3 x hx y hy
theorem getP_cons (x : List UInt8 × Nat) (l : List (List UInt8 × Nat)) (k : List UInt8) : getP (x :: l) k = if x.1 = k then some x.2 else getP l k := by
  unfold getP
  rw [List.find?_cons]
  by_cases e : x.1 = k
  · rw [if_pos e]; simp [e]
  · rw [if_neg e]
    have : (x.1 == k) = false := beq_eq_false_iff_ne.mpr e
    rw [this]
theorem getP_zip_some : ∀ (ks : List (List UInt8)) (ns : List Nat) (i : Nat) (s : List UInt8) (a : Nat), SortedK ks → ks[i]? = some s → ns[i]? = some a → getP (ks.zip ns) s = some a
  | [], _, _, _, _, _, h, _ => by simp at h
  | _ :: _, [], _, _, _, _, _, h => by simp at h
  | k :: ks, n :: ns, 0, s, a, _, h1, h2 => by
    rw [List.zip_cons_cons, getP_cons]
    simp at h1 h2
    rw [if_pos h1, h2]
  | k :: ks, n :: ns, i + 1, s, a, hs, h1, h2 => by
    rw [List.zip_cons_cons, getP_cons]
    simp at h1 h2
    rw [SortedK, List.pairwise_cons] at hs
    rw [if_neg ?_]
    · exact getP_zip_some ks ns i s a hs.2 h1 h2
    · intro e
      have hm : s ∈ ks := List.mem_of_getElem? h1
      have := hs.1 s hm
      rw [show k = s from e, kl_irr] at this
      cases this
theorem getP_zip_none : ∀ (ks : List (List UInt8)) (ns : List Nat) (s : List UInt8), s ∉ ks → getP (ks.zip ns) s = none
  | [], _, _, _ => rfl
  | _ :: _, [], _, _ => rfl
  | k :: ks, n :: ns, s, h => by
    rw [List.zip_cons_cons, getP_cons, if_neg (fun e => h (by rw [← e]; exact List.mem_cons_self))]
    exact getP_zip_none ks ns s (fun e => h (List.mem_cons_of_mem _ e))
theorem getP_app : ∀ (l m : List (List UInt8 × Nat)) (k : List UInt8), getP (l ++ m) k = match getP l k with | some a => some a | none => getP m k
  | [], m, k => by simp [getP]
  | x :: l, m, k => by
    rw [List.cons_append, getP_cons, getP_cons]
    by_cases e : x.1 = k
    · rw [if_pos e, if_pos e]
    · rw [if_neg e, if_neg e]; exact getP_app l m k
theorem getP_ins {ks : List (List UInt8)} {ns : List Nat} (hl : ks.length = ns.length) {s : List UInt8} (a i : Nat) (hn : s ∉ ks) (k : List UInt8) :
    getP ((ks.take i ++ [s] ++ ks.drop i).zip (ns.take i ++ [a] ++ ns.drop i)) k = if s = k then some a else getP (ks.zip ns) k := by
  rw [List.zip_append (by simp [hl]), List.zip_append (by simp [hl]), List.append_assoc, getP_app]
  have hz : ks.zip ns = (ks.take i).zip (ns.take i) ++ (ks.drop i).zip (ns.drop i) := by
    rw [← List.zip_append (by simp [hl]), List.take_append_drop, List.take_append_drop]
  by_cases e : s = k
  · subst e
    rw [if_pos rfl, getP_zip_none _ _ _ (fun h => hn (List.mem_of_mem_take h))]
    simp [getP]
  · have h2 : getP (([s] : List (List UInt8)).zip [a]) k = none := by
      show getP [(s, a)] k = _
      rw [getP_cons, if_neg e]; rfl
    rw [if_neg e, hz, getP_app, h2, getP_app]
theorem getP_putP (m : List (List UInt8 × Nat)) (s k : List UInt8) (a : Nat) (h : getP m s = none) : getP (putP m s a) k = if s = k then some a else getP m k := by
  have e1 : putP m s a = m ++ [(s, a)] := by unfold putP; rw [if_neg (by rw [h]; decide)]
  rw [e1, getP_app]
  by_cases e : s = k
  · subst e
    rw [h, if_pos rfl]
    show getP [(s, a)] s = _
    rw [getP_cons, if_pos rfl]
  · rw [if_neg e]
    have : getP [(s, a)] k = none := by rw [getP_cons, if_neg e]; rfl
    rw [this]
    cases getP m k <;> rfl
theorem own_blk {α : Type} {f : α → List Value} {sz : Nat} {e : TypeId} {w : World} {B n c : Nat} {ad : Addr} {l : List α} (h : Go.Acc.Own f sz e w B (some ad) n c l) : ∃ cur, Blk w ad.block e cur := by
  rcases h.2.2 with ⟨hv, _⟩ | ⟨g', cap, cur, hv, hb, hg, _⟩
  · cases hv
  · injection hv with e1
    injection e1 with e1
    subst e1
    exact ⟨cur, hg⟩
structure PoolP (m : List (List UInt8 × Nat)) (n : Nat) (ks : List (List UInt8)) (ns : List Nat) : Prop where
  sorted : SortedK ks
  get : ∀ s, getP m s = getP (ks.zip ns) s
  le : n ≤ m.length
  at_ : ∀ a ∈ ns, a ≤ 1048576
  kl : ks.length = n
  nl : ns.length = n
theorem PoolO.open_ {w : World} {o : Nat → Nat} {i p : Nat} {m : List (List UInt8 × Nat)} (h : PoolO w o i p m) : ∃ A1 A2 n c1 c2 ks ns, Lay2 w p A1 A2 A1 n c1 ks A2 n c2 ns (.slice A1 n c1) (.slice A2 n c2) w ∧ Of o A1 i ∧ Of o A2 i ∧ o p = i ∧ PoolP m n ks ns := by
  obtain ⟨A1, A2, n, c1, c2, ks, ns, hb, h1, h2, o1, o2, op, hs, hg, hn, ha⟩ := h
  refine ⟨A1, A2, n, c1, c2, ks, ns, ⟨hb, h1, h2, ?_, ?_, ?_, Fr.refl _ _, .inl rfl, .inl rfl⟩, o1, o2, op, ⟨hs, hg, hn, ha, h1.is.1, h2.is.1⟩⟩
  · rintro a rfl e
    obtain ⟨cur, hc⟩ := own_blk h1
    rw [e] at hc
    exact Blk.ne_ hc hb (by decide) rfl
  · rintro a rfl e
    obtain ⟨cur, hc⟩ := own_blk h2
    rw [e] at hc
    exact Blk.ne_ hc hb (by decide) rfl
  · rintro a b rfl rfl e
    obtain ⟨cur, hc⟩ := own_blk h1
    obtain ⟨cur', hc'⟩ := own_blk h2
    rw [e] at hc
    exact Blk.ne_ hc hc' (by decide) rfl
theorem PoolO.shut {w w' : World} {o : Nat → Nat} {i p n c1 c2 : Nat} {A10 A20 A1 A2 : Option Addr} {m : List (List UInt8 × Nat)} {ks : List (List UInt8)} {ns : List Nat} (h : Lay2 w p A10 A20 A1 n c1 ks A2 n c2 ns (.slice A1 n c1) (.slice A2 n c2) w')
    (hp : PoolP m n ks ns) (h1 : Of o A10 i) (h2 : Of o A20 i) (op : o p = i) (hlt : p < w.heap.size) (b1 : ∀ a, A10 = some a → a.block < w.heap.size) (b2 : ∀ a, A20 = some a → a.block < w.heap.size) : PoolO w' (newO o w.heap.size i) i p m ∧ To (fun x => x = i) w o w' (newO o w.heap.size i) := by
  have hof : ∀ {A A0 : Option Addr}, Of o A0 i → (∀ a, A0 = some a → a.block < w.heap.size) → (A.map (·.block) = A0.map (·.block) ∨ ∃ k, A.map (·.block) = some k ∧ w.heap.size ≤ k) → Of (newO o w.heap.size i) A i := by
    intro A A0 ha hb hw ad hA
    subst hA
    rcases hw with e | ⟨k, e, hk⟩
    · cases A0 with
      | none => cases e
      | some a0 =>
        injection e with e
        have e : ad.block = a0.block := e
        rw [e, newO_old (hb a0 rfl)]
        exact ha a0 rfl
    · injection e with e
      have e : ad.block = k := e
      rw [e, newO_new hk]
  refine ⟨⟨A1, A2, n, c1, c2, ks, ns, h.blk, h.o1, h.o2, hof h1 b1 h.w1, hof h2 b2 h.w2, by rw [newO_old hlt]; exact op, hp.sorted, hp.get, hp.le, hp.at_⟩, To.of_fr h.fr ?_ i⟩
  rintro k _ (rfl | ⟨a, e, rfl⟩ | ⟨a, e, rfl⟩)
  · exact op
  · exact h1 a e
  · exact h2 a e
theorem PoolP.ins {m : List (List UInt8 × Nat)} {n : Nat} {ks : List (List UInt8)} {ns : List Nat} (h : PoolP m n ks ns) {s : List UInt8} {i a : Nat} (hp : PlaceI ks s i) (hn : ks[i]? ≠ some s) (ha : a ≤ 1048576) :
    PoolP (putP m s a) (n + 1) (ks.take i ++ [s] ++ ks.drop i) (ns.take i ++ [a] ++ ns.drop i) := by
  have hnm := place_not hp h.sorted hn
  have hg : getP m s = none := by rw [h.get, getP_zip_none _ _ _ hnm]
  have hi := hp.le
  have k1 := h.kl
  have k2 := h.nl
  refine ⟨place_sorted hp h.sorted hnm, fun k => ?_, ?_, ?_, by simp; omega, by simp; omega⟩
  · rw [getP_putP m s k a hg, getP_ins (by omega) a i hnm, h.get]
  · have := h.le
    unfold putP
    rw [if_neg (by rw [hg]; decide)]
    simp
    omega
  · intro x hx
    simp only [List.mem_append, List.mem_singleton] at hx
    rcases hx with (hx | rfl) | hx
    · exact h.at_ x (List.mem_of_mem_take hx)
    · exact ha
    · exact h.at_ x (List.mem_of_mem_drop hx)
theorem PoolP.get_none {m : List (List UInt8 × Nat)} {n : Nat} {ks : List (List UInt8)} {ns : List Nat} (h : PoolP m n ks ns) {s : List UInt8} {i : Nat} (hp : PlaceI ks s i) (hn : ks[i]? ≠ some s) : getP m s = none := by
  rw [h.get, getP_zip_none _ _ _ (place_not hp h.sorted hn)]
theorem PoolP.get_some {m : List (List UInt8 × Nat)} {n : Nat} {ks : List (List UInt8)} {ns : List Nat} (h : PoolP m n ks ns) {s : List UInt8} {i : Nat} (hs : ks[i]? = some s) : ∃ a, ns[i]? = some a ∧ getP m s = some a ∧ i < n := by
  have hi : i < ks.length := (List.getElem?_eq_some_iff.1 hs).1
  have k1 := h.kl
  have k2 := h.nl
  refine ⟨ns[i]'(by omega), List.getElem?_eq_getElem (by omega), ?_, by omega⟩
  rw [h.get]
  exact getP_zip_some ks ns i s _ h.sorted hs (List.getElem?_eq_getElem (by omega))
end Go.Proofs.YtfoifdoaleaekaaGreat

namespace Go.Proofs.YtfoifdoaleaekaaGreat
open Go.RowKit Go.Acc
theorem pnone_spec (p : Nat) (w : World) (h : w.cell? ⟨p, 2, none⟩ = some (.bool true)) : Calls Tryz.prog 246 #[.pointer (some ⟨p, 0, none⟩)] w fun e w' => e = .returned (.bool false) ∧ w = w' := by
  go_enter Tryz.func246, Tryz.ntmps246
  go_wp2
  go_ret
  exact ⟨rfl, rfl⟩
def optN (x : Option Nat) : Value := .tuple #[.int .i64 ((x.getD 0 : Nat) : Int), .bool x.isSome]
set_option maxRecDepth 100000 in
set_option maxHeartbeats 1000000 in
theorem pget_spec (i p : Nat) (m : List (List UInt8 × Nat)) (s : List UInt8) (w : World) (o : Nat → Nat) (h : PoolO w o i p m) (hm : m.length ≤ 1048576) :
    Calls Tryz.prog 217 #[.pointer (some ⟨p, 0, none⟩), .string ⟨s.toArray⟩] w fun e w' => e = .returned (optN (getP m s)) ∧ Below w.heap.size w w' := by
  obtain ⟨A1, A2, n, c1, c2, ks, ns, hL, o1, o2, op, hP⟩ := h.open_
  have HL := Lib.hid hL
  have HP := Lib.hid hP
  have hn : n ≤ 1048576 := Nat.le_trans hP.le hm
  have x0 : w.cell? ⟨p, 0, none⟩ = some (.slice A1 n c1) := hL.blk.cell 0
  have x1 : w.cell? ⟨p, 1, none⟩ = some (.slice A2 n c2) := hL.blk.cell 1
  have x2 : w.cell? ⟨p, 2, none⟩ = some (.bool true) := hL.blk.cell 2
  clear h hL o1 o2 op hP
  go_enter Tryz.func217, Tryz.ntmps217
  go_wp2_with fail
  go_at_call 246
  refine (pnone_spec p w x2).mono ?_
  rintro e w' ⟨rfl, rfl⟩
  go_wp2_with fail
  go_at_call 247
  refine (pplace_spec p n c1 A1 ks s w x0 HL.out.o1.is hn HP.out.sorted).mono ?_
  rintro e w1 ⟨j, hj, rfl, hb⟩
  have x1' := cell_pure hb x1
  have HI := Lib.hid (HL.out.o2.is.pure hb)
  have HB := Lib.hid hb
  have HJ := Lib.hid hj
  by_cases hk : ks[j]? = some s
  · obtain ⟨a, ha, hg, hjn⟩ := HP.out.get_some hk
    have hd : decide (ks[j]? = some s) = true := decide_eq_true hk
    rw [hd]
    obtain ⟨g, off, rfl, hk', hc⟩ := HI.out.at_ inc_len (by omega) hjn
    have hcx : w1.cell? ⟨g, off + j, none⟩ = some (.int .i64 (a : Int)) := by
      have h3 := hc 0 (by omega)
      have e : ns[j] = a := by rw [List.getElem?_eq_getElem hk'] at ha; injection ha
      rw [e, Nat.mul_one, Nat.add_zero] at h3
      exact h3
    have HG := Lib.hid hg
    have hj0 : (0 : Int) ≤ (j : Int) := by omega
    have hj1 : (j : Int) < (n : Int) := by omega
    clear hk hd ha hg hk' hc hb x0 x1 x2 hj
    go_wp2_with fail
    go_ret2
    refine ⟨by rw [HG.out]; rfl, HB.out⟩
  · have hd : decide (ks[j]? = some s) = false := decide_eq_false hk
    have HG := Lib.hid (HP.out.get_none hj hk)
    rw [hd]
    clear hk hd hb x0 x1 x2 hj
    go_wp2_with fail
    go_ret2
    exact ⟨by rw [HG.out]; rfl, HB.out⟩
set_option maxRecDepth 100000 in
set_option maxHeartbeats 1000000 in
theorem pput_spec (i p : Nat) (m : List (List UInt8 × Nat)) (s : List UInt8) (a : Nat) (w : World) (o : Nat → Nat) (h : PoolO w o i p m) (hm : m.length ≤ 1048575) (ha : a ≤ 1048576) :
    Calls Tryz.prog 219 #[.pointer (some ⟨p, 0, none⟩), .string ⟨s.toArray⟩, .int .i64 (a : Int)] w fun e w' => (∃ x, e = .returned (.int .i64 x)) ∧ ∃ o', PoolO w' o' i p (putP m s a) ∧ To (fun k => k = i) w o w' o' := by
  have H := Lib.hid h
  obtain ⟨A1, A2, n, c1, c2, ks, ns, hL, o1, o2, op, hP⟩ := h.open_
  have HL := Lib.hid hL
  have HP := Lib.hid hP
  have HO1 := Lib.hid o1
  have HO2 := Lib.hid o2
  have HOP := Lib.hid op
  have hn : n ≤ 1048575 := Nat.le_trans hP.le hm
  have x0 : w.cell? ⟨p, 0, none⟩ = some (.slice A1 n c1) := hL.blk.cell 0
  have x2 : w.cell? ⟨p, 2, none⟩ = some (.bool true) := hL.blk.cell 2
  have ha0 : ¬ (a : Int) < 0 := by omega
  have ha1 : ¬ (9007199254740991 : Int) < (a : Int) := by omega
  clear h hL o1 o2 op hP
  go_enter Tryz.func219, Tryz.ntmps219
  go_wp2_with fail
  go_at_call 246
  refine (pnone_spec p w x2).mono ?_
  rintro e w' ⟨rfl, rfl⟩
  go_wp2_with fail
  go_at_call 247
  refine (pplace_spec p n c1 A1 ks s w x0 HL.out.o1.is (by omega) HP.out.sorted).mono ?_
  rintro e w1 ⟨j, hj, rfl, hb⟩
  have HB := Lib.hid hb
  have HJ := Lib.hid hj
  have hjn : j ≤ n := by have := hj.le; have := HP.out.kl; omega
  by_cases hk : ks[j]? = some s
  · obtain ⟨a', _, hg, _⟩ := HP.out.get_some hk
    have hd : decide (ks[j]? = some s) = true := decide_eq_true hk
    rw [hd]
    have HG := Lib.hid (show putP m s a = m by unfold putP; rw [hg]; rfl)
    clear hk hd hg hb x0 x2 hj
    go_wp2_with fail
    go_ret
    rw [HG.out]
    exact ⟨⟨_, rfl⟩, o, H.out.to_ (To.pure (fun _ => False) HB.out o) (fun h => h), To.pure _ HB.out o⟩
  · have hd : decide (ks[j]? = some s) = false := decide_eq_false hk
    have HK := Lib.hid hk
    have HL1 := Lib.hid (HL.out.below HB.out)
    have HL2 := Lib.hid (Lay2.mk HL1.out.blk HL1.out.o1 HL1.out.o2 HL1.out.d1 HL1.out.d2 HL1.out.d12 (Fr.refl _ w1) (.inl rfl) (.inl rfl))
    rw [hd]
    clear hk hd hb x0 x2 hj
    go_wp2_with fail
    go_at_call 248
    refine (lay_spec p j n c1 c2 A1 A2 ks ns s a w1 HL2.out hjn hn).mono ?_
    rintro e w2 ⟨rfl, A1', A2', c1', c2', h2⟩
    have H2 := Lib.hid h2
    clear h2
    go_wp2_with fail
    go_ret
    obtain ⟨r1, r2⟩ := PoolO.shut (i := i) (o := o) H2.out (HP.out.ins HJ.out HK.out ha) HO1.out HO2.out HOP.out HL1.out.blk.lt (fun x e => (HL1.out.o1.addr x e).2.2) (fun x e => (HL1.out.o2.addr x e).2.2)
    exact ⟨⟨_, rfl⟩, _, r1, (To.pure _ HB.out o).trans r2⟩
end Go.Proofs.YtfoifdoaleaekaaGreat

namespace Go.Proofs.YtfoifdoaleaekaaGreat
open Go.RowKit Go.Acc
theorem two_strs (W : World) (s z : List UInt8) : IsS (W.alloc (.cells #[.string ⟨s.toArray⟩, .string ⟨z.toArray⟩] 9)) (some ⟨W.heap.size, 0, none⟩) 2 [s, z] := by
  refine ⟨rfl, fun j u hu => ⟨_, _, rfl, ?_⟩⟩
  rw [Nat.zero_add, (Blk.new W _ _).cell j]
  simpa [stc] using hu
theorem head_tb {M : Bp} {fl : Int} {w : World} {o : Nat → Nat} {vals : List Bv} (h : HeadO M fl w o vals) : w.cell? ⟨M.β, 0, none⟩ = some (.pointer (some ⟨M.bb, 0, none⟩)) ∧ w.cell? ⟨M.β, 3, none⟩ = some (.int .i64 fl) ∧ w.cell? ⟨M.β, 4, none⟩ = some (.pointer (some ⟨M.kb, 0, none⟩)) ∧ w.cell? ⟨M.β, 5, none⟩ = some (.pointer (some ⟨M.tb, 0, none⟩)) ∧ w.cell? ⟨M.β, 6, none⟩ = some (.pointer (some ⟨M.lb, 0, none⟩)) ∧ w.cell? ⟨M.β, 7, none⟩ = some (.map (some M.mb)) := by
  obtain ⟨A, n, c, hb, _⟩ := h
  exact ⟨hb.cell 0, hb.cell 3, hb.cell 4, hb.cell 5, hb.cell 6, hb.cell 7⟩
end Go.Proofs.YtfoifdoaleaekaaGreat

namespace Go.Proofs.YtfoifdoaleaekaaGreat
open Go.RowKit Go.Acc
theorem bits_and_i64 (fl : Int) (k : Nat) (hk : k ≤ 4) : Go.bits .and .i64 fl (k : Int) = ((Go.Proofs.YtfoifdoaleaekaaGreat.bits fl &&& k : Nat) : Int) := by
  have hx : Go.Proofs.YtfoifdoaleaekaaGreat.bits fl &&& k ≤ k := Nat.and_le_right
  have h1 : (BitVec.ofInt 64 fl).toNat = Go.Proofs.YtfoifdoaleaekaaGreat.bits fl := by
    rw [BitVec.toNat_ofInt]; rfl
  have h2 : (BitVec.ofInt 64 (k : Int)).toNat = k := by
    rw [BitVec.ofInt_natCast, BitVec.toNat_ofNat]; exact Nat.mod_eq_of_lt (by omega)
  show IntKind.i64.wrap ((BitVec.ofInt 64 fl &&& BitVec.ofInt 64 (k : Int)).toNat : Int) = _
  rw [BitVec.toNat_and, h1, h2]
  exact IntWalk.i64_in _ (by omega)
theorem and_pow (x i : Nat) : x &&& 2 ^ i = if x / 2 ^ i % 2 = 1 then 2 ^ i else 0 := by
  refine Nat.eq_of_testBit_eq fun j => ?_
  rw [Nat.testBit_and, Nat.testBit_two_pow]
  by_cases e : i = j
  · subst e
    rw [Nat.testBit_eq_decide_div_mod_eq]
    by_cases h : x / 2 ^ i % 2 = 1
    · rw [if_pos h]; simp [h]
    · rw [if_neg h]; simp [h]
  · split
    · rw [Nat.testBit_two_pow]; simp [e]
    · simp [e]
theorem on_and (fl : Int) (k i : Nat) (hk : k ≤ 4) (hi : k = 2 ^ i) : (!(Go.bits .and .i64 fl (k : Int) == 0)) = onF (Go.Proofs.YtfoifdoaleaekaaGreat.bits fl) k := by
  rw [bits_and_i64 fl k hk, hi, and_pow]
  unfold onF
  by_cases h : Go.Proofs.YtfoifdoaleaekaaGreat.bits fl / 2 ^ i % 2 = 1
  · rw [if_pos h, decide_eq_true h]
    have h2 : 0 < 2 ^ i := Nat.two_pow_pos i
    obtain ⟨z, hz⟩ : ∃ z, 2 ^ i = z := ⟨_, rfl⟩
    rw [hz] at h2 ⊢
    have h3 : ((z : Nat) : Int) ≠ 0 := by omega
    simpa using h3
  · rw [if_neg h, decide_eq_false h]
    rfl
theorem on_spec (β k i : Nat) (fl : Int) (r : Bool) (w : World) (h : w.cell? ⟨β, 3, none⟩ = some (.int .i64 fl)) (hk : k ≤ 4) (hi : k = 2 ^ i) (hr : onF (Go.Proofs.YtfoifdoaleaekaaGreat.bits fl) k = r) :
    Calls Tryz.prog 218 #[.pointer (some ⟨β, 3, none⟩), .int .i64 (k : Int)] w fun e w' => e = .returned (.bool r) ∧ w = w' := by
  have e1 := on_and fl k i hk hi
  rw [hr] at e1
  obtain ⟨q, hq⟩ : ∃ q, Go.bits .and .i64 fl (k : Int) = q := ⟨_, rfl⟩
  rw [hq] at e1
  clear hk hi hr
  go_enter Tryz.func218, Tryz.ntmps218
  go_wp2
  go_ret
  exact ⟨by rw [← e1]; rfl, rfl⟩
structure TxC (M : Bp) (s : List UInt8) (bx bs : Nat) (w : World) (o : Nat → Nat) : Prop where
  x : Blk w bx 122 #[.pointer (some ⟨M.β, 0, none⟩)]
  s : Blk w bs 9 #[.string ⟨s.toArray⟩]
  ox : o bx = 0
  os : o bs = 0
theorem TxC.cells {M : Bp} {s : List UInt8} {bx bs : Nat} {w : World} {o : Nat → Nat} (h : TxC M s bx bs w o) : w.cell? ⟨bx, 0, none⟩ = some (.pointer (some ⟨M.β, 0, none⟩)) ∧ w.cell? ⟨bs, 0, none⟩ = some (.string ⟨s.toArray⟩) := ⟨h.x.cell 0, h.s.cell 0⟩
theorem TxC.pure {M : Bp} {s : List UInt8} {bx bs : Nat} {w w' : World} {o : Nat → Nat} (h : TxC M s bx bs w o) (hb : Below w.heap.size w w') : TxC M s bx bs w' o := ⟨h.x.pure hb, h.s.pure hb, h.ox, h.os⟩
theorem txc_new (M : Bp) (s : List UInt8) (w : World) (o : Nat → Nat) : TxC M s w.heap.size (w.heap.size + 1) ((w.alloc (.cells #[.pointer (some ⟨M.β, 0, none⟩)] 122)).alloc (.cells #[.string ⟨s.toArray⟩] 9)) (newO o w.heap.size 0) :=
  ⟨(Blk.new w 122 #[.pointer (some ⟨M.β, 0, none⟩)]).alloc _, blk_new2 w _ 9 #[.string ⟨s.toArray⟩], newO_new (by omega), newO_new (by omega)⟩
end Go.Proofs.YtfoifdoaleaekaaGreat
