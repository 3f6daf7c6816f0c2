/-
  A row of nodes: one of them is stored anew. What stands while the children of a node are sorted, one after another.
  make([]string, n), make([]Node, n): rows of the call's own; two of them in whichever order.
-/
import Derived.Test.YtfoifdoaleaekaaGreatQa16
namespace Go.Proofs.YtfoifdoaleaekaaGreat
open Go.RowKit Go.Acc
theorem own_segk {α : Type} {f : α → List Value} {sz : Nat} {e : TypeId} (hf : ∀ x, (f x).length = sz) {w : World} {B g n c : Nat} {l : List α} (h : Go.Acc.Own f sz e w B (some ⟨g, 0, none⟩) n c l) : ∃ cur, Blk w g e cur ∧ n * sz ≤ cur.size ∧
    (∀ (w' : World) (cur' : Array Value) (off k : Nat) (m : List α), Blk w' g e cur' → Seg cur (off * sz) (m.flatMap f) (k * sz) cur' → m.length = k → off + k ≤ n → Go.Acc.Own f sz e w' B (some ⟨g, 0, none⟩) n c (l.take off ++ m ++ l.drop (off + k))) := by
  obtain ⟨hl, h1, h2⟩ := h
  rcases h2 with ⟨hv, _⟩ | ⟨g', cap, cur, hv, hb, hg, hnc, hcm, hcs, htake⟩
  · cases hv
  · injection hv with e1 _ e3
    injection e1 with e1
    injection e1 with e1
    subst e1 e3
    have hns : n * sz ≤ cur.size := by
      rw [hcs]
      exact Nat.mul_le_mul_right sz hnc
    refine ⟨cur, hg, hns, ?_⟩
    intro w' cur' off k m hB hS hm hk
    have hle : off * sz + k * sz ≤ n * sz := by rw [← Nat.add_mul]; exact Nat.mul_le_mul_right sz hk
    refine ⟨by simp; omega, ?_, .inr ⟨g, c, cur', rfl, hb, hB, hnc, hcm, by rw [hS.1]; exact hcs, ?_⟩⟩
    · rw [fm_length hf]; simp; rw [hm, hl]; congr 1; omega
    · rw [hS.take (by rw [fm_length hf, hm]) hle hns, htake, List.flatMap_append, List.flatMap_append, fm_take hf, fm_drop hf, Nat.add_mul]
theorem seg_six (cur : Array Value) (i : Nat) (x : Nv) (h : i + 6 ≤ cur.size) : Seg cur i (nvc x) 6 ((((((cur.setIfInBounds i (.int .i64 x.k)).setIfInBounds (i + 1) (.int .i64 x.n)).setIfInBounds (i + 2) (.int .u64 (x.u : Int))).setIfInBounds (i + 3) (.string ⟨x.s.toArray⟩)).setIfInBounds (i + 4) (.slice x.A x.an x.ac)).setIfInBounds (i + 5) (.slice x.B x.bn x.bc)) := by
  refine ⟨by simp, fun j => ?_⟩
  by_cases hj : i ≤ j ∧ j < i + 6
  · rw [if_pos hj]
    have hc : j = i ∨ j = i + 1 ∨ j = i + 2 ∨ j = i + 3 ∨ j = i + 4 ∨ j = i + 5 := by omega
    rcases hc with rfl | rfl | rfl | rfl | rfl | rfl
    · simp [Array.getElem?_setIfInBounds, nvc]; omega
    · simp [Array.getElem?_setIfInBounds, nvc]; omega
    · simp [Array.getElem?_setIfInBounds, nvc]; omega
    · simp [Array.getElem?_setIfInBounds, nvc]; omega
    · simp [Array.getElem?_setIfInBounds, nvc]; omega
    · simp [Array.getElem?_setIfInBounds, nvc]; omega
  · rw [if_neg hj]
    simp only [Array.getElem?_setIfInBounds]
    rw [if_neg (by omega), if_neg (by omega), if_neg (by omega), if_neg (by omega), if_neg (by omega), if_neg (by omega)]
theorem own_store6 {w : World} {B g n c i : Nat} {l : List Nv} (h : OwnT w B (some ⟨g, 0, none⟩) n c l) (hi : i < n) (x : Nv) :
    (∀ j, j < 6 → ∃ u, w.cell? ⟨g, i * 6 + j, none⟩ = some u) ∧ (∀ j, w.frozen? ⟨g, j, none⟩ = false) ∧ OwnT (((((((w).setCell ⟨g, i * 6, none⟩ (.int .i64 (x).k)).setCell ⟨g, i * 6 + 1, none⟩ (.int .i64 (x).n)).setCell ⟨g, i * 6 + 2, none⟩ (.int .u64 ((x).u : Int))).setCell ⟨g, i * 6 + 3, none⟩ (.string ⟨(x).s.toArray⟩)).setCell ⟨g, i * 6 + 4, none⟩ (.slice (x).A (x).an (x).ac)).setCell ⟨g, i * 6 + 5, none⟩ (.slice (x).B (x).bn (x).bc)) B (some ⟨g, 0, none⟩) n c (l.set i x) := by
  obtain ⟨cur, hK, hsz, hback⟩ := own_segk nvc_len h
  refine ⟨fun j hj => ⟨cur[i * 6 + j]'(by omega), by rw [hK.cell, Array.getElem?_eq_getElem (by omega)]⟩, fun j => hK.frozen j, ?_⟩
  have hb := hback _ _ i 1 [x] ((((((hK.set_ (i * 6) (.int .i64 x.k)).set_ (i * 6 + 1) (.int .i64 x.n)).set_ (i * 6 + 2) (.int .u64 (x.u : Int))).set_ (i * 6 + 3) (.string ⟨x.s.toArray⟩)).set_ (i * 6 + 4) (.slice x.A x.an x.ac)).set_ (i * 6 + 5) (.slice x.B x.bn x.bc)) (by simpa using seg_six cur (i * 6) x (by omega)) rfl (by omega)
  have hl : l.length = n := h.1
  have e : l.take i ++ [x] ++ l.drop (i + 1) = l.set i x := by
    rw [List.set_eq_take_append_cons_drop, if_pos (by omega)]
    simp
  rw [e] at hb
  exact hb
theorem fr_at6 (w : World) (g o : Nat) (x : Nv) : Fr (fun j => j = g) w (((((((w).setCell ⟨g, o, none⟩ (.int .i64 (x).k)).setCell ⟨g, o + 1, none⟩ (.int .i64 (x).n)).setCell ⟨g, o + 2, none⟩ (.int .u64 ((x).u : Int))).setCell ⟨g, o + 3, none⟩ (.string ⟨(x).s.toArray⟩)).setCell ⟨g, o + 4, none⟩ (.slice (x).A (x).an (x).ac)).setCell ⟨g, o + 5, none⟩ (.slice (x).B (x).bn (x).bc)) :=
  ((((((Fr.refl (fun j => j = g) w).setCell (p := ⟨g, o, none⟩) (fun _ => rfl) _).setCell (p := ⟨g, o + 1, none⟩) (fun _ => rfl) _).setCell (p := ⟨g, o + 2, none⟩) (fun _ => rfl) _).setCell (p := ⟨g, o + 3, none⟩) (fun _ => rfl) _).setCell (p := ⟨g, o + 4, none⟩) (fun _ => rfl) _).setCell (p := ⟨g, o + 5, none⟩) (fun _ => rfl) _
/-- What stands where k children are sorted, and the rest lies as it lay in W0. -/
structure SrR (W0 wr : World) (q : Nat → Nat → Prop) (A : Option Addr) (n c k : Nat) (vs : List Nv) (ts : List Tr) (us : List Nv) : Prop where
  own : OwnT wr 0 A n c us
  rest : ∀ i, k ≤ i → us[i]? = vs[i]?
  done : ∀ (i : Nat) v t, i < k → us[i]? = some v → ts[i]? = some t → NodeR wr (fun b => q i b ∨ (W0.heap.size ≤ b ∧ b < wr.heap.size)) v (sortT t)
  fr : Fr (fun b => (∃ i, q i b) ∨ ∃ ad, A = some ad ∧ b = ad.block) W0 wr
  same : ∀ i b, k ≤ i → q i b → wr.heap[b]? = W0.heap[b]?
theorem SrR.step {W0 wr W5 W6 : World} {q : Nat → Nat → Prop} {g n c k : Nat} {vs : List Nv} {ts : List Tr} {us : List Nv} {y : Nv} {t : Tr} (h : SrR W0 wr q (some ⟨g, 0, none⟩) n c k vs ts us) (hk : k < n) (ht : ts[k]? = some t)
    (hq : ∀ i b, q i b → b < W0.heap.size ∧ b ≠ g) (hg : g < W0.heap.size) (hd : ∀ i j b, i ≠ j → q i b → ¬ q j b) (hb : Below wr.heap.size wr W5)
    (hy : NodeR W6 (fun b => q k b ∨ (W5.heap.size ≤ b ∧ b < W6.heap.size)) y (sortT t)) (hf : Fr (q k) W5 W6) :
    SrR W0 (((((((W6).setCell ⟨g, k * 6, none⟩ (.int .i64 (y).k)).setCell ⟨g, k * 6 + 1, none⟩ (.int .i64 (y).n)).setCell ⟨g, k * 6 + 2, none⟩ (.int .u64 ((y).u : Int))).setCell ⟨g, k * 6 + 3, none⟩ (.string ⟨(y).s.toArray⟩)).setCell ⟨g, k * 6 + 4, none⟩ (.slice (y).A (y).an (y).ac)).setCell ⟨g, k * 6 + 5, none⟩ (.slice (y).B (y).bn (y).bc)) q (some ⟨g, 0, none⟩) n c (k + 1) vs ts (us.set k y) := by
  have hs : W0.heap.size ≤ wr.heap.size := h.fr.size
  have hs5 := hb.size
  have hs6 := hf.size
  have hO6 : OwnT W6 0 (some ⟨g, 0, none⟩) n c us := (h.own.pure hb).fr hf (fun ad e => by injection e with e; subst e; intro hh; exact (hq k g hh).2 rfl)
  have hF7 := fr_at6 W6 g (k * 6) y
  have hO7 := (own_store6 hO6 hk y).2.2
  have hl : us.length = n := h.own.1
  clear hO6
  generalize (((((((W6).setCell ⟨g, k * 6, none⟩ (.int .i64 (y).k)).setCell ⟨g, k * 6 + 1, none⟩ (.int .i64 (y).n)).setCell ⟨g, k * 6 + 2, none⟩ (.int .u64 ((y).u : Int))).setCell ⟨g, k * 6 + 3, none⟩ (.string ⟨(y).s.toArray⟩)).setCell ⟨g, k * 6 + 4, none⟩ (.slice (y).A (y).an (y).ac)).setCell ⟨g, k * 6 + 5, none⟩ (.slice (y).B (y).bn (y).bc)) = W7 at hF7 hO7 ⊢
  refine ⟨hO7, fun i hi => ?_, fun i v t' hi hv ht' => ?_, ?_, fun i b hi hqi => ?_⟩
  · rw [List.getElem?_set_ne (by omega)]
    exact h.rest i (by omega)
  · by_cases e : i = k
    · subst e
      rw [List.getElem?_set_self (by omega)] at hv
      injection hv with hv
      subst hv
      rw [ht] at ht'
      injection ht' with ht'
      subst ht'
      refine (hy.keep fun a u hc hp => cell_fr hF7 hc ?_).mono fun b hb => ?_
      · rcases hp with hp | hp
        · exact (hq _ _ hp).2
        · omega
      · have := hF7.size
        rcases hb with hb | hb
        · exact .inl hb
        · exact .inr ⟨by omega, by omega⟩
    · rw [List.getElem?_set_ne (by omega)] at hv
      refine ((h.done i v t' (by omega) hv ht').keep fun a u hc hp => cell_fr hF7 (cell_fr hf (cell_pure hb hc) ?_) ?_).mono fun b hb => ?_
      · intro hqk
        rcases hp with hp | hp
        · exact hd i k _ e hp hqk
        · have := (hq _ _ hqk).1
          omega
      · rcases hp with hp | hp
        · exact (hq _ _ hp).2
        · omega
      · have := hF7.size
        rcases hb with hb | hb
        · exact .inl hb
        · exact .inr ⟨hb.1, by omega⟩
  · refine ((h.fr.trans (Fr.of_below hb (fun _ => False)) (fun _ _ h => h.elim)).trans hf (fun i _ hh => .inl ⟨k, hh⟩)).trans hF7 (fun i _ hh => .inr ⟨_, rfl, hh⟩)
  · obtain ⟨h1, h2⟩ := hq i b hqi
    rw [hF7.block b (by omega) h2, hf.block b (by omega) (fun hk => hd i k b (by omega) hqi hk), hb.block b (by omega)]
    exact h.same i b (by omega) hqi
theorem cell_set6 {w : World} {a : Addr} {u : Value} {g o : Nat} {x : Nv} (h : w.cell? a = some u) (hne : a.block ≠ g) : World.cell? (((((((w).setCell ⟨g, o, none⟩ (.int .i64 (x).k)).setCell ⟨g, o + 1, none⟩ (.int .i64 (x).n)).setCell ⟨g, o + 2, none⟩ (.int .u64 ((x).u : Int))).setCell ⟨g, o + 3, none⟩ (.string ⟨(x).s.toArray⟩)).setCell ⟨g, o + 4, none⟩ (.slice (x).A (x).an (x).ac)).setCell ⟨g, o + 5, none⟩ (.slice (x).B (x).bn (x).bc)) a = some u := cell_fr (fr_at6 w g o x) h hne
/-- A node is sorted. -/
def SrtW (w : World) (p : Nat → Prop) (t : Tr) (e : Ending) (w' : World) : Prop :=
  ∃ x : Nv, e = .returned (.agg #[.int .i64 x.k, .int .i64 x.n, .int .u64 (x.u : Int), .string ⟨x.s.toArray⟩, .slice x.A x.an x.ac, .slice x.B x.bn x.bc]) ∧ NodeR w' (fun b => p b ∨ (w.heap.size ≤ b ∧ b < w'.heap.size)) x (sortT t) ∧ Fr p w w'
end Go.Proofs.YtfoifdoaleaekaaGreat

namespace Go.Proofs.YtfoifdoaleaekaaGreat
open Go.RowKit Go.Acc
theorem made_st (n : Nat) : (madeCells #[.string ⟨#[]⟩] n).toList = (List.replicate n ([] : List UInt8)).flatMap stc := by
  apply List.ext_getElem?
  intro j
  by_cases hj : j < n
  · have h1 := fm_at stc_len (List.replicate n ([] : List UInt8)) j 0 (by simpa using hj) (by omega)
    rw [Nat.mul_one, Nat.add_zero, List.getElem_replicate] at h1
    rw [h1]
    simp [madeCells, hj, stc, Nat.mod_one]
  · rw [List.getElem?_eq_none (by simp [madeCells]; omega), List.getElem?_eq_none (by rw [fm_length stc_len]; simp; omega)]
def nv0 : Nv := ⟨0, 0, 0, [], none, 0, 0, none, 0, 0⟩
theorem made_nd (n : Nat) : (madeCells #[.int .i64 0, .int .i64 0, .int .u64 0, .string ⟨#[]⟩, .slice none 0 0, .slice none 0 0] (n * 6)).toList = (List.replicate n nv0).flatMap nvc := by
  apply List.ext_getElem?
  intro j
  by_cases hj : j < n * 6
  · have h1 := fm_at nvc_len (List.replicate n nv0) (j / 6) (j % 6) (by simp; omega) (by omega)
    rw [show j / 6 * 6 + j % 6 = j by omega, List.getElem_replicate] at h1
    rw [h1]
    have h6 : j % 6 = 0 ∨ j % 6 = 1 ∨ j % 6 = 2 ∨ j % 6 = 3 ∨ j % 6 = 4 ∨ j % 6 = 5 := by omega
    rcases h6 with h6 | h6 | h6 | h6 | h6 | h6 <;> simp [madeCells, hj, nvc, nv0, h6]
  · rw [List.getElem?_eq_none (by simp [madeCells]; omega), List.getElem?_eq_none (by rw [fm_length nvc_len]; simp; omega)]
theorem make_s (n : Nat) (hn : n ≤ 1099511627776) : ∃ Z : Array Value, Z.toList = (List.replicate n ([] : List UInt8)).flatMap stc ∧ ∀ W : World, (Instr.makeSlice 23 (.int .i64 (n : Int)) (.int .i64 (n : Int))).run Tryz.prog W = .ok (.slice (some ⟨W.heap.size, 0, none⟩) n n) (W.alloc (.cells Z 9)) := by
  obtain ⟨i, hi, hz, hs, hb⟩ := info_parts info_st
  refine ⟨_, made_st n, fun W => ?_⟩
  have hr := run_make (P := Tryz.prog) W 23 9 i _ Tryz.underlying23 hi hz .i64 .i64 n n (by omega) (Int.le_refl _) (by rw [hb]; omega) (by omega)
  simp only [Int.toNat_natCast, hs, Nat.mul_one] at hr
  exact hr
theorem make_nd (n : Nat) (hn : n ≤ 1099511627776) : ∃ Z : Array Value, Z.toList = (List.replicate n nv0).flatMap nvc ∧ ∀ W : World, (Instr.makeSlice 24 (.int .i64 (n : Int)) (.int .i64 (n : Int))).run Tryz.prog W = .ok (.slice (some ⟨W.heap.size, 0, none⟩) n n) (W.alloc (.cells Z 26)) := by
  obtain ⟨i, hi, hz, hs, hb⟩ := info_parts info_nd
  refine ⟨_, made_nd n, fun W => ?_⟩
  have hr := run_make (P := Tryz.prog) W 24 26 i _ Tryz.underlying24 hi hz .i64 .i64 n n (by omega) (Int.le_refl _) (by rw [hb]; omega) (by omega)
  simp only [Int.toNat_natCast, hs] at hr
  exact hr
theorem own_litk {α : Type} {f : α → List Value} {sz : Nat} {e : TypeId} (hf : ∀ x, (f x).length = sz) (W : World) (Z : Array Value) (n B : Nat) (l : List α) (hB : B ≤ W.heap.size) (hn : l.length = n) (hm : n ≤ 1099511627776) (hZ : Z.toList = l.flatMap f) : Go.Acc.Own f sz e (W.alloc (.cells Z e)) B (some ⟨W.heap.size, 0, none⟩) n n l := by
  refine ⟨hn, ?_⟩
  have hs : Z.size = n * sz := by rw [← Array.length_toList, hZ, fm_length hf, hn]
  have := World.ownsRow_lit (base := B) (e := e) (size := sz) W Z n hB (by simp only [maxLen]; omega) hs
  rw [hZ] at this
  exact this
/-- Two rows of n, of strings and of nodes, lie in the world w. -/
def Two2 (B n : Nat) (K : List (List UInt8)) (L : List Nv) (u v : Value) (w : World) : Prop :=
  ∃ g h, u = .slice (some ⟨g, 0, none⟩) n n ∧ v = .slice (some ⟨h, 0, none⟩) n n ∧ OwnS w B (some ⟨g, 0, none⟩) n n K ∧ OwnT w B (some ⟨h, 0, none⟩) n n L ∧ g ≠ h
theorem two2_a {W : World} {Z Y : Array Value} {n : Nat} (hn : n ≤ 1099511627776) (hZ : Z.toList = (List.replicate n ([] : List UInt8)).flatMap stc) (hY : Y.toList = (List.replicate n nv0).flatMap nvc) :
    Two2 W.heap.size n (List.replicate n []) (List.replicate n nv0) (.slice (some ⟨W.heap.size, 0, none⟩) n n) (.slice (some ⟨W.heap.size + 1, 0, none⟩) n n) ((W.alloc (.cells Z 9)).alloc (.cells Y 26)) := by
  have h1 := own_litk (e := 9) stc_len W Z n W.heap.size (List.replicate n []) (Nat.le_refl _) (by simp) hn hZ
  have h2 := own_litk (e := 26) nvc_len (W.alloc (.cells Z 9)) Y n W.heap.size (List.replicate n nv0) (by simp) (by simp) hn hY
  have e : (W.alloc (.cells Z 9)).heap.size = W.heap.size + 1 := by simp
  rw [e] at h2
  exact ⟨_, _, rfl, rfl, h1.pure ((Below.refl _ _).alloc (Nat.le_refl _) _), h2, by omega⟩
theorem two2_b {W : World} {Z Y : Array Value} {n : Nat} (hn : n ≤ 1099511627776) (hZ : Z.toList = (List.replicate n ([] : List UInt8)).flatMap stc) (hY : Y.toList = (List.replicate n nv0).flatMap nvc) :
    Two2 W.heap.size n (List.replicate n []) (List.replicate n nv0) (.slice (some ⟨W.heap.size + 1, 0, none⟩) n n) (.slice (some ⟨W.heap.size, 0, none⟩) n n) ((W.alloc (.cells Y 26)).alloc (.cells Z 9)) := by
  have h2 := own_litk (e := 26) nvc_len W Y n W.heap.size (List.replicate n nv0) (Nat.le_refl _) (by simp) hn hY
  have h1 := own_litk (e := 9) stc_len (W.alloc (.cells Y 26)) Z n W.heap.size (List.replicate n []) (by simp) (by simp) hn hZ
  have e : (W.alloc (.cells Y 26)).heap.size = W.heap.size + 1 := by simp
  rw [e] at h1
  exact ⟨_, _, rfl, rfl, h1, h2.pure ((Below.refl _ _).alloc (Nat.le_refl _) _), by omega⟩
end Go.Proofs.YtfoifdoaleaekaaGreat
