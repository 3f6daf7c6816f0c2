/-
  A row of nodes: one of them is stored anew. What stands while the children of a node are sorted, one after another.
  make([]string, n), make([]Node, n): rows of the call's own; two of them in whichever order.
  Package fit: All.
-/
import Derived.Test.YtfoifdoaleaekaaGreatQf22
namespace Go.Proofs.YtfoifdoaleaekaaGreat
open Go.RowKit Go.Acc
theorem own_segk {α : Type} {f : α → List Value} {sz : Nat} {e : TypeId} (hf : ∀ x, (f x).length = sz) {w : World} {B g n c : Nat} {l : List α} (h : Go.Acc.Own f sz e w B (some ⟨g, 0, none⟩) n c l) : ∃ cur, Blk w g e cur ∧ n * sz ≤ cur.size ∧
    (∀ (w' : World) (cur' : Array Value) (off k : Nat) (m : List α), Blk w' g e cur' → Seg cur (off * sz) (m.flatMap f) (k * sz) cur' → m.length = k → off + k ≤ n → Go.Acc.Own f sz e w' B (some ⟨g, 0, none⟩) n c (l.take off ++ m ++ l.drop (off + k))) := by
  obtain ⟨hl, h1, h2⟩ := h
  rcases h2 with ⟨hv, _⟩ | ⟨g', cap, cur, hv, hb, hg, hnc, hcm, hcs, htake⟩
  · cases hv
  · injection hv with e1 _ e3
    injection e1 with e1
    injection e1 with e1
    subst e1 e3
    have hns : n * sz ≤ cur.size := by
      rw [hcs]
      exact Nat.mul_le_mul_right sz hnc
    refine ⟨cur, hg, hns, ?_⟩
    intro w' cur' off k m hB hS hm hk
    have hle : off * sz + k * sz ≤ n * sz := by rw [← Nat.add_mul]; exact Nat.mul_le_mul_right sz hk
    refine ⟨by simp; omega, ?_, .inr ⟨g, c, cur', rfl, hb, hB, hnc, hcm, by rw [hS.1]; exact hcs, ?_⟩⟩
    · rw [fm_length hf]; simp; rw [hm, hl]; congr 1; omega
    · rw [hS.take (by rw [fm_length hf, hm]) hle hns, htake, List.flatMap_append, List.flatMap_append, fm_take hf, fm_drop hf, Nat.add_mul]
theorem seg_six (cur : Array Value) (i : Nat) (x : Nv) (h : i + 6 ≤ cur.size) : Seg cur i (nvc x) 6 ((((((cur.setIfInBounds i (.int .i64 x.k)).setIfInBounds (i + 1) (.int .i64 x.n)).setIfInBounds (i + 2) (.int .u64 (x.u : Int))).setIfInBounds (i + 3) (.string ⟨x.s.toArray⟩)).setIfInBounds (i + 4) (.slice x.A x.an x.ac)).setIfInBounds (i + 5) (.slice x.B x.bn x.bc)) := by
  refine ⟨by simp, fun j => ?_⟩
  by_cases hj : i ≤ j ∧ j < i + 6
  · rw [if_pos hj]
    have hc : j = i ∨ j = i + 1 ∨ j = i + 2 ∨ j = i + 3 ∨ j = i + 4 ∨ j = i + 5 := by omega
    rcases hc with rfl | rfl | rfl | rfl | rfl | rfl
    · simp [Array.getElem?_setIfInBounds, nvc]; omega
    · simp [Array.getElem?_setIfInBounds, nvc]; omega
    · simp [Array.getElem?_setIfInBounds, nvc]; omega
    · simp [Array.getElem?_setIfInBounds, nvc]; omega
    · simp [Array.getElem?_setIfInBounds, nvc]; omega
    · simp [Array.getElem?_setIfInBounds, nvc]; omega
  · rw [if_neg hj]
    simp only [Array.getElem?_setIfInBounds]
    rw [if_neg (by omega), if_neg (by omega), if_neg (by omega), if_neg (by omega), if_neg (by omega), if_neg (by omega)]
theorem own_store6 {w : World} {B g n c i : Nat} {l : List Nv} (h : OwnT w B (some ⟨g, 0, none⟩) n c l) (hi : i < n) (x : Nv) :
    (∀ j, j < 6 → ∃ u, w.cell? ⟨g, i * 6 + j, none⟩ = some u) ∧ (∀ j, w.frozen? ⟨g, j, none⟩ = false) ∧ OwnT (((((((w).setCell ⟨g, i * 6, none⟩ (.int .i64 (x).k)).setCell ⟨g, i * 6 + 1, none⟩ (.int .i64 (x).n)).setCell ⟨g, i * 6 + 2, none⟩ (.int .u64 ((x).u : Int))).setCell ⟨g, i * 6 + 3, none⟩ (.string ⟨(x).s.toArray⟩)).setCell ⟨g, i * 6 + 4, none⟩ (.slice (x).A (x).an (x).ac)).setCell ⟨g, i * 6 + 5, none⟩ (.slice (x).B (x).bn (x).bc)) B (some ⟨g, 0, none⟩) n c (l.set i x) := by
  obtain ⟨cur, hK, hsz, hback⟩ := own_segk nvc_len h
  refine ⟨fun j hj => ⟨cur[i * 6 + j]'(by omega), by rw [hK.cell, Array.getElem?_eq_getElem (by omega)]⟩, fun j => hK.frozen j, ?_⟩
  have hb := hback _ _ i 1 [x] ((((((hK.set_ (i * 6) (.int .i64 x.k)).set_ (i * 6 + 1) (.int .i64 x.n)).set_ (i * 6 + 2) (.int .u64 (x.u : Int))).set_ (i * 6 + 3) (.string ⟨x.s.toArray⟩)).set_ (i * 6 + 4) (.slice x.A x.an x.ac)).set_ (i * 6 + 5) (.slice x.B x.bn x.bc)) (by simpa using seg_six cur (i * 6) x (by omega)) rfl (by omega)
  have hl : l.length = n := h.1
  have e : l.take i ++ [x] ++ l.drop (i + 1) = l.set i x := by
    rw [List.set_eq_take_append_cons_drop, if_pos (by omega)]
    simp
  rw [e] at hb
  exact hb
theorem fr_at6 (w : World) (g o : Nat) (x : Nv) : Fr (fun j => j = g) w (((((((w).setCell ⟨g, o, none⟩ (.int .i64 (x).k)).setCell ⟨g, o + 1, none⟩ (.int .i64 (x).n)).setCell ⟨g, o + 2, none⟩ (.int .u64 ((x).u : Int))).setCell ⟨g, o + 3, none⟩ (.string ⟨(x).s.toArray⟩)).setCell ⟨g, o + 4, none⟩ (.slice (x).A (x).an (x).ac)).setCell ⟨g, o + 5, none⟩ (.slice (x).B (x).bn (x).bc)) :=
  ((((((Fr.refl (fun j => j = g) w).setCell (p := ⟨g, o, none⟩) (fun _ => rfl) _).setCell (p := ⟨g, o + 1, none⟩) (fun _ => rfl) _).setCell (p := ⟨g, o + 2, none⟩) (fun _ => rfl) _).setCell (p := ⟨g, o + 3, none⟩) (fun _ => rfl) _).setCell (p := ⟨g, o + 4, none⟩) (fun _ => rfl) _).setCell (p := ⟨g, o + 5, none⟩) (fun _ => rfl) _
structure SrR (W0 wr : World) (q : Nat → Nat → Prop) (A : Option Addr) (n c k : Nat) (vs : List Nv) (ts : List Tr) (us : List Nv) : Prop where
  own : OwnT wr 0 A n c us
  rest : ∀ i, k ≤ i → us[i]? = vs[i]?
  done : ∀ (i : Nat) v t, i < k → us[i]? = some v → ts[i]? = some t → NodeR wr (fun b => q i b ∨ (W0.heap.size ≤ b ∧ b < wr.heap.size)) v (sortT t)
  fr : Fr (fun b => (∃ i, q i b) ∨ ∃ ad, A = some ad ∧ b = ad.block) W0 wr
  same : ∀ i b, k ≤ i → q i b → wr.heap[b]? = W0.heap[b]?
theorem SrR.step {W0 wr W5 W6 : World} {q : Nat → Nat → Prop} {g n c k : Nat} {vs : List Nv} {ts : List Tr} {us : List Nv} {y : Nv} {t : Tr} (h : SrR W0 wr q (some ⟨g, 0, none⟩) n c k vs ts us) (hk : k < n) (ht : ts[k]? = some t)
    (hq : ∀ i b, q i b → b < W0.heap.size ∧ b ≠ g) (hg : g < W0.heap.size) (hd : ∀ i j b, i ≠ j → q i b → ¬ q j b) (hb : Below wr.heap.size wr W5)
    (hy : NodeR W6 (fun b => q k b ∨ (W5.heap.size ≤ b ∧ b < W6.heap.size)) y (sortT t)) (hf : Fr (q k) W5 W6) :
    SrR W0 (((((((W6).setCell ⟨g, k * 6, none⟩ (.int .i64 (y).k)).setCell ⟨g, k * 6 + 1, none⟩ (.int .i64 (y).n)).setCell ⟨g, k * 6 + 2, none⟩ (.int .u64 ((y).u : Int))).setCell ⟨g, k * 6 + 3, none⟩ (.string ⟨(y).s.toArray⟩)).setCell ⟨g, k * 6 + 4, none⟩ (.slice (y).A (y).an (y).ac)).setCell ⟨g, k * 6 + 5, none⟩ (.slice (y).B (y).bn (y).bc)) q (some ⟨g, 0, none⟩) n c (k + 1) vs ts (us.set k y) := by
  have hs : W0.heap.size ≤ wr.heap.size := h.fr.size
  have hs5 := hb.size
  have hs6 := hf.size
  have hO6 : OwnT W6 0 (some ⟨g, 0, none⟩) n c us := (h.own.pure hb).fr hf (fun ad e => by injection e with e; subst e; intro hh; exact (hq k g hh).2 rfl)
  have hF7 := fr_at6 W6 g (k * 6) y
  have hO7 := (own_store6 hO6 hk y).2.2
  have hl : us.length = n := h.own.1
  clear hO6
  generalize (((((((W6).setCell ⟨g, k * 6, none⟩ (.int .i64 (y).k)).setCell ⟨g, k * 6 + 1, none⟩ (.int .i64 (y).n)).setCell ⟨g, k * 6 + 2, none⟩ (.int .u64 ((y).u : Int))).setCell ⟨g, k * 6 + 3, none⟩ (.string ⟨(y).s.toArray⟩)).setCell ⟨g, k * 6 + 4, none⟩ (.slice (y).A (y).an (y).ac)).setCell ⟨g, k * 6 + 5, none⟩ (.slice (y).B (y).bn (y).bc)) = W7 at hF7 hO7 ⊢
  refine ⟨hO7, fun i hi => ?_, fun i v t' hi hv ht' => ?_, ?_, fun i b hi hqi => ?_⟩
  · rw [List.getElem?_set_ne (by omega)]
    exact h.rest i (by omega)
  · by_cases e : i = k
    · subst e
      rw [List.getElem?_set_self (by omega)] at hv
      injection hv with hv
      subst hv
      rw [ht] at ht'
      injection ht' with ht'
      subst ht'
      refine (hy.keep fun a u hc hp => cell_fr hF7 hc ?_).mono fun b hb => ?_
      · rcases hp with hp | hp
        · exact (hq _ _ hp).2
        · omega
      · have := hF7.size
        rcases hb with hb | hb
        · exact .inl hb
        · exact .inr ⟨by omega, by omega⟩
    · rw [List.getElem?_set_ne (by omega)] at hv
      refine ((h.done i v t' (by omega) hv ht').keep fun a u hc hp => cell_fr hF7 (cell_fr hf (cell_pure hb hc) ?_) ?_).mono fun b hb => ?_
      · intro hqk
        rcases hp with hp | hp
        · exact hd i k _ e hp hqk
        · have := (hq _ _ hqk).1
          omega
      · rcases hp with hp | hp
        · exact (hq _ _ hp).2
        · omega
      · have := hF7.size
        rcases hb with hb | hb
        · exact .inl hb
        · exact .inr ⟨hb.1, by omega⟩
  · refine ((h.fr.trans (Fr.of_below hb (fun _ => False)) (fun _ _ h => h.elim)).trans hf (fun i _ hh => .inl ⟨k, hh⟩)).trans hF7 (fun i _ hh => .inr ⟨_, rfl, hh⟩)
  · obtain ⟨h1, h2⟩ := hq i b hqi
    rw [hF7.block b (by omega) h2, hf.block b (by omega) (fun hk => hd i k b (by omega) hqi hk), hb.block b (by omega)]
    exact h.same i b (by omega) hqi
theorem cell_set6 {w : World} {a : Addr} {u : Value} {g o : Nat} {x : Nv} (h : w.cell? a = some u) (hne : a.block ≠ g) : World.cell? (((((((w).setCell ⟨g, o, none⟩ (.int .i64 (x).k)).setCell ⟨g, o + 1, none⟩ (.int .i64 (x).n)).setCell ⟨g, o + 2, none⟩ (.int .u64 ((x).u : Int))).setCell ⟨g, o + 3, none⟩ (.string ⟨(x).s.toArray⟩)).setCell ⟨g, o + 4, none⟩ (.slice (x).A (x).an (x).ac)).setCell ⟨g, o + 5, none⟩ (.slice (x).B (x).bn (x).bc)) a = some u := cell_fr (fr_at6 w g o x) h hne
def SrtW (w : World) (p : Nat → Prop) (t : Tr) (e : Ending) (w' : World) : Prop :=
  ∃ x : Nv, e = .returned (.agg #[.int .i64 x.k, .int .i64 x.n, .int .u64 (x.u : Int), .string ⟨x.s.toArray⟩, .slice x.A x.an x.ac, .slice x.B x.bn x.bc]) ∧ NodeR w' (fun b => p b ∨ (w.heap.size ≤ b ∧ b < w'.heap.size)) x (sortT t) ∧ Fr p w w'
end Go.Proofs.YtfoifdoaleaekaaGreat

namespace Go.Proofs.YtfoifdoaleaekaaGreat
open Go.RowKit Go.Acc
theorem made_st (n : Nat) : (madeCells #[.string ⟨#[]⟩] n).toList = (List.replicate n ([] : List UInt8)).flatMap stc := by
  apply List.ext_getElem?
  intro j
  by_cases hj : j < n
  · have h1 := fm_at stc_len (List.replicate n ([] : List UInt8)) j 0 (by simpa using hj) (by omega)
    rw [Nat.mul_one, Nat.add_zero, List.getElem_replicate] at h1
    rw [h1]
    simp [madeCells, hj, stc, Nat.mod_one]
  · rw [List.getElem?_eq_none (by simp [madeCells]; omega), List.getElem?_eq_none (by rw [fm_length stc_len]; simp; omega)]
def nv0 : Nv := ⟨0, 0, 0, [], none, 0, 0, none, 0, 0⟩
theorem made_nd (n : Nat) : (madeCells #[.int .i64 0, .int .i64 0, .int .u64 0, .string ⟨#[]⟩, .slice none 0 0, .slice none 0 0] (n * 6)).toList = (List.replicate n nv0).flatMap nvc := by
  apply List.ext_getElem?
  intro j
  by_cases hj : j < n * 6
  · have h1 := fm_at nvc_len (List.replicate n nv0) (j / 6) (j % 6) (by simp; omega) (by omega)
    rw [show j / 6 * 6 + j % 6 = j by omega, List.getElem_replicate] at h1
    rw [h1]
    have h6 : j % 6 = 0 ∨ j % 6 = 1 ∨ j % 6 = 2 ∨ j % 6 = 3 ∨ j % 6 = 4 ∨ j % 6 = 5 := by omega
    rcases h6 with h6 | h6 | h6 | h6 | h6 | h6 <;> simp [madeCells, hj, nvc, nv0, h6]
  · rw [List.getElem?_eq_none (by simp [madeCells]; omega), List.getElem?_eq_none (by rw [fm_length nvc_len]; simp; omega)]
theorem make_s (n : Nat) (hn : n ≤ 1099511627776) : ∃ Z : Array Value, Z.toList = (List.replicate n ([] : List UInt8)).flatMap stc ∧ ∀ W : World, (Instr.makeSlice 23 (.int .i64 (n : Int)) (.int .i64 (n : Int))).run Tryz.prog W = .ok (.slice (some ⟨W.heap.size, 0, none⟩) n n) (W.alloc (.cells Z 9)) := by
  obtain ⟨i, hi, hz, hs, hb⟩ := info_parts info_st
  refine ⟨_, made_st n, fun W => ?_⟩
  have hr := run_make (P := Tryz.prog) W 23 9 i _ Tryz.underlying23 hi hz .i64 .i64 n n (by omega) (Int.le_refl _) (by rw [hb]; omega) (by omega)
  simp only [Int.toNat_natCast, hs, Nat.mul_one] at hr
  exact hr
theorem make_nd (n : Nat) (hn : n ≤ 1099511627776) : ∃ Z : Array Value, Z.toList = (List.replicate n nv0).flatMap nvc ∧ ∀ W : World, (Instr.makeSlice 24 (.int .i64 (n : Int)) (.int .i64 (n : Int))).run Tryz.prog W = .ok (.slice (some ⟨W.heap.size, 0, none⟩) n n) (W.alloc (.cells Z 26)) := by
  obtain ⟨i, hi, hz, hs, hb⟩ := info_parts info_nd
  refine ⟨_, made_nd n, fun W => ?_⟩
  have hr := run_make (P := Tryz.prog) W 24 26 i _ Tryz.underlying24 hi hz .i64 .i64 n n (by omega) (Int.le_refl _) (by rw [hb]; omega) (by omega)
  simp only [Int.toNat_natCast, hs] at hr
  exact hr
theorem own_litk {α : Type} {f : α → List Value} {sz : Nat} {e : TypeId} (hf : ∀ x, (f x).length = sz) (W : World) (Z : Array Value) (n B : Nat) (l : List α) (hB : B ≤ W.heap.size) (hn : l.length = n) (hm : n ≤ 1099511627776) (hZ : Z.toList = l.flatMap f) : Go.Acc.Own f sz e (W.alloc (.cells Z e)) B (some ⟨W.heap.size, 0, none⟩) n n l := by
  refine ⟨hn, ?_⟩
  have hs : Z.size = n * sz := by rw [← Array.length_toList, hZ, fm_length hf, hn]
  have := World.ownsRow_lit (base := B) (e := e) (size := sz) W Z n hB (by simp only [maxLen]; omega) hs
  rw [hZ] at this
  exact this
def Two2 (B n : Nat) (K : List (List UInt8)) (L : List Nv) (u v : Value) (w : World) : Prop :=
  ∃ g h, u = .slice (some ⟨g, 0, none⟩) n n ∧ v = .slice (some ⟨h, 0, none⟩) n n ∧ OwnS w B (some ⟨g, 0, none⟩) n n K ∧ OwnT w B (some ⟨h, 0, none⟩) n n L ∧ g ≠ h
theorem two2_a {W : World} {Z Y : Array Value} {n : Nat} (hn : n ≤ 1099511627776) (hZ : Z.toList = (List.replicate n ([] : List UInt8)).flatMap stc) (hY : Y.toList = (List.replicate n nv0).flatMap nvc) :
    Two2 W.heap.size n (List.replicate n []) (List.replicate n nv0) (.slice (some ⟨W.heap.size, 0, none⟩) n n) (.slice (some ⟨W.heap.size + 1, 0, none⟩) n n) ((W.alloc (.cells Z 9)).alloc (.cells Y 26)) := by
  have h1 := own_litk (e := 9) stc_len W Z n W.heap.size (List.replicate n []) (Nat.le_refl _) (by simp) hn hZ
  have h2 := own_litk (e := 26) nvc_len (W.alloc (.cells Z 9)) Y n W.heap.size (List.replicate n nv0) (by simp) (by simp) hn hY
  have e : (W.alloc (.cells Z 9)).heap.size = W.heap.size + 1 := by simp
  rw [e] at h2
  exact ⟨_, _, rfl, rfl, h1.pure ((Below.refl _ _).alloc (Nat.le_refl _) _), h2, by omega⟩
theorem two2_b {W : World} {Z Y : Array Value} {n : Nat} (hn : n ≤ 1099511627776) (hZ : Z.toList = (List.replicate n ([] : List UInt8)).flatMap stc) (hY : Y.toList = (List.replicate n nv0).flatMap nvc) :
    Two2 W.heap.size n (List.replicate n []) (List.replicate n nv0) (.slice (some ⟨W.heap.size + 1, 0, none⟩) n n) (.slice (some ⟨W.heap.size, 0, none⟩) n n) ((W.alloc (.cells Y 26)).alloc (.cells Z 9)) := by
  have h2 := own_litk (e := 26) nvc_len W Y n W.heap.size (List.replicate n nv0) (Nat.le_refl _) (by simp) hn hY
  have h1 := own_litk (e := 9) stc_len (W.alloc (.cells Y 26)) Z n W.heap.size (List.replicate n []) (by simp) (by simp) hn hZ
  have e : (W.alloc (.cells Y 26)).heap.size = W.heap.size + 1 := by simp
  rw [e] at h1
  exact ⟨_, _, rfl, rfl, h1, h2.pure ((Below.refl _ _).alloc (Nat.le_refl _) _), by omega⟩
end Go.Proofs.YtfoifdoaleaekaaGreat

namespace Go.Proofs.YtfoifdoaleaekaaGreat
open Go.RowKit Go.Acc
theorem isv_bv {w : World} {A : Option Addr} {n : Nat} {vs : List Bv} (h : IsV w A n (vs.map vv)) {k : Nat} (hk : k < n) :
    ∃ b off v, A = some ⟨b, off, none⟩ ∧ vs[k]? = some v ∧ w.cell? ⟨b, off + k * 3, none⟩ = some (.int .i64 (v.t : Int)) ∧ w.cell? ⟨b, off + k * 3 + 1, none⟩ = some (.int .i64 (v.w : Int)) ∧ w.cell? ⟨b, off + k * 3 + 2, none⟩ = some (.int .u64 (v.n : Int)) := by
  obtain ⟨b, off, e, hk', h0, h1, h2⟩ := isv_at h hk
  have hk2 : k < vs.length := by simpa using hk'
  rw [List.getElem_map] at h0 h1 h2
  exact ⟨b, off, vs[k], e, List.getElem?_eq_getElem hk2, h0, h1, h2⟩
theorem isv_len {w : World} {A : Option Addr} {n : Nat} {vs : List Bv} (h : IsV w A n (vs.map vv)) : vs.length = n := by have := h.1; simpa using this
theorem fitsL_take {a y : Nat} : ∀ (vs : List Bv) (i k : Nat) (v : Bv), vs[k]? = some v → fitsL a y i (vs.take (k + 1)) = (fitsL a y i (vs.take k) && fitsV v a (i + k) y)
  | [], _, _, _, h => by simp at h
  | x :: r, i, 0, v, h => by
    simp at h
    subst h
    simp [fitsL]
  | x :: r, i, k + 1, v, h => by
    rw [List.take_succ_cons, List.take_succ_cons, fitsL, fitsL, fitsL_take r (i + 1) k v (by simpa using h), Bool.and_assoc, show i + 1 + k = i + (k + 1) by omega]
theorem fitsL_no {a y : Nat} : ∀ (vs : List Bv) (i k : Nat) (v : Bv), vs[k]? = some v → fitsV v a (i + k) y = false → fitsL a y i vs = false := by
  intro vs i k v h hv
  cases hf : fitsL a y i vs with
  | false => rfl
  | true =>
    have := fitsL_at vs i k v hf h
    rw [hv] at this
    cases this
def koOf (ahead : Nat) (kv : Bv) : Option Bv := if ahead = 3 then some kv else none
set_option maxRecDepth 100000 in
set_option maxHeartbeats 2000000 in
theorem all1_spec (kv : Bv) (vs : List Bv) (a ahead y pa pl pk pt n c : Nat) (A : Option Addr) (w : World) (hpa : Blk w pa 3 #[.int .i64 (ahead : Int)]) (hpl : Blk w pl 160 #[.slice A n c]) (hpk : Blk w pk 185 #[.int .i64 (kv.t : Int), .int .i64 (kv.w : Int), .int .u64 (kv.n : Int)]) (hpt : Blk w pt 3 #[.int .i64 (a : Int)])
    (hv : IsV w A n (vs.map vv)) (hy : isW (y : Int) = true) (ha : a ≤ 1048576) (hn : n ≤ 1000000) (hah : ahead = 0 ∨ ahead = 1 ∨ ahead = 3) :
    Calls Tryz.prog 265 #[.int .i64 (y : Int), .pointer (some ⟨pa, 0, none⟩), .pointer (some ⟨pl, 0, none⟩), .pointer (some ⟨pk, 0, none⟩), .pointer (some ⟨pt, 0, none⟩)] w fun e w' => e = .returned (.bool (fitF a ahead (koOf ahead kv) vs y)) ∧ Below w.heap.size w w' := by
  have HV := Lib.hid hv
  have HY := Lib.hid hy
  have hvl := isv_len hv
  have HVL := Lib.hid hvl
  have a0 : w.cell? ⟨pa, 0, none⟩ = some (.int .i64 (ahead : Int)) := hpa.cell 0
  have l0 : w.cell? ⟨pl, 0, none⟩ = some (.slice A n c) := hpl.cell 0
  have a1 : w.cell? ⟨pt, 0, none⟩ = some (.int .i64 (a : Int)) := hpt.cell 0
  have k0 : w.cell? ⟨pk, 0, none⟩ = some (.int .i64 (kv.t : Int)) := hpk.cell 0
  have k1 : w.cell? ⟨pk, 1, none⟩ = some (.int .i64 (kv.w : Int)) := hpk.cell 1
  have k2 : w.cell? ⟨pk, 2, none⟩ = some (.int .u64 (kv.n : Int)) := hpk.cell 2
  have hB := Below.refl w.heap.size w
  have HB := Lib.hid hB
  clear hv hy hB hpa hpl hpk hpt
  obtain ⟨bw, hbw⟩ : ∃ b, bWidth n = b := ⟨_, rfl⟩
  obtain ⟨kr, hkr⟩ : ∃ b, fitsV kv a 0 y = b := ⟨_, rfl⟩
  have HWN := Lib.hid (show wdU n = (bw : Int) by rw [wdU_b, hbw])
  have HKR := Lib.hid hkr
  have hn64 : IntKind.u64.wrap (n : Int) = (n : Int) := u64_in _ (by omega)
  obtain ⟨g, hg⟩ : ∃ g, decide (y < bw) = g := ⟨_, rfl⟩
  have hg2 : decide ((y : Int) < (bw : Int)) = g := by rw [← hg]; exact decide_eq_decide.2 (by omega)
  have HG := Lib.hid (show decide (bWidth vs.length ≤ y) = !g by rw [hvl, hbw, ← hg]; by_cases h : y < bw <;> simp [h] <;> omega)
  clear hvl hbw hkr
  obtain ⟨z0, hz0⟩ : ∃ z, decide ((0 : Int) < (ahead : Int)) = z := ⟨_, rfl⟩
  obtain ⟨z3, hz3⟩ : ∃ z, ((ahead : Int) == 3) = z := ⟨_, rfl⟩
  have hz0' : decide (0 < ahead) = z0 := by rw [← hz0]; exact decide_eq_decide.2 (by omega)
  have HF0 := Lib.hid (show fitF a ahead (koOf ahead kv) vs y = ((!z0 || !g) && (!z3 || kr) && fitsL a y ahead vs) by
    unfold fitF koOf
    rw [HG.out, ← hz0', ← HKR.out]
    congr 1
    congr 1
    · congr 1
      by_cases h : ahead = 0 <;> simp [h] <;> omega
    · rw [← hz3]
      by_cases h : ahead = 3
      · subst h; rfl
      · rw [if_neg h]
        have : ((ahead : Int) == 3) = false := by simp; omega
        rw [this]; rfl)
  have HAH := Lib.hid hah
  have hah3 : ahead ≤ 3 := by omega
  have HZZ := Lib.hid (show z0 = false → z3 = false by rintro rfl; rw [← hz3]; have := of_decide_eq_false hz0; simp; omega)
  clear hah
  cases z0 with
  | false =>
    obtain rfl := HZZ.out rfl
    have HF := Lib.hid (show fitF a ahead (koOf ahead kv) vs y = fitsL a y ahead vs from HF0.out)
    go_enter Tryz.func265, Tryz.ntmps265
    go_wp2_with fail
    go_loopw [32] (fun u wr => ∃ k : Nat, k ≤ n ∧ u = .int .i64 k ∧ Below w.heap.size w wr ∧ fitsL a y ahead (vs.take k) = true) (fun u _ => n - (intOf u).toNat)
    case atStart => exact ⟨0, Nat.zero_le _, rfl, HB.out, rfl⟩
    case round =>
      obtain ⟨k, hk, rfl, hbr, hfk⟩ := hrel
      have HBR := Lib.hid hbr
      have HFK := Lib.hid hfk
      clear hfk
      have q0 := cell_pure hbr a0
      have q1 := cell_pure hbr a1
      have HI := Lib.hid (HV.out.pure hbr)
      clear hbr HB a0 a1 l0
      by_cases hlt : k < n
      · obtain ⟨g, off, v, rfl, hvk, h0, h1, h2⟩ := isv_bv HI.out hlt
        have HVK := Lib.hid hvk
        obtain ⟨j, hj⟩ : ∃ j, ahead + k = j := ⟨_, rfl⟩
        have HJ := Lib.hid hj
        have HJ2 := Lib.hid (show j ≤ 1048576 by omega)
        have hj2 := HJ2.out
        have e1 : (ahead : Int) + (k : Int) = (j : Int) := by omega
        have hj0 : (0 : Int) ≤ (j : Int) := by omega
        have hj3 : (j : Int) ≤ 1048576 := by omega
        have hk0 : (0 : Int) ≤ (k : Int) := by omega
        have hkn : (k : Int) < (n : Int) := by omega
        obtain ⟨r, hr⟩ : ∃ r, fitsV v a j y = r := ⟨_, rfl⟩
        have HR := Lib.hid hr
        clear hvk hj hr
        have HB2 := Lib.hid (HBR.out.alloc HBR.out.size (.cells #[.int .i64 (v.t : Int), .int .i64 (v.w : Int), .int .u64 (v.n : Int)] 185))
        have q0' := kalloc (.cells #[.int .i64 (v.t : Int), .int .i64 (v.w : Int), .int .u64 (v.n : Int)] 185) q0
        have q1' := kalloc (.cells #[.int .i64 (v.t : Int), .int .i64 (v.w : Int), .int .u64 (v.n : Int)] 185) q1
        cases r with
        | true =>
          go_wp2_with fail
          go_at_call 193
          refine (ffits_is v a j y true _ HY.out ha (by have := HJ2.out; omega) HR.out).mono ?_
          rintro e w3 ⟨rfl, hb3⟩
          have HB3 := Lib.hid (pure_below HB2.out hb3)
          clear hb3 q0 q1 q0' q1' h0 h1 h2
          go_wp2_with fail
          go_roundw
          case rel => exact ⟨k + 1, by omega, by go_num, HB3.out, by rw [fitsL_take vs ahead k v HVK.out, HFK.out, HJ.out, HR.out]; rfl⟩
          case measure => simp [intOf]; omega
        | false =>
          go_wp2_with fail
          go_at_call 193
          refine (ffits_is v a j y false _ HY.out ha (by have := HJ2.out; omega) HR.out).mono ?_
          rintro e w3 ⟨rfl, hb3⟩
          have HB3 := Lib.hid (pure_below HB2.out hb3)
          clear hb3 q0 q1 q0' q1' h0 h1 h2
          go_wp2_with fail
          go_ret
          exact ⟨by rw [HF.out, fitsL_no vs ahead k v HVK.out (by rw [HJ.out]; exact HR.out)]; rfl, HB3.out⟩
      · have hd1 : decide ((k : Int) < (n : Int)) = false := decide_eq_false (by omega)
        have hd2 : decide (k < n) = false := decide_eq_false (by omega)
        have HE := Lib.hid (show fitsL a y ahead vs = true by rw [← HFK.out, List.take_of_length_le (by have := HVL.out; omega)])
        clear q0 q1
        go_wp2_with fail
        go_ret
        exact ⟨by rw [HF.out, HE.out]; rfl, HBR.out⟩
  | true =>
    cases g with
    | true =>
      have HF := Lib.hid (show fitF a ahead (koOf ahead kv) vs y = false from HF0.out)
      go_enter Tryz.func265, Tryz.ntmps265
      go_wp2_with fail
      go_at_call 215
      refine (wof_is n bw _ (by omega) HWN.out).mono ?_
      rintro e w' ⟨rfl, rfl⟩
      go_wp2_with fail
      go_ret
      exact ⟨by rw [HF.out]; rfl, HB.out⟩
    | false =>
      cases z3 with
      | false =>
        have HF := Lib.hid (show fitF a ahead (koOf ahead kv) vs y = fitsL a y ahead vs from HF0.out)
        go_enter Tryz.func265, Tryz.ntmps265
        go_wp2_with fail
        go_at_call 215
        refine (wof_is n bw _ (by omega) HWN.out).mono ?_
        rintro e w' ⟨rfl, rfl⟩
        go_wp2_with fail
        go_loopw [32] (fun u wr => ∃ k : Nat, k ≤ n ∧ u = .int .i64 k ∧ Below w.heap.size w wr ∧ fitsL a y ahead (vs.take k) = true) (fun u _ => n - (intOf u).toNat)
        case atStart => exact ⟨0, Nat.zero_le _, rfl, HB.out, rfl⟩
        case round =>
          obtain ⟨k, hk, rfl, hbr, hfk⟩ := hrel
          have HBR := Lib.hid hbr
          have HFK := Lib.hid hfk
          clear hfk
          have q0 := cell_pure hbr a0
          have q1 := cell_pure hbr a1
          have HI := Lib.hid (HV.out.pure hbr)
          clear hbr HB a0 a1 l0
          by_cases hlt : k < n
          · obtain ⟨g, off, v, rfl, hvk, h0, h1, h2⟩ := isv_bv HI.out hlt
            have HVK := Lib.hid hvk
            obtain ⟨j, hj⟩ : ∃ j, ahead + k = j := ⟨_, rfl⟩
            have HJ := Lib.hid hj
            have HJ2 := Lib.hid (show j ≤ 1048576 by omega)
            have hj2 := HJ2.out
            have e1 : (ahead : Int) + (k : Int) = (j : Int) := by omega
            have hj0 : (0 : Int) ≤ (j : Int) := by omega
            have hj3 : (j : Int) ≤ 1048576 := by omega
            have hk0 : (0 : Int) ≤ (k : Int) := by omega
            have hkn : (k : Int) < (n : Int) := by omega
            obtain ⟨r, hr⟩ : ∃ r, fitsV v a j y = r := ⟨_, rfl⟩
            have HR := Lib.hid hr
            clear hvk hj hr
            have HB2 := Lib.hid (HBR.out.alloc HBR.out.size (.cells #[.int .i64 (v.t : Int), .int .i64 (v.w : Int), .int .u64 (v.n : Int)] 185))
            have q0' := kalloc (.cells #[.int .i64 (v.t : Int), .int .i64 (v.w : Int), .int .u64 (v.n : Int)] 185) q0
            have q1' := kalloc (.cells #[.int .i64 (v.t : Int), .int .i64 (v.w : Int), .int .u64 (v.n : Int)] 185) q1
            cases r with
            | true =>
              go_wp2_with fail
              go_at_call 193
              refine (ffits_is v a j y true _ HY.out ha (by have := HJ2.out; omega) HR.out).mono ?_
              rintro e w3 ⟨rfl, hb3⟩
              have HB3 := Lib.hid (pure_below HB2.out hb3)
              clear hb3 q0 q1 q0' q1' h0 h1 h2
              go_wp2_with fail
              go_roundw
              case rel => exact ⟨k + 1, by omega, by go_num, HB3.out, by rw [fitsL_take vs ahead k v HVK.out, HFK.out, HJ.out, HR.out]; rfl⟩
              case measure => simp [intOf]; omega
            | false =>
              go_wp2_with fail
              go_at_call 193
              refine (ffits_is v a j y false _ HY.out ha (by have := HJ2.out; omega) HR.out).mono ?_
              rintro e w3 ⟨rfl, hb3⟩
              have HB3 := Lib.hid (pure_below HB2.out hb3)
              clear hb3 q0 q1 q0' q1' h0 h1 h2
              go_wp2_with fail
              go_ret
              exact ⟨by rw [HF.out, fitsL_no vs ahead k v HVK.out (by rw [HJ.out]; exact HR.out)]; rfl, HB3.out⟩
          · have hd1 : decide ((k : Int) < (n : Int)) = false := decide_eq_false (by omega)
            have hd2 : decide (k < n) = false := decide_eq_false (by omega)
            have HE := Lib.hid (show fitsL a y ahead vs = true by rw [← HFK.out, List.take_of_length_le (by have := HVL.out; omega)])
            clear q0 q1
            go_wp2_with fail
            go_ret
            exact ⟨by rw [HF.out, HE.out]; rfl, HBR.out⟩
      | true =>
        cases kr with
        | false =>
          have HF := Lib.hid (show fitF a ahead (koOf ahead kv) vs y = false from HF0.out)
          go_enter Tryz.func265, Tryz.ntmps265
          go_wp2_with fail
          go_at_call 215
          refine (wof_is n bw _ (by omega) HWN.out).mono ?_
          rintro e w' ⟨rfl, rfl⟩
          go_wp2_with fail
          go_at_call 193
          refine (ffits_is kv a 0 y false _ HY.out ha (by omega) HKR.out).mono ?_
          rintro e w' ⟨rfl, hb⟩
          have HB2 := Lib.hid (pure_below HB.out hb)
          clear hb
          go_wp2_with fail
          go_ret
          exact ⟨by rw [HF.out]; rfl, HB2.out⟩
        | true =>
          have HF := Lib.hid (show fitF a ahead (koOf ahead kv) vs y = fitsL a y ahead vs from HF0.out)
          go_enter Tryz.func265, Tryz.ntmps265
          go_wp2_with fail
          go_at_call 215
          refine (wof_is n bw _ (by omega) HWN.out).mono ?_
          rintro e w' ⟨rfl, rfl⟩
          go_wp2_with fail
          go_at_call 193
          refine (ffits_is kv a 0 y true _ HY.out ha (by omega) HKR.out).mono ?_
          rintro e w2 ⟨rfl, hb⟩
          replace HB := Lib.hid (pure_below HB.out hb)
          have l0' := cell_pure hb l0
          clear hb k0 k1 k2
          go_wp2_with fail
          go_loopw [32] (fun u wr => ∃ k : Nat, k ≤ n ∧ u = .int .i64 k ∧ Below w.heap.size w wr ∧ fitsL a y ahead (vs.take k) = true) (fun u _ => n - (intOf u).toNat)
          case atStart => exact ⟨0, Nat.zero_le _, rfl, HB.out, rfl⟩
          case round =>
            obtain ⟨k, hk, rfl, hbr, hfk⟩ := hrel
            have HBR := Lib.hid hbr
            have HFK := Lib.hid hfk
            clear hfk
            have q0 := cell_pure hbr a0
            have q1 := cell_pure hbr a1
            have HI := Lib.hid (HV.out.pure hbr)
            clear hbr HB a0 a1 l0
            by_cases hlt : k < n
            · obtain ⟨g, off, v, rfl, hvk, h0, h1, h2⟩ := isv_bv HI.out hlt
              have HVK := Lib.hid hvk
              obtain ⟨j, hj⟩ : ∃ j, ahead + k = j := ⟨_, rfl⟩
              have HJ := Lib.hid hj
              have HJ2 := Lib.hid (show j ≤ 1048576 by omega)
              have hj2 := HJ2.out
              have e1 : (ahead : Int) + (k : Int) = (j : Int) := by omega
              have hj0 : (0 : Int) ≤ (j : Int) := by omega
              have hj3 : (j : Int) ≤ 1048576 := by omega
              have hk0 : (0 : Int) ≤ (k : Int) := by omega
              have hkn : (k : Int) < (n : Int) := by omega
              obtain ⟨r, hr⟩ : ∃ r, fitsV v a j y = r := ⟨_, rfl⟩
              have HR := Lib.hid hr
              clear hvk hj hr
              have HB2 := Lib.hid (HBR.out.alloc HBR.out.size (.cells #[.int .i64 (v.t : Int), .int .i64 (v.w : Int), .int .u64 (v.n : Int)] 185))
              have q0' := kalloc (.cells #[.int .i64 (v.t : Int), .int .i64 (v.w : Int), .int .u64 (v.n : Int)] 185) q0
              have q1' := kalloc (.cells #[.int .i64 (v.t : Int), .int .i64 (v.w : Int), .int .u64 (v.n : Int)] 185) q1
              cases r with
              | true =>
                go_wp2_with fail
                go_at_call 193
                refine (ffits_is v a j y true _ HY.out ha (by have := HJ2.out; omega) HR.out).mono ?_
                rintro e w3 ⟨rfl, hb3⟩
                have HB3 := Lib.hid (pure_below HB2.out hb3)
                clear hb3 q0 q1 q0' q1' h0 h1 h2
                go_wp2_with fail
                go_roundw
                case rel => exact ⟨k + 1, by omega, by go_num, HB3.out, by rw [fitsL_take vs ahead k v HVK.out, HFK.out, HJ.out, HR.out]; rfl⟩
                case measure => simp [intOf]; omega
              | false =>
                go_wp2_with fail
                go_at_call 193
                refine (ffits_is v a j y false _ HY.out ha (by have := HJ2.out; omega) HR.out).mono ?_
                rintro e w3 ⟨rfl, hb3⟩
                have HB3 := Lib.hid (pure_below HB2.out hb3)
                clear hb3 q0 q1 q0' q1' h0 h1 h2
                go_wp2_with fail
                go_ret
                exact ⟨by rw [HF.out, fitsL_no vs ahead k v HVK.out (by rw [HJ.out]; exact HR.out)]; rfl, HB3.out⟩
            · have hd1 : decide ((k : Int) < (n : Int)) = false := decide_eq_false (by omega)
              have hd2 : decide (k < n) = false := decide_eq_false (by omega)
              have HE := Lib.hid (show fitsL a y ahead vs = true by rw [← HFK.out, List.take_of_length_le (by have := HVL.out; omega)])
              clear q0 q1
              go_wp2_with fail
              go_ret
              exact ⟨by rw [HF.out, HE.out]; rfl, HBR.out⟩
set_option maxRecDepth 100000 in
set_option maxHeartbeats 2000000 in
theorem all_spec (kv : Bv) (vs : List Bv) (a ahead n c : Nat) (A : Option Addr) (w : World) (hv : IsV w A n (vs.map vv)) (ha : a ≤ 1048576) (hn : n ≤ 1000000) (hah : ahead = 0 ∨ ahead = 1 ∨ ahead = 3) :
    Calls Tryz.prog 243 #[.int .i64 (a : Int), .int .i64 (ahead : Int), .agg #[.int .i64 (kv.t : Int), .int .i64 (kv.w : Int), .int .u64 (kv.n : Int)], .slice A n c] w fun e w' => e = .returned (.int .i64 (fitAll a ahead (koOf ahead kv) vs : Nat)) ∧ Below w.heap.size w w' := by
  have hB : Below w.heap.size w ((((w.alloc (.cells #[.int .i64 (a : Int)] 3)).alloc (.cells #[.int .i64 (ahead : Int)] 3)).alloc (.cells #[.int .i64 (kv.t : Int), .int .i64 (kv.w : Int), .int .u64 (kv.n : Int)] 185)).alloc (.cells #[.slice A n c] 160)) := ((((Below.refl _ _).alloc (Nat.le_refl _) _).alloc (by simp) _).alloc (by simp; omega) _).alloc (by simp; omega) _
  have HB := Lib.hid hB
  have HV := Lib.hid (hv.pure hB)
  have HT := Lib.hid ((((Blk.new w 3 #[.int .i64 (a : Int)]).alloc (.cells #[.int .i64 (ahead : Int)] 3)).alloc (.cells #[.int .i64 (kv.t : Int), .int .i64 (kv.w : Int), .int .u64 (kv.n : Int)] 185)).alloc (.cells #[.slice A n c] 160))
  have HA := Lib.hid (((blk_new2 w (.cells #[.int .i64 (a : Int)] 3) 3 #[.int .i64 (ahead : Int)]).alloc (.cells #[.int .i64 (kv.t : Int), .int .i64 (kv.w : Int), .int .u64 (kv.n : Int)] 185)).alloc (.cells #[.slice A n c] 160))
  have HK := Lib.hid ((blk_new3 w (.cells #[.int .i64 (a : Int)] 3) (.cells #[.int .i64 (ahead : Int)] 3) 185 #[.int .i64 (kv.t : Int), .int .i64 (kv.w : Int), .int .u64 (kv.n : Int)]).alloc (.cells #[.slice A n c] 160))
  have HL := Lib.hid (Blk.new_ (w := ((w.alloc (.cells #[.int .i64 (a : Int)] 3)).alloc (.cells #[.int .i64 (ahead : Int)] 3)).alloc (.cells #[.int .i64 (kv.t : Int), .int .i64 (kv.w : Int), .int .u64 (kv.n : Int)] 185)) (g := w.heap.size + 1 + 1 + 1) (by simp) 160 #[.slice A n c])
  obtain ⟨r, hr⟩ : ∃ r, fitAll a ahead (koOf ahead kv) vs = r := ⟨_, rfl⟩
  rw [hr]
  have HR := Lib.hid hr
  have HAH := Lib.hid hah
  have hn2 : (n : Int) ≤ 1048576 := by omega
  obtain ⟨z0, hz0⟩ : ∃ z, ((ahead : Int) != 0) = z := ⟨_, rfl⟩
  obtain ⟨z1, hz1⟩ : ∃ z, ((ahead : Int) != 1) = z := ⟨_, rfl⟩
  obtain ⟨z3, hz3⟩ : ∃ z, ((ahead : Int) != 3) = z := ⟨_, rfl⟩
  have hz : (z0 && (z1 && z3)) = false := by rw [← hz0, ← hz1, ← hz3]; rcases hah with rfl | rfl | rfl <;> rfl
  have HZ := Lib.hid hz
  clear hB hv hr hah hz
  cases z0
  all_goals
    cases z1
    all_goals
      cases z3
      all_goals
        first
        | (exact absurd HZ.out (by decide))
        | skip
  all_goals
    go_enter Tryz.func243, Tryz.ntmps243
    go_wp2_with fail
    go_at_call 190
    refine (fwithin_spec a _ (by omega)).mono ?_
    rintro e w' ⟨rfl, rfl⟩
    go_wp2_with fail
    go_at_call 191
    generalize ((((w.alloc (.cells #[.int .i64 (a : Int)] 3)).alloc (.cells #[.int .i64 (ahead : Int)] 3)).alloc (.cells #[.int .i64 (kv.t : Int), .int .i64 (kv.w : Int), .int .u64 (kv.n : Int)] 185)).alloc (.cells #[.slice A n c] 160)) = w1 at HB HV HT HA HK HL ⊢
    generalize w.heap.size + 1 + 1 + 1 = pl at HL ⊢
    generalize w.heap.size + 1 + 1 = pk at HK ⊢
    generalize w.heap.size + 1 = pa at HA ⊢
    have HF := fun (y : Fin 4) (W : World) (hW : Below w1.heap.size w1 W) => all1_spec kv vs a ahead (2 ^ y.val) pa pl pk w.heap.size n c A W (HA.out.pure hW) (HL.out.pure hW) (HK.out.pure hW) (HT.out.pure hW) (HV.out.pure hW) (pow4_is y) ha hn HAH.out
    refine (least_spec 265 #[.pointer (some ⟨pa, 0, none⟩), .pointer (some ⟨pl, 0, none⟩), .pointer (some ⟨pk, 0, none⟩), .pointer (some ⟨w.heap.size, 0, none⟩)] (fitF a ahead (koOf ahead kv) vs) w1 Tryz.call265 HF).mono ?_
    rw [show leastW (fitF a ahead (koOf ahead kv) vs) = r from HR.out]
    rintro e w' ⟨rfl, hb⟩
    have HB2 := Lib.hid (pure_below HB.out hb)
    clear hb
    go_wp2_with fail
    go_ret
    exact ⟨rfl, HB2.out⟩
end Go.Proofs.YtfoifdoaleaekaaGreat
