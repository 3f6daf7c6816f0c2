/-
  Package tree: walk.
  Package tree: the rules of a node without children (such).
  Packages strings and tree: a byte 00 in a string; the keys of a node without keys; key.Check.
-/
import Derived.Test.YtfoifdoaleaekaaGreatQf18
import Derived.Lib.BytesEntry
namespace Go.Proofs.YtfoifdoaleaekaaGreat
open Go.RowKit Go.Acc
attribute [local go_sem] Oper.semAt_some
def Kpv (V : Nat → Prop) (W W' : World) : Prop := ∀ a u, W.cell? a = some u → ¬ V a.block → W'.cell? a = some u
theorem Kpv.refl (V : Nat → Prop) (W : World) : Kpv V W W := fun _ _ h _ => h
theorem Kpv.trans {V : Nat → Prop} {A B C : World} (h : Kpv V A B) (k : Kpv V B C) : Kpv V A C := fun a u hc hv => k a u (h a u hc hv) hv
theorem Kpv.pure {V : Nat → Prop} {W W' : World} (h : Below W.heap.size W W') : Kpv V W W' := fun _ _ hc _ => cell_pure h hc
theorem kpv_b {V : Nat → Prop} (W : World) (l : Nat) (o o' : Obj) (h : W.heap[l]? = some o) (hc : o.isCells = false) : Kpv V W (W.putObj l o') := by
  intro a u ha _
  have hg := grownBy_putObj' W l o'
  exact cell_kept ha hg (fun r e => by cases e; exact ⟨o, h, hc⟩)
def encY (y : Nat × Nv) : Array Value := #[.int .i64 (y.1 : Int), .agg #[.int .i64 y.2.k, .int .i64 y.2.n, .int .u64 (y.2.u : Int), .string ⟨y.2.s.toArray⟩, .slice y.2.A y.2.an y.2.ac, .slice y.2.B y.2.bn y.2.bc]]
def YldW (n l : Nat) (V : Nat → Prop) (Y : List (Nat × Nv)) (J Jx : Nat → World → Prop) : Prop :=
  ∀ i y W1, Y[i]? = some y → J i W1 → YieldAt Fence.wide (n - 1) Tryz.prog l (encY y) W1 fun e W' =>
    (e = .returned (.bool true) ∧ J (i + 1) W' ∧ Kpv V W1 W' ∧ W1.heap.size ≤ W'.heap.size) ∨ (e = .returned (.bool false) ∧ Jx (i + 1) W')
def WalkW (W : World) (V : Nat → Prop) (J Jx : Nat → World → Prop) (i m : Nat) (e : Ending) (W' : World) : Prop :=
  (e = .returned (.bool true) ∧ J (i + m) W' ∧ Kpv V W W' ∧ W.heap.size ≤ W'.heap.size) ∨ (e = .returned (.bool false) ∧ ∃ j, j ≤ i + m ∧ Jx j W')
def Seg2 (Y : List (Nat × Nv)) (i : Nat) (ys : List (Nat × Nv)) : Prop := ∃ a b, Y = a ++ ys ++ b ∧ a.length = i
set_option maxRecDepth 100000 in
set_option maxHeartbeats 4000000 in
theorem walk_spec (n l : Nat) (hn : 1 ≤ n) (V : Nat → Prop) (Y : List (Nat × Nv)) (J Jx : Nat → World → Prop) (w0 : World) (p : Nat → Prop) (hp : ∀ k, p k → ¬ V k) (hV : ∀ k, V k → k < w0.heap.size) (hY : YldW n l V Y J Jx)
    (hJ : ∀ s W W', J s W → Below W.heap.size W W' → J s W') {d : Nat} {x : Nv} {t : Tr} {ys : List (Nat × Nv)} (h : NodeO w0 p d x t ys) :
    ∀ (i : Nat) (W : World), Kpv V w0 W → w0.heap.size ≤ W.heap.size → J i W → Seg2 Y i ys → d + ys.length ≤ 1099511627776 →
      Calls Tryz.prog 77 #[.agg #[.int .i64 x.k, .int .i64 x.n, .int .u64 (x.u : Int), .string ⟨x.s.toArray⟩, .slice x.A x.an x.ac, .slice x.B x.bn x.bc], .int .i64 (d : Int), .func (.yield l) #[] #[]] W (WalkW W V J Jx i ys.length) := by
  have HY := Lib.hid hY
  have HJ0 := Lib.hid hJ
  clear hY hJ
  induction h with
  | @mk d x ks l' vs yss h1 ha hac hx h2 hb hbc hy hl hyl hc ih =>
    intro i W hK hs hJp hN hd
    have HIH := Lib.hid ih
    have HI2 := Lib.hid (show IsN W x.B x.bn vs from ⟨h2.1, rd_by h2.2 hb fun a u hc hpa => hK a u hc (hp _ hpa)⟩)
    have HPB := Lib.hid hb
    have hbn : x.bn ≤ 1099511627776 := by omega
    have hvn : vs.length = x.bn := h2.1
    have hB := (Below.refl W.heap.size W).alloc (Nat.le_refl _) (.cells #[.int .i64 x.k, .int .i64 x.n, .int .u64 (x.u : Int), .string ⟨x.s.toArray⟩, .slice x.A x.an x.ac, .slice x.B x.bn x.bc] 26)
    have HB := Lib.hid hB
    have HX := Lib.hid (Blk.new W 26 #[.int .i64 x.k, .int .i64 x.n, .int .u64 (x.u : Int), .string ⟨x.s.toArray⟩, .slice x.A x.an x.ac, .slice x.B x.bn x.bc])
    have HJ := Lib.hid (HJ0.out _ _ _ hJp hB)
    have HNV := Lib.hid (show ¬ V W.heap.size from fun hv => by have := hV _ hv; omega)
    obtain ⟨fn, tmps, assign, body, hy', hR⟩ := HY.out i (d, x) _ (by obtain ⟨a, b, e1, e2⟩ := hN; rw [e1, ← e2]; simp) HJ.out
    have HKK := Lib.hid hK
    have HLL := Lib.hid (show i + 1 ≤ i + ((d, x) :: yss.flatten).length by simp only [List.length_cons]; omega)
    have HN := Lib.hid hN
    have HD := Lib.hid hd
    have hd0 : (d : Int) ≤ 1099511627776 := by omega
    rw [show encY (d, x) = #[.int .i64 (d : Int), .agg #[.int .i64 x.k, .int .i64 x.n, .int .u64 (x.u : Int), .string ⟨x.s.toArray⟩, .slice x.A x.an x.ac, .slice x.B x.bn x.bc]] from rfl] at hy'
    clear ih h1 ha hac hx h2 hb hbc hy hc hK hJp hN hB
    go_enter Tryz.func77, Tryz.ntmps77
    go_upto_region 1 with fail
    refine (wpIn_wide (n := n)).1 ?_
    gi_wp2
    refine hR.mono ?_
    rintro e W9 (⟨rfl, hJ9, hk9, hs9⟩ | ⟨rfl, hJ9⟩)
    · have HK9 := Lib.hid (show Kpv V w0 W9 from (HKK.out.trans (Kpv.pure HB.out)).trans hk9)
      have HKW := Lib.hid (show Kpv V W W9 from (Kpv.pure HB.out).trans hk9)
      have HS9 := Lib.hid (show W.heap.size ≤ W9.heap.size from Nat.le_trans HB.out.size hs9)
      have HJ9 := Lib.hid (show J (i + 1 + (yss.take 0).flatten.length) W9 from hJ9)
      have HC5 := Lib.hid (show Kpv V (W.alloc (.cells #[.int .i64 x.k, .int .i64 x.n, .int .u64 (x.u : Int), .string ⟨x.s.toArray⟩, .slice x.A x.an x.ac, .slice x.B x.bn x.bc] 26)) W9 from hk9)
      have c5 : W9.cell? ⟨W.heap.size, 5, none⟩ = some (.slice x.B x.bn x.bc) := hk9 _ _ (HX.out.cell 5) HNV.out
      clear hJ9 hk9 hs9 hR hy' HJ
      gi_wp2
      go_wp2_with fail
      go_loopw [17] (fun u wr => ∃ k : Nat, k ≤ x.bn ∧ u = .int .i64 k ∧ J (i + 1 + (yss.take k).flatten.length) wr ∧ Kpv V w0 wr ∧ Kpv V W wr ∧ W.heap.size ≤ wr.heap.size) (fun u _ => x.bn - (intOf u).toNat)
      case atStart => exact ⟨0, Nat.zero_le _, rfl, HJ9.out, HK9.out, HKW.out, HS9.out⟩
      case round =>
        obtain ⟨k, hk, rfl, hj, hk0, hkw, hsz⟩ := hrel
        have HJR := Lib.hid hj
        have HK0 := Lib.hid hk0
        have HKR := Lib.hid hkw
        have HSR := Lib.hid hsz
        clear hj hk0 hkw hsz HJ9 HK9 HKW HS9 c5
        by_cases hlt : k < x.bn
        · obtain ⟨v, hv⟩ : ∃ v, vs[k]? = some v := ⟨_, List.getElem?_eq_getElem (by omega)⟩
          obtain ⟨t', ht'⟩ : ∃ t', l'[k]? = some t' := ⟨_, List.getElem?_eq_getElem (by omega)⟩
          obtain ⟨ys', hys⟩ : ∃ ys', yss[k]? = some ys' := ⟨_, List.getElem?_eq_getElem (by omega)⟩
          have hIr : IsN wr x.B x.bn vs := ⟨HI2.out.1, rd_by HI2.out.2 HPB.out fun a u hc hpa => HKR.out a u hc (hp _ hpa)⟩
          obtain ⟨g, off, e, v0, v1, v2, v3, v4, v5⟩ := isn_at hIr hv
          have ht : (yss.take (k + 1)).flatten = (yss.take k).flatten ++ ys' := by
            obtain ⟨h1, h2⟩ := List.getElem?_eq_some_iff.1 hys
            rw [List.take_succ_eq_append_getElem h1, List.flatten_append, h2]; simp
          have hle : (yss.take k).flatten.length + ys'.length ≤ yss.flatten.length := by
            rw [← List.length_append, ← ht]
            conv => rhs; rw [← List.take_append_drop (k + 1) yss]
            rw [List.flatten_append, List.length_append]; omega
          have HT := Lib.hid ht
          have HLE := Lib.hid hle
          have hB2 := (Below.refl wr.heap.size wr).alloc (Nat.le_refl _) (.cells #[.int .i64 v.k, .int .i64 v.n, .int .u64 (v.u : Int), .string ⟨v.s.toArray⟩, .slice v.A v.an v.ac, .slice v.B v.bn v.bc] 26)
          have HB2 := Lib.hid hB2
          have HCAL := Lib.hid (HIH.out k v t' ys' hv ht' hys (i + 1 + (yss.take k).flatten.length) _ (HK0.out.trans (Kpv.pure hB2)) (Nat.le_trans hs (Nat.le_trans HSR.out hB2.size)) (HJ0.out _ _ _ HJR.out hB2)
            (by
              obtain ⟨a, b, e1, e2⟩ := HN.out
              refine ⟨a ++ (d, x) :: (yss.take k).flatten, (yss.drop (k + 1)).flatten ++ b, ?_, by simp only [List.length_append, List.length_cons]; omega⟩
              rw [e1]
              conv => lhs; rw [← List.take_append_drop (k + 1) yss, List.flatten_append, ht]
              simp) (by have h1 := HD.out; simp only [List.length_cons] at h1; omega))
          have e1 : ((d + 1 : Nat) : Int) = (d : Int) + 1 := by omega
          rw [e1] at HCAL
          have hk0' : (0 : Int) ≤ (k : Int) := by omega
          have hkl : (k : Int) < (x.bn : Int) := by omega
          rw [e]
          clear ht hle hB2 hIr hv ht' hys e1
          go_wp2_with fail
          go_at_call 77
          refine HCAL.out.mono ?_
          rintro e W3 (⟨rfl, hj3, hk3, hs3⟩ | ⟨rfl, q, hq, hjx⟩)
          · have HJ3 := Lib.hid (show J (i + 1 + (yss.take (k + 1)).flatten.length) W3 by rw [HT.out, List.length_append, ← Nat.add_assoc]; exact hj3)
            have HK3 := Lib.hid (show Kpv V wr W3 from (Kpv.pure HB2.out).trans hk3)
            have HS3 := Lib.hid (Nat.le_trans HB2.out.size hs3)
            clear hj3 hk3 hs3 v0 v1 v2 v3 v4 v5 e
            go_wp2_with fail
            go_roundw
            case rel => exact ⟨k + 1, by omega, by go_num, HJ3.out, HK0.out.trans HK3.out, HKR.out.trans HK3.out, Nat.le_trans HSR.out HS3.out⟩
            case measure => simp [intOf]; omega
          · have HQ := Lib.hid (show ∃ j, j ≤ i + ((d, x) :: yss.flatten).length ∧ Jx j W3 from ⟨q, by
              have h1 : (yss.take k).flatten.length + ys'.length ≤ yss.flatten.length := HLE.out
              simp only [List.length_cons]; omega, hjx⟩)
            clear hq hjx v0 v1 v2 v3 v4 v5 e
            go_wp2_with fail
            go_ret
            exact .inr ⟨rfl, HQ.out⟩
        · have hkk : k = x.bn := by omega
          have HE := Lib.hid (show (yss.take k).flatten = yss.flatten by rw [List.take_of_length_le (by omega)])
          have hd1 : decide ((k : Int) < (x.bn : Int)) = false := decide_eq_false (by omega)
          have hd2 : decide (k < x.bn) = false := decide_eq_false (by omega)
          clear hkk
          go_wp2_with fail
          go_ret
          exact .inl ⟨rfl, by have h := HJR.out; rw [HE.out, Nat.add_assoc, Nat.add_comm 1] at h; exact h, HKR.out, HSR.out⟩
    · have HJ9 := Lib.hid hJ9
      clear hJ9 hR hy' HJ
      gi_wp2
      go_wp2_with fail
      go_ret
      exact .inr ⟨rfl, i + 1, HLL.out, HJ9.out⟩
theorem walked_spec (x : Nv) (w : World) : Calls Tryz.prog 38 #[.agg #[.int .i64 x.k, .int .i64 x.n, .int .u64 (x.u : Int), .string ⟨x.s.toArray⟩, .slice x.A x.an x.ac, .slice x.B x.bn x.bc]] w fun e w' => e = .returned (.func (.func 76) #[] #[.pointer (some ⟨w.heap.size, 0, none⟩)]) ∧ w' = w.alloc (.cells #[.int .i64 x.k, .int .i64 x.n, .int .u64 (x.u : Int), .string ⟨x.s.toArray⟩, .slice x.A x.an x.ac, .slice x.B x.bn x.bc] 26) := by
  go_enter Tryz.func38, Tryz.ntmps38
  go_wp2
  go_ret
  exact ⟨rfl, rfl⟩
def KpW (V : Nat → Prop) (W W' : World) : Prop := Kpv V W W' ∧ W.heap.size ≤ W'.heap.size
set_option maxRecDepth 100000 in
set_option maxHeartbeats 2000000 in
theorem walked1_stops (x : Nv) (t : Tr) (Y : List (Nat × Nv)) (V p : Nat → Prop) (b : Nat) (w : World) (n : Nat) (hn : 1 ≤ n) (h : NodeO w p 0 x t Y) (hb : Blk w b 26 #[.int .i64 x.k, .int .i64 x.n, .int .u64 (x.u : Int), .string ⟨x.s.toArray⟩, .slice x.A x.an x.ac, .slice x.B x.bn x.bc]) (hp : ∀ k, p k → ¬ V k) (hV : ∀ k, V k → k < w.heap.size) (hm : Y.length ≤ 1099511627776) :
    SeqStopsK Fence.wide n Tryz.prog 76 #[.pointer (some ⟨b, 0, none⟩)] (fun i : Fin Y.length => encY Y[i]) (KpW V) (fun xs => xs = List.finRange Y.length) (fun pre => pre <+: List.finRange Y.length) Y.length w := by
  intro l J Jx W hW hJ hJx hY h0
  have hbW := hb.pure hW
  have c0 : W.cell? ⟨b, 0, none⟩ = some (.int .i64 x.k) := hbW.cell 0
  have c1 : W.cell? ⟨b, 1, none⟩ = some (.int .i64 x.n) := hbW.cell 1
  have c2 : W.cell? ⟨b, 2, none⟩ = some (.int .u64 (x.u : Int)) := hbW.cell 2
  have c3 : W.cell? ⟨b, 3, none⟩ = some (.string ⟨x.s.toArray⟩) := hbW.cell 3
  have c4 : W.cell? ⟨b, 4, none⟩ = some (.slice x.A x.an x.ac) := hbW.cell 4
  have c5 : W.cell? ⟨b, 5, none⟩ = some (.slice x.B x.bn x.bc) := hbW.cell 5
  have htk : ∀ i (hi : i < Y.length), (List.finRange Y.length).take (i + 1) = (List.finRange Y.length).take i ++ [⟨i, hi⟩] := by
    intro i hi
    rw [← List.take_append_getElem (by rw [List.length_finRange]; exact hi)]
    simp
  have HWK := Lib.hid (walk_spec n l hn V Y (fun i W => J ((List.finRange Y.length).take i) W) (fun i W => Jx ((List.finRange Y.length).take i) W) w p hp hV
    (fun i y W1 hy hj => by
      obtain ⟨hi, rfl⟩ := List.getElem?_eq_some_iff.1 hy
      have h1 := hY ((List.finRange Y.length).take i) ⟨i, hi⟩ W1 hj (by rw [List.length_take, List.length_finRange]; omega)
      simp only [htk i hi]
      exact h1)
    (fun s W W' h hb => hJ _ W W' none h ⟨hb.os, hb.tape, hb.output, hb.size, fun k hk _ => hb.block k hk⟩ (fun r e => by cases e)) h 0 W (Kpv.pure hW) hW.size (by rw [List.take_zero]; exact h0) ⟨[], [], by simp, rfl⟩ (by omega))
  clear hb hbW h hW hJ hJx hY h0
  refine callsIn_wide.2 ?_
  go_enter Tryz.func76, Tryz.ntmps76
  go_wp2_with fail
  go_at_call 77
  refine HWK.out.mono ?_
  rintro e W3 (⟨rfl, hj3, hk3, hs3⟩ | ⟨rfl, q, hq, hjx⟩)
  · have HJ3 := Lib.hid (show J (List.finRange Y.length) W3 by
      have h : J ((List.finRange Y.length).take (0 + Y.length)) W3 := hj3
      rw [List.take_of_length_le (by rw [List.length_finRange]; omega)] at h
      exact h)
    clear hj3 hk3 hs3 HWK c0 c1 c2 c3 c4 c5
    go_wp2_with fail
    go_end0
    exact ⟨⟨_, rfl⟩, .inl ⟨_, rfl, HJ3.out⟩⟩
  · have HJX := Lib.hid (show Jx ((List.finRange Y.length).take q) W3 from hjx)
    clear hq hjx HWK c0 c1 c2 c3 c4 c5
    go_wp2_with fail
    go_end0
    exact ⟨⟨_, rfl⟩, .inr ⟨_, List.take_prefix _ _, HJX.out⟩⟩
end Go.Proofs.YtfoifdoaleaekaaGreat

namespace Go.Proofs.YtfoifdoaleaekaaGreat
open Go.RowKit Go.Acc
def usesK (k : Int) : Int := if k = 2 ∨ k = 3 ∨ k = 8 then 1 else if k = 4 ∨ k = 9 then 2 else if k = 5 ∨ k = 6 ∨ k = 7 then 4 else if k = 17 then 8 else 0
theorem uses_idx {k : Int} (h1 : 1 ≤ k) (h2 : k ≤ 17) : ∀ w, (Instr.index 191 (.agg #[.int .i64 0, .int .i64 0, .int .i64 1, .int .i64 1, .int .i64 2, .int .i64 4, .int .i64 4, .int .i64 4, .int .i64 1, .int .i64 2, .int .i64 0, .int .i64 0, .int .i64 0, .int .i64 0, .int .i64 0, .int .i64 0, .int .i64 0, .int .i64 8]) (.int .i64 k)).run Tryz.prog w = .ok (.int .i64 (usesK k)) w := by
  obtain rfl | rfl | rfl | rfl | rfl | rfl | rfl | rfl | rfl | rfl | rfl | rfl | rfl | rfl | rfl | rfl | rfl : k = 1 ∨ k = 2 ∨ k = 3 ∨ k = 4 ∨ k = 5 ∨ k = 6 ∨ k = 7 ∨ k = 8 ∨ k = 9 ∨ k = 10 ∨ k = 11 ∨ k = 12 ∨ k = 13 ∨ k = 14 ∨ k = 15 ∨ k = 16 ∨ k = 17 := by omega
  all_goals
    intro w
    kernel_rfl
set_option maxRecDepth 100000 in
set_option maxHeartbeats 1000000 in
theorem uses_spec (k r : Int) (w : World) (h1 : 1 ≤ k) (h2 : k ≤ 17) (hr : usesK k = r) : Calls Tryz.prog 78 #[.int .i64 k] w fun e w' => e = .returned (.int .i64 r) ∧ w = w' := by
  have hidx := uses_idx h1 h2
  rw [hr] at hidx
  clear hr h1 h2
  go_enter Tryz.func78, Tryz.ntmps78
  go_wp2
  go_ret
  exact ⟨rfl, rfl⟩
theorem part_idx {k : Int} (h1 : 1 ≤ k) (h2 : k ≤ 17) : ∀ w, (Instr.index 191 (.agg #[.int .i64 0, .int .i64 (-1), .int .i64 (-1), .int .i64 (-1), .int .i64 (-1), .int .i64 (-1), .int .i64 (-1), .int .i64 (-1), .int .i64 (-1), .int .i64 (-1), .int .i64 0, .int .i64 3, .int .i64 4, .int .i64 5, .int .i64 2, .int .i64 3, .int .i64 4, .int .i64 0]) (.int .i64 k)).run Tryz.prog w = .ok (.int .i64 (partOf k)) w := by
  obtain rfl | rfl | rfl | rfl | rfl | rfl | rfl | rfl | rfl | rfl | rfl | rfl | rfl | rfl | rfl | rfl | rfl : k = 1 ∨ k = 2 ∨ k = 3 ∨ k = 4 ∨ k = 5 ∨ k = 6 ∨ k = 7 ∨ k = 8 ∨ k = 9 ∨ k = 10 ∨ k = 11 ∨ k = 12 ∨ k = 13 ∨ k = 14 ∨ k = 15 ∨ k = 16 ∨ k = 17 := by omega
  all_goals
    intro w
    kernel_rfl
set_option maxRecDepth 100000 in
set_option maxHeartbeats 1000000 in
theorem part_is (k r : Int) (w : World) (h1 : 1 ≤ k) (h2 : k ≤ 17) (hr : partOf k = r) : Calls Tryz.prog 79 #[.int .i64 k] w fun e w' => e = .returned (.int .i64 r) ∧ w = w' := by
  have hidx := part_idx h1 h2
  rw [hr] at hidx
  clear hr h1 h2
  go_enter Tryz.func79, Tryz.ntmps79
  go_wp2
  go_ret
  exact ⟨rfl, rfl⟩
end Go.Proofs.YtfoifdoaleaekaaGreat

namespace Go.Proofs.YtfoifdoaleaekaaGreat
open Go.RowKit Go.Acc
theorem index_zero (s : List UInt8) : decide ((0 : Int) ≤ Lib.indexByte s 0) = hasZero s := by
  induction s with
  | nil => rfl
  | cons b l ih =>
    unfold Lib.indexByte hasZero
    simp only [List.any_cons]
    by_cases hb : (b == 0) = true
    · rw [if_pos hb, hb]; rfl
    · have hb' : (b == 0) = false := by simpa using hb
      rw [if_neg hb, hb', Bool.false_or]
      have hge : -1 ≤ Lib.indexByte l 0 := by
        clear ih
        induction l with
        | nil => decide
        | cons a l ih2 => unfold Lib.indexByte; (repeat' split) <;> omega
      have ih' : decide ((0 : Int) ≤ Lib.indexByte l 0) = l.any fun c => c == 0 := ih
      rw [← ih']
      by_cases hm : (Lib.indexByte l 0 == -1) = true
      · rw [if_pos hm]
        have : Lib.indexByte l 0 = -1 := by simpa using hm
        rw [this]
      · rw [if_neg hm]
        have : Lib.indexByte l 0 ≠ -1 := by simpa using hm
        exact decide_eq_decide.2 (by omega)
set_option maxRecDepth 100000 in
set_option maxHeartbeats 400000 in
theorem ibs2_spec (s : List UInt8) (r : Int) (w : World) (hr : Lib.indexByte s 0 = r) : Calls Tryz.prog 137 #[.string ⟨s.toArray⟩, .int .u8 0] w fun e w' => e = .returned (.int .i64 r) ∧ w = w' := by
  have h := Lib.run_indexByteString (P := Tryz.prog) ⟨s.toArray⟩ 0 w
  have e : (0 : Int).toNat.toUInt8 = 0 := rfl
  rw [e, show (⟨s.toArray⟩ : ByteArray).data.toList = s from rfl, hr] at h
  clear e hr
  go_enter Tryz.func137, Tryz.ntmps137
  go_wp2
  rw [run_callFunc_extern Tryz.func204 (by kernel_rfl) (by kernel_rfl) (by kernel_rfl) (e := Extern.BytealgIndexByte.indexByte) (by kernel_rfl), h]
  simp only [Result.andThen]
  rw [Oper.upon_value]
  go_wp2
  go_ret
  exact ⟨rfl, rfl⟩
theorem ibs_spec (s : List UInt8) (r : Int) (w : World) (hr : Lib.indexByte s 0 = r) : Calls Tryz.prog 83 #[.string ⟨s.toArray⟩, .int .u8 0] w fun e w' => e = .returned (.int .i64 r) ∧ w = w' := by
  go_enter Tryz.func83, Tryz.ntmps83
  go_wp2_with (go_at_call 137; refine (ibs2_spec s r _ hr).mono ?_; rintro e w' ⟨rfl, rfl⟩)
  go_ret
  exact ⟨rfl, rfl⟩
theorem zero_spec (s : List UInt8) (z : Bool) (w : World) (hz : hasZero s = z) : Calls Tryz.prog 82 #[.string ⟨s.toArray⟩] w fun e w' => e = .returned (.bool z) ∧ w = w' := by
  obtain ⟨r, hr⟩ : ∃ r, Lib.indexByte s 0 = r := ⟨_, rfl⟩
  have HR := Lib.hid hr
  have hd : decide ((0 : Int) ≤ r) = z := by rw [← hr, index_zero]; exact hz
  clear hr hz
  go_enter Tryz.func82, Tryz.ntmps82
  go_wp2_with (go_at_call 83; refine (ibs_spec s r _ HR.out).mono ?_; rintro e w' ⟨rfl, rfl⟩)
  go_ret
  exact ⟨rfl, rfl⟩
theorem kcheck_spec (s : List UInt8) (w : World) (hz : hasZero s = false) : Calls Tryz.prog 62 #[.string ⟨s.toArray⟩] w fun e w' => e = .returned (.int .i64 0) ∧ w = w' := by
  obtain ⟨r, hr⟩ : ∃ r, Lib.indexByte s 0 = r := ⟨_, rfl⟩
  have HR := Lib.hid hr
  have hd : decide ((0 : Int) ≤ r) = false := by rw [← hr, index_zero]; exact hz
  clear hr hz
  go_enter Tryz.func62, Tryz.ntmps62
  go_wp2_with (go_at_call 83; refine (ibs_spec s r _ HR.out).mono ?_; rintro e w' ⟨rfl, rfl⟩)
  go_ret
  exact ⟨rfl, rfl⟩
end Go.Proofs.YtfoifdoaleaekaaGreat
