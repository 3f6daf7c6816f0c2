/-
  Package tree: Check as a first error over the nodes in preorder. No program in sight.
  Package tree: such, of any node.
-/
import Derived.Test.YtfoifdoaleaekaaGreatQf20
namespace Go.Proofs.YtfoifdoaleaekaaGreat
open Go.RowKit Go.Acc
def ers : Ers := ⟨5, 61, 60, 70, 71⟩
def ndE (c d : Nat) (t : Tr) : Int := if 4096 < c + 1 then 5 else if 64 ≤ d then 61 else if suchT t = false then 60 else keyedE 70 71 t
def fstE : List (Nat × Tr) → Nat → Int
  | [], _ => 0
  | x :: r, c => if ndE c x.1 x.2 ≠ 0 then ndE c x.1 x.2 else fstE r (c + 1)
theorem fstE_app : ∀ (a b : List (Nat × Tr)) (c : Nat), fstE (a ++ b) c = if fstE a c ≠ 0 then fstE a c else fstE b (c + a.length)
  | [], b, c => by simp [fstE]
  | x :: r, b, c => by
    rw [List.cons_append, fstE, fstE, fstE_app r b (c + 1), List.length_cons]
    by_cases h : ndE c x.1 x.2 = 0
    · have hn : ¬ ndE c x.1 x.2 ≠ 0 := fun e => e h
      simp only [if_neg hn]
      rw [show c + 1 + r.length = c + (r.length + 1) by omega]
    · have hp : ndE c x.1 x.2 ≠ 0 := h
      simp only [if_pos hp]
mutual
theorem chk_fst : ∀ (t : Tr) (d c : Nat), (chk ers d t c).1 = fstE (Tr.pre d t) c ∧ ((chk ers d t c).1 = 0 → (chk ers d t c).2 = c + (Tr.pre d t).length)
  | .mk k n u s ks l, d, c => by
    obtain ⟨i1, i2⟩ := chkL_fst l (d + 1) (c + 1)
    rw [chk, Tr.pre, fstE]
    simp only []
    by_cases h1 : c + 1 > 4096
    · have e : ndE c d (.mk k n u s ks l) = 5 := if_pos h1
      rw [if_pos h1, e, if_pos (by decide)]
      exact ⟨rfl, fun h => absurd h (show ¬ (_ : Int) = 0 from by simp [ers])⟩
    rw [if_neg h1]
    by_cases h2 : d ≥ 64
    · have e : ndE c d (.mk k n u s ks l) = 61 := by unfold ndE; rw [if_neg h1, if_pos h2]
      rw [if_pos h2, e, if_pos (by decide)]
      exact ⟨rfl, fun h => absurd h (show ¬ (_ : Int) = 0 from by simp [ers])⟩
    rw [if_neg h2]
    by_cases h3 : suchT (.mk k n u s ks l) = false
    · have e : ndE c d (.mk k n u s ks l) = 60 := by unfold ndE; rw [if_neg h1, if_neg h2, if_pos h3]
      rw [if_pos h3, e, if_pos (by decide)]
      exact ⟨rfl, fun h => absurd h (show ¬ (_ : Int) = 0 from by simp [ers])⟩
    rw [if_neg h3]
    have e : ndE c d (.mk k n u s ks l) = keyedE 70 71 (.mk k n u s ks l) := by unfold ndE; rw [if_neg h1, if_neg h2, if_neg h3]
    rw [e]
    by_cases h4 : keyedE ers.key ers.twice (.mk k n u s ks l) ≠ 0
    · have h4' : keyedE 70 71 (.mk k n u s ks l) ≠ 0 := h4
      rw [if_pos h4, if_pos h4']
      exact ⟨rfl, fun h => absurd h h4⟩
    · have h4' : ¬ keyedE 70 71 (.mk k n u s ks l) ≠ 0 := h4
      rw [if_neg h4, if_neg h4']
      refine ⟨i1, fun h => ?_⟩
      rw [i2 h, List.length_cons]
      omega
theorem chkL_fst : ∀ (l : List Tr) (d c : Nat), (chkL ers d l c).1 = fstE (Tr.pre.Tr.preL d l) c ∧ ((chkL ers d l c).1 = 0 → (chkL ers d l c).2 = c + (Tr.pre.Tr.preL d l).length)
  | [], d, c => by rw [chkL, Tr.pre.Tr.preL]; exact ⟨rfl, fun _ => rfl⟩
  | t :: r, d, c => by
    obtain ⟨a1, a2⟩ := chk_fst t d c
    rw [chkL, Tr.pre.Tr.preL, fstE_app, ← a1]
    by_cases h : (chk ers d t c).1 ≠ 0
    · rw [if_pos h, if_pos h]
      exact ⟨rfl, fun e => absurd e h⟩
    · rw [if_neg h, if_neg h]
      have a2 := a2 (by simpa using h)
      rw [a2]
      obtain ⟨b1, b2⟩ := chkL_fst r d (c + (Tr.pre d t).length)
      refine ⟨b1, fun e => ?_⟩
      rw [b2 e, List.length_append]
      omega
end
theorem firstE_fst {f : Nat → Int} {T : List (Nat × Tr)} (h : ∀ i x, T[i]? = some x → f i = ndE i x.1 x.2) : ∀ m, m ≤ T.length → firstE f m = fstE (T.take m) 0
  | 0, _ => by simp [firstE, fstE]
  | m + 1, hm => by
    rw [List.take_succ_eq_append_getElem (by omega), fstE_app, firstE, firstE_fst h m (by omega)]
    have e : fstE [T[m]] (0 + (T.take m).length) = f m := by
      rw [fstE, fstE, h m T[m] (List.getElem?_eq_getElem (by omega)), List.length_take, Nat.min_eq_left (by omega), Nat.zero_add]
      by_cases h0 : ndE m T[m].1 T[m].2 = 0
      · rw [if_neg (by simp [h0]), h0]
      · rw [if_pos h0]
    rw [e]
def NodesR (w : World) (p : Nat → Prop) (ys : List (Nat × Nv)) (T : List (Nat × Tr)) : Prop := ys.length = T.length ∧ ∀ (i : Nat) y, ys[i]? = some y → ∃ t', T[i]? = some (y.1, t') ∧ NodeR w p y.2 t'
theorem NodesR.app {w : World} {p : Nat → Prop} {ys zs : List (Nat × Nv)} {T U : List (Nat × Tr)} (h : NodesR w p ys T) (k : NodesR w p zs U) : NodesR w p (ys ++ zs) (T ++ U) := by
  refine ⟨by rw [List.length_append, List.length_append, h.1, k.1], fun i y hy => ?_⟩
  rcases Nat.lt_or_ge i ys.length with hi | hi
  · rw [List.getElem?_append_left hi] at hy
    rw [List.getElem?_append_left (by rw [← h.1]; exact hi)]
    exact h.2 i y hy
  · rw [List.getElem?_append_right hi] at hy
    rw [List.getElem?_append_right (by rw [← h.1]; exact hi), ← h.1]
    exact k.2 _ y hy
theorem nodesR_flat {w : World} {p : Nat → Prop} {d : Nat} : ∀ (l : List Tr) (yss : List (List (Nat × Nv))), yss.length = l.length → (∀ (i : Nat) t ys, l[i]? = some t → yss[i]? = some ys → NodesR w p ys (Tr.pre d t)) → NodesR w p yss.flatten (Tr.pre.Tr.preL d l)
  | [], [], _, _ => ⟨rfl, fun i y h => by simp at h⟩
  | [], _ :: _, h, _ => by simp at h
  | _ :: _, [], h, _ => by simp at h
  | t :: r, ys :: yss, hl, h => by
    rw [Tr.pre.Tr.preL, List.flatten_cons]
    exact (h 0 t ys rfl rfl).app (nodesR_flat r yss (by simpa using hl) fun i t' ys' h1 h2 => h (i + 1) t' ys' (by simpa using h1) (by simpa using h2))
theorem NodeO.read {w : World} {p : Nat → Prop} {d : Nat} {x : Nv} {t : Tr} {ys : List (Nat × Nv)} (h : NodeO w p d x t ys) : NodeR w p x t := by
  induction h with
  | @mk d x ks l vs yss h1 ha hac hx h2 hb hbc hy hl hyl hc ih =>
    refine .mk h1 ha hac hx h2 hb hbc hy hl fun i v t hv ht => ?_
    have hi : i < yss.length := by rw [hyl]; exact (List.getElem?_eq_some_iff.1 ht).1
    exact ih i v t yss[i] hv ht (List.getElem?_eq_getElem hi)
theorem NodeO.nodes {w : World} {p : Nat → Prop} {d : Nat} {x : Nv} {t : Tr} {ys : List (Nat × Nv)} (h : NodeO w p d x t ys) : NodesR w p ys (Tr.pre d t) := by
  induction h with
  | @mk d x ks l vs yss h1 ha hac hx h2 hb hbc hy hl hyl hc ih =>
    have hr := (NodeO.mk h1 ha hac hx h2 hb hbc hy hl hyl hc).read
    have hf := nodesR_flat l yss hyl fun i t ys ht hys => by
      have hi : i < vs.length := by rw [hl]; exact (List.getElem?_eq_some_iff.1 ht).1
      exact ih i vs[i] t ys (List.getElem?_eq_getElem hi) ht hys
    rw [Tr.pre]
    exact NodesR.app (ys := [(d, x)]) (T := [(d, .mk x.k x.n x.u x.s ks l)]) ⟨rfl, fun i y hy => by
      cases i with
      | zero => simp at hy; subst hy; exact ⟨_, rfl, hr⟩
      | succ i => simp at hy⟩ hf
theorem errs_chk {Y : List (Nat × Nv)} {T : List (Nat × Tr)} {sb : Nat → Bool} {ke : Nat → Int} (hl : Y.length = T.length) (h : ∀ (i : Nat) y x, Y[i]? = some y → T[i]? = some x → x.1 = y.1 ∧ sb i = suchT x.2 ∧ ke i = keyedE 70 71 x.2) : firstE (errI Y sb ke) Y.length = fstE T 0 := by
  rw [firstE_fst (T := T) ?_ Y.length (Nat.le_of_eq hl), List.take_of_length_le (Nat.le_of_eq hl.symm)]
  intro i x hx
  have hi : i < Y.length := by rw [hl]; exact (List.getElem?_eq_some_iff.1 hx).1
  obtain ⟨e1, e2, e3⟩ := h i Y[i] x (List.getElem?_eq_getElem hi) hx
  unfold errI
  rw [dif_pos hi]
  unfold errP ndE
  simp only []
  rw [e1, e2, e3]
  rfl
end Go.Proofs.YtfoifdoaleaekaaGreat

namespace Go.Proofs.YtfoifdoaleaekaaGreat
open Go.RowKit Go.Acc
def otherB (p k : Int) : Bool := (p != 0) && (k != p)
theorem such1_spec (h : Nat) (p : Int) (x : Nv) (w : World) (hb : Blk w h 3 #[.int .i64 p]) :
    Calls Tryz.prog 80 #[.agg #[.int .i64 x.k, .int .i64 x.n, .int .u64 (x.u : Int), .string ⟨x.s.toArray⟩, .slice x.A x.an x.ac, .slice x.B x.bn x.bc], .pointer (some ⟨h, 0, none⟩)] w fun e w' => e = .returned (.bool (otherB p x.k)) ∧ Below w.heap.size w w' := by
  have HB := Lib.hid (show Below w.heap.size w (w.alloc (.cells #[.int .i64 x.k, .int .i64 x.n, .int .u64 (x.u : Int), .string ⟨x.s.toArray⟩, .slice x.A x.an x.ac, .slice x.B x.bn x.bc] 26)) from (Below.refl _ _).alloc (Nat.le_refl _) _)
  have p0 := kalloc (.cells #[.int .i64 x.k, .int .i64 x.n, .int .u64 (x.u : Int), .string ⟨x.s.toArray⟩, .slice x.A x.an x.ac, .slice x.B x.bn x.bc] 26) (show w.cell? ⟨h, 0, none⟩ = some (.int .i64 p) from hb.cell 0)
  obtain ⟨r, hr⟩ : ∃ r, otherB p x.k = r := ⟨_, rfl⟩
  rw [hr]
  unfold otherB at hr
  obtain ⟨b1, h1⟩ : ∃ b, (p != 0) = b := ⟨_, rfl⟩
  obtain ⟨b2, h2⟩ : ∃ b, (x.k != p) = b := ⟨_, rfl⟩
  rw [h1, h2] at hr
  have HR := Lib.hid hr
  clear hb hr
  cases b1 with
  | true =>
    cases b2 with
    | true =>
      go_enter Tryz.func80, Tryz.ntmps80
      go_wp2
      go_ret
      exact ⟨ret_bool HR.out, HB.out⟩
    | false =>
      go_enter Tryz.func80, Tryz.ntmps80
      go_wp2
      go_ret
      exact ⟨ret_bool HR.out, HB.out⟩
  | false =>
    go_enter Tryz.func80, Tryz.ntmps80
    go_wp2
    go_ret
    exact ⟨ret_bool HR.out, HB.out⟩
theorem indf_spec (h : Nat) (p : Int) (B : Option Addr) (bn bc : Nat) (vs : List Nv) (w : World) (hI : IsN w B bn vs) (hn : bn ≤ 1099511627776) (hb : Blk w h 3 #[.int .i64 p]) :
    Calls Tryz.prog 136 #[.slice B bn bc, .func (.func 80) #[] #[.pointer (some ⟨h, 0, none⟩)]] w fun e w' => ∃ i : Int, e = .returned (.int .i64 i) ∧ decide (0 ≤ i) = vs.any (fun v => otherB p v.k) ∧ Below w.heap.size w w' := by
  have HI := Lib.hid hI
  have HP := Lib.hid hb
  have HL := Lib.hid hI.1
  clear hI hb
  go_enter Tryz.func136, Tryz.ntmps136
  go_wp2_with fail
  go_loopw [8] (fun u wr => ∃ k : Nat, k ≤ bn ∧ u = .int .i64 k ∧ Below w.heap.size w wr ∧ ∀ v ∈ vs.take k, otherB p v.k = false) (fun u _ => bn - (intOf u).toNat)
  case atStart => exact ⟨0, Nat.zero_le _, rfl, Below.refl _ _, fun v h => by simp at h⟩
  case round =>
    obtain ⟨k, hk, rfl, hbr, hall⟩ := hrel
    have HBR := Lib.hid hbr
    have HALL := Lib.hid hall
    have hI2 := HI.out.pure hbr
    have HP2 := Lib.hid (HP.out.pure hbr)
    clear hbr hall
    by_cases hlt : k < bn
    · obtain ⟨v, hv⟩ : ∃ v, vs[k]? = some v := ⟨_, List.getElem?_eq_getElem (by have := HL.out; omega)⟩
      obtain ⟨g, off, rfl, v0, v1, v2, v3, v4, v5⟩ := isn_at hI2 hv
      have HV := Lib.hid hv
      obtain ⟨r, hr⟩ : ∃ r, otherB p v.k = r := ⟨_, rfl⟩
      have HR := Lib.hid hr
      have hk0 : (0 : Int) ≤ (k : Int) := by omega
      have hkn : (k : Int) < (bn : Int) := by omega
      have hcal := such1_spec h p v wr HP2.out
      rw [hr] at hcal
      have HC := Lib.hid hcal
      clear hr hcal hI2 hv
      cases r with
      | true =>
        go_wp2_with fail
        go_at_call 80
        refine HC.out.mono ?_
        rintro e w2 ⟨rfl, hb2⟩
        have HB2 := Lib.hid (pure_below HBR.out hb2)
        clear hb2 v0 v1 v2 v3 v4 v5
        go_wp2_with fail
        go_ret
        refine ⟨k, rfl, ?_, HB2.out⟩
        rw [decide_eq_true (by omega)]
        exact (List.any_eq_true.2 ⟨v, List.mem_of_getElem? HV.out, HR.out⟩).symm
      | false =>
        go_wp2_with fail
        go_at_call 80
        refine HC.out.mono ?_
        rintro e w2 ⟨rfl, hb2⟩
        have HB2 := Lib.hid (pure_below HBR.out hb2)
        clear hb2 v0 v1 v2 v3 v4 v5
        go_wp2_with fail
        go_roundw
        case rel =>
          refine ⟨k + 1, by omega, by go_num, HB2.out, ?_⟩
          intro x hx
          obtain ⟨h1, h2⟩ := List.getElem?_eq_some_iff.1 HV.out
          rw [List.take_succ_eq_append_getElem h1, h2] at hx
          rcases List.mem_append.1 hx with hx | hx
          · exact HALL.out x hx
          · rw [List.mem_singleton.1 hx]; exact HR.out
        case measure => simp [intOf]; omega
    · have hd1 : decide ((k : Int) < (bn : Int)) = false := decide_eq_false (by omega)
      have hd2 : decide (k < bn) = false := decide_eq_false (by omega)
      have HT := Lib.hid (show vs.take k = vs from List.take_of_length_le (by have := HL.out; omega))
      clear hI2
      go_wp2_with fail
      go_ret
      refine ⟨-1, rfl, ?_, HBR.out⟩
      rw [decide_eq_false (by omega)]
      symm
      rw [List.any_eq_false]
      intro x hx
      have := HALL.out x (by rw [HT.out]; exact hx)
      rw [this]
      decide
theorem cont_spec (h : Nat) (p : Int) (B : Option Addr) (bn bc : Nat) (vs : List Nv) (w : World) (hI : IsN w B bn vs) (hn : bn ≤ 1099511627776) (hb : Blk w h 3 #[.int .i64 p]) :
    Calls Tryz.prog 81 #[.slice B bn bc, .func (.func 80) #[] #[.pointer (some ⟨h, 0, none⟩)]] w fun e w' => e = .returned (.bool (vs.any (fun v => otherB p v.k))) ∧ Below w.heap.size w w' := by
  have HI := Lib.hid (indf_spec h p B bn bc vs w hI hn hb)
  clear hI hb
  go_enter Tryz.func81, Tryz.ntmps81
  go_wp2_with fail
  go_at_call 136
  refine HI.out.mono ?_
  rintro e w2 ⟨i, rfl, hi, hb2⟩
  have HII := Lib.hid hi
  have HB := Lib.hid hb2
  clear hb2 hi
  go_wp2_with fail
  go_ret
  exact ⟨ret_bool HII.out, HB.out⟩
end Go.Proofs.YtfoifdoaleaekaaGreat
