/-
  accordionref00: Cut; a node that came in, opened.
  The document of a checked tree, with its size; what is known of a cut tree.
  Package list: the shape of a type; how many elements.
-/
import Derived.Test.YtfoifdoaleaekaaGreatQe40
import Derived.Deep.Strs
namespace Go.Proofs.YtfoifdoaleaekaaGreat
open Go.RowKit Go.Acc Go.Deep
def TreeW (w : World) (t : Tr) (e : Ending) (w' : World) : Prop :=
  ∃ y : Nv, e = .returned (.agg #[.int .i64 y.k, .int .i64 y.n, .int .u64 (y.u : Int), .string ⟨y.s.toArray⟩, .slice y.A y.an y.ac, .slice y.B y.bn y.bc]) ∧ NodeR w' (fun b => w.heap.size ≤ b ∧ b < w'.heap.size) y t ∧ Below w.heap.size w w'
set_option maxRecDepth 100000 in
set_option maxHeartbeats 2000000 in
theorem cut_spec (m nd : Nat) {w : World} {x : Nv} {t : Tr} (h : NodeI w x t) (hd : nd ≤ 1000) : Calls Tryz.prog 9 #[.agg #[.int .i64 x.k, .int .i64 x.n, .int .u64 (x.u : Int), .string ⟨x.s.toArray⟩, .slice x.A x.an x.ac, .slice x.B x.bn x.bc], .int .i64 ((nd : Int) + 1), .int .i64 (m : Int)] w (TreeW w (cutT m t nd).1) := by
  obtain ⟨xk, xn, xu, xs, XA, xan, xac, XB, xbn, xbc⟩ := x
  have HB0 := Lib.hid (below_two w (.cells #[.int .i64 xk, .int .i64 xn, .int .u64 (xu : Int), .string ⟨xs.toArray⟩, .slice XA xan xac, .slice XB xbn xbc] 26) (.cells #[.int .i64 0, .int .i64 0, .int .u64 0, .string ⟨#[]⟩, .slice none 0 0, .slice none 0 0] 26))
  have HX0 := Lib.hid ((Blk.new w 26 #[.int .i64 xk, .int .i64 xn, .int .u64 (xu : Int), .string ⟨xs.toArray⟩, .slice XA xan xac, .slice XB xbn xbc]).alloc (.cells #[.int .i64 0, .int .i64 0, .int .u64 0, .string ⟨#[]⟩, .slice none 0 0, .slice none 0 0] 26))
  have HZ0 := Lib.hid (Blk.new_ (w := w.alloc (.cells #[.int .i64 xk, .int .i64 xn, .int .u64 (xu : Int), .string ⟨xs.toArray⟩, .slice XA xan xac, .slice XB xbn xbc] 26)) (g := w.heap.size + 1) (by simp) 26 #[.int .i64 0, .int .i64 0, .int .u64 0, .string ⟨#[]⟩, .slice none 0 0, .slice none 0 0])
  have HI := Lib.hid h
  have hn0 : (0 : Int) ≤ (nd : Int) := by omega
  have hn1 : (nd : Int) ≤ 1000 := by omega
  have HD := Lib.hid hd
  clear h hd
  go_enter Tryz.func9, Tryz.ntmps9
  go_upto_region 1 with fail
  generalize (w.alloc (.cells #[.int .i64 xk, .int .i64 xn, .int .u64 (xu : Int), .string ⟨xs.toArray⟩, .slice XA xan xac, .slice XB xbn xbc] 26)).alloc (.cells #[.int .i64 0, .int .i64 0, .int .u64 0, .string ⟨#[]⟩, .slice none 0 0, .slice none 0 0] 26) = w1 at HB0 HX0 HZ0 ⊢
  generalize hbt : w.heap.size = bt at HX0 HZ0 ⊢
  generalize hbr : bt + 1 = br at HZ0 ⊢
  have HT := Lib.hid (And.intro hbt hbr)
  clear hbt hbr
  go_upto_region 2 with fail
  have hal := (Below.refl w1.heap.size w1).alloc (Nat.le_refl _) (.cells #[.int .i64 (nd : Int), .int .i64 (m : Int)] 72)
  have HR := Lib.hid (Blk.new w1 72 #[.int .i64 (nd : Int), .int .i64 (m : Int)])
  have HX1 := Lib.hid (HX0.out.pure hal)
  have HZ1 := Lib.hid (HZ0.out.pure hal)
  have HB1 := Lib.hid (pure_below HB0.out hal)
  have HS1 := Lib.hid (show br < w1.heap.size from HZ0.out.lt)
  clear hal
  have HC := Lib.hid (rcut_spec m HI.out _ w1.heap.size nd HB1.out HB0.out.size HD.out HR.out)
  generalize w1.alloc (.cells #[.int .i64 (nd : Int), .int .i64 (m : Int)] 72) = w2 at HR HX1 HZ1 HB1 HC ⊢
  have x0 : w2.cell? ⟨bt, 0, none⟩ = some (.int .i64 xk) := HX1.out.cell 0
  have x1 : w2.cell? ⟨bt, 1, none⟩ = some (.int .i64 xn) := HX1.out.cell 1
  have x2 : w2.cell? ⟨bt, 2, none⟩ = some (.int .u64 (xu : Int)) := HX1.out.cell 2
  have x3 : w2.cell? ⟨bt, 3, none⟩ = some (.string ⟨xs.toArray⟩) := HX1.out.cell 3
  have x4 : w2.cell? ⟨bt, 4, none⟩ = some (.slice XA xan xac) := HX1.out.cell 4
  have x5 : w2.cell? ⟨bt, 5, none⟩ = some (.slice XB xbn xbc) := HX1.out.cell 5
  go_wp2_with fail
  go_at_call 36
  refine HC.out.mono ?_
  rintro e w4 ⟨z, rfl, hN, hR4, hF4⟩
  have HN := Lib.hid hN
  have HF4 := Lib.hid hF4
  have HZ4 := Lib.hid (HZ1.out.fr hF4 (by have := HS1.out; omega))
  have HR2 := Lib.hid (show w1.heap.size < w2.heap.size from HR.out.lt)
  have HB4 := Lib.hid (below_fr HB1.out hF4 (by rintro j rfl; exact HB0.out.size))
  clear hN hR4 hF4 x0 x1 x2 x3 x4 x5
  have r0 : w4.cell? ⟨br, 0, none⟩ = some (.int .i64 0) := HZ4.out.cell 0
  have r1 : w4.cell? ⟨br, 1, none⟩ = some (.int .i64 0) := HZ4.out.cell 1
  have r2 : w4.cell? ⟨br, 2, none⟩ = some (.int .u64 0) := HZ4.out.cell 2
  have r3 : w4.cell? ⟨br, 3, none⟩ = some (.string ⟨#[]⟩) := HZ4.out.cell 3
  have r4 : w4.cell? ⟨br, 4, none⟩ = some (.slice none 0 0) := HZ4.out.cell 4
  have r5 : w4.cell? ⟨br, 5, none⟩ = some (.slice none 0 0) := HZ4.out.cell 5
  have hfz : ∀ j, w4.frozen? ⟨br, j, none⟩ = false := fun j => HZ4.out.frozen j
  have f0 := hfz 0
  have f1 := hfz 1
  have f2 := hfz 2
  have f3 := hfz 3
  have f4 := hfz 4
  have f5 := hfz 5
  clear hfz
  go_wp2_with fail
  refine bodyPost_ret (v := .agg #[.int .i64 z.k, .int .i64 z.n, .int .u64 (z.u : Int), .string ⟨z.s.toArray⟩, .slice z.A z.an z.ac, .slice z.B z.bn z.bc]) (by simp [results, Tryz.results9, go_sem, r0, r1, r2, r3, r4, r5]) rfl ?_
  have hf := fr_set6 w4 br (.int .i64 z.k) (.int .i64 z.n) (.int .u64 (z.u : Int)) (.string ⟨z.s.toArray⟩) (.slice z.A z.an z.ac) (.slice z.B z.bn z.bc)
  have hs := HS1.out
  have ht := HT.out
  have h4 := HF4.out.size
  have h5 := hf.size
  have h6 := HR2.out
  exact ⟨z, rfl, (HN.out.keep fun a u hc hp => cell_fr hf hc (by omega)).mono fun b hb => ⟨by omega, by omega⟩, below_fr HB4.out hf (by rintro j rfl; omega)⟩
theorem trod_fields {H : Type} {enc : TypeId × Value → H} {P : Program} {w : World} {base : Nat} {spare : Nat → Bool} {held : Bool} {t : TypeId} {fs : Array Field} {fuel : Nat} {cs : List Value} {x : DataW H × List MemPlace}
    (he : P.underlying t = some (.struct fs)) (hone : oneCellFields P fs = true) (hC : P.cellsOf t = fs.size) (h : DataW.trod enc P w base spare held fuel t cs = some x) :
    ∃ n, fuel = n + 1 ∧ cs.length = fs.size ∧ ∀ (j : Nat) (f : Field), fs[j]? = some f → ∃ (v : Value) (y : DataW H × List MemPlace), cs[j]? = some v ∧ DataW.trod enc P w base spare held n f.type [v] = some y := by
  obtain ⟨ys, n, hn, _, hl, hyl, hf⟩ := DataW.trod_struct he h
  rw [hC] at hl
  refine ⟨n, hn, hl, fun j f hj => ?_⟩
  obtain ⟨ho, hk⟩ := hone_of hone j f hj
  have hjl : j < fs.size := (Array.getElem?_eq_some_iff.1 hj).1
  have h1 := hf j f hj
  rw [ho, hk] at h1
  have hone' : (cs.drop j).take 1 = [cs[j]'(by omega)] := by
    rw [List.drop_eq_getElem_cons (by omega)]
    rfl
  rw [hone'] at h1
  have hys : ys[j]? = some (ys[j]'(by omega)) := List.getElem?_eq_getElem (by omega)
  exact ⟨_, _, List.getElem?_eq_getElem (by omega), h1.trans hys⟩
theorem cells_node : Tryz.prog.cellsOf 26 = 6 := by kernel_rfl
theorem cells_str : Tryz.prog.cellsOf 9 = 1 := by kernel_rfl
theorem ba_of (s : ByteArray) : (.string s : Value) = .string ⟨s.data.toList.toArray⟩ := by
  cases s
  simp
set_option maxRecDepth 100000 in
set_option maxHeartbeats 1000000 in
/-- Whatever node came in reads as a tree. -/
theorem node_of_trod {H : Type} {enc : TypeId × Value → H} {W : World} {base : Nat} {spare : Nat → Bool} {held : Bool} : ∀ (fuel : Nat) (cs : List Value) (x : DataW H × List MemPlace), DataW.trod enc Tryz.prog W base spare held fuel 26 cs = some x →
    ∃ (nv : Nv) (t : Tr), cs = nvc nv ∧ NodeI W nv t ∧ NumT t := by
  intro fuel
  induction fuel using Nat.strongRecOn with
  | ind fuel ih =>
    intro cs x h
    obtain ⟨n, rfl, hl, hf⟩ := trod_fields Tryz.underlying26 (by kernel_rfl) (by kernel_rfl) h
    obtain ⟨v0, y0, e0, t0⟩ := hf 0 _ rfl
    obtain ⟨v1, y1, e1, t1⟩ := hf 1 _ rfl
    obtain ⟨v2, y2, e2, t2⟩ := hf 2 _ rfl
    obtain ⟨v3, y3, e3, t3⟩ := hf 3 _ rfl
    obtain ⟨v4, y4, e4, t4⟩ := hf 4 _ rfl
    obtain ⟨v5, y5, e5, t5⟩ := hf 5 _ rfl
    clear hf
    obtain ⟨k, hk, _, _⟩ := DataW.trod_int Tryz.underlying3 t0
    obtain ⟨m, hm, _, hmw⟩ := DataW.trod_int Tryz.underlying2 t1
    obtain ⟨u, hu, _, huw⟩ := DataW.trod_int Tryz.underlying22 t2
    obtain ⟨s, hs, _, _⟩ := DataW.trod_string Tryz.underlying9 t3
    have hmb := i64_bd hmw
    have hub := u64_bd huw
    obtain ⟨u, rfl⟩ : ∃ u' : Nat, u = (u' : Int) := ⟨u.toNat, by omega⟩
    obtain ⟨A, an, ac, hA, ks, hks⟩ : ∃ A an ac, v4 = .slice A an ac ∧ ∃ ks, IsS W A an ks := by
      rcases open_strs Tryz.underlying23 Tryz.underlying9 cells_str t4 with ⟨h0, _⟩ | ⟨a, len, cap, mm, Sx, h0, _, hlc, _, hmm, _, hi⟩
      · injection h0 with h0
        exact ⟨none, 0, 0, h0, [], Is.nil _ _⟩
      · injection h0 with h0
        obtain ⟨ks, hks, _⟩ := is_of_elems (f := stc) stc_len (by omega) (w := W) (a := a) (n := len) (fun _ => True) (fun i hil => ⟨(Sx i).data.toList, trivial, fun j hj => by
          obtain rfl : j = 0 := by omega
          rw [Nat.mul_one, Nat.add_zero, (hi i (by rw [hmm]; split <;> omega)).1, ba_of]
          rfl⟩)
        exact ⟨some a, len, cap, h0, ks, hks⟩
    obtain ⟨B, bn, bc, hB, hbn, vs, hvs, hq⟩ : ∃ B bn bc, v5 = .slice B bn bc ∧ bn ≤ 9223372036854775807 ∧ ∃ vs, IsN W B bn vs ∧ ∀ v ∈ vs, ∃ t, NodeI W v t ∧ NumT t := by
      rcases DataW.trod_slice Tryz.underlying24 t5 with ⟨h0, _⟩ | ⟨a, len, cap, elems, rest, n', hn', h0, _, _, hlc, hcm, hel, hi, _, _⟩
      · injection h0 with h0
        exact ⟨none, 0, 0, h0, by omega, [], Is.nil _ _, fun v hv => by simp at hv⟩
      · injection h0 with h0
        simp only [maxLen] at hcm
        obtain ⟨vs, hvs, hq⟩ := is_of_elems (f := nvc) nvc_len (by omega) (w := W) (a := a) (n := len) (fun v => ∃ t, NodeI W v t ∧ NumT t) (fun i hil => by
          have h1 := hi i hil
          rw [cells_node, List.getElem?_eq_getElem (by omega)] at h1
          cases hc : W.cells? base (a.add (i * 6)) 6 with
          | none => rw [hc] at h1; cases h1
          | some cs' =>
            rw [hc] at h1
            obtain ⟨nv, t, rfl, hN, hT⟩ := ih n' (by omega) _ _ h1
            obtain ⟨_, hcl, hat⟩ := World.cells?_some hc
            exact ⟨nv, ⟨t, hN, hT⟩, fun j hj => by rw [← Go.Deep.add_add]; exact hat j hj⟩)
        exact ⟨some a, len, cap, h0, by omega, vs, hvs, hq⟩
    obtain ⟨ts, htl, htp⟩ := list_of (fun i t => ∀ v, vs[i]? = some v → NodeI W v t ∧ NumT t) vs.length (fun i hi => by
      obtain ⟨t, h1, h2⟩ := hq vs[i] (List.getElem_mem _)
      exact ⟨t, fun v hv => by rw [List.getElem?_eq_getElem hi] at hv; injection hv with hv; rw [← hv]; exact ⟨h1, h2⟩⟩)
    refine ⟨⟨k, m, u, s.data.toList, A, an, ac, B, bn, bc⟩, .mk k m u s.data.toList ks ts, ?_, ?_, ?_⟩
    · apply List.ext_getElem?
      intro j
      have h6 : j = 0 ∨ j = 1 ∨ j = 2 ∨ j = 3 ∨ j = 4 ∨ j = 5 ∨ 6 ≤ j := by omega
      rcases h6 with rfl | rfl | rfl | rfl | rfl | rfl | h6
      · rw [e0]; injection hk with hk; rw [hk]; rfl
      · rw [e1]; injection hm with hm; rw [hm]; rfl
      · rw [e2]; injection hu with hu; rw [hu]; rfl
      · rw [e3]; injection hs with hs; rw [hs, ba_of]; rfl
      · rw [e4, hA]; rfl
      · rw [e5, hB]; rfl
      · have hl : cs.length = 6 := hl
        rw [List.getElem?_eq_none (by omega), List.getElem?_eq_none (by simp [nvc]; omega)]
    · exact NodeI.mk (x := ⟨k, m, u, s.data.toList, A, an, ac, B, bn, bc⟩) hks hvs hbn htl.symm (fun i v t hv ht => by
        obtain ⟨hi, e⟩ := List.getElem?_eq_some_iff.1 ht
        rw [← e]
        exact (htp i hi v hv).1)
    · refine .mk hmb (by omega) (fun t ht => ?_)
      obtain ⟨i, hi, e⟩ := List.getElem_of_mem ht
      rw [← e]
      exact (htp i hi vs[i] (List.getElem?_eq_getElem (by omega))).2
set_option maxRecDepth 100000 in
theorem node_arg {H : Type} {enc : TypeId × Value → H} {W : World} {base : Nat} {v : Value} {d : DataW H} {p : List MemPlace} (k : Value.okWide Tryz.prog W .any base 26 v) (h : DataW.Trod enc Tryz.prog W 0 (fun _ => true) true 26 v d p) :
    ∃ (x : Nv) (t : Tr), v = .agg #[.int .i64 x.k, .int .i64 x.n, .int .u64 (x.u : Int), .string ⟨x.s.toArray⟩, .slice x.A x.an x.ac, .slice x.B x.bn x.bc] ∧ NodeI W x t ∧ NumT t := by
  obtain ⟨fuel, hf⟩ := h
  obtain ⟨x, t, hc, hI, hN⟩ := node_of_trod fuel _ _ hf
  obtain ⟨cs, rfl⟩ : ∃ cs, v = .agg cs := by
    unfold Value.okWide at k
    rw [Tryz.underlying26] at k
    obtain ⟨cs, e, _⟩ := k
    exact ⟨cs, e⟩
  refine ⟨x, t, ?_, hI, hN⟩
  have hc : cs.toList = nvc x := hc
  have : cs = #[.int .i64 x.k, .int .i64 x.n, .int .u64 (x.u : Int), .string ⟨x.s.toArray⟩, .slice x.A x.an x.ac, .slice x.B x.bn x.bc] := by
    cases cs
    simp only at hc
    rw [hc]
    rfl
  rw [this]
end Go.Proofs.YtfoifdoaleaekaaGreat

namespace Go.Proofs.YtfoifdoaleaekaaGreat
open Go.RowKit Go.Acc
theorem doc_all (f : Nat) {t : Tr} (h : Val t) (hc : t.cost ≤ 65000) : ∃ b v w, bBuild f (sortT t) = docB b v w ∧ Rep b v (sortT t) ∧ isW (w : Int) = true ∧ fitsV v b.length 0 w = true ∧ w = leastW (fitsV v b.length 0) ∧ legalT v.t = true ∧ isW (v.w : Int) = true ∧ kindT v.t = t.k ∧ b.length ≤ 65000 := by
  obtain ⟨v, e, r⟩ := build_law f (sortT t) (val_ok h)
  obtain ⟨h1, h2, h3⟩ := r.legal (sort_fix h)
  have hs := calls_size f (sortT t) (val_ok h) Bd.new good_new
  rw [cost_sort t h] at hs
  have hb : (Bd.calls f (sortT t) Bd.new).b.length ≤ (Bd.calls f (sortT t) Bd.new).size := by unfold Bd.size; omega
  have hz : Bd.new.size = 0 := rfl
  have e' : (Bd.calls f (sortT t) Bd.new).s = [v] := e
  obtain ⟨hw, hf⟩ := leastW_is (fitsV v (Bd.calls f (sortT t) Bd.new).b.length 0) (fitsV8 r.fit 0)
  exact ⟨_, v, _, by simp only [bBuild, Bd.finish, e', docB], r, isW_nat.2 hw, hf, rfl, h1, h2, h3.trans (sort_k t), by omega⟩
theorem cut_cost (m nd : Nat) (t : Tr) (h : (124 + 3 * m) * (nd + 1) ≤ 65000) : (cutT m t nd).1.cost ≤ 64 + 2 * m + 64 * (m + 20) + nd * (104 + 2 * m + 64 * (m + 20)) ∧ (Val (cutT m t nd).1 → (cutT m t nd).1.cost ≤ 65000) := by
  have h1 := cutT_left m t nd
  have h2 := cutT_pre m t nd 0
  refine ⟨?_, fun hv => ?_⟩
  · have h3 : (nd - (cutT m t nd).2) * (104 + 2 * m + 64 * (m + 20)) ≤ nd * (104 + 2 * m + 64 * (m + 20)) := Nat.mul_le_mul_right _ (Nat.sub_le _ _)
    exact Nat.le_trans h1.2 (Nat.add_le_add_left h3 _)
  · have h3 := cost_val m _ 0 hv (cutT_lim m t nd)
    have h4 : (Tr.pre 0 (cutT m t nd).1).length * (124 + 3 * m) ≤ (nd + 1) * (124 + 3 * m) := Nat.mul_le_mul_right _ (by omega)
    rw [Nat.mul_comm (124 + 3 * m)] at h
    omega
theorem cut_tree {x : Nv} {t : Tr} {w : World} (h : NodeI w x t) (hN : NumT t) : ∃ T, (∀ W, Below w.heap.size w W → Calls Tryz.prog 9 #[.agg #[.int .i64 x.k, .int .i64 x.n, .int .u64 (x.u : Int), .string ⟨x.s.toArray⟩, .slice x.A x.an x.ac, .slice x.B x.bn x.bc], .int .i64 80, .int .i64 60] W (TreeW W T)) ∧ NumT T ∧ T.cost ≤ 1000000 ∧ (Val T → T.cost ≤ 65000) := by
  have hc := cut_cost 60 79 t (by omega)
  refine ⟨(cutT 60 t 79).1, fun W hb => ?_, cutT_num 60 t 79 hN, by omega, hc.2⟩
  exact cut_spec 60 79 (h.pure hb) (by omega)
end Go.Proofs.YtfoifdoaleaekaaGreat

namespace Go.Proofs.YtfoifdoaleaekaaGreat
open Go.RowKit Go.Acc
theorem shindex {t : Int} (ht : isT t = true) : ∀ w, (Instr.index 99 (.agg shS) (.int .i64 t)).run Tryz.prog w = .ok (.agg (shR t.toNat).toArray) w := by
  have h : ∀ n : Fin 37, ∀ w, (Instr.index 99 (.agg shS) (.int .i64 ((n.val : Nat) : Int))).run Tryz.prog w = .ok (.agg (shR ((n.val : Nat) : Int).toNat).toArray) w := by
    intro n
    rcases n with ⟨n, hn⟩
    have : n = 0 ∨ n = 1 ∨ n = 2 ∨ n = 3 ∨ n = 4 ∨ n = 5 ∨ n = 6 ∨ n = 7 ∨ n = 8 ∨ n = 9 ∨ n = 10 ∨ n = 11 ∨ n = 12 ∨ n = 13 ∨ n = 14 ∨ n = 15 ∨ n = 16 ∨ n = 17 ∨ n = 18 ∨ n = 19 ∨ n = 20 ∨ n = 21 ∨ n = 22 ∨ n = 23 ∨ n = 24 ∨ n = 25 ∨ n = 26 ∨ n = 27 ∨ n = 28 ∨ n = 29 ∨ n = 30 ∨ n = 31 ∨ n = 32 ∨ n = 33 ∨ n = 34 ∨ n = 35 ∨ n = 36 := by omega
    rcases this with rfl | rfl | rfl | rfl | rfl | rfl | rfl | rfl | rfl | rfl | rfl | rfl | rfl | rfl | rfl | rfl | rfl | rfl | rfl | rfl | rfl | rfl | rfl | rfl | rfl | rfl | rfl | rfl | rfl | rfl | rfl | rfl | rfl | rfl | rfl | rfl | rfl
    all_goals
      intro w
      kernel_rfl
  exact t37_all (p := fun t => ∀ w, (Instr.index 99 (.agg shS) (.int .i64 t)).run Tryz.prog w = .ok (.agg (shR t.toNat).toArray) w) h ht
def isL (t : Int) : Bool := decide (t = 9 ∨ t = 10) || vecT t
def tagT (t : Int) : Bool := decide (t = 9 ∨ t = 10)
def aheadT (t : Int) : Nat := if t = 9 then 3 else if 0 < manyT t then 0 else 1
def tgs (t : Int) : Nat := if tagT t = true then 1 else 0
theorem shcases {t : Int} (ht : isT t = true) :
    (isL t = false ∧ shR t.toNat = [.int .i64 0, .nilFunc, .nilFunc, .int .i64 0]) ∨
    (isL t = true ∧ 0 < manyT t ∧ manyT t ≤ 4 ∧ tagT t = false ∧ aheadT t = 0 ∧ shR t.toNat = [.int .i64 0, fnV 91, fnV 92, .int .i64 0]) ∨
    (isL t = true ∧ manyT t = 0 ∧ (aheadT t = 1 ∨ aheadT t = 3) ∧ shR t.toNat = [.int .i64 (aheadT t : Int), fnV 93, (if tagT t = true then fnV 94 else fnV 92), .int .i64 (tgs t : Int)]) := by
  have hb := isT_iff.1 ht
  have : t = 0 ∨ t = 1 ∨ t = 2 ∨ t = 3 ∨ t = 4 ∨ t = 5 ∨ t = 6 ∨ t = 7 ∨ t = 8 ∨ t = 9 ∨ t = 10 ∨ t = 11 ∨ t = 12 ∨ t = 13 ∨ t = 14 ∨ t = 15 ∨ t = 16 ∨ t = 17 ∨ t = 18 ∨ t = 19 ∨ t = 20 ∨ t = 21 ∨ t = 22 ∨ t = 23 ∨ t = 24 ∨ t = 25 ∨ t = 26 ∨ t = 27 ∨ t = 28 ∨ t = 29 ∨ t = 30 ∨ t = 31 ∨ t = 32 ∨ t = 33 ∨ t = 34 ∨ t = 35 ∨ t = 36 := by omega
  clear hb ht
  rcases this with rfl | rfl | rfl | rfl | rfl | rfl | rfl | rfl | rfl | rfl | rfl | rfl | rfl | rfl | rfl | rfl | rfl | rfl | rfl | rfl | rfl | rfl | rfl | rfl | rfl | rfl | rfl | rfl | rfl | rfl | rfl | rfl | rfl | rfl | rfl | rfl | rfl
  all_goals first
    | exact .inl ⟨by decide, rfl⟩
    | exact .inr (.inl ⟨by decide, by decide, by decide, by decide, by decide, rfl⟩)
    | exact .inr (.inr ⟨by decide, by decide, by decide, rfl⟩)
set_option maxRecDepth 100000 in
set_option maxHeartbeats 400000 in
theorem lfixed_spec (A : Option Addr) (n c : Nat) (p q t v a : Int) (M : Nat) (w : World) (hm : manyT t = M) (hM : M ≤ 4) :
    Calls Tryz.prog 91 #[.slice A n c, .agg #[.int .i64 p, .int .i64 q, .int .i64 t, .int .i64 v], .int .i64 a] w fun e w' => e = .returned (.int .u64 (M : Int)) ∧ Below w.heap.size w w' := by
  have HB := Lib.hid ((Below.refl w.heap.size w).alloc (Nat.le_refl _) (.cells #[.int .i64 p, .int .i64 q, .int .i64 t, .int .i64 v] 36))
  have HM := Lib.hid hm
  clear hm
  go_enter Tryz.func91, Tryz.ntmps91
  go_wp2_with fail
  go_at_call 90
  refine (elem_spec t _).mono ?_
  rw [HM.out]
  rintro e w1 ⟨rfl, hb⟩
  replace HB := Lib.hid (pure_below HB.out hb)
  clear hb
  have hw : IntKind.u64.wrap (M : Int) = M := u64_in _ (by omega)
  go_wp2
  go_ret
  exact ⟨rfl, HB.out⟩
set_option maxRecDepth 100000 in
set_option maxHeartbeats 400000 in
theorem length_spec (A : Option Addr) (n c : Nat) (p q t : Int) (v a : Nat) (l : List UInt8) (w : World) (h : IsB w A n l) (hc : n ≤ c) (hn : n ≤ 1099511627776) (ha : a ≤ 1099511627776) (hv : v ≤ 8) :
    Calls Tryz.prog 93 #[.slice A n c, .agg #[.int .i64 p, .int .i64 q, .int .i64 t, .int .i64 v], .int .i64 a] w fun e w' => e = .returned (.int .u64 (loadU l ((a : Int) - v) v : Nat)) ∧ Below w.heap.size w w' := by
  have HL := Lib.hid (h.alloc (.cells #[.int .i64 p, .int .i64 q, .int .i64 t, .int .i64 v] 36))
  have HB := Lib.hid ((Below.refl w.heap.size w).alloc (Nat.le_refl _) (.cells #[.int .i64 p, .int .i64 q, .int .i64 t, .int .i64 v] 36))
  clear h
  go_enter Tryz.func93, Tryz.ntmps93
  go_wp2_with fail
  go_at_call 47
  refine (load_spec A n c ((a : Int) - v) v l _ HL.out hc (by omega)).mono ?_
  rintro e w1 ⟨rfl, hb⟩
  replace HB := Lib.hid (pure_below HB.out hb)
  clear hb
  go_wp2
  go_ret
  exact ⟨rfl, HB.out⟩
theorem length_is (A : Option Addr) (n c : Nat) (p q t : Int) (v a U : Nat) (l : List UInt8) (w : World) (h : IsB w A n l) (hc : n ≤ c) (hn : n ≤ 1099511627776) (ha : a ≤ 1099511627776) (hv : v ≤ 8) (hU : loadU l ((a : Int) - v) v = U) :
    Calls Tryz.prog 93 #[.slice A n c, .agg #[.int .i64 p, .int .i64 q, .int .i64 t, .int .i64 v], .int .i64 a] w fun e w' => e = .returned (.int .u64 (U : Int)) ∧ Below w.heap.size w w' := by
  subst hU
  exact length_spec A n c p q t v a l w h hc hn ha hv
end Go.Proofs.YtfoifdoaleaekaaGreat
