/-
  Package build: a key is written, or found.
  Package build: vector.
-/
import Derived.Test.YtfoifdoaleaekaaGreatQg30
import Derived.Maps.Views
import Derived.Maps.Ext
namespace Go.Proofs.YtfoifdoaleaekaaGreat
open Go.RowKit Go.Acc
theorem law_u64 : Maps.Keyed Tryz.prog 22 := Maps.int_keyed Tryz.underlying22
theorem wf_u64 (a : Nat) (ha : a < 18446744073709551616) : (Lit.int .u64 (a : Int)).wf = true := by
  have h1 : IntKind.u64.min = 0 := rfl
  have h2 : IntKind.u64.max = 18446744073709551615 := rfl
  simp [Lit.wf, h1, h2]
  omega
theorem names_put {w w' : World} {o : Nat → Nat} {p n a : Nat} {s : List UInt8} {m : List (Nat × List UInt8)} {D : DataW Unit} (op : o p = 7) (hm : w.ownsMap (H := Unit) Tryz.prog 22 (plainElem Tryz.prog 9) p n D) (hn : n ≤ m.length)
    (hat : ∀ a s, m.find? (fun x => x.1 == a) = some (a, s) → D.atKey (.int .u64 a) (.lit (.string [])) = .lit (.string s))
    (hm' : w'.ownsMap (H := Unit) Tryz.prog 22 (plainElem Tryz.prog 9) p (n + 1) (D.put (.int .u64 (a : Int)) (.lit (.string s)))) (hg : w.grownBy w' (some p)) (ha : a < 18446744073709551616) :
    NamesO w' (newO o w.heap.size 7) p ((a, s) :: m) ∧ To (fun i => i = 7) w o w' (newO o w.heap.size 7) := by
  have hk : WideAt.IsKeyLit (.int .u64 (a : Int)) := law_u64.key (Maps.keyOf_int_mk Tryz.underlying22 (wf_u64 a ha))
  obtain ⟨es, hD, _⟩ := hm.canon law_u64
  refine ⟨⟨by rw [newO_old hm.lt]; exact op, n + 1, _, hm', by simp; omega, ?_⟩, To.of_fr (Fr.of_grown hg) ?_ 7⟩
  · intro a' s' hf
    rw [List.find?_cons] at hf
    by_cases e : a = a'
    · subst e
      simp at hf
      subst hf
      exact Maps.atKey_put_same ⟨es, hD⟩ hk _ _
    · have e2 : (a == a') = false := beq_eq_false_iff_ne.mpr e
      simp only [e2] at hf
      rw [Maps.atKey_put_other (by intro h; injection h with _ h; omega)]
      exact hat a' s' hf
  · intro k _ hk
    injection hk with hk
    rw [hk]
    exact op
structure RoomK (b : Bd) (s : List UInt8) : Prop where
  st : b.s.length < 65536
  len : b.b.length + s.length + 1 ≤ 1048576
  ky : b.keys.length ≤ 1048575
  nm : b.names.length ≤ 1048575
theorem put_eq (f : Nat) (s : List UInt8) (b : Bd) (g : Option Nat) (q : Bool) (hg : getP b.keys s = g) (hq : onF f 1 = q) : b.put f s = match (if q = true then g else none) with
  | some a => (b, ⟨4, 1, a⟩)
  | none => ({ b with b := b.b ++ s ++ [0], keys := putP b.keys s b.b.length, names := (b.b.length, s) :: b.names }, ⟨4, 1, b.b.length⟩) := by
  unfold Bd.put
  rw [hg, hq]
  cases (if q = true then g else none) <;> rfl
theorem _root_.Go.Acc.To.set_new {I : Nat → Prop} {w w' : World} {o o' : Nat → Nat} (h : To I w o w' o') {p : Addr} (hp : w.heap.size ≤ p.block) (v : Value) : To I w o (w'.setCell p v) o' :=
  ⟨h.fr.setCell (fun hlt => absurd hlt (by omega)) v, h.ow⟩
theorem BM.set_lone {M : Bp} {fl : Int} {w : World} {o : Nat → Nat} {b : Bd} (h : BM M fl w o b) {p : Addr} (hp : o p.block = 0) (v : Value) : BM M fl (w.setCell p v) o b :=
  h.to_ (To.of_fr0 (I := fun i => i = 0) (Fr.setCell (S := fun k => k = p.block) (Fr.refl _ w) (fun _ => rfl) v) (by rintro k _ rfl; exact hp)) (fun i hi e => by subst e; exact bld_0 hi)
theorem bld_4 {i : Nat} (h : i = 4) : Bld i := by subst h; exact ⟨by omega, by omega⟩
theorem bld_7 {i : Nat} (h : i = 7) : Bld i := by subst h; exact ⟨by omega, by omega⟩
theorem blk3_cells {w : World} {r : Nat} {t : TypeId} {x y z : Value} (h : Blk w r t #[x, y, z]) : (w.cell? ⟨r, 0, none⟩ = some x ∧ w.cell? ⟨r, 1, none⟩ = some y ∧ w.cell? ⟨r, 2, none⟩ = some z) ∧ w.frozen? ⟨r, 0, none⟩ = false ∧ w.frozen? ⟨r, 1, none⟩ = false ∧ w.frozen? ⟨r, 2, none⟩ = false :=
  ⟨⟨h.cell 0, h.cell 1, h.cell 2⟩, h.frozen 0, h.frozen 1, h.frozen 2⟩
set_option maxRecDepth 100000 in
set_option maxHeartbeats 2000000 in
theorem cput_spec (M : Bp) (fl : Int) (b : Bd) (s : List UInt8) (w : World) (o : Nat → Nat) (h : BM M fl w o b) (hr : RoomK b s) (hz : hasZero s = false) :
    Calls Tryz.prog 166 #[.pointer (some ⟨M.β, 0, none⟩), .string ⟨s.toArray⟩] w fun e w' => ∃ a : Nat, (b.put (Go.Proofs.YtfoifdoaleaekaaGreat.bits fl) s).2 = ⟨4, 1, a⟩ ∧ e = .returned (.agg #[.int .i64 4, .int .i64 1, .int .u64 (a : Int)]) ∧ ∃ o', BM M fl w' o' (b.put (Go.Proofs.YtfoifdoaleaekaaGreat.bits fl) s).1 ∧ To Bld w o w' o' := by
  have HR := Lib.hid hr
  obtain ⟨g, hg⟩ : ∃ g, getP b.keys s = g := ⟨_, rfl⟩
  obtain ⟨q, hq⟩ : ∃ q, onF (Go.Proofs.YtfoifdoaleaekaaGreat.bits fl) 1 = q := ⟨_, rfl⟩
  have HE := Lib.hid (put_eq (Go.Proofs.YtfoifdoaleaekaaGreat.bits fl) s b g q hg hq)
  have HQ := Lib.hid hq
  obtain ⟨gv, hgv⟩ : ∃ v, g.getD 0 = v := ⟨_, rfl⟩
  obtain ⟨had, hhad⟩ : ∃ v, g.isSome = v := ⟨_, rfl⟩
  have HG := Lib.hid (show optN (getP b.keys s) = .tuple #[.int .i64 (gv : Int), .bool had] by rw [hg]; unfold optN; rw [hgv, hhad])
  have HGV := Lib.hid (And.intro hgv hhad)
  have HAT := Lib.hid (show ∀ a, g = some a → a ≤ 1048576 by
    intro a ha
    obtain ⟨A1, A2, n', c1, c2, ks, ns, hL, o1, o2, op, hP⟩ := h.keys.open_
    rw [ha, hP.get] at hg
    unfold getP at hg
    rw [Option.map_eq_some_iff] at hg
    obtain ⟨x, hx, rfl⟩ := hg
    exact hP.at_ _ (List.of_mem_zip (List.mem_of_find?_eq_some hx)).2)
  have HKY := Lib.hid (show b.keys.length ≤ 1048576 by have := hr.ky; omega)
  have HZ := Lib.hid hz
  have HKC := Lib.hid (fun W => kcheck_spec s W hz)
  have hB : Below w.heap.size w (w.alloc (.cells #[.int .i64 0, .int .i64 0, .int .u64 0] 185)) := (Below.refl _ _).alloc (Nat.le_refl _) _
  have HM1 := Lib.hid (h.fresh hB 0)
  have HT1 := Lib.hid (To.fresh Bld hB o 0)
  have HX1 := Lib.hid (Blk.new w 185 #[.int .i64 0, .int .i64 0, .int .u64 0])
  have HO1 := Lib.hid (show newO o w.heap.size 0 w.heap.size = 0 from newO_new (Nat.le_refl _))
  obtain ⟨n, hn⟩ : ∃ n, b.b.length = n := ⟨_, rfl⟩
  have HN := Lib.hid hn
  have HLT := Lib.hid (show b.b.length + [s, [0]].flatten.length ≤ 1048576 by have := hr.len; simp; omega)
  have HPE := Lib.hid (show plainElem (H := Unit) Tryz.prog 9 (.string ⟨s.toArray⟩) = some (.lit (.string s), []) by
    have hle : (⟨s.toArray⟩ : ByteArray).size ≤ maxLen := by
      have := hr.len
      have e : (⟨s.toArray⟩ : ByteArray).size = s.length := rfl
      rw [e]; simp only [maxLen]; omega
    have hu : Tryz.prog.underlying 9 = some .string := Tryz.underlying9
    unfold plainElem
    rw [hu]
    simp [hle])
  have hnm : n ≤ 1048576 := by have := hr.len; omega
  clear h hr hz hg hq hgv hhad hB hn
  go_enter Tryz.func166, Tryz.ntmps166
  go_upto_region 1 with fail
  generalize w.alloc (.cells #[.int .i64 0, .int .i64 0, .int .u64 0] 185) = w1 at HM1 HT1 HX1 ⊢
  generalize newO o w.heap.size 0 = o1 at HM1 HT1 HO1
  generalize hrr : w.heap.size = r at HX1 HO1 ⊢
  have HRR := Lib.hid (show w.heap.size ≤ r by rw [hrr]; exact Nat.le_refl _)
  clear hrr
  go_wp2_with fail
  go_region_held3 (fun _ => True) (exact trivial) (first | (go_at_call 62; (with_reducible refine (HKC.out _).mono ?_); rintro e w' ⟨rfl, rfl⟩) | (go_at_call 127; (with_reducible refine (fail_ok HM1.out.drew).mono ?_); rintro e w2 ⟨rfl, o2, hM2, hT2⟩; have HM2 := Lib.hid hM2; have HX2 := Lib.hid (HX1.out.to_ hT2.from_drew (by rw [HO1.out]; exact bld_0)); have HO2 := Lib.hid (show o2 r = 0 by rw [hT2.from_drew.ow _ HX1.out.lt]; exact HO1.out); have HT2 := Lib.hid (HT1.out.trans hT2.from_drew); clear hM2 hT2))
  obtain ⟨b0, _, b2, _, _⟩ := HM2.out.head.cells
  obtain ⟨_, b3, b4, _⟩ := head_tb HM2.out.head
  go_wp2_with fail
  go_at_call 217
  refine (pget_spec 4 M.kb b.keys s _ o2 HM2.out.keys HKY.out).mono ?_
  rintro e w3 ⟨rfl, hB⟩
  rw [HG.out]
  have HM3 := Lib.hid (HM2.out.pure hB)
  have HX3 := Lib.hid (HX2.out.pure hB)
  have HT3 := Lib.hid (HT2.out.trans (To.pure Bld hB o2))
  clear hB b0 b2 b3 b4
  obtain ⟨b0, b3, b4, _⟩ := head_tb HM3.out.head
  obtain ⟨hg, hgh⟩ := HGV.out
  cases g with
  | none =>
    obtain rfl : had = false := by rw [← hgh]; rfl
    have HP := Lib.hid (show (if q = true then (none : Option Nat) else none) = none by split <;> rfl)
    clear hg hgh
    have hwn : IntKind.u64.wrap (n : Int) = (n : Int) := u64_in _ (by omega)
    go_wp2_with fail
    go_at_call 129
    refine (blen_is n HM3.out.buf HN.out).mono ?_
    rintro e w' ⟨rfl, rfl⟩
    go_wp2_with fail
    go_at_call 134
    refine (btext_spec M.bb 2 2 _ [s, [0]] b.b _ (newO o2 w3.heap.size 0) (HM3.out.fresh ((Below.refl _ _).alloc (Nat.le_refl _) _) 0).buf (two_strs w3 s [0]) ?_ HLT.out (by omega)).mono ?_
    · rintro ad e
      injection e with e
      subst e
      show newO o2 w3.heap.size 0 w3.heap.size ≠ 1
      rw [newO_new (Nat.le_refl _)]
      omega
    rintro e w4 ⟨rfl, o4, hB4, hT4⟩
    have HM4 := Lib.hid ((HM3.out.fresh ((Below.refl _ _).alloc (Nat.le_refl _) (.cells #[.string ⟨s.toArray⟩, .string ⟨([0] : List UInt8).toArray⟩] 9)) 0).buf_ hT4 hB4)
    have HTN := Lib.hid ((To.fresh (fun i => i = 1) ((Below.refl w3.heap.size w3).alloc (Nat.le_refl _) (.cells #[.string ⟨s.toArray⟩, .string ⟨([0] : List UInt8).toArray⟩] 9)) o2 0).trans hT4)
    have HX4 := Lib.hid (HX3.out.to_ HTN.out (by rw [HO2.out]; omega))
    have HO4 := Lib.hid (show o4 r = 0 by rw [HTN.out.ow _ HX3.out.lt]; exact HO2.out)
    have HT4 := Lib.hid (HT3.out.trans (HTN.out.mono fun _ h => bld_1 h))
    clear hB4 hT4 b0 b3 b4
    obtain ⟨_, _, b4, _⟩ := head_tb HM4.out.head
    go_wp2_with fail
    go_at_call 219
    refine (pput_spec 4 M.kb b.keys s n w4 o4 HM4.out.keys HR.out.ky hnm).mono ?_
    rintro e w5 ⟨⟨x, rfl⟩, o5, hB5, hT5⟩
    have HM5 := Lib.hid (HM4.out.keys_ hT5 hB5)
    have HX5 := Lib.hid (HX4.out.to_ hT5 (by rw [HO4.out]; omega))
    have HO5 := Lib.hid (show o5 r = 0 by rw [hT5.ow _ HX4.out.lt]; exact HO4.out)
    have HT5 := Lib.hid (HT4.out.trans (hT5.mono fun _ h => bld_4 h))
    clear hB5 hT5 b4
    obtain ⟨_, _, _, _, _, b7⟩ := head_tb HM5.out.head
    obtain ⟨op, nn, D, hmap, hnn, hat⟩ := HM5.out.names
    have hnl : nn < maxLen := by have := HR.out.nm; have h2 : nn ≤ b.names.length := hnn; simp only [maxLen]; omega
    go_wp2_with (at_mapUpdate; refine wpList_mapUpdate_own (H := Unit) _ rfl _ _ _ 159 rfl 22 9 law_u64 Tryz.underlying159 _ M.mb nn D rfl hmap hnl _ _ (.int .u64 (n : Int)) rfl rfl (Maps.keyOf_int_mk Tryz.underlying22 (wf_u64 n (by omega))) (.lit (.string s)) [] HPE.out ?_; intro w6 hown hgrow)
    obtain ⟨hN6, hT6⟩ := names_put op hmap hnn hat hown hgrow (by omega)
    have HM6 := Lib.hid (show BM M fl w6 (newO o5 w5.heap.size 7) { b with b := b.b ++ s ++ [0], keys := putP b.keys s b.b.length, names := (b.b.length, s) :: b.names } by
      have h6 := HM5.out.names_ hT6 hN6
      have e2 : b.b ++ s ++ [0] = b.b ++ [s, [0]].flatten := by simp
      rw [e2, HN.out]
      exact h6)
    have HX6 := Lib.hid (HX5.out.to_ hT6 (by rw [HO5.out]; omega))
    have HO6 := Lib.hid (show newO o5 w5.heap.size 7 r = 0 by rw [hT6.ow _ HX5.out.lt]; exact HO5.out)
    have HT6 := Lib.hid (HT5.out.trans (hT6.mono fun _ h => bld_7 h))
    clear op hmap hnn hat hown hgrow hN6 hT6 hnl b7
    generalize newO o5 w5.heap.size 7 = o6 at HM6 HO6 HT6
    have d0 := (head_tb HM6.out.head).1
    go_wp2_with fail
    go_region_held3 (fun w' => w'.cell? ⟨M.β, 0, none⟩ = some (.pointer (some ⟨M.bb, 0, none⟩))) (first | with_reducible exact d0 | with_reducible exact kdrew d0 | with_reducible exact e0) (first | (go_at_call 201; (with_reducible refine (berr_is HM6.out.drew.buf).mono ?_); rintro e w' ⟨rfl, rfl⟩) | (go_at_call 127; (with_reducible refine (fail_ok HM6.out.drew).mono ?_); rintro e w7 ⟨rfl, o7, hM7, hT7⟩; have e0 := (head_tb hM7.head).1; have HM7 := Lib.hid hM7; have HX7 := Lib.hid (HX6.out.to_ hT7.from_drew (by rw [HO6.out]; exact bld_0)); have HO7 := Lib.hid (show o7 r = 0 by rw [hT7.from_drew.ow _ HX6.out.lt]; exact HO6.out); have HT7 := Lib.hid (HT6.out.trans hT7.from_drew); clear hM7 hT7))
    clear hwn
    have hwa : IntKind.u64.wrap (n : Int) = (n : Int) := u64_in _ (by omega)
    obtain ⟨⟨r0, r1, r2⟩, f0, f1, f2⟩ := blk3_cells HX7.out
    go_wp2_with fail
    have hF := ((HX7.out.set_ 0 (.int .i64 4)).set_ 1 (.int .i64 1)).set_ 2 (.int .u64 (n : Int))
    have hMF := ((HM7.out.set_lone (p := ⟨r, 0, none⟩) HO7.out (.int .i64 4)).set_lone (p := ⟨r, 1, none⟩) HO7.out (.int .i64 1)).set_lone (p := ⟨r, 2, none⟩) HO7.out (.int .u64 (n : Int))
    have hTF := ((HT7.out.set_new (p := ⟨r, 0, none⟩) HRR.out (.int .i64 4)).set_new (p := ⟨r, 1, none⟩) HRR.out (.int .i64 1)).set_new (p := ⟨r, 2, none⟩) HRR.out (.int .u64 (n : Int))
    clear r0 r1 r2 f0 f1 f2
    generalize ((w7.setCell ⟨r, 0, none⟩ (.int .i64 4)).setCell ⟨r, 1, none⟩ (.int .i64 1)).setCell ⟨r, 2, none⟩ (.int .u64 (n : Int)) = wF at hF hMF hTF ⊢
    have r0 : wF.cell? ⟨r, 0, none⟩ = some (.int .i64 4) := hF.cell 0
    have r1 : wF.cell? ⟨r, 1, none⟩ = some (.int .i64 1) := hF.cell 1
    have r2 : wF.cell? ⟨r, 2, none⟩ = some (.int .u64 (n : Int)) := hF.cell 2
    refine bodyPost_ret (v := .agg #[.int .i64 4, .int .i64 1, .int .u64 (n : Int)]) (by simp [results, Tryz.results166, go_sem, r0, r1, r2]) rfl ?_
    rw [HE.out, HP.out]
    exact ⟨_, by first | rfl | (rw [HN.out]), rfl, _, hMF, hTF⟩
  | some a =>
    obtain rfl : had = true := by rw [← hgh]; rfl
    obtain rfl : gv = a := by rw [← hg]; rfl
    have hgb := HAT.out gv rfl
    clear hg hgh
    go_wp2_with fail
    go_at_call 218
    refine (on_spec M.β 1 0 fl q w3 b3 (by omega) rfl HQ.out).mono ?_
    rintro e w' ⟨rfl, rfl⟩
    cases q with
    | false =>
      have HP := Lib.hid (show (if false = true then some gv else none) = none from rfl)
      have hwn : IntKind.u64.wrap (n : Int) = (n : Int) := u64_in _ (by omega)
      go_wp2_with fail
      go_at_call 129
      refine (blen_is n HM3.out.buf HN.out).mono ?_
      rintro e w' ⟨rfl, rfl⟩
      go_wp2_with fail
      go_at_call 134
      refine (btext_spec M.bb 2 2 _ [s, [0]] b.b _ (newO o2 w3.heap.size 0) (HM3.out.fresh ((Below.refl _ _).alloc (Nat.le_refl _) _) 0).buf (two_strs w3 s [0]) ?_ HLT.out (by omega)).mono ?_
      · rintro ad e
        injection e with e
        subst e
        show newO o2 w3.heap.size 0 w3.heap.size ≠ 1
        rw [newO_new (Nat.le_refl _)]
        omega
      rintro e w4 ⟨rfl, o4, hB4, hT4⟩
      have HM4 := Lib.hid ((HM3.out.fresh ((Below.refl _ _).alloc (Nat.le_refl _) (.cells #[.string ⟨s.toArray⟩, .string ⟨([0] : List UInt8).toArray⟩] 9)) 0).buf_ hT4 hB4)
      have HTN := Lib.hid ((To.fresh (fun i => i = 1) ((Below.refl w3.heap.size w3).alloc (Nat.le_refl _) (.cells #[.string ⟨s.toArray⟩, .string ⟨([0] : List UInt8).toArray⟩] 9)) o2 0).trans hT4)
      have HX4 := Lib.hid (HX3.out.to_ HTN.out (by rw [HO2.out]; omega))
      have HO4 := Lib.hid (show o4 r = 0 by rw [HTN.out.ow _ HX3.out.lt]; exact HO2.out)
      have HT4 := Lib.hid (HT3.out.trans (HTN.out.mono fun _ h => bld_1 h))
      clear hB4 hT4 b0 b3 b4
      obtain ⟨_, _, b4, _⟩ := head_tb HM4.out.head
      go_wp2_with fail
      go_at_call 219
      refine (pput_spec 4 M.kb b.keys s n w4 o4 HM4.out.keys HR.out.ky hnm).mono ?_
      rintro e w5 ⟨⟨x, rfl⟩, o5, hB5, hT5⟩
      have HM5 := Lib.hid (HM4.out.keys_ hT5 hB5)
      have HX5 := Lib.hid (HX4.out.to_ hT5 (by rw [HO4.out]; omega))
      have HO5 := Lib.hid (show o5 r = 0 by rw [hT5.ow _ HX4.out.lt]; exact HO4.out)
      have HT5 := Lib.hid (HT4.out.trans (hT5.mono fun _ h => bld_4 h))
      clear hB5 hT5 b4
      obtain ⟨_, _, _, _, _, b7⟩ := head_tb HM5.out.head
      obtain ⟨op, nn, D, hmap, hnn, hat⟩ := HM5.out.names
      have hnl : nn < maxLen := by have := HR.out.nm; have h2 : nn ≤ b.names.length := hnn; simp only [maxLen]; omega
      go_wp2_with (at_mapUpdate; refine wpList_mapUpdate_own (H := Unit) _ rfl _ _ _ 159 rfl 22 9 law_u64 Tryz.underlying159 _ M.mb nn D rfl hmap hnl _ _ (.int .u64 (n : Int)) rfl rfl (Maps.keyOf_int_mk Tryz.underlying22 (wf_u64 n (by omega))) (.lit (.string s)) [] HPE.out ?_; intro w6 hown hgrow)
      obtain ⟨hN6, hT6⟩ := names_put op hmap hnn hat hown hgrow (by omega)
      have HM6 := Lib.hid (show BM M fl w6 (newO o5 w5.heap.size 7) { b with b := b.b ++ s ++ [0], keys := putP b.keys s b.b.length, names := (b.b.length, s) :: b.names } by
        have h6 := HM5.out.names_ hT6 hN6
        have e2 : b.b ++ s ++ [0] = b.b ++ [s, [0]].flatten := by simp
        rw [e2, HN.out]
        exact h6)
      have HX6 := Lib.hid (HX5.out.to_ hT6 (by rw [HO5.out]; omega))
      have HO6 := Lib.hid (show newO o5 w5.heap.size 7 r = 0 by rw [hT6.ow _ HX5.out.lt]; exact HO5.out)
      have HT6 := Lib.hid (HT5.out.trans (hT6.mono fun _ h => bld_7 h))
      clear op hmap hnn hat hown hgrow hN6 hT6 hnl b7
      generalize newO o5 w5.heap.size 7 = o6 at HM6 HO6 HT6
      have d0 := (head_tb HM6.out.head).1
      go_wp2_with fail
      go_region_held3 (fun w' => w'.cell? ⟨M.β, 0, none⟩ = some (.pointer (some ⟨M.bb, 0, none⟩))) (first | with_reducible exact d0 | with_reducible exact kdrew d0 | with_reducible exact e0) (first | (go_at_call 201; (with_reducible refine (berr_is HM6.out.drew.buf).mono ?_); rintro e w' ⟨rfl, rfl⟩) | (go_at_call 127; (with_reducible refine (fail_ok HM6.out.drew).mono ?_); rintro e w7 ⟨rfl, o7, hM7, hT7⟩; have e0 := (head_tb hM7.head).1; have HM7 := Lib.hid hM7; have HX7 := Lib.hid (HX6.out.to_ hT7.from_drew (by rw [HO6.out]; exact bld_0)); have HO7 := Lib.hid (show o7 r = 0 by rw [hT7.from_drew.ow _ HX6.out.lt]; exact HO6.out); have HT7 := Lib.hid (HT6.out.trans hT7.from_drew); clear hM7 hT7))
      clear hwn
      have hwa : IntKind.u64.wrap (n : Int) = (n : Int) := u64_in _ (by omega)
      obtain ⟨⟨r0, r1, r2⟩, f0, f1, f2⟩ := blk3_cells HX7.out
      go_wp2_with fail
      have hF := ((HX7.out.set_ 0 (.int .i64 4)).set_ 1 (.int .i64 1)).set_ 2 (.int .u64 (n : Int))
      have hMF := ((HM7.out.set_lone (p := ⟨r, 0, none⟩) HO7.out (.int .i64 4)).set_lone (p := ⟨r, 1, none⟩) HO7.out (.int .i64 1)).set_lone (p := ⟨r, 2, none⟩) HO7.out (.int .u64 (n : Int))
      have hTF := ((HT7.out.set_new (p := ⟨r, 0, none⟩) HRR.out (.int .i64 4)).set_new (p := ⟨r, 1, none⟩) HRR.out (.int .i64 1)).set_new (p := ⟨r, 2, none⟩) HRR.out (.int .u64 (n : Int))
      clear r0 r1 r2 f0 f1 f2
      generalize ((w7.setCell ⟨r, 0, none⟩ (.int .i64 4)).setCell ⟨r, 1, none⟩ (.int .i64 1)).setCell ⟨r, 2, none⟩ (.int .u64 (n : Int)) = wF at hF hMF hTF ⊢
      have r0 : wF.cell? ⟨r, 0, none⟩ = some (.int .i64 4) := hF.cell 0
      have r1 : wF.cell? ⟨r, 1, none⟩ = some (.int .i64 1) := hF.cell 1
      have r2 : wF.cell? ⟨r, 2, none⟩ = some (.int .u64 (n : Int)) := hF.cell 2
      refine bodyPost_ret (v := .agg #[.int .i64 4, .int .i64 1, .int .u64 (n : Int)]) (by simp [results, Tryz.results166, go_sem, r0, r1, r2]) rfl ?_
      rw [HE.out, HP.out]
      exact ⟨_, by first | rfl | (rw [HN.out]), rfl, _, hMF, hTF⟩
    | true =>
      have HP := Lib.hid (show (if true = true then some gv else none) = some gv from rfl)
      have hwa : IntKind.u64.wrap (gv : Int) = (gv : Int) := u64_in _ (by omega)
      obtain ⟨⟨r0, r1, r2⟩, f0, f1, f2⟩ := blk3_cells HX3.out
      go_wp2_with fail
      have hF := ((HX3.out.set_ 0 (.int .i64 4)).set_ 1 (.int .i64 1)).set_ 2 (.int .u64 (gv : Int))
      have hMF := ((HM3.out.set_lone (p := ⟨r, 0, none⟩) HO2.out (.int .i64 4)).set_lone (p := ⟨r, 1, none⟩) HO2.out (.int .i64 1)).set_lone (p := ⟨r, 2, none⟩) HO2.out (.int .u64 (gv : Int))
      have hTF := ((HT3.out.set_new (p := ⟨r, 0, none⟩) HRR.out (.int .i64 4)).set_new (p := ⟨r, 1, none⟩) HRR.out (.int .i64 1)).set_new (p := ⟨r, 2, none⟩) HRR.out (.int .u64 (gv : Int))
      clear r0 r1 r2 f0 f1 f2
      generalize ((w3.setCell ⟨r, 0, none⟩ (.int .i64 4)).setCell ⟨r, 1, none⟩ (.int .i64 1)).setCell ⟨r, 2, none⟩ (.int .u64 (gv : Int)) = wF at hF hMF hTF ⊢
      have r0 : wF.cell? ⟨r, 0, none⟩ = some (.int .i64 4) := hF.cell 0
      have r1 : wF.cell? ⟨r, 1, none⟩ = some (.int .i64 1) := hF.cell 1
      have r2 : wF.cell? ⟨r, 2, none⟩ = some (.int .u64 (gv : Int)) := hF.cell 2
      refine bodyPost_ret (v := .agg #[.int .i64 4, .int .i64 1, .int .u64 (gv : Int)]) (by simp [results, Tryz.results166, go_sem, r0, r1, r2]) rfl ?_
      rw [HE.out, HP.out]
      exact ⟨_, by first | rfl | (rw [HN.out]), rfl, _, hMF, hTF⟩
end Go.Proofs.YtfoifdoaleaekaaGreat

namespace Go.Proofs.YtfoifdoaleaekaaGreat
open Go.RowKit Go.Acc
structure VcC (M : Bp) (em mn : Int) (A : Option Addr) (n c : Nat) (vs : List Bv) (bx be bm bl : Nat) (w : World) (o : Nat → Nat) : Prop where
  x : Blk w bx 122 #[.pointer (some ⟨M.β, 0, none⟩)]
  e : Blk w be 3 #[.int .i64 em]
  m : Blk w bm 3 #[.int .i64 mn]
  l : Blk w bl 160 #[.slice A n c]
  ox : o bx = 0
  oe : o be = 0
  om : o bm = 0
  ol : o bl = 0
  v : IsV w A n (vs.map vv)
  ov : ∀ ad, A = some ad → ad.block < w.heap.size ∧ o ad.block = 0
section
variable {M : Bp} {em mn : Int} {A : Option Addr} {n c : Nat} {vs : List Bv} {bx be bm bl : Nat} {w w' : World} {o o' : Nat → Nat}
theorem VcC.to_ {I : Nat → Prop} (h : VcC M em mn A n c vs bx be bm bl w o) (ht : To I w o w' o') (hI : ¬ I 0) : VcC M em mn A n c vs bx be bm bl w' o' :=
  ⟨h.x.to_ ht (by rw [h.ox]; exact hI), h.e.to_ ht (by rw [h.oe]; exact hI), h.m.to_ ht (by rw [h.om]; exact hI), h.l.to_ ht (by rw [h.ol]; exact hI),
    by rw [ht.ow _ h.x.lt]; exact h.ox, by rw [ht.ow _ h.e.lt]; exact h.oe, by rw [ht.ow _ h.m.lt]; exact h.om, by rw [ht.ow _ h.l.lt]; exact h.ol,
    h.v.fr ht.fr (fun ad e => by rw [(h.ov ad e).2]; exact hI), fun ad e => ⟨Nat.lt_of_lt_of_le (h.ov ad e).1 ht.size, by rw [ht.ow _ (h.ov ad e).1]; exact (h.ov ad e).2⟩⟩
theorem VcC.cells (h : VcC M em mn A n c vs bx be bm bl w o) : w.cell? ⟨bx, 0, none⟩ = some (.pointer (some ⟨M.β, 0, none⟩)) ∧ w.cell? ⟨be, 0, none⟩ = some (.int .i64 em) ∧ w.cell? ⟨bm, 0, none⟩ = some (.int .i64 mn) ∧ w.cell? ⟨bl, 0, none⟩ = some (.slice A n c) :=
  ⟨h.x.cell 0, h.e.cell 0, h.m.cell 0, h.l.cell 0⟩
theorem VcC.drew (h : VcC M em mn A n c vs bx be bm bl w o) : VcC M em mn A n c vs bx be bm bl w.drew o := h.to_ (To.pure (fun _ => False) (Below.refl _ _).drew o) id
end
theorem ksetl {w : World} {p q : Addr} {u v : Value} (h : w.cell? q = some v) (hne : q.block ≠ p.block) : (w.setCell p u).cell? q = some v :=
  (World.cell?_of_block (w := w) (Below.heap_setCell w p u q.block hne)).trans h
theorem kset3 {w : World} {q : Addr} {g : Nat} {u0 u1 u2 v : Value} (h : w.cell? q = some v) (hne : q.block ≠ g) : (((w.setCell ⟨g, 0, none⟩ u0).setCell ⟨g, 1, none⟩ u1).setCell ⟨g, 2, none⟩ u2).cell? q = some v := ksetl (ksetl (ksetl h hne) hne) hne
theorem below_four (w : World) (x y z u : Obj) : Below w.heap.size w ((((w.alloc x).alloc y).alloc z).alloc u) := (below_three w x y z).alloc (by simp; omega) _
theorem to_own9 {w : World} {o : Nat → Nat} {p : Addr} (h : o p.block = 9) (v : Value) : To (fun i => i = 9) w o (w.setCell p v) o :=
  To.of_fr0 (Fr.setCell (S := fun k => k = p.block) (Fr.refl _ w) (fun _ => rfl) v) (by rintro k _ rfl; exact h)
theorem bld_9 : ∀ i, Bld i → ¬ i = 9 := by rintro i ⟨h1, h2⟩ rfl; omega
theorem to9 {w : World} {o : Nat → Nat} {g : Nat} (h : o g = 9) (u0 u1 u2 : Value) : To (fun i => i = 9) w o (((w.setCell ⟨g, 0, none⟩ u0).setCell ⟨g, 1, none⟩ u1).setCell ⟨g, 2, none⟩ u2) o :=
  ((to_own9 (p := ⟨g, 0, none⟩) h u0).trans (to_own9 (p := ⟨g, 1, none⟩) h u1)).trans (to_own9 (p := ⟨g, 2, none⟩) h u2)
def PutsV (M : Bp) (l : List UInt8) (em mn : Int) (A : Option Addr) (n c : Nat) (vs : List Bv) (x : List UInt8 × Bv) : Prop :=
  ∀ W O, Buf W O M.bb l → IsV W A n (vs.map vv) → (∀ ad, A = some ad → ad.block < W.heap.size ∧ O ad.block ≠ 1) → Calls Tryz.prog 213 #[.pointer (some ⟨M.bb, 0, none⟩), .int .i64 em, .int .i64 mn, .slice A n c] W (VPutW W O M.bb x)
set_option maxRecDepth 100000 in
set_option maxHeartbeats 2000000 in
theorem vector1_spec (M : Bp) (fl : Int) (b : Bd) (em mn : Int) (A : Option Addr) (n c : Nat) (vs : List Bv) (l' : List UInt8) (v' : Bv) (bx be bm bl : Nat) (w : World) (o : Nat → Nat) (h : BM M fl w o b) (hc : VcC M em mn A n c vs bx be bm bl w o) (hs : b.s.length < 65536)
    (hP : PutsV M b.b em mn A n c vs (l', v')) :
    Calls Tryz.prog 212 #[.pointer (some ⟨bx, 0, none⟩), .pointer (some ⟨be, 0, none⟩), .pointer (some ⟨bm, 0, none⟩), .pointer (some ⟨bl, 0, none⟩)] w (BTo M fl { b with b := l', s := b.s ++ [v'] } w o) := by
  have hA := (Below.refl w.heap.size w).alloc (Nat.le_refl _) (.cells #[.int .i64 0, .int .i64 0, .int .u64 0] 185)
  have hAD := hA.drew
  have hM0 := h.fresh hAD 9
  have hC0 := hc.to_ (To.fresh (fun _ => False) hAD o 9) id
  have HX0 := Lib.hid (show Blk (w.alloc (.cells #[.int .i64 0, .int .i64 0, .int .u64 0] 185)).drew w.heap.size 185 #[.int .i64 0, .int .i64 0, .int .u64 0] from Blk.new _ _ _)
  have HO0 := Lib.hid (show newO o w.heap.size 9 w.heap.size = 9 from newO_new (Nat.le_refl _))
  have HT0 := Lib.hid (To.fresh Bld hAD o 9)
  have HM := Lib.hid hM0
  have HC := Lib.hid hC0
  have HS := Lib.hid hs
  have HPB := Lib.hid (hP _ _ h.drew.buf hc.drew.v (fun ad e => ⟨(hc.drew.ov ad e).1, by rw [(hc.drew.ov ad e).2]; omega⟩))
  have HMB := Lib.hid h.drew
  have HCB := Lib.hid hc.drew
  have HP := Lib.hid (hP _ _ hM0.buf hC0.v (fun ad e => ⟨(hC0.ov ad e).1, by rw [(hC0.ov ad e).2]; omega⟩))
  obtain ⟨x0, x1, x2, x3⟩ := hc.cells
  have x4 := h.head.cells.1
  have nx : bx ≠ w.heap.size := Nat.ne_of_lt hc.x.lt
  have ne : be ≠ w.heap.size := Nat.ne_of_lt hc.e.lt
  have nm : bm ≠ w.heap.size := Nat.ne_of_lt hc.m.lt
  have nl : bl ≠ w.heap.size := Nat.ne_of_lt hc.l.lt
  have nb : M.β ≠ w.heap.size := Nat.ne_of_lt (lt_of_cell x4)
  clear h hc hs hP hA hAD hM0 hC0
  go_enter Tryz.func212, Tryz.ntmps212
  go_wp2_with fail
  go_cut [4, 5] (fun u4 u5 wx => ∃ wy, wy = wx ∧ u5 = .int .i64 0 ∧ ∃ b4 o4, u4 = .pointer (some ⟨b4, 0, none⟩) ∧ BM M fl wx o4 { b with b := l' } ∧ VcC M em mn A n c vs bx be bm bl wx o4 ∧ Blk wx b4 185 #[.int .i64 (v'.t : Int), .int .i64 (v'.w : Int), .int .u64 (v'.n : Int)] ∧ o4 b4 = 9 ∧ To Bld w o wx o4)
  case first =>
    go_region_held3 (fun w' => w'.cell? ⟨bx, 0, none⟩ = some (.pointer (some ⟨M.β, 0, none⟩)) ∧ w'.cell? ⟨be, 0, none⟩ = some (.int .i64 em) ∧ w'.cell? ⟨bm, 0, none⟩ = some (.int .i64 mn) ∧ w'.cell? ⟨bl, 0, none⟩ = some (.slice A n c) ∧ w'.cell? ⟨M.β, 0, none⟩ = some (.pointer (some ⟨M.bb, 0, none⟩))) (first | with_reducible exact ⟨x0, x1, x2, x3, x4⟩ | with_reducible exact ⟨kdrew x0, kdrew x1, kdrew x2, kdrew x3, kdrew x4⟩ | with_reducible exact ⟨kalloc _ x0, kalloc _ x1, kalloc _ x2, kalloc _ x3, kalloc _ x4⟩ | with_reducible exact ⟨kdrew (kalloc _ x0), kdrew (kalloc _ x1), kdrew (kalloc _ x2), kdrew (kalloc _ x3), kdrew (kalloc _ x4)⟩ | with_reducible exact ⟨y0, y1, y2, y3, y4⟩ | with_reducible exact ⟨kalloc _ y0, kalloc _ y1, kalloc _ y2, kalloc _ y3, kalloc _ y4⟩ | with_reducible exact ⟨kset3 (kalloc _ y0) px, kset3 (kalloc _ y1) pe, kset3 (kalloc _ y2) pm, kset3 (kalloc _ y3) pl, kset3 (kalloc _ y4) pb⟩ | with_reducible exact ⟨kset3 y0 nx, kset3 y1 ne, kset3 y2 nm, kset3 y3 nl, kset3 y4 nb⟩) (first | (go_at_call 213; (with_reducible refine HP.out.mono ?_); rintro e W1 ⟨rfl, o1, hB1, hT1⟩; have hM1 := HM.out.buf_ hT1 hB1; have hC1 := HC.out.to_ hT1 (by omega); obtain ⟨y0, y1, y2, y3⟩ := hC1.cells; have y4 := hM1.head.cells.1; have hX1 := HX0.out.to_ hT1 (by rw [HO0.out]; omega); have f0 := hX1.frozen 0; have f1 := hX1.frozen 1; have f2 := hX1.frozen 2; have z0 : W1.cell? ⟨w.heap.size, 0, none⟩ = some (.int .i64 0) := hX1.cell 0; have z1 : W1.cell? ⟨w.heap.size, 1, none⟩ = some (.int .i64 0) := hX1.cell 1; have z2 : W1.cell? ⟨w.heap.size, 2, none⟩ = some (.int .u64 0) := hX1.cell 2; have HO1 := Lib.hid (show o1 w.heap.size = 9 from (hT1.ow _ HX0.out.lt).trans HO0.out); have HX1 := Lib.hid hX1; have HM1 := Lib.hid hM1; have HC1 := Lib.hid hC1; have HT1 := Lib.hid (HT0.out.trans (hT1.mono fun _ h => bld_1 h)); clear hB1 hT1 hM1 hC1 hX1) | (go_at_call 213; (with_reducible refine HPB.out.mono ?_); rintro e W1 ⟨rfl, o1, hB1, hT1⟩; have hM1 := HMB.out.buf_ hT1 hB1; have hC1 := HCB.out.to_ hT1 (by omega); obtain ⟨y0, y1, y2, y3⟩ := hC1.cells; have y4 := hM1.head.cells.1; have px : bx ≠ W1.heap.size := Nat.ne_of_lt (lt_of_cell y0); have pe : be ≠ W1.heap.size := Nat.ne_of_lt (lt_of_cell y1); have pm : bm ≠ W1.heap.size := Nat.ne_of_lt (lt_of_cell y2); have pl : bl ≠ W1.heap.size := Nat.ne_of_lt (lt_of_cell y3); have pb : M.β ≠ W1.heap.size := Nat.ne_of_lt (lt_of_cell y4); have HM1 := Lib.hid hM1; have HC1 := Lib.hid hC1; have HT1 := Lib.hid (hT1.from_drew.mono fun _ h => bld_1 h); clear hB1 hT1 hM1 hC1))
    all_goals
      go_wp2_with fail
      go_meet
    all_goals
      first
      | exact ⟨_, rfl, rfl, w.heap.size, o1, rfl, HM1.out.to_ (to9 HO1.out _ _ _) bld_9, HC1.out.to_ (to9 HO1.out _ _ _) (by decide), ((HX1.out.set_ 0 (.int .i64 (v'.t : Int))).set_ 1 (.int .i64 (v'.w : Int))).set_ 2 (.int .u64 (v'.n : Int)), HO1.out, ((HT1.out.set_new (p := ⟨w.heap.size, 0, none⟩) (Nat.le_refl _) _).set_new (p := ⟨w.heap.size, 1, none⟩) (Nat.le_refl _) _).set_new (p := ⟨w.heap.size, 2, none⟩) (Nat.le_refl _) _⟩
      | exact ⟨_, rfl, rfl, W1.heap.size, newO o1 W1.heap.size 9, rfl, HM1.out.fresh ((Below.refl W1.heap.size W1).alloc (Nat.le_refl _) _) 9, HC1.out.to_ (To.fresh (fun _ => False) ((Below.refl W1.heap.size W1).alloc (Nat.le_refl _) _) o1 9) id, Blk.new _ _ _, newO_new (Nat.le_refl _), HT1.out.trans (To.fresh Bld ((Below.refl W1.heap.size W1).alloc (Nat.le_refl _) _) o1 9)⟩
  case rest =>
    obtain ⟨w4, rfl, rfl, b4, o4, rfl, hM4, hC4, hX4, hO4, hT4⟩ := hcut
    have HM4 := Lib.hid hM4
    have HC4 := Lib.hid hC4
    have HX4 := Lib.hid hX4
    have HO4 := Lib.hid hO4
    have HT4 := Lib.hid hT4
    clear hM4 hC4 hX4 hO4 hT4 x0 x1 x2 x3 x4 nx ne nm nl nb HM HC HP HPB HMB HCB HX0 HO0 HT0
    obtain ⟨x0, x1, x2, x3⟩ := HC4.out.cells
    go_wp2_with fail
    go_at_call 127
    refine (fail_ok HM4.out).mono ?_
    rintro e w5 ⟨rfl, o5, hM5, hT5⟩
    have HM5 := Lib.hid hM5
    have HC5 := Lib.hid (HC4.out.to_ hT5 bld_0)
    have HX5 := Lib.hid (HX4.out.to_ hT5 (by rw [HO4.out]; exact fun h => bld_9 9 h rfl))
    have HO5 := Lib.hid (show o5 b4 = 9 from (hT5.ow _ HX4.out.lt).trans HO4.out)
    have HT5 := Lib.hid (HT4.out.trans hT5)
    clear hM5 hT5 x0 x1 x2 x3
    obtain ⟨x0, x1, x2, x3⟩ := HC5.out.cells
    have v0 : w5.cell? ⟨b4, 0, none⟩ = some (.int .i64 (v'.t : Int)) := HX5.out.cell 0
    have v1 : w5.cell? ⟨b4, 1, none⟩ = some (.int .i64 (v'.w : Int)) := HX5.out.cell 1
    have v2 : w5.cell? ⟨b4, 2, none⟩ = some (.int .u64 (v'.n : Int)) := HX5.out.cell 2
    go_wp2_with fail
    go_region_held3 (fun w' => w'.cell? ⟨bx, 0, none⟩ = some (.pointer (some ⟨M.β, 0, none⟩)) ∧ w'.cell? ⟨b4, 0, none⟩ = some (.int .i64 (v'.t : Int)) ∧ w'.cell? ⟨b4, 1, none⟩ = some (.int .i64 (v'.w : Int)) ∧ w'.cell? ⟨b4, 2, none⟩ = some (.int .u64 (v'.n : Int))) (first | with_reducible exact ⟨x0, v0, v1, v2⟩ | with_reducible exact ⟨kdrew x0, kdrew v0, kdrew v1, kdrew v2⟩ | with_reducible exact ⟨y0, y1, y2, y3⟩) (first | (go_at_call 173; (with_reducible refine (pushp_spec M fl { b with b := l' } v' _ o5 HM5.out.drew HS.out).mono ?_); rintro e w6 ⟨rfl, o6, hM6, hT6⟩; have y0 : w6.cell? ⟨bx, 0, none⟩ = some (.pointer (some ⟨M.β, 0, none⟩)) := ((HC5.out.to_ hT6.from_drew bld_0).x).cell 0; have hX6 := HX5.out.to_ hT6.from_drew (by rw [HO5.out]; exact fun h => bld_9 9 h rfl); have y1 : w6.cell? ⟨b4, 0, none⟩ = some (.int .i64 (v'.t : Int)) := hX6.cell 0; have y2 : w6.cell? ⟨b4, 1, none⟩ = some (.int .i64 (v'.w : Int)) := hX6.cell 1; have y3 : w6.cell? ⟨b4, 2, none⟩ = some (.int .u64 (v'.n : Int)) := hX6.cell 2; have HM6 := Lib.hid hM6; have HT6 := Lib.hid (HT5.out.trans hT6.from_drew); clear hM6 hT6 hX6))
    go_wp2_with fail
    go_end0
    exact ⟨rfl, o6, HM6.out, HT6.out⟩
set_option maxHeartbeats 1000000 in
theorem vector_spec (M : Bp) (fl : Int) (b : Bd) (em mn : Int) (A : Option Addr) (n c : Nat) (vs : List Bv) (l' : List UInt8) (v' : Bv) (w : World) (o : Nat → Nat) (h : BM M fl w o b) (hv : IsV w A n (vs.map vv)) (ho : ∀ ad, A = some ad → ad.block < w.heap.size ∧ o ad.block = 0) (hs : b.s.length < 65536)
    (hP : PutsV M b.b em mn A n c vs (l', v')) :
    Calls Tryz.prog 156 #[.pointer (some ⟨M.β, 0, none⟩), .int .i64 em, .int .i64 mn, .slice A n c] w (BTo M fl { b with b := l', s := b.s ++ [v'] } w o) := by
  have HS := Lib.hid hs
  have HP := Lib.hid hP
  have hB := below_four w (.cells #[.pointer (some ⟨M.β, 0, none⟩)] 122) (.cells #[.int .i64 em] 3) (.cells #[.int .i64 mn] 3) (.cells #[.slice A n c] 160)
  have HB := Lib.hid hB
  have HM := Lib.hid (h.fresh hB 0)
  have HC := Lib.hid (show VcC M em mn A n c vs w.heap.size (w.heap.size + 1) (w.heap.size + 1 + 1) (w.heap.size + 1 + 1 + 1) ((((w.alloc (.cells #[.pointer (some ⟨M.β, 0, none⟩)] 122)).alloc (.cells #[.int .i64 em] 3)).alloc (.cells #[.int .i64 mn] 3)).alloc (.cells #[.slice A n c] 160)) (newO o w.heap.size 0) from
    ⟨(((Blk.new w 122 #[.pointer (some ⟨M.β, 0, none⟩)]).alloc _).alloc _).alloc _, ((blk_new2 w _ 3 #[.int .i64 em]).alloc _).alloc _, (blk_new3 w _ _ 3 #[.int .i64 mn]).alloc _, Blk.new_ (by simp) _ _, newO_new (by omega), newO_new (by omega), newO_new (by omega), newO_new (by omega), hv.pure hB, fun ad e => ⟨by have h1 := (ho ad e).1; have h2 := hB.size; omega, by rw [newO_old (ho ad e).1]; exact (ho ad e).2⟩⟩)
  clear h hs hB hP hv ho
  go_enter Tryz.func156, Tryz.ntmps156
  go_wp2_with fail
  go_at_call 163
  refine (unless_spec M fl 212 _ _ (newO o w.heap.size 0) b.vals _ HM.out.head Tryz.call212 ((vector1_spec M fl b em mn A n c vs l' v' w.heap.size (w.heap.size + 1) (w.heap.size + 1 + 1) (w.heap.size + 1 + 1 + 1) _ (newO o w.heap.size 0) HM.out HC.out HS.out HP.out).mono fun e w' h => ⟨h.1, h⟩)).mono ?_
  rintro e w' hR
  obtain rfl := hR.1
  have HR := Lib.hid (hR.from_fresh HB.out)
  clear hR
  go_wp2
  go_end0
  exact HR.out
end Go.Proofs.YtfoifdoaleaekaaGreat
