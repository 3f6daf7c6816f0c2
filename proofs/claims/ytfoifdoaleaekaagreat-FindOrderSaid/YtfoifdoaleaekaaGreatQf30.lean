/-
  Package build: a key is written, or found.
  Package build: vector.
  Package build: mapped, of numbers and booleans.
  Package build: the vectors of keys.
  Package build: from, Len, Vec, Map, EndVec.
  Package build: the names of a map's keys.
-/
import Derived.Test.YtfoifdoaleaekaaGreatQf29
import Derived.Maps.Views
import Derived.Maps.Ext
namespace Go.Proofs.YtfoifdoaleaekaaGreat
open Go.RowKit Go.Acc
theorem law_u64 : Maps.Keyed Tryz.prog 22 := Maps.int_keyed Tryz.underlying22
theorem wf_u64 (a : Nat) (ha : a < 18446744073709551616) : (Lit.int .u64 (a : Int)).wf = true := by
  have h1 : IntKind.u64.min = 0 := rfl
  have h2 : IntKind.u64.max = 18446744073709551615 := rfl
  simp [Lit.wf, h1, h2]
  omega
theorem names_put {w w' : World} {o : Nat → Nat} {p n a : Nat} {s : List UInt8} {m : List (Nat × List UInt8)} {D : DataW Unit} (op : o p = 7) (hm : w.ownsMap (H := Unit) Tryz.prog 22 (plainElem Tryz.prog 9) p n D) (hn : n ≤ m.length)
    (hat : ∀ a s, m.find? (fun x => x.1 == a) = some (a, s) → D.atKey (.int .u64 a) (.lit (.string [])) = .lit (.string s))
    (hm' : w'.ownsMap (H := Unit) Tryz.prog 22 (plainElem Tryz.prog 9) p (n + 1) (D.put (.int .u64 (a : Int)) (.lit (.string s)))) (hg : w.grownBy w' (some p)) (ha : a < 18446744073709551616) :
    NamesO w' (newO o w.heap.size 7) p ((a, s) :: m) ∧ To (fun i => i = 7) w o w' (newO o w.heap.size 7) := by
  have hk : WideAt.IsKeyLit (.int .u64 (a : Int)) := law_u64.key (Maps.keyOf_int_mk Tryz.underlying22 (wf_u64 a ha))
  obtain ⟨es, hD, _⟩ := hm.canon law_u64
  refine ⟨⟨by rw [newO_old hm.lt]; exact op, n + 1, _, hm', by simp; omega, ?_⟩, To.of_fr (Fr.of_grown hg) ?_ 7⟩
  · intro a' s' hf
    rw [List.find?_cons] at hf
    by_cases e : a = a'
    · subst e
      simp at hf
      subst hf
      exact Maps.atKey_put_same ⟨es, hD⟩ hk _ _
    · have e2 : (a == a') = false := beq_eq_false_iff_ne.mpr e
      simp only [e2] at hf
      rw [Maps.atKey_put_other (by intro h; injection h with _ h; omega)]
      exact hat a' s' hf
  · intro k _ hk
    injection hk with hk
    rw [hk]
    exact op
structure RoomK (b : Bd) (s : List UInt8) : Prop where
  st : b.s.length < 65536
  len : b.b.length + s.length + 1 ≤ 1048576
  ky : b.keys.length ≤ 1048575
  nm : b.names.length ≤ 1048575
theorem put_eq (f : Nat) (s : List UInt8) (b : Bd) (g : Option Nat) (q : Bool) (hg : getP b.keys s = g) (hq : onF f 1 = q) : b.put f s = match (if q = true then g else none) with
  | some a => (b, ⟨4, 1, a⟩)
  | none => ({ b with b := b.b ++ s ++ [0], keys := putP b.keys s b.b.length, names := (b.b.length, s) :: b.names }, ⟨4, 1, b.b.length⟩) := by
  unfold Bd.put
  rw [hg, hq]
  cases (if q = true then g else none) <;> rfl
theorem _root_.Go.Acc.To.set_new {I : Nat → Prop} {w w' : World} {o o' : Nat → Nat} (h : To I w o w' o') {p : Addr} (hp : w.heap.size ≤ p.block) (v : Value) : To I w o (w'.setCell p v) o' :=
  ⟨h.fr.setCell (fun hlt => absurd hlt (by omega)) v, h.ow⟩
theorem BM.set_lone {M : Bp} {fl : Int} {w : World} {o : Nat → Nat} {b : Bd} (h : BM M fl w o b) {p : Addr} (hp : o p.block = 0) (v : Value) : BM M fl (w.setCell p v) o b :=
  h.to_ (To.of_fr0 (I := fun i => i = 0) (Fr.setCell (S := fun k => k = p.block) (Fr.refl _ w) (fun _ => rfl) v) (by rintro k _ rfl; exact hp)) (fun i hi e => by subst e; exact bld_0 hi)
theorem bld_4 {i : Nat} (h : i = 4) : Bld i := by subst h; exact ⟨by omega, by omega⟩
theorem bld_7 {i : Nat} (h : i = 7) : Bld i := by subst h; exact ⟨by omega, by omega⟩
theorem blk3_cells {w : World} {r : Nat} {t : TypeId} {x y z : Value} (h : Blk w r t #[x, y, z]) : (w.cell? ⟨r, 0, none⟩ = some x ∧ w.cell? ⟨r, 1, none⟩ = some y ∧ w.cell? ⟨r, 2, none⟩ = some z) ∧ w.frozen? ⟨r, 0, none⟩ = false ∧ w.frozen? ⟨r, 1, none⟩ = false ∧ w.frozen? ⟨r, 2, none⟩ = false :=
  ⟨⟨h.cell 0, h.cell 1, h.cell 2⟩, h.frozen 0, h.frozen 1, h.frozen 2⟩
set_option maxRecDepth 100000 in
set_option maxHeartbeats 2000000 in
theorem cput_spec (M : Bp) (fl : Int) (b : Bd) (s : List UInt8) (w : World) (o : Nat → Nat) (h : BM M fl w o b) (hr : RoomK b s) (hz : hasZero s = false) :
    Calls Tryz.prog 166 #[.pointer (some ⟨M.β, 0, none⟩), .string ⟨s.toArray⟩] w fun e w' => ∃ a : Nat, (b.put (Go.Proofs.YtfoifdoaleaekaaGreat.bits fl) s).2 = ⟨4, 1, a⟩ ∧ e = .returned (.agg #[.int .i64 4, .int .i64 1, .int .u64 (a : Int)]) ∧ ∃ o', BM M fl w' o' (b.put (Go.Proofs.YtfoifdoaleaekaaGreat.bits fl) s).1 ∧ To Bld w o w' o' := by
  have HR := Lib.hid hr
  obtain ⟨g, hg⟩ : ∃ g, getP b.keys s = g := ⟨_, rfl⟩
  obtain ⟨q, hq⟩ : ∃ q, onF (Go.Proofs.YtfoifdoaleaekaaGreat.bits fl) 1 = q := ⟨_, rfl⟩
  have HE := Lib.hid (put_eq (Go.Proofs.YtfoifdoaleaekaaGreat.bits fl) s b g q hg hq)
  have HQ := Lib.hid hq
  obtain ⟨gv, hgv⟩ : ∃ v, g.getD 0 = v := ⟨_, rfl⟩
  obtain ⟨had, hhad⟩ : ∃ v, g.isSome = v := ⟨_, rfl⟩
  have HG := Lib.hid (show optN (getP b.keys s) = .tuple #[.int .i64 (gv : Int), .bool had] by rw [hg]; unfold optN; rw [hgv, hhad])
  have HGV := Lib.hid (And.intro hgv hhad)
  have HAT := Lib.hid (show ∀ a, g = some a → a ≤ 1048576 by
    intro a ha
    obtain ⟨A1, A2, n', c1, c2, ks, ns, hL, o1, o2, op, hP⟩ := h.keys.open_
    rw [ha, hP.get] at hg
    unfold getP at hg
    rw [Option.map_eq_some_iff] at hg
    obtain ⟨x, hx, rfl⟩ := hg
    exact hP.at_ _ (List.of_mem_zip (List.mem_of_find?_eq_some hx)).2)
  have HKY := Lib.hid (show b.keys.length ≤ 1048576 by have := hr.ky; omega)
  have HZ := Lib.hid hz
  have HKC := Lib.hid (fun W => kcheck_spec s W hz)
  have hB : Below w.heap.size w (w.alloc (.cells #[.int .i64 0, .int .i64 0, .int .u64 0] 185)) := (Below.refl _ _).alloc (Nat.le_refl _) _
  have HM1 := Lib.hid (h.fresh hB 0)
  have HT1 := Lib.hid (To.fresh Bld hB o 0)
  have HX1 := Lib.hid (Blk.new w 185 #[.int .i64 0, .int .i64 0, .int .u64 0])
  have HO1 := Lib.hid (show newO o w.heap.size 0 w.heap.size = 0 from newO_new (Nat.le_refl _))
  obtain ⟨n, hn⟩ : ∃ n, b.b.length = n := ⟨_, rfl⟩
  have HN := Lib.hid hn
  have HLT := Lib.hid (show b.b.length + [s, [0]].flatten.length ≤ 1048576 by have := hr.len; simp; omega)
  have HPE := Lib.hid (show plainElem (H := Unit) Tryz.prog 9 (.string ⟨s.toArray⟩) = some (.lit (.string s), []) by
    have hle : (⟨s.toArray⟩ : ByteArray).size ≤ maxLen := by
      have := hr.len
      have e : (⟨s.toArray⟩ : ByteArray).size = s.length := rfl
      rw [e]; simp only [maxLen]; omega
    have hu : Tryz.prog.underlying 9 = some .string := Tryz.underlying9
    unfold plainElem
    rw [hu]
    simp [hle])
  have hnm : n ≤ 1048576 := by have := hr.len; omega
  clear h hr hz hg hq hgv hhad hB hn
  go_enter Tryz.func166, Tryz.ntmps166
  go_upto_region 1 with fail
  generalize w.alloc (.cells #[.int .i64 0, .int .i64 0, .int .u64 0] 185) = w1 at HM1 HT1 HX1 ⊢
  generalize newO o w.heap.size 0 = o1 at HM1 HT1 HO1
  generalize hrr : w.heap.size = r at HX1 HO1 ⊢
  have HRR := Lib.hid (show w.heap.size ≤ r by rw [hrr]; exact Nat.le_refl _)
  clear hrr
  go_wp2_with fail
  go_region_held3 (fun _ => True) (exact trivial) (first | (go_at_call 62; (with_reducible refine (HKC.out _).mono ?_); rintro e w' ⟨rfl, rfl⟩) | (go_at_call 127; (with_reducible refine (fail_ok HM1.out.drew).mono ?_); rintro e w2 ⟨rfl, o2, hM2, hT2⟩; have HM2 := Lib.hid hM2; have HX2 := Lib.hid (HX1.out.to_ hT2.from_drew (by rw [HO1.out]; exact bld_0)); have HO2 := Lib.hid (show o2 r = 0 by rw [hT2.from_drew.ow _ HX1.out.lt]; exact HO1.out); have HT2 := Lib.hid (HT1.out.trans hT2.from_drew); clear hM2 hT2))
  obtain ⟨b0, _, b2, _, _⟩ := HM2.out.head.cells
  obtain ⟨_, b3, b4, _⟩ := head_tb HM2.out.head
  go_wp2_with fail
  go_at_call 217
  refine (pget_spec 4 M.kb b.keys s _ o2 HM2.out.keys HKY.out).mono ?_
  rintro e w3 ⟨rfl, hB⟩
  rw [HG.out]
  have HM3 := Lib.hid (HM2.out.pure hB)
  have HX3 := Lib.hid (HX2.out.pure hB)
  have HT3 := Lib.hid (HT2.out.trans (To.pure Bld hB o2))
  clear hB b0 b2 b3 b4
  obtain ⟨b0, b3, b4, _⟩ := head_tb HM3.out.head
  obtain ⟨hg, hgh⟩ := HGV.out
  cases g with
  | none =>
    obtain rfl : had = false := by rw [← hgh]; rfl
    have HP := Lib.hid (show (if q = true then (none : Option Nat) else none) = none by split <;> rfl)
    clear hg hgh
    have hwn : IntKind.u64.wrap (n : Int) = (n : Int) := u64_in _ (by omega)
    go_wp2_with fail
    go_at_call 129
    refine (blen_is n HM3.out.buf HN.out).mono ?_
    rintro e w' ⟨rfl, rfl⟩
    go_wp2_with fail
    go_at_call 134
    refine (btext_spec M.bb 2 2 _ [s, [0]] b.b _ (newO o2 w3.heap.size 0) (HM3.out.fresh ((Below.refl _ _).alloc (Nat.le_refl _) _) 0).buf (two_strs w3 s [0]) ?_ HLT.out (by omega)).mono ?_
    · rintro ad e
      injection e with e
      subst e
      show newO o2 w3.heap.size 0 w3.heap.size ≠ 1
      rw [newO_new (Nat.le_refl _)]
      omega
    rintro e w4 ⟨rfl, o4, hB4, hT4⟩
    have HM4 := Lib.hid ((HM3.out.fresh ((Below.refl _ _).alloc (Nat.le_refl _) (.cells #[.string ⟨s.toArray⟩, .string ⟨([0] : List UInt8).toArray⟩] 9)) 0).buf_ hT4 hB4)
    have HTN := Lib.hid ((To.fresh (fun i => i = 1) ((Below.refl w3.heap.size w3).alloc (Nat.le_refl _) (.cells #[.string ⟨s.toArray⟩, .string ⟨([0] : List UInt8).toArray⟩] 9)) o2 0).trans hT4)
    have HX4 := Lib.hid (HX3.out.to_ HTN.out (by rw [HO2.out]; omega))
    have HO4 := Lib.hid (show o4 r = 0 by rw [HTN.out.ow _ HX3.out.lt]; exact HO2.out)
    have HT4 := Lib.hid (HT3.out.trans (HTN.out.mono fun _ h => bld_1 h))
    clear hB4 hT4 b0 b3 b4
    obtain ⟨_, _, b4, _⟩ := head_tb HM4.out.head
    go_wp2_with fail
    go_at_call 219
    refine (pput_spec 4 M.kb b.keys s n w4 o4 HM4.out.keys HR.out.ky hnm).mono ?_
    rintro e w5 ⟨⟨x, rfl⟩, o5, hB5, hT5⟩
    have HM5 := Lib.hid (HM4.out.keys_ hT5 hB5)
    have HX5 := Lib.hid (HX4.out.to_ hT5 (by rw [HO4.out]; omega))
    have HO5 := Lib.hid (show o5 r = 0 by rw [hT5.ow _ HX4.out.lt]; exact HO4.out)
    have HT5 := Lib.hid (HT4.out.trans (hT5.mono fun _ h => bld_4 h))
    clear hB5 hT5 b4
    obtain ⟨_, _, _, _, _, b7⟩ := head_tb HM5.out.head
    obtain ⟨op, nn, D, hmap, hnn, hat⟩ := HM5.out.names
    have hnl : nn < maxLen := by have := HR.out.nm; have h2 : nn ≤ b.names.length := hnn; simp only [maxLen]; omega
    go_wp2_with (at_mapUpdate; refine wpList_mapUpdate_own (H := Unit) _ rfl _ _ _ 159 rfl 22 9 law_u64 Tryz.underlying159 _ M.mb nn D rfl hmap hnl _ _ (.int .u64 (n : Int)) rfl rfl (Maps.keyOf_int_mk Tryz.underlying22 (wf_u64 n (by omega))) (.lit (.string s)) [] HPE.out ?_; intro w6 hown hgrow)
    obtain ⟨hN6, hT6⟩ := names_put op hmap hnn hat hown hgrow (by omega)
    have HM6 := Lib.hid (show BM M fl w6 (newO o5 w5.heap.size 7) { b with b := b.b ++ s ++ [0], keys := putP b.keys s b.b.length, names := (b.b.length, s) :: b.names } by
      have h6 := HM5.out.names_ hT6 hN6
      have e2 : b.b ++ s ++ [0] = b.b ++ [s, [0]].flatten := by simp
      rw [e2, HN.out]
      exact h6)
    have HX6 := Lib.hid (HX5.out.to_ hT6 (by rw [HO5.out]; omega))
    have HO6 := Lib.hid (show newO o5 w5.heap.size 7 r = 0 by rw [hT6.ow _ HX5.out.lt]; exact HO5.out)
    have HT6 := Lib.hid (HT5.out.trans (hT6.mono fun _ h => bld_7 h))
    clear op hmap hnn hat hown hgrow hN6 hT6 hnl b7
    generalize newO o5 w5.heap.size 7 = o6 at HM6 HO6 HT6
    have d0 := (head_tb HM6.out.head).1
    go_wp2_with fail
    go_region_held3 (fun w' => w'.cell? ⟨M.β, 0, none⟩ = some (.pointer (some ⟨M.bb, 0, none⟩))) (first | with_reducible exact d0 | with_reducible exact kdrew d0 | with_reducible exact e0) (first | (go_at_call 201; (with_reducible refine (berr_is HM6.out.drew.buf).mono ?_); rintro e w' ⟨rfl, rfl⟩) | (go_at_call 127; (with_reducible refine (fail_ok HM6.out.drew).mono ?_); rintro e w7 ⟨rfl, o7, hM7, hT7⟩; have e0 := (head_tb hM7.head).1; have HM7 := Lib.hid hM7; have HX7 := Lib.hid (HX6.out.to_ hT7.from_drew (by rw [HO6.out]; exact bld_0)); have HO7 := Lib.hid (show o7 r = 0 by rw [hT7.from_drew.ow _ HX6.out.lt]; exact HO6.out); have HT7 := Lib.hid (HT6.out.trans hT7.from_drew); clear hM7 hT7))
    clear hwn
    have hwa : IntKind.u64.wrap (n : Int) = (n : Int) := u64_in _ (by omega)
    obtain ⟨⟨r0, r1, r2⟩, f0, f1, f2⟩ := blk3_cells HX7.out
    go_wp2_with fail
    have hF := ((HX7.out.set_ 0 (.int .i64 4)).set_ 1 (.int .i64 1)).set_ 2 (.int .u64 (n : Int))
    have hMF := ((HM7.out.set_lone (p := ⟨r, 0, none⟩) HO7.out (.int .i64 4)).set_lone (p := ⟨r, 1, none⟩) HO7.out (.int .i64 1)).set_lone (p := ⟨r, 2, none⟩) HO7.out (.int .u64 (n : Int))
    have hTF := ((HT7.out.set_new (p := ⟨r, 0, none⟩) HRR.out (.int .i64 4)).set_new (p := ⟨r, 1, none⟩) HRR.out (.int .i64 1)).set_new (p := ⟨r, 2, none⟩) HRR.out (.int .u64 (n : Int))
    clear r0 r1 r2 f0 f1 f2
    generalize ((w7.setCell ⟨r, 0, none⟩ (.int .i64 4)).setCell ⟨r, 1, none⟩ (.int .i64 1)).setCell ⟨r, 2, none⟩ (.int .u64 (n : Int)) = wF at hF hMF hTF ⊢
    have r0 : wF.cell? ⟨r, 0, none⟩ = some (.int .i64 4) := hF.cell 0
    have r1 : wF.cell? ⟨r, 1, none⟩ = some (.int .i64 1) := hF.cell 1
    have r2 : wF.cell? ⟨r, 2, none⟩ = some (.int .u64 (n : Int)) := hF.cell 2
    refine bodyPost_ret (v := .agg #[.int .i64 4, .int .i64 1, .int .u64 (n : Int)]) (by simp [results, Tryz.results166, go_sem, r0, r1, r2]) rfl ?_
    rw [HE.out, HP.out]
    exact ⟨_, by first | rfl | (rw [HN.out]), rfl, _, hMF, hTF⟩
  | some a =>
    obtain rfl : had = true := by rw [← hgh]; rfl
    obtain rfl : gv = a := by rw [← hg]; rfl
    have hgb := HAT.out gv rfl
    clear hg hgh
    go_wp2_with fail
    go_at_call 218
    refine (on_spec M.β 1 0 fl q w3 b3 (by omega) rfl HQ.out).mono ?_
    rintro e w' ⟨rfl, rfl⟩
    cases q with
    | false =>
      have HP := Lib.hid (show (if false = true then some gv else none) = none from rfl)
      have hwn : IntKind.u64.wrap (n : Int) = (n : Int) := u64_in _ (by omega)
      go_wp2_with fail
      go_at_call 129
      refine (blen_is n HM3.out.buf HN.out).mono ?_
      rintro e w' ⟨rfl, rfl⟩
      go_wp2_with fail
      go_at_call 134
      refine (btext_spec M.bb 2 2 _ [s, [0]] b.b _ (newO o2 w3.heap.size 0) (HM3.out.fresh ((Below.refl _ _).alloc (Nat.le_refl _) _) 0).buf (two_strs w3 s [0]) ?_ HLT.out (by omega)).mono ?_
      · rintro ad e
        injection e with e
        subst e
        show newO o2 w3.heap.size 0 w3.heap.size ≠ 1
        rw [newO_new (Nat.le_refl _)]
        omega
      rintro e w4 ⟨rfl, o4, hB4, hT4⟩
      have HM4 := Lib.hid ((HM3.out.fresh ((Below.refl _ _).alloc (Nat.le_refl _) (.cells #[.string ⟨s.toArray⟩, .string ⟨([0] : List UInt8).toArray⟩] 9)) 0).buf_ hT4 hB4)
      have HTN := Lib.hid ((To.fresh (fun i => i = 1) ((Below.refl w3.heap.size w3).alloc (Nat.le_refl _) (.cells #[.string ⟨s.toArray⟩, .string ⟨([0] : List UInt8).toArray⟩] 9)) o2 0).trans hT4)
      have HX4 := Lib.hid (HX3.out.to_ HTN.out (by rw [HO2.out]; omega))
      have HO4 := Lib.hid (show o4 r = 0 by rw [HTN.out.ow _ HX3.out.lt]; exact HO2.out)
      have HT4 := Lib.hid (HT3.out.trans (HTN.out.mono fun _ h => bld_1 h))
      clear hB4 hT4 b0 b3 b4
      obtain ⟨_, _, b4, _⟩ := head_tb HM4.out.head
      go_wp2_with fail
      go_at_call 219
      refine (pput_spec 4 M.kb b.keys s n w4 o4 HM4.out.keys HR.out.ky hnm).mono ?_
      rintro e w5 ⟨⟨x, rfl⟩, o5, hB5, hT5⟩
      have HM5 := Lib.hid (HM4.out.keys_ hT5 hB5)
      have HX5 := Lib.hid (HX4.out.to_ hT5 (by rw [HO4.out]; omega))
      have HO5 := Lib.hid (show o5 r = 0 by rw [hT5.ow _ HX4.out.lt]; exact HO4.out)
      have HT5 := Lib.hid (HT4.out.trans (hT5.mono fun _ h => bld_4 h))
      clear hB5 hT5 b4
      obtain ⟨_, _, _, _, _, b7⟩ := head_tb HM5.out.head
      obtain ⟨op, nn, D, hmap, hnn, hat⟩ := HM5.out.names
      have hnl : nn < maxLen := by have := HR.out.nm; have h2 : nn ≤ b.names.length := hnn; simp only [maxLen]; omega
      go_wp2_with (at_mapUpdate; refine wpList_mapUpdate_own (H := Unit) _ rfl _ _ _ 159 rfl 22 9 law_u64 Tryz.underlying159 _ M.mb nn D rfl hmap hnl _ _ (.int .u64 (n : Int)) rfl rfl (Maps.keyOf_int_mk Tryz.underlying22 (wf_u64 n (by omega))) (.lit (.string s)) [] HPE.out ?_; intro w6 hown hgrow)
      obtain ⟨hN6, hT6⟩ := names_put op hmap hnn hat hown hgrow (by omega)
      have HM6 := Lib.hid (show BM M fl w6 (newO o5 w5.heap.size 7) { b with b := b.b ++ s ++ [0], keys := putP b.keys s b.b.length, names := (b.b.length, s) :: b.names } by
        have h6 := HM5.out.names_ hT6 hN6
        have e2 : b.b ++ s ++ [0] = b.b ++ [s, [0]].flatten := by simp
        rw [e2, HN.out]
        exact h6)
      have HX6 := Lib.hid (HX5.out.to_ hT6 (by rw [HO5.out]; omega))
      have HO6 := Lib.hid (show newO o5 w5.heap.size 7 r = 0 by rw [hT6.ow _ HX5.out.lt]; exact HO5.out)
      have HT6 := Lib.hid (HT5.out.trans (hT6.mono fun _ h => bld_7 h))
      clear op hmap hnn hat hown hgrow hN6 hT6 hnl b7
      generalize newO o5 w5.heap.size 7 = o6 at HM6 HO6 HT6
      have d0 := (head_tb HM6.out.head).1
      go_wp2_with fail
      go_region_held3 (fun w' => w'.cell? ⟨M.β, 0, none⟩ = some (.pointer (some ⟨M.bb, 0, none⟩))) (first | with_reducible exact d0 | with_reducible exact kdrew d0 | with_reducible exact e0) (first | (go_at_call 201; (with_reducible refine (berr_is HM6.out.drew.buf).mono ?_); rintro e w' ⟨rfl, rfl⟩) | (go_at_call 127; (with_reducible refine (fail_ok HM6.out.drew).mono ?_); rintro e w7 ⟨rfl, o7, hM7, hT7⟩; have e0 := (head_tb hM7.head).1; have HM7 := Lib.hid hM7; have HX7 := Lib.hid (HX6.out.to_ hT7.from_drew (by rw [HO6.out]; exact bld_0)); have HO7 := Lib.hid (show o7 r = 0 by rw [hT7.from_drew.ow _ HX6.out.lt]; exact HO6.out); have HT7 := Lib.hid (HT6.out.trans hT7.from_drew); clear hM7 hT7))
      clear hwn
      have hwa : IntKind.u64.wrap (n : Int) = (n : Int) := u64_in _ (by omega)
      obtain ⟨⟨r0, r1, r2⟩, f0, f1, f2⟩ := blk3_cells HX7.out
      go_wp2_with fail
      have hF := ((HX7.out.set_ 0 (.int .i64 4)).set_ 1 (.int .i64 1)).set_ 2 (.int .u64 (n : Int))
      have hMF := ((HM7.out.set_lone (p := ⟨r, 0, none⟩) HO7.out (.int .i64 4)).set_lone (p := ⟨r, 1, none⟩) HO7.out (.int .i64 1)).set_lone (p := ⟨r, 2, none⟩) HO7.out (.int .u64 (n : Int))
      have hTF := ((HT7.out.set_new (p := ⟨r, 0, none⟩) HRR.out (.int .i64 4)).set_new (p := ⟨r, 1, none⟩) HRR.out (.int .i64 1)).set_new (p := ⟨r, 2, none⟩) HRR.out (.int .u64 (n : Int))
      clear r0 r1 r2 f0 f1 f2
      generalize ((w7.setCell ⟨r, 0, none⟩ (.int .i64 4)).setCell ⟨r, 1, none⟩ (.int .i64 1)).setCell ⟨r, 2, none⟩ (.int .u64 (n : Int)) = wF at hF hMF hTF ⊢
      have r0 : wF.cell? ⟨r, 0, none⟩ = some (.int .i64 4) := hF.cell 0
      have r1 : wF.cell? ⟨r, 1, none⟩ = some (.int .i64 1) := hF.cell 1
      have r2 : wF.cell? ⟨r, 2, none⟩ = some (.int .u64 (n : Int)) := hF.cell 2
      refine bodyPost_ret (v := .agg #[.int .i64 4, .int .i64 1, .int .u64 (n : Int)]) (by simp [results, Tryz.results166, go_sem, r0, r1, r2]) rfl ?_
      rw [HE.out, HP.out]
      exact ⟨_, by first | rfl | (rw [HN.out]), rfl, _, hMF, hTF⟩
    | true =>
      have HP := Lib.hid (show (if true = true then some gv else none) = some gv from rfl)
      have hwa : IntKind.u64.wrap (gv : Int) = (gv : Int) := u64_in _ (by omega)
      obtain ⟨⟨r0, r1, r2⟩, f0, f1, f2⟩ := blk3_cells HX3.out
      go_wp2_with fail
      have hF := ((HX3.out.set_ 0 (.int .i64 4)).set_ 1 (.int .i64 1)).set_ 2 (.int .u64 (gv : Int))
      have hMF := ((HM3.out.set_lone (p := ⟨r, 0, none⟩) HO2.out (.int .i64 4)).set_lone (p := ⟨r, 1, none⟩) HO2.out (.int .i64 1)).set_lone (p := ⟨r, 2, none⟩) HO2.out (.int .u64 (gv : Int))
      have hTF := ((HT3.out.set_new (p := ⟨r, 0, none⟩) HRR.out (.int .i64 4)).set_new (p := ⟨r, 1, none⟩) HRR.out (.int .i64 1)).set_new (p := ⟨r, 2, none⟩) HRR.out (.int .u64 (gv : Int))
      clear r0 r1 r2 f0 f1 f2
      generalize ((w3.setCell ⟨r, 0, none⟩ (.int .i64 4)).setCell ⟨r, 1, none⟩ (.int .i64 1)).setCell ⟨r, 2, none⟩ (.int .u64 (gv : Int)) = wF at hF hMF hTF ⊢
      have r0 : wF.cell? ⟨r, 0, none⟩ = some (.int .i64 4) := hF.cell 0
      have r1 : wF.cell? ⟨r, 1, none⟩ = some (.int .i64 1) := hF.cell 1
      have r2 : wF.cell? ⟨r, 2, none⟩ = some (.int .u64 (gv : Int)) := hF.cell 2
      refine bodyPost_ret (v := .agg #[.int .i64 4, .int .i64 1, .int .u64 (gv : Int)]) (by simp [results, Tryz.results166, go_sem, r0, r1, r2]) rfl ?_
      rw [HE.out, HP.out]
      exact ⟨_, by first | rfl | (rw [HN.out]), rfl, _, hMF, hTF⟩
end Go.Proofs.YtfoifdoaleaekaaGreat

namespace Go.Proofs.YtfoifdoaleaekaaGreat
open Go.RowKit Go.Acc
structure VcC (M : Bp) (em mn : Int) (A : Option Addr) (n c : Nat) (vs : List Bv) (bx be bm bl : Nat) (w : World) (o : Nat → Nat) : Prop where
  x : Blk w bx 122 #[.pointer (some ⟨M.β, 0, none⟩)]
  e : Blk w be 3 #[.int .i64 em]
  m : Blk w bm 3 #[.int .i64 mn]
  l : Blk w bl 160 #[.slice A n c]
  ox : o bx = 0
  oe : o be = 0
  om : o bm = 0
  ol : o bl = 0
  v : IsV w A n (vs.map vv)
  ov : ∀ ad, A = some ad → ad.block < w.heap.size ∧ o ad.block = 0
section
variable {M : Bp} {em mn : Int} {A : Option Addr} {n c : Nat} {vs : List Bv} {bx be bm bl : Nat} {w w' : World} {o o' : Nat → Nat}
theorem VcC.to_ {I : Nat → Prop} (h : VcC M em mn A n c vs bx be bm bl w o) (ht : To I w o w' o') (hI : ¬ I 0) : VcC M em mn A n c vs bx be bm bl w' o' :=
  ⟨h.x.to_ ht (by rw [h.ox]; exact hI), h.e.to_ ht (by rw [h.oe]; exact hI), h.m.to_ ht (by rw [h.om]; exact hI), h.l.to_ ht (by rw [h.ol]; exact hI),
    by rw [ht.ow _ h.x.lt]; exact h.ox, by rw [ht.ow _ h.e.lt]; exact h.oe, by rw [ht.ow _ h.m.lt]; exact h.om, by rw [ht.ow _ h.l.lt]; exact h.ol,
    h.v.fr ht.fr (fun ad e => by rw [(h.ov ad e).2]; exact hI), fun ad e => ⟨Nat.lt_of_lt_of_le (h.ov ad e).1 ht.size, by rw [ht.ow _ (h.ov ad e).1]; exact (h.ov ad e).2⟩⟩
theorem VcC.cells (h : VcC M em mn A n c vs bx be bm bl w o) : w.cell? ⟨bx, 0, none⟩ = some (.pointer (some ⟨M.β, 0, none⟩)) ∧ w.cell? ⟨be, 0, none⟩ = some (.int .i64 em) ∧ w.cell? ⟨bm, 0, none⟩ = some (.int .i64 mn) ∧ w.cell? ⟨bl, 0, none⟩ = some (.slice A n c) :=
  ⟨h.x.cell 0, h.e.cell 0, h.m.cell 0, h.l.cell 0⟩
theorem VcC.drew (h : VcC M em mn A n c vs bx be bm bl w o) : VcC M em mn A n c vs bx be bm bl w.drew o := h.to_ (To.pure (fun _ => False) (Below.refl _ _).drew o) id
end
theorem ksetl {w : World} {p q : Addr} {u v : Value} (h : w.cell? q = some v) (hne : q.block ≠ p.block) : (w.setCell p u).cell? q = some v :=
  (World.cell?_of_block (w := w) (Below.heap_setCell w p u q.block hne)).trans h
theorem kset3 {w : World} {q : Addr} {g : Nat} {u0 u1 u2 v : Value} (h : w.cell? q = some v) (hne : q.block ≠ g) : (((w.setCell ⟨g, 0, none⟩ u0).setCell ⟨g, 1, none⟩ u1).setCell ⟨g, 2, none⟩ u2).cell? q = some v := ksetl (ksetl (ksetl h hne) hne) hne
theorem to_own9 {w : World} {o : Nat → Nat} {p : Addr} (h : o p.block = 9) (v : Value) : To (fun i => i = 9) w o (w.setCell p v) o :=
  To.of_fr0 (Fr.setCell (S := fun k => k = p.block) (Fr.refl _ w) (fun _ => rfl) v) (by rintro k _ rfl; exact h)
theorem bld_9 : ∀ i, Bld i → ¬ i = 9 := by rintro i ⟨h1, h2⟩ rfl; omega
theorem to9 {w : World} {o : Nat → Nat} {g : Nat} (h : o g = 9) (u0 u1 u2 : Value) : To (fun i => i = 9) w o (((w.setCell ⟨g, 0, none⟩ u0).setCell ⟨g, 1, none⟩ u1).setCell ⟨g, 2, none⟩ u2) o :=
  ((to_own9 (p := ⟨g, 0, none⟩) h u0).trans (to_own9 (p := ⟨g, 1, none⟩) h u1)).trans (to_own9 (p := ⟨g, 2, none⟩) h u2)
end Go.Proofs.YtfoifdoaleaekaaGreat

namespace Go.Proofs.YtfoifdoaleaekaaGreat
open Go.RowKit Go.Acc
theorem isv_lit (W : World) (v : Bv) : IsV (W.alloc (.cells #[.int .i64 (v.t : Int), .int .i64 (v.w : Int), .int .u64 (v.n : Int)] 185)) (some ⟨W.heap.size, 0, none⟩) 1 [vv v] := (ownv_lit W v).is
end Go.Proofs.YtfoifdoaleaekaaGreat

namespace Go.Proofs.YtfoifdoaleaekaaGreat
open Go.RowKit Go.Acc
theorem keysCost_app (l m : List (List UInt8)) : keysCost (l ++ m) = keysCost l + keysCost m := by
  induction l with
  | nil => simp [keysCost]
  | cons s r ih => simp only [List.cons_append, keysCost, ih]; omega
theorem keysAt_ok {l : List UInt8} {ks : List (List UInt8)} {vs : List Bv} (h : KeysAt l ks vs) (hl : l.length + 40 + 9 * ks.length ≤ 1048576) : VecOk vs l ∧ ∀ v ∈ vs, v.t = 4 := by
  have hm : ∀ v ∈ vs, ∃ s, KeyAt l s v := by
    intro v hv
    obtain ⟨i, hi, e⟩ := List.getElem_of_mem hv
    have hk : i < ks.length := by rw [← h.1]; exact hi
    exact ⟨ks[i], h.2 i ks[i] v (List.getElem?_eq_getElem hk) (by rw [List.getElem?_eq_getElem hi, e])⟩
  exact ⟨⟨fun v hv => by obtain ⟨s, h1, _⟩ := hm v hv; rw [h1]; decide, fun v hv => by obtain ⟨s, _, h2, _⟩ := hm v hv; rw [h2]; decide, h.fit, by rw [h.1]; exact hl⟩,
    fun v hv => by obtain ⟨s, h1, _⟩ := hm v hv; exact h1⟩
end Go.Proofs.YtfoifdoaleaekaaGreat

namespace Go.Proofs.YtfoifdoaleaekaaGreat
open Go.RowKit Go.Acc
theorem clen_spec (M : Bp) (fl : Int) (b : Bd) (k : Nat) (w : World) (o : Nat → Nat) (h : BM M fl w o b) (hk : b.s.length = k) : Calls Tryz.prog 168 #[.pointer (some ⟨M.β, 0, none⟩)] w fun e w' => e = .returned (.int .i64 (k : Int)) ∧ w = w' := by
  have HM := Lib.hid h
  have HK := Lib.hid hk
  obtain ⟨c0, c1, c2, c9, _⟩ := h.head.cells
  clear h hk
  go_enter Tryz.func168, Tryz.ntmps168
  go_wp2_with (go_at_call 125; refine (cnone_spec M.β _ (by assumption)).mono ?_; rintro e w' ⟨rfl, rfl⟩)
  go_at_call 221
  refine (slen_is M.sb k b.s _ o HM.out.stk HK.out).mono ?_
  rintro e w' ⟨rfl, rfl⟩
  go_wp2_with fail
  go_ret
  exact ⟨rfl, rfl⟩
theorem cmap_spec (M : Bp) (fl : Int) (b : Bd) (k : Nat) (w : World) (o : Nat → Nat) (h : BM M fl w o b) (hk : b.s.length = k) : Calls Tryz.prog 120 #[.pointer (some ⟨M.β, 0, none⟩)] w fun e w' => e = .returned (.int .i64 (k : Int)) ∧ w = w' := by
  go_enter Tryz.func120, Tryz.ntmps120
  go_wp2_with fail
  go_at_call 168
  refine (clen_spec M fl b k _ o h hk).mono ?_
  rintro e w' ⟨rfl, rfl⟩
  go_wp2_with fail
  go_ret
  exact ⟨rfl, rfl⟩
def FromW (w : World) (l : List Bv) (e : Ending) (w' : World) : Prop := ∃ A c, e = .returned (.slice A l.length c) ∧ OwnV w' w.heap.size A l.length c (l.map vv) ∧ Below w.heap.size w w'
set_option maxHeartbeats 1000000 in
theorem cfrom_spec (M : Bp) (fl : Int) (b : Bd) (k : Nat) (w : World) (o : Nat → Nat) (h : BM M fl w o b) (hk : k ≤ b.s.length) : Calls Tryz.prog 170 #[.pointer (some ⟨M.β, 0, none⟩), .int .i64 (k : Int)] w (FromW w (b.s.drop k)) := by
  have HM := Lib.hid h
  have HK := Lib.hid hk
  obtain ⟨c0, c1, c2, c9, _⟩ := h.head.cells
  clear h hk
  go_enter Tryz.func170, Tryz.ntmps170
  go_wp2_with fail
  go_at_call 126
  refine (sfrom_is M.sb k b.s _ o HM.out.stk HK.out).mono ?_
  rintro e w1 ⟨A, n, c, rfl, hO, hb⟩
  have hn : n = (b.s.drop k).length := by have := hO.1; simpa using this.symm
  have HN := Lib.hid hn
  have HO := Lib.hid hO
  have HB := Lib.hid hb
  clear hn hO hb c0 c1 c2 c9
  go_wp2_with fail
  go_ret
  obtain rfl := HN.out
  exact ⟨A, c, rfl, HO.out, HB.out⟩
end Go.Proofs.YtfoifdoaleaekaaGreat

namespace Go.Proofs.YtfoifdoaleaekaaGreat
open Go.RowKit Go.Acc
def NamedV (names : List (Nat × List UInt8)) (ns : List (List UInt8)) (l : List Bv) : Prop :=
  l.length = 2 * ns.length ∧ ∀ (i : Nat) s v, ns[i]? = some s → l[2 * i]? = some v → v.t = 4 ∧ names.find? (fun x => x.1 == v.n) = some (v.n, s) ∧ v.n < 18446744073709551616
set_option maxRecDepth 100000 in
theorem string_inv {v : Value} {s : List UInt8} {ps : List MemPlace} (h : plainElem (H := Unit) Tryz.prog 9 v = some (.lit (.string s), ps)) : v = .string ⟨s.toArray⟩ := by
  unfold plainElem at h
  rw [Tryz.underlying9] at h
  cases v <;> simp at h
  next b =>
    obtain ⟨_, h⟩ := h
    obtain ⟨b⟩ := b
    obtain ⟨h, _⟩ := h
    simp at h
    subst h
    rfl
theorem NamesO.look {w : World} {o : Nat → Nat} {p a : Nat} {m : List (Nat × List UInt8)} {s : List UInt8} (h : NamesO w o p m) (ha : a < 18446744073709551616) (hf : m.find? (fun x => x.1 == a) = some (a, s)) :
    (Instr.lookup 159 (.map (some p)) (.int .u64 (a : Int)) false).run Tryz.prog w = .ok (.string ⟨s.toArray⟩) w := by
  obtain ⟨_, n, D, hm, _, hat⟩ := h
  have hz : (zeroValue 9).run Tryz.prog w = .ok (.string ⟨#[]⟩) w := by kernel_rfl
  obtain ⟨v, ps, hrun, hv⟩ := hm.lookup law_u64 Tryz.underlying159 hz (show plainElem Tryz.prog 9 (.string ⟨#[]⟩) = some (.lit (.string []), []) by kernel_rfl) (Maps.keyOf_int_mk Tryz.underlying22 (wf_u64 a ha))
  rw [hat a s hf] at hv
  rw [string_inv hv] at hrun
  exact hrun
def NamedW (w : World) (ns : List (List UInt8)) (e : Ending) (w' : World) : Prop := ∃ A c, e = .returned (.slice A ns.length c) ∧ OwnS w' w.heap.size A ns.length c ns ∧ Below w.heap.size w w'
theorem HeadO.map_cell {M : Bp} {fl : Int} {w : World} {o : Nat → Nat} {vals : List Bv} (h : HeadO M fl w o vals) : w.cell? ⟨M.β, 7, none⟩ = some (.map (some M.mb)) := by
  obtain ⟨A, n, c, hb, _⟩ := h
  exact hb.cell 7
set_option maxRecDepth 100000 in
set_option maxHeartbeats 4000000 in
theorem named_spec (M : Bp) (fl : Int) (b : Bd) (A : Option Addr) (n c : Nat) (l : List Bv) (ns : List (List UInt8)) (w : World) (o : Nat → Nat) (h : BM M fl w o b) (hI : IsV w A n (l.map vv)) (hn : n ≤ 1000000) (hv : NamedV b.names ns l) :
    Calls Tryz.prog 175 #[.pointer (some ⟨M.β, 0, none⟩), .slice A n c] w (NamedW w ns) := by
  have HM := Lib.hid h
  have HI := Lib.hid hI
  have HV := Lib.hid hv.2
  have HL := Lib.hid (show l.length = n by have := hI.1; simpa using this)
  obtain ⟨m, hm⟩ : ∃ m, ns.length = m := ⟨_, rfl⟩
  have HML := Lib.hid hm
  have hnm : n = 2 * m := by have := hv.1; have := HL.out; omega
  subst hnm
  have hlen : ((2 * m : Nat) : Int) % 2 = 0 := by omega
  clear h hI hv hm
  go_enter Tryz.func175, Tryz.ntmps175
  go_wp2_with fail
  go_loopw [4, 9] (fun s u wr => ∃ k : Nat, k ≤ 2 * m ∧ u = .int .i64 k ∧ ∃ A1 c1, s = .slice A1 ((k + 1) / 2) c1 ∧ OwnS wr w.heap.size A1 ((k + 1) / 2) c1 (ns.take ((k + 1) / 2)) ∧ Below w.heap.size w wr) (fun _ u _ => 2 * m - (intOf u).toNat)
  case atStart => exact ⟨0, Nat.zero_le _, rfl, none, 0, rfl, Own.nil _ _, Below.refl _ _⟩
  case round =>
    obtain ⟨k, hk, rfl, A1, c1, rfl, how, hbr⟩ := hrel
    have HOW := Lib.hid how
    have HBR := Lib.hid hbr
    have hIr := HI.out.pure hbr
    have HMR := Lib.hid (HM.out.pure hbr)
    clear how hbr
    by_cases hlt : k < 2 * m
    · obtain ⟨g, off, v, e, hv, v0, v1, v2⟩ := isv_bv hIr hlt
      have hk0 : (0 : Int) ≤ (k : Int) := by omega
      have hkn : (k : Int) < ((2 * m : Nat) : Int) := by omega
      rw [e]
      rcases Nat.mod_two_eq_zero_or_one k with hp | hp
      · obtain ⟨j, rfl⟩ : ∃ j, k = 2 * j := ⟨k / 2, by omega⟩
        have hj : (2 * j + 1) / 2 = j := by omega
        have hj2 : (2 * j + 1 + 1) / 2 = j + 1 := by omega
        have hjm : j < ns.length := by have := HML.out; omega
        obtain ⟨s, hs⟩ : ∃ s, ns[j]? = some s := ⟨_, List.getElem?_eq_getElem hjm⟩
        obtain ⟨ht, hf, ha⟩ := HV.out j s v hs hv
        have hmod : (((2 * j : Nat)) : Int) % 2 = 0 := by omega
        have HT := Lib.hid (show ns.take (j + 1) = ns.take j ++ [s] by
          obtain ⟨q1, q2⟩ := List.getElem?_eq_some_iff.1 hs
          rw [List.take_succ_eq_append_getElem q1, q2])
        have hvt : (v.t : Int) = 4 := by omega
        have hAl := (Below.refl wr.heap.size wr).alloc (Nat.le_refl _) (.cells #[.int .i64 4, .int .i64 (v.w : Int), .int .u64 (v.n : Int)] 185)
        have HMA := Lib.hid (HMR.out.pure hAl)
        have hlk : (Instr.lookup 159 (.map (some M.mb)) (.int .u64 (v.n : Int)) false).run Tryz.prog (wr.alloc (.cells #[.int .i64 4, .int .i64 (v.w : Int), .int .u64 (v.n : Int)] 185)).drew = .ok (.string ⟨s.toArray⟩) (wr.alloc (.cells #[.int .i64 4, .int .i64 (v.w : Int), .int .u64 (v.n : Int)] 185)).drew := HMA.out.drew.names.look ha hf
        have cm : (wr.alloc (.cells #[.int .i64 4, .int .i64 (v.w : Int), .int .u64 (v.n : Int)] 185)).drew.cell? ⟨M.β, 7, none⟩ = some (.map (some M.mb)) := HMA.out.drew.head.map_cell
        have hob : Below wr.heap.size wr ((wr.alloc (.cells #[.int .i64 4, .int .i64 (v.w : Int), .int .u64 (v.n : Int)] 185)).alloc (.cells #[.string ⟨s.toArray⟩] 9)).drew := (hAl.alloc (by simp) _).drew
        have HBD := Lib.hid (pure_below HBR.out hob)
        rw [hj] at HOW ⊢
        have HOA := Lib.hid (HOW.out.pure hob)
        have HIS := Lib.hid (show IsS ((wr.alloc (.cells #[.int .i64 4, .int .i64 (v.w : Int), .int .u64 (v.n : Int)] 185)).alloc (.cells #[.string ⟨s.toArray⟩] 9)).drew (some ⟨wr.heap.size + 1, 0, none⟩) 1 [s] by
          have h := is_one (f := stc) (wr.alloc (.cells #[.int .i64 4, .int .i64 (v.w : Int), .int .u64 (v.n : Int)] 185)) 9 s (.string ⟨s.toArray⟩) rfl
          rw [al_size] at h
          exact h.pure ((Below.refl _ _).drew))
        have HJ2 := Lib.hid hj2
        clear hIr hv e hj hj2 hs hf ht hAl hob
        go_wp2_with fail
        go_region_law (refine step_app1 rfl (.tmp 35) (.tmp 44) 23 rfl (.string ⟨#[]⟩) 16 (by kernel_rfl) (by kernel_rfl) rfl (by decide) stc_len stc_one w.heap.size A1 j c1 (ns.take j) rfl HOA.out _ 1 1 [s] rfl HIS.out (by omega) HBD.out.size ?_; intro A2 c2 w2 hown2 hfr2 hat2; have HO4 := Lib.hid hown2; have HB4 := Lib.hid (below_fr HBD.out hfr2 (by rintro j ⟨ad, e, rfl⟩; exact (HOA.out.addr ad e).2.1)); clear hown2 hfr2 hat2)
        all_goals
          try go_wp2_with fail
          go_roundw
          case rel => exact ⟨2 * j + 1, by omega, by go_num, A2, c2, by rw [HJ2.out], by rw [HJ2.out, HT.out]; exact HO4.out, HB4.out⟩
          case measure => simp [intOf]; omega
      · have hmod : (k : Int) % 2 = 1 := by omega
        have HJ2 := Lib.hid (show (k + 1 + 1) / 2 = (k + 1) / 2 by omega)
        have HBA := Lib.hid (HBR.out.alloc HBR.out.size (.cells #[.int .i64 (v.t : Int), .int .i64 (v.w : Int), .int .u64 (v.n : Int)] 185))
        have HOA := Lib.hid (HOW.out.pure ((Below.refl wr.heap.size wr).alloc (Nat.le_refl _) (.cells #[.int .i64 (v.t : Int), .int .i64 (v.w : Int), .int .u64 (v.n : Int)] 185)))
        clear hIr hv e
        go_wp2_with fail
        go_roundw
        case rel => exact ⟨k + 1, by omega, by go_num, A1, c1, by rw [HJ2.out], by rw [HJ2.out]; exact HOA.out, HBA.out⟩
        case measure => simp [intOf]; omega
    · obtain rfl : k = 2 * m := by omega
      have hm2 : (2 * m + 1) / 2 = m := by omega
      have HE := Lib.hid (show ns.take m = ns from List.take_of_length_le (by have := HML.out; omega))
      rw [hm2] at HOW ⊢
      rw [HE.out] at HOW
      clear hIr hm2
      go_wp2_with fail
      go_ret
      obtain rfl := HML.out
      exact ⟨A1, c1, rfl, HOW.out, HBR.out⟩
end Go.Proofs.YtfoifdoaleaekaaGreat
