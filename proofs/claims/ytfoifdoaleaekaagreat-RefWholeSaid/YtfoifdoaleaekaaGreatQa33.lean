/-
  Package key: Order.
-/
import Derived.Test.YtfoifdoaleaekaaGreatQa32
namespace Go.Proofs.YtfoifdoaleaekaaGreat
open Go.RowKit Go.Acc Go.Sort
theorem below_dn (w : World) : ∀ q, Below w.heap.size w (w.drewN q)
  | 0 => Below.refl _ _
  | q + 1 => (below_dn w q).drew
theorem info_i : (Tryz.prog.info? 3).map (fun i => (i.zero, i.size, i.bytes)) = some (some (.int .i64 0), 1, 8) := by kernel_rfl
theorem made_inc (n : Nat) : (madeCells #[.int .i64 0] n).toList = (List.replicate n 0).flatMap inc := by
  apply List.ext_getElem?
  intro j
  by_cases hj : j < n
  · have h1 := fm_at inc_len (List.replicate n 0) j 0 (by simpa using hj) (by omega)
    rw [Nat.mul_one, Nat.add_zero, List.getElem_replicate] at h1
    rw [h1]
    simp [madeCells, hj, inc, Nat.mod_one]
  · rw [List.getElem?_eq_none (by simp [madeCells]; omega), List.getElem?_eq_none (by rw [fm_length inc_len]; simp; omega)]
theorem make_i (n : Nat) (hn : n ≤ 1099511627776) : ∃ Z : Array Value, Z.toList = (List.replicate n 0).flatMap inc ∧ ∀ W : World, (Instr.makeSlice 61 (.int .i64 (n : Int)) (.int .i64 (n : Int))).run Tryz.prog W = .ok (.slice (some ⟨W.heap.size, 0, none⟩) n n) (W.alloc (.cells Z 3)) := by
  obtain ⟨i, hi, hz, hs, hb⟩ := info_parts info_i
  refine ⟨_, made_inc n, fun W => ?_⟩
  have hr := run_make (P := Tryz.prog) W 61 3 i _ Tryz.underlying61 hi hz .i64 .i64 n n (by omega) (Int.le_refl _) (by rw [hb]; omega) (by omega)
  simp only [Int.toNat_natCast, hs, Nat.mul_one] at hr
  exact hr
theorem own_lit {α : Type} {f : α → List Value} {e : TypeId} (hf : ∀ x, (f x).length = 1) (W : World) (Z : Array Value) (n B : Nat) (l : List α) (hB : B ≤ W.heap.size) (hn : l.length = n) (hm : n ≤ 1099511627776) (hZ : Z.toList = l.flatMap f) : Go.Acc.Own f 1 e (W.alloc (.cells Z e)) B (some ⟨W.heap.size, 0, none⟩) n n l := by
  refine ⟨hn, ?_⟩
  have hs : Z.size = n * 1 := by rw [← Array.length_toList, hZ, fm_length hf, hn]
  have := World.ownsRow_lit (base := B) (e := e) (size := 1) W Z n hB (by simp only [maxLen]; omega) hs
  rw [hZ] at this
  exact this
theorem fill_step (k n : Nat) (hk : k < n) : (List.range k ++ List.replicate (n - k) 0).take k ++ [k] ++ (List.range k ++ List.replicate (n - k) 0).drop (k + 1) = List.range (k + 1) ++ List.replicate (n - (k + 1)) 0 := by
  have e1 : (List.range k).length = k := List.length_range
  rw [List.take_append_of_le_length (by omega), List.take_of_length_le (by omega), List.drop_append, List.drop_of_length_le (by omega), e1, List.range_succ, List.drop_replicate, List.nil_append]
  congr 2
  omega
/-- Places that put the strings in order. -/
def OrdW (w : World) (l : List (List UInt8)) (e : Ending) (w' : World) : Prop :=
  ∃ A c ps, e = .returned (.tuple #[.slice A l.length c, .int .i64 0]) ∧ OwnN w' w.heap.size A l.length c ps ∧ ps.Perm (List.range l.length) ∧ (∀ (i j : Nat) (hi : i < ps.length) (hj : j < ps.length), i < j → l.getD ps[i] [] < l.getD ps[j] []) ∧ Below w.heap.size w w'
set_option maxRecDepth 100000 in
set_option maxHeartbeats 4000000 in
theorem order_spec (A : Option Addr) (n c : Nat) (l : List (List UInt8)) (w : World) (hI : IsS w A n l) (ho : ∀ ad, A = some ad → ad.block < w.heap.size) (hn : n ≤ 1000000) (hd : l.Nodup) :
    Calls Tryz.prog 29 #[.slice A n c] w (OrdW w l) := by
  have hl : l.length = n := by have := hI.1; simpa using this
  obtain ⟨Z, hZ, hmk⟩ := make_i n (by omega)
  have HI := Lib.hid hI
  have HOA := Lib.hid ho
  have HND := Lib.hid hd
  have HLL := Lib.hid hl
  have hB1 := (Below.refl w.heap.size w).alloc (Nat.le_refl _) (.cells #[.slice A n c] 23)
  have hB2 := hB1.alloc hB1.size (.cells Z 3)
  have HX1 := Lib.hid (Blk.new w 23 #[.slice A n c])
  have HX2 := Lib.hid ((Blk.new w 23 #[.slice A n c]).alloc (.cells Z 3))
  have HO2 := Lib.hid (own_lit (e := 3) inc_len (w.alloc (.cells #[.slice A n c] 23)) Z n 0 (List.replicate n 0) (Nat.zero_le _) (by simp) (by omega) hZ)
  have HB2 := Lib.hid hB2
  have x0 : (w.alloc (.cells #[.slice A n c] 23)).cell? ⟨w.heap.size, 0, none⟩ = some (.slice A n c) := (Blk.new w 23 #[.slice A n c]).cell 0
  clear hI ho hd hB1 hB2 hZ
  go_enter Tryz.func29, Tryz.ntmps29
  go_upto_region 2 with fail
  rw [al_size] at HO2
  generalize (w.alloc (.cells #[.slice A n c] 23)).alloc (.cells Z 3) = w2 at HX2 HO2 HB2 ⊢
  generalize hg : w.heap.size + 1 = g at HO2 ⊢
  generalize hbl : w.heap.size = bl at HX2 ⊢
  have HG := Lib.hid (show w.heap.size ≤ g ∧ w.heap.size = bl ∧ bl ≠ g by omega)
  clear hg hbl x0 hmk HX1
  go_wp2_with fail
  go_loopw [12] (fun u wr => ∃ k : Nat, k ≤ n ∧ u = .int .i64 k ∧ OwnN wr 0 (some ⟨g, 0, none⟩) n n (List.range k ++ List.replicate (n - k) 0) ∧ Below w.heap.size w wr ∧ Blk wr bl 23 #[.slice A n c]) (fun u _ => n - (intOf u).toNat)
  case atStart => exact ⟨0, Nat.zero_le _, rfl, HO2.out, HB2.out, HX2.out⟩
  case round =>
    obtain ⟨k, hk, rfl, how, hbr, hxr⟩ := hrel
    have HOW := Lib.hid how
    have HBR := Lib.hid hbr
    have HXR := Lib.hid hxr
    clear how hbr hxr
    by_cases hlt : k < n
    · obtain ⟨⟨u, hu⟩, hf, hnew⟩ := own_store inc_len HOW.out hlt k (.int .i64 (k : Int)) rfl
      rw [fill_step k n hlt] at hnew
      have HNEW := Lib.hid hnew
      have HB3 := Lib.hid (below_fr HBR.out (Fr.setCell (S := fun j => j = g) (Fr.refl _ wr) (p := ⟨g, k, none⟩) (fun _ => rfl) (.int .i64 (k : Int))) (by rintro j rfl; exact HG.out.1))
      have HX3 := Lib.hid (HXR.out.far (p := ⟨g, k, none⟩) HG.out.2.2 (.int .i64 (k : Int)))
      have hk0 : (0 : Int) ≤ (k : Int) := by omega
      have hkn : (k : Int) < (n : Int) := by omega
      clear hnew
      go_wp2_with fail
      go_roundw
      case rel => exact ⟨k + 1, by omega, by go_num, HNEW.out, HB3.out, HX3.out⟩
      case measure => simp [intOf]; omega
    · obtain rfl : k = n := by omega
      have how := HOW.out
      rw [Nat.sub_self, List.replicate_zero, List.append_nil] at how
      have HON := Lib.hid (own_base how HG.out.1)
      clear how HOW
      go_wp2_with fail
      go_at_call 68
      refine (sort_ints w.heap.size g k k bl A c l _ (HXR.out.cell 0) (HI.out.pure HBR.out) (by omega) HON.out HG.out.2.2 (fun ad e => by have h1 := HOA.out ad e; have h2 := HG.out.1; omega)).mono ?_
      rintro e w3 ⟨rfl, ps, hp, hr, ho3, hf3⟩
      have HP3 := Lib.hid hp
      have HR3 := Lib.hid hr
      have HO3 := Lib.hid ho3
      have HB3 := Lib.hid (below_fr HBR.out hf3 (by rintro j rfl; exact HG.out.1))
      have HX3 := Lib.hid (HXR.out.fr hf3 HG.out.2.2)
      have HI3 := Lib.hid (HI.out.pure HB3.out)
      have HPL := Lib.hid (show ps.length = k by have := hp.length_eq; simpa using this)
      have HPM := Lib.hid (show ∀ p ∈ ps, p < k from fun p h => List.mem_range.1 (hp.mem_iff.1 h))
      have HPN := Lib.hid (show ps.Nodup from hp.nodup_iff.2 List.nodup_range)
      clear hp hr ho3 hf3 HBR HXR HON HI
      have HAS := Lib.hid (show ∀ (i j : Nat) (hi : i < ps.length) (hj : j < ps.length), i < j → l.getD ps[i] [] < l.getD ps[j] [] by
        intro i j hi hj hij
        have h1 := HR3.out i j hi hj hij
        have hpi := HPM.out ps[i] (List.getElem_mem _)
        have hpj := HPM.out ps[j] (List.getElem_mem _)
        have hg : ∀ p (h : p < l.length), l.getD p [] = l[p] := fun p h => by rw [List.getD_eq_getElem?_getD, List.getElem?_eq_getElem]; rfl
        rw [hg _ (by rw [hl]; exact hpi), hg _ (by rw [hl]; exact hpj)]
        rw [hg _ (by rw [hl]; exact hpj), hg _ (by rw [hl]; exact hpi)] at h1
        rcases cmpS (l[ps[i]]'(by rw [hl]; exact hpi)) (l[ps[j]]'(by rw [hl]; exact hpj)) with ⟨h2, _⟩ | ⟨h2, _⟩ | ⟨h2, _⟩
        · exact h2
        · have h3 := (List.getElem_inj HND.out).1 h2
          have h4 := (List.getElem_inj HPN.out).1 h3
          omega
        · exact absurd h2 h1)
      go_wp2_with fail
      go_loopw [6] (fun u wr => ∃ j : Nat, (j + 1 ≤ k ∨ j = 0) ∧ u = .int .i64 ((j + 1 : Nat) : Int) ∧ OwnN wr w.heap.size (some ⟨g, 0, none⟩) k k ps ∧ Below w.heap.size w wr ∧ Blk wr bl 23 #[.slice A k c] ∧ IsS wr A k l) (fun u _ => k + 1 - (intOf u).toNat)
      case atStart => exact ⟨0, .inr rfl, rfl, HO3.out, HB3.out, HX3.out, HI3.out⟩
      case round =>
        obtain ⟨j, hj, rfl, ho, hb, hx, hi⟩ := hrel
        have HO := Lib.hid ho
        have HB := Lib.hid hb
        have HX := Lib.hid hx
        have HII := Lib.hid hi
        have x0 : wr.cell? ⟨bl, 0, none⟩ = some (.slice A k c) := hx.cell 0
        clear ho hb hx hi
        by_cases hlt2 : j + 1 < k
        · obtain ⟨b1, o1, e1, hk1, y0⟩ := isi_at HO.out.is (show j < k by omega)
          obtain ⟨b2, o2, e2, hk2, y1⟩ := isi_at HO.out.is (show j + 1 < k by omega)
          injection e1 with e1
          injection e1 with e1 e3
          injection e2 with e2
          injection e2 with e2 e4
          subst e1 e3 e2 e4
          have hst := HAS.out j (j + 1) hk1 hk2 (by omega)
          have hp := HPM.out ps[j] (List.getElem_mem _)
          have hq := HPM.out ps[j + 1] (List.getElem_mem _)
          generalize ps[j] = p at y0 hst hp
          generalize ps[j + 1] = q at y1 hst hq
          obtain ⟨b3, o3, e5, hk3, z0⟩ := iss_at HII.out hp
          obtain ⟨b4, o4, e6, hk4, z1⟩ := iss_at HII.out hq
          have hg : ∀ p (h : p < l.length), l.getD p [] = l[p] := fun p h => by rw [List.getD_eq_getElem?_getD, List.getElem?_eq_getElem]; rfl
          rw [hg _ hk3, hg _ hk4] at hst
          generalize l[p] = s at z0 hst
          generalize l[q] = t at z1 hst
          have HSA := Lib.hid e5
          rw [e5] at e6 x0
          injection e6 with e6
          injection e6 with e6 e7
          subst e6 e7
          rw [Nat.zero_add] at y0 y1
          have hne : (s == t) = false := beq_eq_false_iff_ne.mpr (fun e => by rw [e] at hst; exact List.lt_irrefl _ hst)
          have hj0 : (0 : Int) ≤ (j : Int) := by omega
          have hj1 : (j : Int) + 1 < (k : Int) := by omega
          have hj2 : (j : Int) < (k : Int) := by omega
          have hp0 : (0 : Int) ≤ (p : Int) := by omega
          have hp1 : (p : Int) < (k : Int) := by omega
          have hq0 : (0 : Int) ≤ (q : Int) := by omega
          have hq1 : (q : Int) < (k : Int) := by omega
          clear hg hst e5 hk1 hk2 hk3 hk4
          go_wp2_with fail
          go_quiet (fail)
          go_wp2_with fail
          go_roundw
          case rel => exact ⟨j + 1, .inl (by omega), by go_num, HO.out.pure (below_dn _ _), pure_below HB.out (below_dn _ _), HX.out.pure (below_dn _ _), HII.out.pure (below_dn _ _)⟩
          case measure => simp [intOf]; omega
        · have hj3 : ¬ ((j : Int) + 1 < (k : Int)) := by omega
          go_wp2_with fail
          go_ret2
          subst hl
          exact ⟨_, _, ps, rfl, HO.out, HP3.out, HAS.out, HB.out⟩
end Go.Proofs.YtfoifdoaleaekaaGreat
