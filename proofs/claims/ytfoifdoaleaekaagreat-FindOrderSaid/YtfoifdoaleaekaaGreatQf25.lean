/-
  Package maps: check.
  Package tree: keyed, of any node.
  Package tag: Typed.
  Package vec: shaped.
-/
import Derived.Test.YtfoifdoaleaekaaGreatQf21
import Derived.Test.YtfoifdoaleaekaaGreatQf24
import Derived.Maps.Views
import Derived.Maps.Ext
import Derived.Maps.OwnSet
import Derived.DeepKeys4
namespace Go.Proofs.YtfoifdoaleaekaaGreat
open Go.RowKit Go.Acc
theorem ownv_lit (W : World) (v : Bv) : OwnV (W.alloc (.cells #[.int .i64 (v.t : Int), .int .i64 (v.w : Int), .int .u64 (v.n : Int)] 185)) W.heap.size (some ⟨W.heap.size, 0, none⟩) 1 1 [vv v] := by
  refine ⟨rfl, ?_⟩
  have := World.ownsRow_lit (base := W.heap.size) (e := 185) (size := 3) W #[.int .i64 (v.t : Int), .int .i64 (v.w : Int), .int .u64 (v.n : Int)] 1 (Nat.le_refl _) (by simp only [maxLen]; omega) rfl
  exact this
set_option maxRecDepth 100000 in
set_option maxHeartbeats 2000000 in
theorem mcheck_spec (kv : Bv) (n c : Nat) (A : Option Addr) (vs : List Bv) (w : World) (hv : IsV w A n (vs.map vv)) (hn : n ≤ 1000000) (hk : kv.t = 14) (hkw : isW (kv.w : Int) = true)
    (hE : ∀ v ∈ vs, legalT (v.t : Int) = true ∧ isW (v.w : Int) = true) :
    Calls Tryz.prog 250 #[.agg #[.int .i64 (kv.t : Int), .int .i64 (kv.w : Int), .int .u64 (kv.n : Int)], .slice A n c] w fun e w' => e = .returned (.int .i64 0) ∧ Below w.heap.size w w' := by
  have hB := below_two w (.cells #[.int .i64 (kv.t : Int), .int .i64 (kv.w : Int), .int .u64 (kv.n : Int)] 185) (.cells #[.int .i64 (kv.t : Int), .int .i64 (kv.w : Int), .int .u64 (kv.n : Int)] 185)
  have HB := Lib.hid hB
  have HV := Lib.hid (hv.pure hB)
  have hown := ownv_lit (w.alloc (.cells #[.int .i64 (kv.t : Int), .int .i64 (kv.w : Int), .int .u64 (kv.n : Int)] 185)) kv
  have eS : (w.alloc (.cells #[.int .i64 (kv.t : Int), .int .i64 (kv.w : Int), .int .u64 (kv.n : Int)] 185)).heap.size = w.heap.size + 1 := by simp
  rw [eS] at hown
  have HOW := Lib.hid hown
  have HE := Lib.hid (show ∀ v ∈ kv :: vs, legalT (v.t : Int) = true ∧ isW (v.w : Int) = true from fun v h => by
    rcases List.mem_cons.1 h with rfl | h
    · exact ⟨by rw [hk]; decide, hkw⟩
    · exact hE v h)
  have hk14 : (kv.t : Int) = 14 := by omega
  have h14 : ((kv.t : Int) != 14) = false := by rw [hk14]; rfl
  clear hB hv hown eS hk hkw hE hk14
  go_enter Tryz.func250, Tryz.ntmps250
  go_wp2_with (at_builtin; refine wpl_app _ rfl (.tmp 13) (.tmp 14) _ rfl 185 _ 3 24 Tryz.underlying160 info_v rfl (by omega) vc_len vc_one _ _ _ _ _ rfl HOW.out _ _ _ _ rfl HV.out (by omega) (by simp) ?_; intro A1 c1 w1 hown1 hfr1 hat1)
  have HI := Lib.hid (show IsV w1 A1 (1 + n) ((kv :: vs).map vv) from hown1.is)
  have HB1 := Lib.hid (HB.out.trans (hfr1.belowB (fun k hk ⟨ad, h, h'⟩ => by injection h with h; subst h; have h2 : k = w.heap.size + 1 := h'; omega) (by have := HB.out.size; omega)))
  clear hown1 hfr1 hat1
  go_loopw [17] (fun u wr => ∃ k : Nat, k ≤ 1 + n ∧ u = .int .i64 k ∧ Below w1.heap.size w1 wr) (fun u _ => 1 + n - (intOf u).toNat)
  case atStart => exact ⟨0, Nat.zero_le _, rfl, Below.refl _ _⟩
  case round =>
    obtain ⟨k, hk, rfl, hbr⟩ := hrel
    have HBR := Lib.hid hbr
    have HIR := Lib.hid (HI.out.pure hbr)
    clear hbr
    by_cases hlt : k < 1 + n
    · obtain ⟨g, off, v, rfl, hvk, h0, h1, h2⟩ := isv_bv HIR.out hlt
      have HVE := Lib.hid (HE.out v (List.mem_of_getElem? hvk))
      have hk0 : (0 : Int) ≤ (k : Int) := by omega
      have hkn : (k : Int) < 1 + (n : Int) := by omega
      have hkn2 : (k : Int) < ((1 + n : Nat) : Int) := by omega
      have HBA := Lib.hid (HBR.out.alloc HBR.out.size (.cells #[.int .i64 (v.t : Int), .int .i64 (v.w : Int), .int .u64 (v.n : Int)] 185))
      have HXA := Lib.hid (Blk.new wr 185 #[.int .i64 (v.t : Int), .int .i64 (v.w : Int), .int .u64 (v.n : Int)])
      obtain ⟨z, hz⟩ : ∃ z, decide ((0 : Int) < (k : Int)) = z := ⟨_, rfl⟩
      have hz' : decide (0 < k) = z := by rw [← hz]; exact decide_eq_decide.2 (by omega)
      obtain ⟨iv, hiv⟩ : ∃ x, inlineT (v.t : Int) = x := ⟨_, rfl⟩
      have HIV := Lib.hid hiv
      clear hvk hiv
      cases z with
      | true =>
        go_wp2_with fail
        go_at_call 84
        refine (wcode_spec (v.w : Int) _ HVE.out.2).mono ?_
        rintro e w' ⟨⟨cc, rfl⟩, rfl⟩
        go_wp2_with fail
        go_at_call 44
        refine (legal_spec (v.t : Int) _).mono ?_
        rw [HVE.out.1]
        rintro e w3 ⟨rfl, hb⟩
        have HB3 := Lib.hid (pure_below HBA.out hb)
        have HX3 := Lib.hid (HXA.out.pure hb)
        have x0 : w3.cell? ⟨wr.heap.size, 0, none⟩ = some (.int .i64 (v.t : Int)) := HX3.out.cell 0
        clear hb
        go_wp2_with fail
        go_at_call 17
        refine (inline_spec (v.t : Int) _).mono ?_
        rw [HIV.out]
        rintro e w4 ⟨rfl, hb⟩
        have HB4 := Lib.hid (pure_below HB3.out hb)
        clear hb x0
        cases iv with
        | true =>
          go_wp2_with fail
          go_roundw
          case rel => exact ⟨k + 1, by omega, by go_num, HB4.out⟩
          case measure => simp [intOf]; omega
        | false =>
          go_wp2_with fail
          go_roundw
          case rel => exact ⟨k + 1, by omega, by go_num, HB4.out⟩
          case measure => simp [intOf]; omega
      | false =>
        go_wp2_with fail
        go_at_call 84
        refine (wcode_spec (v.w : Int) _ HVE.out.2).mono ?_
        rintro e w' ⟨⟨cc, rfl⟩, rfl⟩
        have HB3 := HBA
        have HX3 := HXA
        have x0 : _ = some (Value.int .i64 (v.t : Int)) := HX3.out.cell 0
        go_wp2_with fail
        go_at_call 17
        refine (inline_spec (v.t : Int) _).mono ?_
        rw [HIV.out]
        rintro e w4 ⟨rfl, hb⟩
        have HB4 := Lib.hid (pure_below HB3.out hb)
        clear hb x0
        cases iv with
        | true =>
          go_wp2_with fail
          go_roundw
          case rel => exact ⟨k + 1, by omega, by go_num, HB4.out⟩
          case measure => simp [intOf]; omega
        | false =>
          go_wp2_with fail
          go_roundw
          case rel => exact ⟨k + 1, by omega, by go_num, HB4.out⟩
          case measure => simp [intOf]; omega
    · have hd1 : decide ((k : Int) < ((1 + n : Nat) : Int)) = false := decide_eq_false (by omega)
      have hd3 : decide ((k : Int) < 1 + (n : Int)) = false := decide_eq_false (by omega)
      have hd2 : decide (k < 1 + n) = false := decide_eq_false (by omega)
      go_wp2_with fail
      go_ret
      exact ⟨rfl, pure_below HB1.out HBR.out⟩
end Go.Proofs.YtfoifdoaleaekaaGreat

namespace Go.Proofs.YtfoifdoaleaekaaGreat
open Go.RowKit Go.Acc
theorem law_str : Maps.Keyed Tryz.prog 9 := Maps.string_keyed Tryz.underlying9
def SetO (w : World) (m n : Nat) (had : List (List UInt8)) : Prop :=
  ∃ D, w.ownsMap (H := Unit) Tryz.prog 9 (plainElem Tryz.prog 4) m n D ∧ ∀ s, D.atKey (.string s) (.lit (.bool false)) = .lit (.bool (had.contains s))
set_option maxRecDepth 100000 in
theorem bool_inv {v : Value} {z : DataW Unit × List MemPlace} (h : plainElem Tryz.prog 4 v = some z) : ∃ b, v = .bool b ∧ z = (.lit (.bool b), []) := by
  unfold plainElem at h
  rw [Tryz.underlying4] at h
  cases v <;> simp at h
  exact ⟨_, rfl, h.symm⟩
theorem str_key {s : List UInt8} (hs : s.length ≤ 1048576) : keyOf Tryz.prog 9 (.string ⟨s.toArray⟩) = some (.string s) :=
  WideMaps.keyOf_string_mk Tryz.underlying9 (by show s.length ≤ maxLen; simp only [maxLen]; omega)
theorem SetO.look {w : World} {m n : Nat} {had : List (List UInt8)} (h : SetO w m n had) {s : List UInt8} (hs : s.length ≤ 1048576) {b : Bool} (hb : had.contains s = b) : (Instr.lookup 132 (.map (some m)) (.string ⟨s.toArray⟩) false).run Tryz.prog w = .ok (.bool b) w := by
  obtain ⟨D, hm, hat⟩ := h
  have hz : (zeroValue 4).run Tryz.prog w = .ok (.bool false) w := by kernel_rfl
  obtain ⟨v, ps, hrun, hv⟩ := hm.lookup law_str Tryz.underlying132 hz (plainElem_bool Tryz.underlying4 false) (str_key hs)
  obtain ⟨c, rfl, hc⟩ := bool_inv hv
  rw [hat s, hb] at hc
  simp at hc
  rw [← hc.1] at hrun
  exact hrun
theorem SetO.put {w w' : World} {m n : Nat} {had : List (List UInt8)} {D : DataW Unit} (hm : w.ownsMap (H := Unit) Tryz.prog 9 (plainElem Tryz.prog 4) m n D) (hat : ∀ s, D.atKey (.string s) (.lit (.bool false)) = .lit (.bool (had.contains s)))
    {s : List UInt8} (hm' : w'.ownsMap (H := Unit) Tryz.prog 9 (plainElem Tryz.prog 4) m (n + 1) (D.put (.string s) (.lit (.bool true)))) : SetO w' m (n + 1) (s :: had) := by
  refine ⟨_, hm', fun s' => ?_⟩
  obtain ⟨es, hD, _⟩ := hm.canon law_str
  by_cases e : s' = s
  · subst e
    rw [Maps.atKey_put_same ⟨es, hD⟩ (show WideAt.IsKeyLit (.string s') from trivial)]
    simp
  · rw [Maps.atKey_put_other (by intro h; injection h with h; exact e h), hat s']
    have : (s' == s) = false := beq_eq_false_iff_ne.mpr e
    rw [List.contains_cons, this, Bool.false_or]
set_option maxRecDepth 100000 in
set_option maxHeartbeats 2000000 in
theorem keyed_spec (x : Nv) (ks : List (List UInt8)) (r : Int) (w : World) (hI : IsS w x.A x.an ks) (hn : x.an ≤ 1099511627776) (hsz : ∀ s ∈ ks, s.length ≤ 1048576) (hr : (if x.k = 5 ∧ hasZero x.s = true then 70 else keysE 70 71 [] ks) = r) :
    Calls Tryz.prog 40 #[.agg #[.int .i64 x.k, .int .i64 x.n, .int .u64 (x.u : Int), .string ⟨x.s.toArray⟩, .slice x.A x.an x.ac, .slice x.B x.bn x.bc]] w fun e w' => e = .returned (.int .i64 r) ∧ Below w.heap.size w w' := by
  have HI := Lib.hid hI
  have HSZ := Lib.hid hsz
  have h0 := run_makeMap (P := Tryz.prog) 132
  have HB0 := Lib.hid (show Below w.heap.size w (w.alloc (.cells #[.int .i64 x.k, .int .i64 x.n, .int .u64 (x.u : Int), .string ⟨x.s.toArray⟩, .slice x.A x.an x.ac, .slice x.B x.bn x.bc] 26)) from ((Below.refl _ _).alloc (Nat.le_refl _) _))
  have HB := Lib.hid (show Below w.heap.size w ((w.alloc (.cells #[.int .i64 x.k, .int .i64 x.n, .int .u64 (x.u : Int), .string ⟨x.s.toArray⟩, .slice x.A x.an x.ac, .slice x.B x.bn x.bc] 26)).alloc (.map #[] 0)) from ((Below.refl _ _).alloc (Nat.le_refl _) _).alloc (by simp) _)
  have hX := (Blk.new w 26 #[.int .i64 x.k, .int .i64 x.n, .int .u64 (x.u : Int), .string ⟨x.s.toArray⟩, .slice x.A x.an x.ac, .slice x.B x.bn x.bc]).alloc (.map #[] 0)
  have c4 : ((w.alloc (.cells #[.int .i64 x.k, .int .i64 x.n, .int .u64 (x.u : Int), .string ⟨x.s.toArray⟩, .slice x.A x.an x.ac, .slice x.B x.bn x.bc] 26)).alloc (.map #[] 0)).cell? ⟨w.heap.size, 4, none⟩ = some (.slice x.A x.an x.ac) := hX.cell 4
  have hM := World.ownsMap_made (H := Unit) (w.alloc (.cells #[.int .i64 x.k, .int .i64 x.n, .int .u64 (x.u : Int), .string ⟨x.s.toArray⟩, .slice x.A x.an x.ac, .slice x.B x.bn x.bc] 26)) Tryz.prog 9 (plainElem Tryz.prog 4)
  have eS : (w.alloc (.cells #[.int .i64 x.k, .int .i64 x.n, .int .u64 (x.u : Int), .string ⟨x.s.toArray⟩, .slice x.A x.an x.ac, .slice x.B x.bn x.bc] 26)).heap.size = w.heap.size + 1 := by simp
  rw [eS] at hM
  have HM := Lib.hid hM
  obtain ⟨z, hz⟩ : ∃ z, hasZero x.s = z := ⟨_, rfl⟩
  obtain ⟨q, hq⟩ : ∃ q, (x.k == 5) = q := ⟨_, rfl⟩
  have HZ := Lib.hid hz
  have hr2 : (if (q && z) = true then 70 else keysE 70 71 [] ks) = r := by
    rw [← hr, ← hz, ← hq]
    simp
  have HR := Lib.hid hr2
  have HQ := Lib.hid hq
  clear hI hsz hX hM eS hz hr hr2
  cases q with
  | true =>
    cases z with
    | true =>
      go_enter Tryz.func40, Tryz.ntmps40
      go_wp2_with (go_at_call 82; refine (zero_spec x.s true _ HZ.out).mono ?_; rintro e w' ⟨rfl, rfl⟩)
      go_ret
      exact ⟨by rw [← HR.out]; rfl, HB0.out⟩
    | false =>
      go_enter Tryz.func40, Tryz.ntmps40
      go_wp2_with (go_at_call 82; refine (zero_spec x.s false _ HZ.out).mono ?_; rintro e w' ⟨rfl, rfl⟩)
      go_wp2_with fail
      have HS0 := Lib.hid (show SetO ((w.alloc (.cells #[.int .i64 x.k, .int .i64 x.n, .int .u64 (x.u : Int), .string ⟨x.s.toArray⟩, .slice x.A x.an x.ac, .slice x.B x.bn x.bc] 26)).alloc (.map #[] 0)) (w.heap.size + 1) 0 [] from ⟨_, HM.out, fun s => rfl⟩)
      have HI1 := Lib.hid (HI.out.pure HB.out)
      generalize (w.alloc (.cells #[.int .i64 x.k, .int .i64 x.n, .int .u64 (x.u : Int), .string ⟨x.s.toArray⟩, .slice x.A x.an x.ac, .slice x.B x.bn x.bc] 26)).alloc (.map #[] 0) = w1 at HB HS0 HI1 ⊢
      have HGE := Lib.hid (show w.heap.size ≤ w.heap.size + 1 by omega)
      generalize w.heap.size + 1 = m at HS0 HGE ⊢
      have hlen : ks.length = x.an := HI1.out.1
      go_loopw [20] (fun u wr => ∃ i : Nat, i ≤ x.an ∧ u = .int .i64 i ∧ SetO wr m i (ks.take i).reverse ∧ Below w.heap.size w wr ∧ keysE 70 71 (ks.take i).reverse (ks.drop i) = r) (fun u _ => x.an - (intOf u).toNat)
      case atStart => exact ⟨0, Nat.zero_le _, rfl, HS0.out, HB.out, by have h := HR.out; simpa using h⟩
      case round =>
        obtain ⟨i, hi, rfl, hso, hbr, hke⟩ := hrel
        have HSO := Lib.hid hso
        have HBR := Lib.hid hbr
        have HKE := Lib.hid hke
        clear hso hbr hke HS0
        by_cases hlt : i < x.an
        · obtain ⟨g, off, e, hk', hc⟩ := iss_at (HI.out.pure HBR.out) hlt
          obtain ⟨s, hs⟩ : ∃ s, ks[i] = s := ⟨_, rfl⟩
          rw [hs] at hc
          have HSL := Lib.hid (HSZ.out s (by rw [← hs]; exact List.getElem_mem _))
          have hd : ks.drop i = s :: ks.drop (i + 1) := by rw [← hs]; exact List.drop_eq_getElem_cons hk'
          have HT := Lib.hid (show (ks.take (i + 1)).reverse = s :: (ks.take i).reverse by rw [List.take_succ_eq_append_getElem hk', hs, List.reverse_append]; rfl)
          have hke2 := HKE.out
          rw [hd] at hke2
          unfold keysE at hke2
          obtain ⟨zs, hzs⟩ : ∃ b, hasZero s = b := ⟨_, rfl⟩
          obtain ⟨ds, hds⟩ : ∃ b, (ks.take i).reverse.contains s = b := ⟨_, rfl⟩
          rw [hzs, hds] at hke2
          have HZS := Lib.hid hzs
          have HDS := Lib.hid hds
          have HKE2 := Lib.hid hke2
          have hi0 : (0 : Int) ≤ (i : Int) := by omega
          have hin : (i : Int) < (x.an : Int) := by omega
          rw [e]
          clear hs hd hzs hds hke2 hk' e HKE
          cases zs with
          | true =>
            go_wp2_with (go_at_call 82; refine (zero_spec s true _ HZS.out).mono ?_; rintro e w' ⟨rfl, rfl⟩)
            go_ret
            exact ⟨by have h := HKE2.out; simp at h; rw [← h]; rfl, HBR.out⟩
          | false =>
            have hlk := HSO.out.look HSL.out HDS.out
            cases ds with
            | true =>
              go_wp2_with (go_at_call 82; refine (zero_spec s false _ HZS.out).mono ?_; rintro e w' ⟨rfl, rfl⟩)
              go_ret
              exact ⟨by have h := HKE2.out; simp at h; rw [← h]; rfl, HBR.out⟩
            | false =>
              obtain ⟨D, hown, hat⟩ := HSO.out
              have HAT := Lib.hid hat
              have HOWN := Lib.hid hown
              have him : i < maxLen := by simp only [maxLen]; omega
              clear hat
              go_wp2_with (first | (go_at_call 82; refine (zero_spec s false _ HZS.out).mono ?_; rintro e w' ⟨rfl, rfl⟩) | (at_mapUpdate; refine wpList_mapUpdate_own (H := Unit) _ rfl _ _ _ 132 rfl 9 4 law_str Tryz.underlying132 _ m i D rfl hown him _ _ (.string s) rfl rfl (str_key HSL.out) (.lit (.bool true)) [] (plainElem_bool Tryz.underlying4 true) ?_; intro w6 hown6 hgrow6; have HS6 := Lib.hid (SetO.put HOWN.out HAT.out hown6); have HG6 := Lib.hid hgrow6; clear hown6 hgrow6))
              go_roundw
              case rel =>
                refine ⟨i + 1, by omega, by go_num, by rw [HT.out]; exact HS6.out, ?_, ?_⟩
                · exact below_fr HBR.out (Fr.of_grown HG6.out) (by rintro k hk; injection hk with hk; rw [hk]; exact HGE.out)
                · rw [HT.out]
                  have h := HKE2.out
                  simpa using h
              case measure => simp [intOf]; omega
        · have hd1 : decide ((i : Int) < (x.an : Int)) = false := decide_eq_false (by omega)
          have hd2 : decide (i < x.an) = false := decide_eq_false (by omega)
          have HE := Lib.hid (show r = 0 by
            have h := HKE.out
            rw [List.drop_of_length_le (by omega)] at h
            exact h.symm)
          go_wp2_with fail
          go_ret
          exact ⟨by rw [HE.out]; rfl, HBR.out⟩
  | false =>
    go_enter Tryz.func40, Tryz.ntmps40
    go_wp2_with fail
    have HS0 := Lib.hid (show SetO ((w.alloc (.cells #[.int .i64 x.k, .int .i64 x.n, .int .u64 (x.u : Int), .string ⟨x.s.toArray⟩, .slice x.A x.an x.ac, .slice x.B x.bn x.bc] 26)).alloc (.map #[] 0)) (w.heap.size + 1) 0 [] from ⟨_, HM.out, fun s => rfl⟩)
    have HI1 := Lib.hid (HI.out.pure HB.out)
    generalize (w.alloc (.cells #[.int .i64 x.k, .int .i64 x.n, .int .u64 (x.u : Int), .string ⟨x.s.toArray⟩, .slice x.A x.an x.ac, .slice x.B x.bn x.bc] 26)).alloc (.map #[] 0) = w1 at HB HS0 HI1 ⊢
    have HGE := Lib.hid (show w.heap.size ≤ w.heap.size + 1 by omega)
    generalize w.heap.size + 1 = m at HS0 HGE ⊢
    have hlen : ks.length = x.an := HI1.out.1
    go_loopw [20] (fun u wr => ∃ i : Nat, i ≤ x.an ∧ u = .int .i64 i ∧ SetO wr m i (ks.take i).reverse ∧ Below w.heap.size w wr ∧ keysE 70 71 (ks.take i).reverse (ks.drop i) = r) (fun u _ => x.an - (intOf u).toNat)
    case atStart => exact ⟨0, Nat.zero_le _, rfl, HS0.out, HB.out, by have h := HR.out; simpa using h⟩
    case round =>
      obtain ⟨i, hi, rfl, hso, hbr, hke⟩ := hrel
      have HSO := Lib.hid hso
      have HBR := Lib.hid hbr
      have HKE := Lib.hid hke
      clear hso hbr hke HS0
      by_cases hlt : i < x.an
      · obtain ⟨g, off, e, hk', hc⟩ := iss_at (HI.out.pure HBR.out) hlt
        obtain ⟨s, hs⟩ : ∃ s, ks[i] = s := ⟨_, rfl⟩
        rw [hs] at hc
        have HSL := Lib.hid (HSZ.out s (by rw [← hs]; exact List.getElem_mem _))
        have hd : ks.drop i = s :: ks.drop (i + 1) := by rw [← hs]; exact List.drop_eq_getElem_cons hk'
        have HT := Lib.hid (show (ks.take (i + 1)).reverse = s :: (ks.take i).reverse by rw [List.take_succ_eq_append_getElem hk', hs, List.reverse_append]; rfl)
        have hke2 := HKE.out
        rw [hd] at hke2
        unfold keysE at hke2
        obtain ⟨zs, hzs⟩ : ∃ b, hasZero s = b := ⟨_, rfl⟩
        obtain ⟨ds, hds⟩ : ∃ b, (ks.take i).reverse.contains s = b := ⟨_, rfl⟩
        rw [hzs, hds] at hke2
        have HZS := Lib.hid hzs
        have HDS := Lib.hid hds
        have HKE2 := Lib.hid hke2
        have hi0 : (0 : Int) ≤ (i : Int) := by omega
        have hin : (i : Int) < (x.an : Int) := by omega
        rw [e]
        clear hs hd hzs hds hke2 hk' e HKE
        cases zs with
        | true =>
          go_wp2_with (go_at_call 82; refine (zero_spec s true _ HZS.out).mono ?_; rintro e w' ⟨rfl, rfl⟩)
          go_ret
          exact ⟨by have h := HKE2.out; simp at h; rw [← h]; rfl, HBR.out⟩
        | false =>
          have hlk := HSO.out.look HSL.out HDS.out
          cases ds with
          | true =>
            go_wp2_with (go_at_call 82; refine (zero_spec s false _ HZS.out).mono ?_; rintro e w' ⟨rfl, rfl⟩)
            go_ret
            exact ⟨by have h := HKE2.out; simp at h; rw [← h]; rfl, HBR.out⟩
          | false =>
            obtain ⟨D, hown, hat⟩ := HSO.out
            have HAT := Lib.hid hat
            have HOWN := Lib.hid hown
            have him : i < maxLen := by simp only [maxLen]; omega
            clear hat
            go_wp2_with (first | (go_at_call 82; refine (zero_spec s false _ HZS.out).mono ?_; rintro e w' ⟨rfl, rfl⟩) | (at_mapUpdate; refine wpList_mapUpdate_own (H := Unit) _ rfl _ _ _ 132 rfl 9 4 law_str Tryz.underlying132 _ m i D rfl hown him _ _ (.string s) rfl rfl (str_key HSL.out) (.lit (.bool true)) [] (plainElem_bool Tryz.underlying4 true) ?_; intro w6 hown6 hgrow6; have HS6 := Lib.hid (SetO.put HOWN.out HAT.out hown6); have HG6 := Lib.hid hgrow6; clear hown6 hgrow6))
            go_roundw
            case rel =>
              refine ⟨i + 1, by omega, by go_num, by rw [HT.out]; exact HS6.out, ?_, ?_⟩
              · exact below_fr HBR.out (Fr.of_grown HG6.out) (by rintro k hk; injection hk with hk; rw [hk]; exact HGE.out)
              · rw [HT.out]
                have h := HKE2.out
                simpa using h
            case measure => simp [intOf]; omega
      · have hd1 : decide ((i : Int) < (x.an : Int)) = false := decide_eq_false (by omega)
        have hd2 : decide (i < x.an) = false := decide_eq_false (by omega)
        have HE := Lib.hid (show r = 0 by
          have h := HKE.out
          rw [List.drop_of_length_le (by omega)] at h
          exact h.symm)
        go_wp2_with fail
        go_ret
        exact ⟨by rw [HE.out]; rfl, HBR.out⟩
end Go.Proofs.YtfoifdoaleaekaaGreat

namespace Go.Proofs.YtfoifdoaleaekaaGreat
open Go.RowKit Go.Acc
theorem law_kind : Maps.Keyed Tryz.prog 87 := Maps.Keyed.of_law (deep_law_laid acc_laidOut (m := 2) (by omega) (of_decide_eq_true (by kernel_rfl)) (by kernel_rfl) (by rw [Tryz.underlying87]))
theorem kind_key {t : Int} (ht : isT t = true) : ∃ l, keyOf Tryz.prog 87 (rowV (tRow t)) = some l := by
  have h : ∀ n : Fin 37, (keyOf Tryz.prog 87 (rowV (tRow ((n.val : Nat) : Int)))).isSome = true := by
    intro n
    rcases n with ⟨n, hn⟩
    have : n = 0 ∨ n = 1 ∨ n = 2 ∨ n = 3 ∨ n = 4 ∨ n = 5 ∨ n = 6 ∨ n = 7 ∨ n = 8 ∨ n = 9 ∨ n = 10 ∨ n = 11 ∨ n = 12 ∨ n = 13 ∨ n = 14 ∨ n = 15 ∨ n = 16 ∨ n = 17 ∨ n = 18 ∨ n = 19 ∨ n = 20 ∨ n = 21 ∨ n = 22 ∨ n = 23 ∨ n = 24 ∨ n = 25 ∨ n = 26 ∨ n = 27 ∨ n = 28 ∨ n = 29 ∨ n = 30 ∨ n = 31 ∨ n = 32 ∨ n = 33 ∨ n = 34 ∨ n = 35 ∨ n = 36 := by omega
    rcases this with rfl | rfl | rfl | rfl | rfl | rfl | rfl | rfl | rfl | rfl | rfl | rfl | rfl | rfl | rfl | rfl | rfl | rfl | rfl | rfl | rfl | rfl | rfl | rfl | rfl | rfl | rfl | rfl | rfl | rfl | rfl | rfl | rfl | rfl | rfl | rfl | rfl
    all_goals exact (show (_ : Bool) = true by kernel_rfl)
  have h2 := t37_all (p := fun t => (keyOf Tryz.prog 87 (rowV (tRow t))).isSome = true) h ht
  exact Option.isSome_iff_exists.1 h2
set_option maxRecDepth 100000 in
set_option maxHeartbeats 4000000 in
theorem typed_spec (e0 m0 : Int) (t0 : Nat) (w : World) (ht : isT (t0 : Int) = true) (hr : tRow (t0 : Int) = (3, e0, m0)) (hu : ∀ t : Nat, isT (t : Int) = true → tRow (t : Int) = (3, e0, m0) → t = t0) :
    Calls Tryz.prog 262 #[.int .i64 e0, .int .i64 m0] w fun e w' => e = .returned (.tuple #[.int .i64 (t0 : Int), .bool true]) ∧ Below w.heap.size w w' := by
  obtain ⟨l0, hl0⟩ := kind_key ht
  rw [hr] at hl0
  unfold rowV at hl0
  simp only at hl0
  have HL0 := Lib.hid hl0
  have HT0 := Lib.hid hr
  have HU := Lib.hid hu
  have ht37 : t0 < 37 := by have := isT_iff.1 ht; omega
  have h0 := run_makeMap (P := Tryz.prog) 310
  have hM := World.ownsMap_made (H := Unit) w Tryz.prog 87 (plainElem Tryz.prog 3)
  have HM := Lib.hid hM
  have HB := Lib.hid (show Below w.heap.size w (w.alloc (.map #[] 0)) from (Below.refl _ _).alloc (Nat.le_refl _) _)
  clear hl0 hu ht hr hM
  go_enter Tryz.func262, Tryz.ntmps262
  go_wp2_with fail
  go_at_call 87
  refine (tkinds_spec _).mono ?_
  rintro e w1 ⟨rfl, hb⟩
  have hM1 := HM.out.kept (row := none) ⟨hb.os, hb.tape, hb.output, hb.size, fun k hk _ => hb.block k hk⟩ (by simp)
  have HM1 := Lib.hid (show ∃ D, w1.ownsMap (H := Unit) Tryz.prog 87 (plainElem Tryz.prog 3) w.heap.size 0 D ∧ D.atKey l0 (.lit (.int .i64 0)) = (if t0 < 0 then .lit (.int .i64 t0) else .lit (.int .i64 0)) ∧ Maps.has D l0 = decide (t0 < 0) from ⟨_, hM1, rfl, rfl⟩)
  have HB1 := Lib.hid (pure_below HB.out hb)
  clear hb hM1 HB HM
  go_wp2_with fail
  go_loopw [11] (fun u wr => ∃ k : Nat, k ≤ 37 ∧ u = .int .i64 k ∧ (∃ D, wr.ownsMap (H := Unit) Tryz.prog 87 (plainElem Tryz.prog 3) w.heap.size k D ∧ D.atKey l0 (.lit (.int .i64 0)) = (if t0 < k then .lit (.int .i64 t0) else .lit (.int .i64 0)) ∧ Maps.has D l0 = decide (t0 < k)) ∧ Below w.heap.size w wr) (fun u _ => 37 - (intOf u).toNat)
  case atStart => exact ⟨0, Nat.zero_le _, rfl, HM1.out, HB1.out⟩
  case round =>
    obtain ⟨k, hk, rfl, ⟨D, hown, hat, hhas⟩, hbr⟩ := hrel
    have HBR := Lib.hid hbr
    have HAT := Lib.hid hat
    have HHAS := Lib.hid hhas
    clear hat hhas hbr HM1 HB1
    by_cases hlt : k < 37
    · have hkT : isT (k : Int) = true := isT_iff.2 (by omega)
      obtain ⟨l, hl⟩ := kind_key hkT
      have hidx := tindex hkT
      obtain ⟨r, hr⟩ : ∃ r, tRow (k : Int) = r := ⟨_, rfl⟩
      obtain ⟨r0, r1, r2⟩ := r
      rw [hr] at hidx hl
      unfold rowV at hidx hl
      simp only at hidx hl
      have HR := Lib.hid hr
      have HKL := Lib.hid hl
      have HKT := Lib.hid hkT
      obtain ⟨q, hq⟩ : ∃ q, (r0 == 3) = q := ⟨_, rfl⟩
      have hk0 : (0 : Int) ≤ (k : Int) := by omega
      have hk37 : (k : Int) < 37 := by omega
      have HBA := Lib.hid (HBR.out.alloc HBR.out.size (.cells #[.int .i64 r0, .int .i64 r1, .int .i64 r2] 87))
      have hown2 := hown.alloc (.cells #[.int .i64 r0, .int .i64 r1, .int .i64 r2] 87)
      have HOW := Lib.hid hown2
      clear hr hl hkT hown
      cases q with
      | false =>
        have HN3 := Lib.hid (show r0 ≠ 3 by simpa using hq)
        clear hown2
        go_wp2_with fail
        go_roundw
        case rel =>
          have hne : k ≠ t0 := by
            rintro rfl
            have h1 := HR.out.symm.trans HT0.out
            injection h1 with h1
            exact HN3.out h1
          refine ⟨k + 1, by omega, by go_num, ⟨D, HOW.out.mono (by omega), ?_, ?_⟩, HBA.out⟩
          · rw [HAT.out]
            by_cases h : t0 < k
            · rw [if_pos h, if_pos (by omega)]
            · rw [if_neg h, if_neg (by omega)]
          · rw [HHAS.out]
            exact decide_eq_decide.2 (by omega)
        case measure => simp [intOf]; omega
      | true =>
        obtain rfl : r0 = 3 := by simpa using hq
        have hkm : k < maxLen := by simp only [maxLen]; omega
        have HWF := Lib.hid (show (Lit.int .i64 (k : Int)).wf = true by
          have h1 : IntKind.i64.min = -9223372036854775808 := rfl
          have h2 : IntKind.i64.max = 9223372036854775807 := rfl
          simp [Lit.wf, h1, h2]
          omega)
        go_wp2_with (at_mapUpdate; refine wpList_mapUpdate_own (H := Unit) _ rfl _ _ _ 310 rfl 87 3 law_kind Tryz.underlying310 _ w.heap.size k D rfl hown2 hkm _ _ l rfl rfl HKL.out (.lit (.int .i64 (k : Int))) [] (plainElem_int Tryz.underlying3 HWF.out) ?_; intro w6 hown6 hgrow6; have HO6 := Lib.hid hown6; have HG6 := Lib.hid hgrow6; clear hown6 hgrow6)
        go_roundw
        case rel =>
          obtain ⟨es, hD, _⟩ := HOW.out.canon law_kind
          have hP : (D.put l (.lit (.int .i64 (k : Int)))).atKey l0 (.lit (.int .i64 0)) = (if t0 < k + 1 then .lit (.int .i64 t0) else .lit (.int .i64 0)) ∧ Maps.has (D.put l (.lit (.int .i64 (k : Int)))) l0 = decide (t0 < k + 1) := by
            by_cases h : k = t0
            · have h0' : tRow (k : Int) = (3, e0, m0) := by rw [h]; exact HT0.out
              have h1' := HR.out.symm.trans h0'
              simp only [Prod.mk.injEq, true_and] at h1'
              obtain ⟨h1, h2⟩ := h1'
              have hll : l = l0 := by
                have a1 := HKL.out
                rw [h1, h2, HL0.out] at a1
                injection a1 with a1
                exact a1.symm
              rw [hll]
              have hk0 := law_kind.key HL0.out
              refine ⟨?_, ?_⟩
              · rw [Maps.atKey_put_same ⟨es, hD⟩ hk0, if_pos (by omega), h]
              · rw [Maps.has_put_same ⟨es, hD⟩ hk0]
                exact (decide_eq_true (by omega)).symm
            · have hne : l0 ≠ l := by
                intro e
                have a1 := HKL.out
                rw [← e] at a1
                have a2 := law_kind.inj a1 HL0.out
                simp at a2
                refine h (HU.out k HKT.out ?_)
                rw [HR.out, a2.1, a2.2]
              refine ⟨?_, ?_⟩
              · rw [Maps.atKey_put_other hne, HAT.out]
                by_cases h2 : t0 < k
                · rw [if_pos h2, if_pos (by omega)]
                · rw [if_neg h2, if_neg (by omega)]
              · rw [Maps.has_put_other hne, HHAS.out]
                exact decide_eq_decide.2 (by omega)
          refine ⟨k + 1, by omega, by go_num, ⟨_, HO6.out, hP.1, hP.2⟩, below_fr HBA.out (Fr.of_grown HG6.out) (by rintro j hj; injection hj with hj; rw [hj]; exact Nat.le_refl _)⟩
        case measure => simp [intOf]; omega
    · have hd1 : decide ((k : Int) < 37) = false := decide_eq_false (by omega)
      have hd2 : decide (k < 37) = false := decide_eq_false (by omega)
      have HA := Lib.hid (show D.atKey l0 (.lit (.int .i64 0)) = .lit (.int .i64 (t0 : Int)) by rw [HAT.out, if_pos (by omega)])
      have HH := Lib.hid (show Maps.has D l0 = true by rw [HHAS.out]; exact decide_eq_true (by omega))
      have HOW := Lib.hid hown
      go_wp2_with (at_lookup; refine wpList_lookup_own_ok_int _ rfl _ _ 310 rfl 87 3 .i64 law_kind Tryz.underlying310 Tryz.underlying3 (Tryz.zeroValue3 _) w.heap.size k D rfl hown _ l0 rfl HL0.out ?_; intro c hc _; obtain rfl : c = (t0 : Int) := (by rw [HA.out] at hc; simpa using hc.symm); rw [HH.out]; clear hc)
      go_ret2
      exact ⟨rfl, HBR.out⟩
def vecTy (e m : Nat) : Nat := if m = 0 then (if e = 1 then 11 else if e = 2 then 12 else if e = 4 then 14 else 36) else if e = 1 then 10 + 3 * m else 11 + 3 * m
def TyOk (e m : Nat) : Prop := (m = 0 ∧ (e = 1 ∨ e = 2 ∨ e = 4 ∨ e = 26)) ∨ ((m = 2 ∨ m = 3 ∨ m = 4) ∧ (e = 1 ∨ e = 2))
theorem typed_is (e m : Nat) (w : World) (h : TyOk e m) : Calls Tryz.prog 262 #[.int .i64 (e : Int), .int .i64 (m : Int)] w fun x w' => x = .returned (.tuple #[.int .i64 (vecTy e m : Nat), .bool true]) ∧ Below w.heap.size w w' := by
  have hall : ∀ e0 m0 : Int, ∀ t0 : Fin 37, tRow ((t0.val : Nat) : Int) = (3, e0, m0) → (∀ n : Fin 37, tRow ((n.val : Nat) : Int) = (3, e0, m0) → n = t0) → Calls Tryz.prog 262 #[.int .i64 e0, .int .i64 m0] w fun x w' => x = .returned (.tuple #[.int .i64 (t0.val : Int), .bool true]) ∧ Below w.heap.size w w' := by
    intro e0 m0 t0 h1 h2
    refine typed_spec e0 m0 t0.val w (isT_iff.2 (by omega)) h1 fun t ht hr => ?_
    have ht2 := isT_iff.1 ht
    have := h2 ⟨t, by omega⟩ hr
    rw [← this]
  rcases h with ⟨rfl, rfl | rfl | rfl | rfl⟩ | ⟨rfl | rfl | rfl, rfl | rfl⟩
  · exact hall 1 0 11 (by decide) (by decide)
  · exact hall 2 0 12 (by decide) (by decide)
  · exact hall 4 0 14 (by decide) (by decide)
  · exact hall 26 0 36 (by decide) (by decide)
  · exact hall 1 2 16 (by decide) (by decide)
  · exact hall 2 2 17 (by decide) (by decide)
  · exact hall 1 3 19 (by decide) (by decide)
  · exact hall 2 3 20 (by decide) (by decide)
  · exact hall 1 4 22 (by decide) (by decide)
  · exact hall 2 4 23 (by decide) (by decide)
end Go.Proofs.YtfoifdoaleaekaaGreat

namespace Go.Proofs.YtfoifdoaleaekaaGreat
open Go.RowKit Go.Acc
def ShW (w : World) (e m : Nat) (x : Ending) (w' : World) : Prop :=
  ∃ g, x = .returned (.tuple #[.agg #[.int .i64 (vecTy e m : Nat), .bool (decide (m = 0)), .func (.func 263) #[] #[.pointer (some ⟨g, 0, none⟩)], .func (.func 264) #[] #[]], .int .i64 0]) ∧ Blk w' g 3 #[.int .i64 (e : Int)] ∧ w.heap.size ≤ g ∧ Below w.heap.size w w'
set_option maxRecDepth 100000 in
set_option maxHeartbeats 2000000 in
theorem shaped_ty (e m : Nat) (w : World) (h : TyOk e m) : Calls Tryz.prog 242 #[.int .i64 (e : Int), .int .i64 (m : Int)] w (ShW w e m) := by
  have he : ((e : Int) == -1) = false := by rw [beq_eq_false_iff_ne]; omega
  obtain ⟨z, hz⟩ : ∃ z, decide (m = 0) = z := ⟨_, rfl⟩
  have hz2 : ((m : Int) == 0) = z := by
    rw [← hz, Bool.eq_iff_iff]
    simp only [beq_iff_eq, decide_eq_true_eq]
    omega
  obtain ⟨t, ht⟩ : ∃ t, vecTy e m = t := ⟨_, rfl⟩
  have hty := fun W => typed_is e m W h
  rw [ht] at hty
  have HTY := Lib.hid hty
  have HT := Lib.hid (And.intro ht hz)
  have HB := Lib.hid (below_two w (.cells #[.int .i64 (e : Int)] 3) (.cells #[.int .i64 0, .bool false, .nilFunc, .nilFunc] 294))
  clear h hty ht hz
  go_enter Tryz.func242, Tryz.ntmps242
  go_wp2_with fail
  go_at_call 262
  have HX := Lib.hid ((Blk.new w 3 #[.int .i64 (e : Int)]).alloc (.cells #[.int .i64 0, .bool false, .nilFunc, .nilFunc] 294))
  have HR := Lib.hid (blk_new2 w (.cells #[.int .i64 (e : Int)] 3) 294 #[.int .i64 0, .bool false, .nilFunc, .nilFunc])
  have HGE := Lib.hid (show w.heap.size ≤ w.heap.size + 1 by omega)
  have HNE := Lib.hid (show w.heap.size ≠ w.heap.size + 1 by omega)
  generalize (w.alloc (.cells #[.int .i64 (e : Int)] 3)).alloc (.cells #[.int .i64 0, .bool false, .nilFunc, .nilFunc] 294) = w1 at HB HX HR ⊢
  generalize w.heap.size + 1 = bR at HR HGE HNE ⊢
  refine (HTY.out _).mono ?_
  rintro x w2 ⟨rfl, hb⟩
  have HB2 := Lib.hid (pure_below HB.out hb)
  have HX2 := Lib.hid (HX.out.pure hb)
  have HR2 := Lib.hid (HR.out.pure hb)
  have r0 : w2.cell? ⟨bR, 0, none⟩ = some (.int .i64 0) := HR2.out.cell 0
  have r1 : w2.cell? ⟨bR, 1, none⟩ = some (.bool false) := HR2.out.cell 1
  have r2 : w2.cell? ⟨bR, 2, none⟩ = some .nilFunc := HR2.out.cell 2
  have r3 : w2.cell? ⟨bR, 3, none⟩ = some .nilFunc := HR2.out.cell 3
  have f0 := HR2.out.frozen 0
  have f1 := HR2.out.frozen 1
  have f2 := HR2.out.frozen 2
  have f3 := HR2.out.frozen 3
  clear hb
  go_wp2_with fail
  have hF := (((HR2.out.set_ 0 (.int .i64 (t : Int))).set_ 1 (.bool z)).set_ 2 (.func (.func 263) #[] #[.pointer (some ⟨w.heap.size, 0, none⟩)])).set_ 3 (.func (.func 264) #[] #[])
  have hXF := (((HX2.out.far (p := ⟨bR, 0, none⟩) HNE.out (.int .i64 (t : Int))).far (p := ⟨bR, 1, none⟩) HNE.out (.bool z)).far (p := ⟨bR, 2, none⟩) HNE.out (.func (.func 263) #[] #[.pointer (some ⟨w.heap.size, 0, none⟩)])).far (p := ⟨bR, 3, none⟩) HNE.out (.func (.func 264) #[] #[])
  have hBF := (((HB2.out.setCell (p := ⟨bR, 0, none⟩) HGE.out (.int .i64 (t : Int))).setCell (p := ⟨bR, 1, none⟩) HGE.out (.bool z)).setCell (p := ⟨bR, 2, none⟩) HGE.out (.func (.func 263) #[] #[.pointer (some ⟨w.heap.size, 0, none⟩)])).setCell (p := ⟨bR, 3, none⟩) HGE.out (.func (.func 264) #[] #[])
  clear r0 r1 r2 r3 f0 f1 f2 f3
  generalize (((w2.setCell ⟨bR, 0, none⟩ (.int .i64 (t : Int))).setCell ⟨bR, 1, none⟩ (.bool z)).setCell ⟨bR, 2, none⟩ (.func (.func 263) #[] #[.pointer (some ⟨w.heap.size, 0, none⟩)])).setCell ⟨bR, 3, none⟩ (.func (.func 264) #[] #[]) = wF at hF hXF hBF ⊢
  have r0 : wF.cell? ⟨bR, 0, none⟩ = some (.int .i64 (t : Int)) := hF.cell 0
  have r1 : wF.cell? ⟨bR, 1, none⟩ = some (.bool z) := hF.cell 1
  have r2 : wF.cell? ⟨bR, 2, none⟩ = some (.func (.func 263) #[] #[.pointer (some ⟨w.heap.size, 0, none⟩)]) := hF.cell 2
  have r3 : wF.cell? ⟨bR, 3, none⟩ = some (.func (.func 264) #[] #[]) := hF.cell 3
  refine bodyPost_ret (v := .tuple #[.agg #[.int .i64 (t : Int), .bool z, .func (.func 263) #[] #[.pointer (some ⟨w.heap.size, 0, none⟩)], .func (.func 264) #[] #[]], .int .i64 0]) (by simp [results, Tryz.results242, go_sem, r0, r1, r2, r3]) rfl ?_
  exact ⟨w.heap.size, by rw [HT.out.1, HT.out.2], hXF, Nat.le_refl _, hBF⟩
set_option maxRecDepth 100000 in
set_option maxHeartbeats 1000000 in
theorem shaped1_spec (g e : Nat) (v : Bv) (w : World) (hg : Blk w g 3 #[.int .i64 (e : Int)]) (he : v.t = e) (hl : legalT (v.t : Int) = true) (hw : isW (v.w : Int) = true) :
    Calls Tryz.prog 263 #[.agg #[.int .i64 (v.t : Int), .int .i64 (v.w : Int), .int .u64 (v.n : Int)], .pointer (some ⟨g, 0, none⟩)] w fun x w' => x = .returned (.int .i64 0) ∧ Below w.heap.size w w' := by
  have HB := Lib.hid (show Below w.heap.size w (w.alloc (.cells #[.int .i64 (v.t : Int), .int .i64 (v.w : Int), .int .u64 (v.n : Int)] 185)) from (Below.refl _ _).alloc (Nat.le_refl _) _)
  have HX := Lib.hid (Blk.new w 185 #[.int .i64 (v.t : Int), .int .i64 (v.w : Int), .int .u64 (v.n : Int)])
  rw [← he] at hg
  have HG := Lib.hid (hg.alloc (.cells #[.int .i64 (v.t : Int), .int .i64 (v.w : Int), .int .u64 (v.n : Int)] 185))
  have HL := Lib.hid hl
  have HW := Lib.hid hw
  clear hg hl hw he
  go_enter Tryz.func263, Tryz.ntmps263
  go_wp2_with fail
  go_at_call 44
  refine (legal_spec (v.t : Int) _).mono ?_
  rw [HL.out]
  rintro x w1 ⟨rfl, hb⟩
  have HB1 := Lib.hid (pure_below HB.out hb)
  have HX1 := Lib.hid (HX.out.pure hb)
  have x0 : w1.cell? ⟨w.heap.size, 0, none⟩ = some (.int .i64 (v.t : Int)) := HX1.out.cell 0
  have x1 : w1.cell? ⟨w.heap.size, 1, none⟩ = some (.int .i64 (v.w : Int)) := HX1.out.cell 1
  have x2 : w1.cell? ⟨w.heap.size, 2, none⟩ = some (.int .u64 (v.n : Int)) := HX1.out.cell 2
  have g0 : w1.cell? ⟨g, 0, none⟩ = some (.int .i64 (v.t : Int)) := HG.out.pure hb |>.cell 0
  clear hb
  go_wp2_with fail
  go_at_call 260
  refine (vlegal_spec v _ HL.out HW.out).mono ?_
  rintro x w2 ⟨rfl, hb⟩
  have HB2 := Lib.hid (pure_below HB1.out hb)
  clear hb x0 x1 x2 g0
  go_wp2_with fail
  go_ret
  exact ⟨rfl, HB2.out⟩
theorem shaped2_spec (b y : Value) (A : Option Addr) (n c : Nat) (w : World) : Calls Tryz.prog 264 #[b, y, .slice A n c] w fun x w' => x = .returned (.tuple #[]) ∧ w = w' := by
  go_enter Tryz.func264, Tryz.ntmps264
  go_wp2_with fail
  go_end0
  exact ⟨rfl, rfl⟩
end Go.Proofs.YtfoifdoaleaekaaGreat
