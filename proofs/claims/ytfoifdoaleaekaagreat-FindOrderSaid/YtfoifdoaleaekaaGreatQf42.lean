/-
  Package encode: Capped and Build of any tree.
  accordionref00: Short, Texts; the plain cut of a tree.
  Package accordionlaw25: plain, the keys for a map.
  Package accordionlaw25, plain: the map of the keys, and its document. No program in sight.
  accordionref00: room.cut and Cut, of any tree that came in.
  accordionref00: Cut; a node that came in, opened.
  The document of a checked tree, with its size; what is known of a cut tree.
-/
import Derived.Test.YtfoifdoaleaekaaGreatQf41
import Derived.Deep.RegionHeld3
import Derived.Deep.Strs
namespace Go.Proofs.YtfoifdoaleaekaaGreat
open Go.RowKit Go.Acc
theorem doc_ok (f : Nat) {t : Tr} (h : Val t) (hc : t.cost ≤ 65000) : ∃ v y, (Bd.calls f (sortT t) Bd.new).s = [v] ∧ FinOk (Bd.calls f (sortT t) Bd.new).b v y ∧ docB (Bd.calls f (sortT t) Bd.new).b v y = bBuild f (sortT t) := by
  obtain ⟨v, e, r⟩ := build_law f (sortT t) (val_ok h)
  obtain ⟨h1, h2, h3⟩ := r.legal (sort_fix h)
  have hs := calls_size f (sortT t) (val_ok h) Bd.new good_new
  rw [cost_sort t h] at hs
  have hb : (Bd.calls f (sortT t) Bd.new).b.length ≤ (Bd.calls f (sortT t) Bd.new).size := by unfold Bd.size; omega
  have hz : Bd.new.size = 0 := rfl
  have e' : (Bd.calls f (sortT t) Bd.new).s = [v] := e
  exact ⟨v, _, e', finok_gen h1 h2 r.fit (by omega), by simp only [bBuild, Bd.finish, e', docB]⟩
set_option maxRecDepth 100000 in
set_option maxHeartbeats 2000000 in
theorem capped_okC (fl : Int) {x : Nv} {t : Tr} {p : Nat → Prop} {w : World} (h : NodeR w p x t) (hp : ∀ k, p k → k < w.heap.size) (hca : CallsD (sortT t)) (hc : t.cost ≤ 65000) (he : (chk ers 0 t 0).1 = 0) :
    Calls Tryz.prog 37 #[.agg #[.int .i64 x.k, .int .i64 x.n, .int .u64 (x.u : Int), .string ⟨x.s.toArray⟩, .slice x.A x.an x.ac, .slice x.B x.bn x.bc], .int .i64 fl, .int .i64 1048576] w (DocW w (bBuild (Go.Proofs.YtfoifdoaleaekaaGreat.bits fl) (sortT t))) := by
  have hv := chk_val ers_ok t 0 0 he
  obtain ⟨v, y, es, hf, ed⟩ := doc_ok (Go.Proofs.YtfoifdoaleaekaaGreat.bits fl) hv hc
  have HV := Lib.hid (And.intro es hf)
  have HD := Lib.hid ed
  have HCA := Lib.hid hca
  have HCO := Lib.hid (show Bd.new.size + (sortT t).cost ≤ 65000 by rw [cost_sort t hv]; have hz : Bd.new.size = 0 := rfl; omega)
  have hb := (Below.refl w.heap.size w).alloc (Nat.le_refl _) (.cells #[.int .i64 x.k, .int .i64 x.n, .int .u64 (x.u : Int), .string ⟨x.s.toArray⟩, .slice x.A x.an x.ac, .slice x.B x.bn x.bc] 26)
  have HB := Lib.hid hb
  have HX := Lib.hid (Blk.new w 26 #[.int .i64 x.k, .int .i64 x.n, .int .u64 (x.u : Int), .string ⟨x.s.toArray⟩, .slice x.A x.an x.ac, .slice x.B x.bn x.bc])
  have HS := Lib.hid (sortedok_spec (h.pure hb) (fun k hk => Nat.lt_of_lt_of_le (hp k hk) hb.size) (by omega) he)
  obtain ⟨b', hb'⟩ : ∃ b', Bd.calls (Go.Proofs.YtfoifdoaleaekaaGreat.bits fl) (sortT t) Bd.new = b' := ⟨_, rfl⟩
  rw [hb'] at HV HD
  have HBB := Lib.hid hb'
  clear h hp hca hc he hv es hf ed hb hb'
  go_enter Tryz.func37, Tryz.ntmps37
  go_wp2_with fail
  go_at_call 19
  refine HS.out.mono ?_
  rintro e w1 ⟨z, rfl, hN1, hb1⟩
  have HB1 := Lib.hid (pure_below HB.out hb1)
  have HN1 := Lib.hid hN1
  have HL1 := Lib.hid (show (w.alloc (.cells #[.int .i64 x.k, .int .i64 x.n, .int .u64 (x.u : Int), .string ⟨x.s.toArray⟩, .slice x.A x.an x.ac, .slice x.B x.bn x.bc] 26)).heap.size ≤ w1.heap.size from hb1.size)
  clear hN1 hb1
  have hB2 := (Below.refl w1.heap.size w1).alloc (Nat.le_refl _) (.cells #[.int .i64 z.k, .int .i64 z.n, .int .u64 (z.u : Int), .string ⟨z.s.toArray⟩, .slice z.A z.an z.ac, .slice z.B z.bn z.bc] 26)
  have HX2 := Lib.hid (Blk.new w1 26 #[.int .i64 z.k, .int .i64 z.n, .int .u64 (z.u : Int), .string ⟨z.s.toArray⟩, .slice z.A z.an z.ac, .slice z.B z.bn z.bc])
  have HB2 := Lib.hid (pure_below HB1.out hB2)
  have HN2 := Lib.hid (HN1.out.pure hB2)
  have HL2 := Lib.hid (show w1.heap.size ≤ (w1.alloc (.cells #[.int .i64 z.k, .int .i64 z.n, .int .u64 (z.u : Int), .string ⟨z.s.toArray⟩, .slice z.A z.an z.ac, .slice z.B z.bn z.bc] 26)).heap.size from hB2.size)
  clear hB2
  go_wp2_with fail
  go_at_call 73
  refine (cnew_spec fl _ (fun _ => 0)).mono ?_
  rintro e w3 ⟨M, o3, rfl, hM, hT⟩
  have hb3 := hT.below (fun _ _ h => h)
  have HX3 := Lib.hid (HX2.out.pure hb3)
  have HM3 := Lib.hid hM
  have HT3 := Lib.hid (hT.mono (J := Bld) fun _ h => h.elim)
  have HB3 := Lib.hid (pure_below HB2.out hb3)
  have HC3 := Lib.hid (HCA.out M fl Bd.new z w3 o3 _ hM good_new nok_new (HN2.out.pure hb3) (fun k hk => by have h1 := HL2.out; exact ⟨by have h2 := hb3.size; omega, hT.ow k (by omega)⟩) HCO.out)
  rw [HBB.out] at HC3
  have x0 : w3.cell? ⟨w1.heap.size, 0, none⟩ = some (.int .i64 z.k) := HX3.out.cell 0
  have x1 : w3.cell? ⟨w1.heap.size, 1, none⟩ = some (.int .i64 z.n) := HX3.out.cell 1
  have x2 : w3.cell? ⟨w1.heap.size, 2, none⟩ = some (.int .u64 (z.u : Int)) := HX3.out.cell 2
  have x3 : w3.cell? ⟨w1.heap.size, 3, none⟩ = some (.string ⟨z.s.toArray⟩) := HX3.out.cell 3
  have x4 : w3.cell? ⟨w1.heap.size, 4, none⟩ = some (.slice z.A z.an z.ac) := HX3.out.cell 4
  have x5 : w3.cell? ⟨w1.heap.size, 5, none⟩ = some (.slice z.B z.bn z.bc) := HX3.out.cell 5
  clear hM hT hb3
  go_wp2_with fail
  go_at_call 74
  refine HC3.out.mono ?_
  rintro e w4 ⟨rfl, o4, hM4, hT4⟩
  have HM4 := Lib.hid hM4
  have HT4 := Lib.hid (HT3.out.trans hT4)
  clear hM4 hT4 x0 x1 x2 x3 x4 x5
  go_wp2_with fail
  go_at_call 75
  refine (finish_spec M fl b' v y _ o4 HM4.out HV.out.1 HV.out.2).mono ?_
  rintro e w5 ⟨A, m, c, rfl, hO, o5, hT5⟩
  have HO := Lib.hid hO
  have HT5 := Lib.hid (HT4.out.trans hT5)
  have HSZ := Lib.hid (show w.heap.size ≤ w4.heap.size from Nat.le_trans HB2.out.size HT4.out.size)
  clear hO hT5
  go_wp2_with fail
  go_ret2
  exact ⟨A, m, c, rfl, by rw [← HD.out]; exact HO.out.rebase HSZ.out, pure_below HB2.out (HT5.out.below fun _ _ => bld_0)⟩
theorem build_okC (fl : Int) {x : Nv} {t : Tr} {p : Nat → Prop} {w : World} (h : NodeR w p x t) (hp : ∀ k, p k → k < w.heap.size) (hca : CallsD (sortT t)) (hc : t.cost ≤ 65000) (he : (chk ers 0 t 0).1 = 0) :
    Calls Tryz.prog 10 #[.agg #[.int .i64 x.k, .int .i64 x.n, .int .u64 (x.u : Int), .string ⟨x.s.toArray⟩, .slice x.A x.an x.ac, .slice x.B x.bn x.bc], .int .i64 fl] w (DocW w (bBuild (Go.Proofs.YtfoifdoaleaekaaGreat.bits fl) (sortT t))) := by
  have hb := (Below.refl w.heap.size w).alloc (Nat.le_refl _) (.cells #[.int .i64 x.k, .int .i64 x.n, .int .u64 (x.u : Int), .string ⟨x.s.toArray⟩, .slice x.A x.an x.ac, .slice x.B x.bn x.bc] 26)
  have HB := Lib.hid hb
  have HH := Lib.hid (capped_okC fl (h.pure hb) (fun k hk => Nat.lt_of_lt_of_le (hp k hk) hb.size) hca hc he)
  clear h hp hca hc he hb
  go_enter Tryz.func10, Tryz.ntmps10
  go_wp2_with fail
  go_at_call 37
  refine HH.out.mono ?_
  intro e w1 hD
  obtain ⟨A, m, c, rfl, hO, hb⟩ := hD
  have HO := Lib.hid hO
  have HB1 := Lib.hid hb
  clear hO hb
  go_wp2_with fail
  go_ret2
  exact docw_lift HB.out ⟨A, m, c, rfl, HO.out, HB1.out⟩
end Go.Proofs.YtfoifdoaleaekaaGreat

namespace Go.Proofs.YtfoifdoaleaekaaGreat
open Go.RowKit Go.Acc
theorem short_is (s : List UInt8) (m : Nat) (w : World) : Calls Tryz.prog 61 #[.string ⟨s.toArray⟩, .int .i64 m] w fun e w' => e = .returned (.string ⟨(s.take m).toArray⟩) ∧ w = w' := by
  have hs : (⟨s.toArray⟩ : ByteArray).size = s.length := rfl
  by_cases h : m < s.length
  · have hm0 : (m : Int) ≤ s.length := by omega
    have hd : decide (m < s.length) = true := decide_eq_true h
    have he : (⟨s.toArray⟩ : ByteArray).extract 0 m = ⟨(s.take m).toArray⟩ := by
      rw [ByteArray.extract_mk, List.drop_zero, Nat.sub_zero]
    have HE := Lib.hid he
    clear he
    go_enter Tryz.func61, Tryz.ntmps61
    go_wp2
    go_ret
    refine ⟨?_, rfl⟩
    show Ending.returned (.string (ByteArray.extract ⟨s.toArray⟩ 0 (min (s.length : Int) (m : Int)).toNat)) = _
    rw [show (min (s.length : Int) (m : Int)).toNat = m by omega, HE.out]
  · have hd : decide (m < s.length) = false := decide_eq_false h
    have he : s.take m = s := List.take_of_length_le (by omega)
    have HE := Lib.hid he
    clear he
    go_enter Tryz.func61, Tryz.ntmps61
    go_wp2
    go_ret
    refine ⟨?_, rfl⟩
    show Ending.returned (.string (ByteArray.extract ⟨s.toArray⟩ 0 (min (s.length : Int) (m : Int)).toNat)) = _
    rw [show (min (s.length : Int) (m : Int)).toNat = s.length by omega, HE.out, ByteArray.extract_mk]
    simp
def StrsW (w : World) (n : Nat) (l : List (List UInt8)) (e : Ending) (w' : World) : Prop := ∃ A c, e = .returned (.slice A n c) ∧ OwnS w' w.heap.size A n c l ∧ Below w.heap.size w w'
end Go.Proofs.YtfoifdoaleaekaaGreat

namespace Go.Proofs.YtfoifdoaleaekaaGreat
open Go.RowKit Go.Acc
theorem kcheck_zero (s : List UInt8) (w : World) (hz : hasZero s = true) : Calls Tryz.prog 62 #[.string ⟨s.toArray⟩] w fun e w' => e = .returned (.int .i64 70) ∧ w = w' := by
  obtain ⟨r, hr⟩ : ∃ r, Lib.indexByte s 0 = r := ⟨_, rfl⟩
  have HR := Lib.hid hr
  have hd : decide ((0 : Int) ≤ r) = true := by rw [← hr, index_zero]; exact hz
  clear hr hz
  go_enter Tryz.func62, Tryz.ntmps62
  go_wp2_with (go_at_call 83; refine (ibs_spec s r _ HR.out).mono ?_; rintro e w' ⟨rfl, rfl⟩)
  go_ret
  exact ⟨rfl, rfl⟩
def plStep (r : List (List UInt8)) (x : List UInt8) : List (List UInt8) := if (hasZero (x.take 20) || r.contains (x.take 20)) = true then r else r ++ [x.take 20]
def plainL (l : List (List UInt8)) : List (List UInt8) := (l.take 40).foldl plStep []
theorem plStep_len (r : List (List UInt8)) (x : List UInt8) : (plStep r x).length ≤ r.length + 1 := by
  unfold plStep
  split
  · omega
  · simp
def KeysOk (r : List (List UInt8)) : Prop := r.Nodup ∧ ∀ s ∈ r, hasZero s = false ∧ s.length ≤ 20
theorem plStep_ok {r : List (List UInt8)} (x : List UInt8) (h : KeysOk r) : KeysOk (plStep r x) := by
  unfold plStep
  split
  · exact h
  · rename_i hn
    simp only [Bool.or_eq_true, not_or, Bool.not_eq_true] at hn
    refine ⟨?_, fun s hs => ?_⟩
    · rw [List.nodup_append]
      refine ⟨h.1, by simp, fun a ha b hb => ?_⟩
      rw [List.mem_singleton] at hb
      rintro rfl
      subst hb
      have := hn.2
      rw [List.contains_eq_mem, decide_eq_false_iff_not] at this
      exact this ha
    · rcases List.mem_append.1 hs with hs | hs
      · exact h.2 s hs
      · rw [List.mem_singleton] at hs
        subst hs
        exact ⟨hn.1, by rw [List.length_take]; omega⟩
theorem foldl_pl (l : List (List UInt8)) : ∀ (r : List (List UInt8)), KeysOk r → KeysOk (l.foldl plStep r) ∧ (l.foldl plStep r).length ≤ r.length + l.length := by
  induction l with
  | nil => intro r h; exact ⟨h, by simp⟩
  | cons x l ih =>
    intro r h
    obtain ⟨h1, h2⟩ := ih _ (plStep_ok x h)
    rw [List.foldl_cons]
    refine ⟨h1, ?_⟩
    have := plStep_len r x
    rw [List.length_cons]
    omega
theorem plainL_ok (l : List (List UInt8)) : KeysOk (plainL l) ∧ (plainL l).length ≤ 40 := by
  obtain ⟨h1, h2⟩ := foldl_pl (l.take 40) [] ⟨List.nodup_nil, fun s hs => by cases hs⟩
  refine ⟨h1, ?_⟩
  rw [List.length_take] at h2
  unfold plainL
  simp only [List.length_nil] at h2
  omega
theorem has_step (hz : Bool) (r : List (List UInt8)) (s : List UInt8) {j : Nat} (hj : j < r.length) : (hz || (r.take (j + 1)).contains s) = ((hz || (r.take j).contains s) || r[j] == s) := by
  rw [List.take_succ_eq_append_getElem hj, List.contains_eq_any_beq, List.contains_eq_any_beq, List.any_append, List.any_cons, List.any_nil, Bool.or_false, Bool.or_assoc, Bool.beq_comm]
set_option maxRecDepth 100000 in
set_option maxHeartbeats 2000000 in
theorem plain_spec (A : Option Addr) (n c : Nat) (l : List (List UInt8)) (w : World) (h : IsS w A n l) :
    Calls Tryz.prog 26 #[.slice A n c] w (StrsW w (plainL l).length (plainL l)) := by
  have HI := Lib.hid h
  have hl : l.length = n := by have := h.1; simpa using this
  have HL := Lib.hid hl
  have HSH := Lib.hid (fun (s : List UInt8) (w : World) => short_is s 20 w)
  clear h hl
  go_enter Tryz.func26, Tryz.ntmps26
  go_wp2_with fail
  go_loopw [3, 4] (fun s u wr => ∃ k : Nat, k ≤ n ∧ k ≤ 40 ∧ u = .int .i64 (k : Int) ∧ ∃ B d r, r = (l.take k).foldl plStep [] ∧ s = .slice B r.length d ∧ OwnS wr w.heap.size B r.length d r ∧ Below w.heap.size w wr) (fun _ u _ => 40 - (intOf u).toNat)
  case atStart => exact ⟨0, Nat.zero_le _, Nat.zero_le _, rfl, none, 0, [], rfl, rfl, Own.nil _ _, Below.refl _ _⟩
  case round =>
    obtain ⟨k, hk, hkm, rfl, B, d, r, hr, rfl, ho, hb⟩ := hrel
    have hrl : r.length ≤ 40 := by
      have h2 := (foldl_pl (l.take k) [] ⟨List.nodup_nil, fun s hs => by cases hs⟩).2
      rw [← hr, List.length_take] at h2
      simp only [List.length_nil] at h2
      omega
    have HO := Lib.hid ho
    have HB := Lib.hid hb
    have HIR := Lib.hid (HI.out.pure hb)
    have HR := Lib.hid hr
    clear ho hb hr
    generalize hm : r.length = m at hrl HO ⊢
    have HM := Lib.hid hm
    clear hm
    by_cases h1 : k < n
    · by_cases h2 : k < 40
      · obtain ⟨g, off, e, hk', hs⟩ := iss_at HIR.out h1
        have HT := Lib.hid (show (l.take (k + 1)).foldl plStep [] = plStep r l[k] by
          rw [List.take_succ_eq_append_getElem hk', List.foldl_append, ← HR.out]; rfl)
        generalize l[k] = y at hs HT
        have hk0 : (0 : Int) ≤ (k : Int) := by omega
        have hkn : (k : Int) < (n : Int) := by omega
        have hkM : (k : Int) < 40 := by omega
        rw [e]
        have HE := Lib.hid e
        clear e hk'
        go_wp2_with fail
        go_at_call 61
        refine (HSH.out _ _).mono ?_
        rintro e w' ⟨rfl, rfl⟩
        obtain ⟨x, hx⟩ : ∃ x, y.take 20 = x := ⟨_, rfl⟩
        rw [show ((20 : Nat) : Int) = 20 from rfl] at *
        rw [hx]
        have HX := Lib.hid hx
        clear hx hs
        go_upto_region 6 with fail
        obtain ⟨hz, hhz⟩ : ∃ hz, hasZero x = hz := ⟨_, rfl⟩
        have HZ := Lib.hid hhz
        clear hhz
        go_cut [6] (fun u6 wx => ∃ wy, wy = wx ∧ u6 = .bool hz ∧ Below wr.heap.size wr wx)
        case first =>
          cases hz with
          | true =>
            go_wp2_with fail
            go_at_call 62
            refine (kcheck_zero x _ HZ.out).mono ?_
            rintro e w' ⟨rfl, rfl⟩
            go_wp2_with fail
            go_meet
            exact ⟨_, rfl, rfl, Below.refl _ _⟩
          | false =>
            go_wp2_with fail
            go_at_call 62
            refine (kcheck_spec x _ HZ.out).mono ?_
            rintro e w' ⟨rfl, rfl⟩
            go_wp2_with fail
            go_meet
            exact ⟨_, rfl, rfl, Below.refl _ _⟩
        case rest =>
        obtain ⟨w2, rfl, rfl, hb2⟩ := hcut
        have HO2 := Lib.hid (HO.out.pure hb2)
        have HB2 := Lib.hid (pure_below HB.out hb2)
        clear hb2 HO HB HIR
        go_wp2_with fail
        go_loopw [6, 7] (fun u6 u7 wr2 => ∃ wy, wy = wr2 ∧ ∃ j : Nat, j ≤ m ∧ u7 = .int .i64 (j : Int) ∧ u6 = .bool (hz || (r.take j).contains x) ∧ Below w2.heap.size w2 wr2) (fun _ u7 _ => m - (intOf u7).toNat)
        case atStart => exact ⟨_, rfl, 0, Nat.zero_le _, rfl, by simp, Below.refl _ _⟩
        case round =>
          obtain ⟨w3, rfl, j, hj, rfl, rfl, hb3⟩ := hrel
          have HO3 := Lib.hid (HO2.out.pure hb3)
          have HB3 := Lib.hid hb3
          clear hb3
          by_cases hjm : j < m
          · obtain ⟨g2, off2, e2, hj', hs2⟩ := iss_at HO3.out.is hjm
            have HS := Lib.hid (has_step hz r x hj')
            generalize (hz || (r.take j).contains x) = q at HS ⊢
            generalize r[j] = z at HS hs2
            have hj0 : (0 : Int) ≤ (j : Int) := by omega
            have hjM : (j : Int) < (m : Int) := by omega
            rw [e2]
            have HE2 := Lib.hid e2
            clear e2 hj'
            cases q with
            | true =>
              go_wp2_with fail
              go_roundw
              case rel => exact ⟨_, rfl, j + 1, by omega, by go_num, by rw [HS.out]; rfl, HB3.out⟩
              case measure => simp [intOf]; omega
            | false =>
              go_wp2_with fail
              go_roundw
              case rel => exact ⟨_, rfl, j + 1, by omega, by go_num, by rw [HS.out, Bool.false_or], HB3.out⟩
              case measure => simp [intOf]; omega
          · obtain rfl : m = j := by omega
            have HQ := Lib.hid (show r.take m = r by rw [← HM.out, List.take_length])
            have HQ2 := Lib.hid (show (hz || r.contains x) = (hz || (r.take m).contains x) by rw [HQ.out])
            obtain ⟨q, hq⟩ : ∃ q, (hz || (r.take m).contains x) = q := ⟨_, rfl⟩
            rw [hq]
            have HS := Lib.hid (show plStep r y = if q = true then r else r ++ [x] by unfold plStep; rw [HX.out, HZ.out, HQ2.out, hq])
            have HBX := Lib.hid (pure_below HB2.out HB3.out)
            clear hq
            cases q with
            | true =>
              go_wp2_with fail
              go_roundw
              case rel => exact ⟨k + 1, by omega, by omega, by go_num, B, d, r, by rw [HT.out, HS.out, if_pos rfl], by rw [HM.out], by rw [HM.out]; exact HO3.out, HBX.out⟩
              case measure => simp [intOf]; omega
            | false =>
              have HO4 := Lib.hid (HO3.out.pure ((Below.refl w3.heap.size w3).alloc (Nat.le_refl _) (.cells #[.string ⟨x.toArray⟩] 9)))
              have HB4 := Lib.hid (HBX.out.alloc HBX.out.size (.cells #[.string ⟨x.toArray⟩] 9))
              have HI4 := Lib.hid (str_lit w3 x)
              go_wp2_with (at_builtin; refine wpl_app _ rfl (.tmp 43) (.tmp 45) _ rfl 9 _ 1 16 Tryz.underlying23 info_st rfl (by omega) stc_len stc_one _ _ _ _ _ rfl HO4.out _ _ _ _ rfl HI4.out (by omega) HB4.out.size ?_; intro A1 c1 w1 hown1 hfr1 hat1)
              have HO5 := Lib.hid hown1
              have HB5 := Lib.hid (below_fr HB4.out hfr1 (by rintro j ⟨ad, e, rfl⟩; exact (HO4.out.addr ad e).2.1))
              clear hown1 hfr1 hat1
              go_wp2_with fail
              go_roundw
              case rel => exact ⟨k + 1, by omega, by omega, by go_num, A1, c1, r ++ [x], by rw [HT.out, HS.out, if_neg (by decide)], by rw [List.length_append, HM.out]; rfl, by rw [List.length_append, HM.out]; exact HO5.out, HB5.out⟩
              case measure => simp [intOf]; omega
      · obtain rfl : k = 40 := by omega
        have hkn : (40 : Int) < (n : Int) := by omega
        have HF := Lib.hid (show plainL l = r from HR.out.symm)
        go_wp2_with fail
        go_ret
        rw [HF.out, HM.out]
        exact ⟨B, d, rfl, HO.out, HB.out⟩
    · obtain rfl : n = k := by omega
      have HF := Lib.hid (show plainL l = r by rw [HR.out]; unfold plainL; rw [List.take_of_length_le (by have := HL.out; omega), List.take_of_length_le (by have := HL.out; omega)])
      go_wp2_with fail
      go_ret
      rw [HF.out, HM.out]
      exact ⟨B, d, rfl, HO.out, HB.out⟩
end Go.Proofs.YtfoifdoaleaekaaGreat

namespace Go.Proofs.YtfoifdoaleaekaaGreat
open Go.RowKit Go.Acc
theorem fm_k17 : @Eq Int 17 17 := rfl
def fmKids (n : Nat) : List Tr := (List.range n).map fun i : Nat => leafI (i : Int)
def fmTr (ks : List (List UInt8)) : Tr := .mk 17 0 0 [] ks (fmKids ks.length)
def fmE (ks : List (List UInt8)) : List (List UInt8 × Tr) := sortE (ks.zip (fmKids ks.length))
theorem fmKids_len (n : Nat) : (fmKids n).length = n := by unfold fmKids; rw [List.length_map, List.length_range]
theorem fmKids_at {n i : Nat} (h : i < n) : (fmKids n)[i]? = some (leafI (i : Int)) := by unfold fmKids; rw [List.getElem?_map, List.getElem?_range h]; rfl
theorem fmKids_mem {n : Nat} {t : Tr} (h : t ∈ fmKids n) : ∃ i : Nat, i < n ∧ t = leafI (i : Int) := by
  obtain ⟨i, hi, rfl⟩ := List.mem_map.1 h
  exact ⟨i, List.mem_range.1 hi, rfl⟩
theorem sort_fm (ks : List (List UInt8)) : sortT (fmTr ks) = .mk 17 0 0 [] ((fmE ks).map (·.1)) ((fmE ks).map (·.2)) := by
  have hs : sortL (fmKids ks.length) = fmKids ks.length := by
    rw [sortL_map]
    unfold fmKids
    rw [List.map_map]
    exact List.map_congr_left fun i _ => rfl
  unfold fmTr fmE
  rw [sortT, if_pos fm_k17, hs]
theorem fmE_mem {ks : List (List UInt8)} {e : List UInt8 × Tr} (h : e ∈ fmE ks) : e.1 ∈ ks ∧ ∃ i : Nat, i < ks.length ∧ e.2 = leafI (i : Int) := by
  obtain ⟨a, b⟩ := e
  obtain ⟨h1, h2⟩ := List.of_mem_zip ((sortE_perm _).mem_iff.1 h)
  exact ⟨h1, fmKids_mem h2⟩
theorem fmE_keys (ks : List (List UInt8)) (k : List UInt8) : k ∈ (fmE ks).map (·.1) ↔ k ∈ ks := by
  have h : ((fmE ks).map (·.1)).Perm ks := by
    have h1 := (sortE_perm (ks.zip (fmKids ks.length))).map (·.1)
    rw [List.map_fst_zip (by rw [fmKids_len]; exact Nat.le_refl _)] at h1
    exact h1
  exact h.mem_iff
theorem fmE_up {ks : List (List UInt8)} (h : ks.Nodup) : ((fmE ks).map (·.1)).Pairwise (· < ·) := by
  rw [List.pairwise_map]
  refine sortE_up _ ?_
  rw [List.map_fst_zip (by rw [fmKids_len]; exact Nat.le_refl _)]
  exact h
theorem fmE_at (ks : List (List UInt8)) {i : Nat} (h : i < ks.length) : ∃ j : Nat, ((fmE ks).map (·.1))[j]? = some ks[i] ∧ ((fmE ks).map (·.2.n))[j]? = some (i : Int) := by
  have hm : (ks[i], leafI (i : Int)) ∈ fmE ks := by
    refine (sortE_perm _).mem_iff.2 ?_
    rw [List.mem_iff_getElem?]
    refine ⟨i, ?_⟩
    rw [List.getElem?_zip_eq_some]
    exact ⟨List.getElem?_eq_getElem h, fmKids_at h⟩
  obtain ⟨j, hj⟩ := List.mem_iff_getElem?.1 hm
  exact ⟨j, by rw [List.getElem?_map, hj]; rfl, by rw [List.getElem?_map, hj]; rfl⟩
theorem keysE_zero {ez et : Int} : ∀ (l had : List (List UInt8)), (∀ s ∈ l, hasZero s = false) → l.Nodup → (∀ s ∈ l, s ∉ had) → keysE ez et had l = 0
  | [], _, _, _, _ => rfl
  | k :: r, had, h1, h2, h3 => by
    obtain ⟨n1, n2⟩ := List.nodup_cons.1 h2
    unfold keysE
    rw [if_neg (by rw [h1 k (by simp)]; decide), if_neg (by rw [List.contains_eq_mem]; simpa using h3 k (by simp))]
    refine keysE_zero r (k :: had) (fun s hs => h1 s (by simp [hs])) n2 (fun s hs hm => ?_)
    rcases List.mem_cons.1 hm with rfl | hm
    · exact n1 hs
    · exact h3 s (by simp [hs]) hm
theorem chkL_ints (d : Nat) (hd : d < 64) : ∀ (zs : List Int) (c : Nat), c + zs.length ≤ 4096 → (chkL ers d (zs.map leafI) c).1 = 0
  | [], _, _ => rfl
  | u :: r, c, h => by
    rw [List.length_cons] at h
    rw [List.map_cons, chkL, chk_leafI d c u hd (by omega), if_neg (by simp)]
    exact chkL_ints d hd r (c + 1) (by omega)
theorem fmKids_ints (n : Nat) : fmKids n = ((List.range n).map fun i : Nat => (i : Int)).map leafI := by
  unfold fmKids
  rw [List.map_map]
  rfl
theorem chk_fm {ks : List (List UInt8)} (h : KeysOk ks) (hl : ks.length ≤ 40) : (chk ers 0 (fmTr ks) 0).1 = 0 := by
  have hs : suchT (fmTr ks) = true := by
    have hall : ((fmKids ks.length).all fun x => decide (partOf 17 = 0 ∨ x.k = partOf 17)) = true := by
      rw [List.all_eq_true]
      intro x _
      exact decide_eq_true (.inl (by decide))
    unfold suchT fmTr
    simp only [Bool.and_eq_true]
    exact ⟨⟨⟨⟨⟨⟨⟨⟨decide_eq_true (by decide : (1 : Int) ≤ 17 ∧ (17 : Int) ≤ 17), decide_eq_true (.inr (.inr (.inr rfl)))⟩, decide_eq_true (.inr (.inr rfl))⟩, decide_eq_true (.inr (.inr (.inr rfl)))⟩, decide_eq_true (.inl rfl)⟩, decide_eq_true fun h => absurd (id h : (17 : Int) = 2) (by decide)⟩, decide_eq_true fun _ => (fmKids_len ks.length).symm⟩,
      decide_eq_true fun h => absurd (id h : (17 : Int) = 15 ∨ (17 : Int) = 16) (by decide)⟩, hall⟩
  unfold fmTr at hs ⊢
  rw [chk, if_neg (by omega), if_neg (by omega), hs, if_neg (by decide), if_neg]
  · rw [fmKids_ints]
    exact chkL_ints 1 (by omega) _ 1 (by rw [List.length_map, List.length_range]; omega)
  · unfold keyedE
    rw [if_neg (fun h => absurd (id h.1 : (17 : Int) = 5) (by decide))]
    exact fun hn => hn (keysE_zero ks [] (fun s hs => (h.2 s hs).1) h.1 (fun s _ hm => by cases hm))
theorem keysCost_le : ∀ (ks : List (List UInt8)), (∀ s ∈ ks, s.length ≤ 20) → keysCost ks ≤ 40 * ks.length
  | [], _ => Nat.zero_le _
  | s :: r, h => by
    have h1 := h s (by simp)
    have h2 := keysCost_le r (fun x hx => h x (by simp [hx]))
    unfold keysCost
    rw [List.length_cons]
    omega
theorem cost_ints : ∀ (zs : List Int), Tr.costL (zs.map leafI) = 104 * zs.length
  | [] => rfl
  | u :: r => by
    rw [List.map_cons, Tr.costL, cost_ints r, List.length_cons]
    have : (leafI u).cost = 64 := rfl
    rw [this]
    omega
theorem cost_fm {ks : List (List UInt8)} (h : KeysOk ks) (hl : ks.length ≤ 40) : (fmTr ks).cost ≤ 65000 := by
  have h1 := keysCost_le ks (fun s hs => (h.2 s hs).2)
  unfold fmTr
  rw [Tr.cost, fmKids_ints, cost_ints, List.length_map, List.length_range, List.length_nil]
  omega
theorem rep_map17 {l : List UInt8} {v : Bv} {n : Int} {u : Nat} {s : List UInt8} {ks : List (List UInt8)} {c : List Tr} (hr : Rep l v (.mk 17 n u s ks c)) :
    ∃ kv kvs vs, KeysAt l ks kvs ∧ VecAt l 14 true false kvs kv ∧ vs.length = c.length ∧ (∀ (i : Nat) x t, vs[i]? = some x → c[i]? = some t → Rep l x t) ∧ MapAt l kv vs v := by
  cases hr with
  | map _ _ _ hk hv hl hr h => exact ⟨_, _, _, hk, hv, hl, hr, h⟩
theorem rep_int3 {l : List UInt8} {v : Bv} {z : Int} (hr : Rep l v (leafI z)) : v = numV z := by
  unfold leafI at hr
  cases hr with
  | int => rfl
theorem fm_doc {ks : List (List UInt8)} (hk : KeysOk ks) (hl : ks.length ≤ 40) {b : List UInt8} {v : Bv} {w : Nat} (hr : Rep b v (sortT (fmTr ks))) (hw : isW (w : Int) = true) (ht : legalT (v.t : Int) = true) (hvw : isW (v.w : Int) = true) (hb : b.length ≤ 65000) (hf : fitsV v b.length 0 w = true) :
    MapD (docB b v w) ((alignB w b).length : Int) (w : Int) (v.t : Int) (ownW w v : Int) ((fmE ks).map (·.1)) ((fmE ks).map (·.2.n)) := by
  obtain ⟨m, em⟩ := docB_app b v w
  have hlm : (b ++ m).length < 2 ^ 32 := by
    rw [← em]
    have h1 := bdoc_len [] b v w
    have h2 := alignB_le8 b (isW_nat.2 (isW_nat.1 hw))
    have h3 : w ≤ 8 := by rcases isW_nat.1 hw with h | h | h | h <;> omega
    simp only [List.nil_append, List.length_nil] at h1
    omega
  rw [sort_fm] at hr
  obtain ⟨kv, kvs, vs, r1, r2, r3, r4, r5⟩ := rep_map17 (hr.app m)
  have hvs : vs = ((fmE ks).map (·.2.n)).map numV := by
    apply List.ext_getElem
    · rw [r3]; simp
    · intro i h1 h2
      have h3 : i < (fmE ks).length := by simpa using h2
      obtain ⟨_, z, hz, e⟩ := fmE_mem (List.getElem_mem h3)
      have hq := r4 i vs[i] _ (List.getElem?_eq_getElem h1) (by rw [List.getElem?_map, List.getElem?_eq_getElem h3]; rfl)
      have hq : Rep (b ++ m) vs[i] (fmE ks)[i].snd := hq
      rw [e] at hq
      rw [rep_int3 hq, List.getElem_map, List.getElem_map, e]
      rfl
  rw [hvs] at r5
  have hi : inlineT (v.t : Int) = false := by rw [r5.width.1]; decide
  have ho : ownW w v = v.w := by unfold ownW; rw [show inl v.t = false from hi]; rfl
  have hld := doc_leads (x := []) hw ht hvw (by omega) hf hi
  rw [ho]
  rw [← em] at r1 r2 r5 hlm
  simp only [List.nil_append, List.length_nil, Nat.zero_add] at hld
  exact map_doc r5 r2 r1 (fun s hs => hasZero_no (hk.2 s ((fmE_keys ks s).1 hs)).1) (by simp) (fun z hz => by
    obtain ⟨e, he, rfl⟩ := List.mem_map.1 hz
    obtain ⟨_, i, hi, e2⟩ := fmE_mem he
    rw [e2]
    show -9223372036854775808 ≤ ((i : Nat) : Int) ∧ ((i : Nat) : Int) ≤ 9223372036854775807
    omega) hlm hld
end Go.Proofs.YtfoifdoaleaekaaGreat

namespace Go.Proofs.YtfoifdoaleaekaaGreat
open Go.RowKit Go.Acc
inductive NodeI (w : World) : Nv → Tr → Prop
  | mk {x : Nv} {ks : List (List UInt8)} {l : List Tr} {vs : List Nv} (h1 : IsS w x.A x.an ks) (h2 : IsN w x.B x.bn vs) (hn : x.bn ≤ 9223372036854775807) (hl : vs.length = l.length)
      (hc : ∀ (i : Nat) v t, vs[i]? = some v → l[i]? = some t → NodeI w v t) : NodeI w x (.mk x.k x.n x.u x.s ks l)
theorem NodeI.pure {w w' : World} {x : Nv} {t : Tr} (h : NodeI w x t) (hb : Below w.heap.size w w') : NodeI w' x t := by
  induction h with
  | mk h1 h2 hn hl hc ih => exact .mk (h1.pure hb) (h2.pure hb) hn hl ih
structure CtR (w : World) (B k : Nat) (ts : List Tr) (A : Option Addr) (c : Nat) (vs : List Nv) : Prop where
  own : OwnT w B A k c vs
  len : ts.length = k
  kids : ∀ (i : Nat) v t, vs[i]? = some v → ts[i]? = some t → NodeR w (fun b => B ≤ b ∧ b < w.heap.size ∧ ∀ ad, A = some ad → b ≠ ad.block) v t
theorem CtR.nil (w : World) (B : Nat) : CtR w B 0 [] none 0 [] := ⟨Own.nil _ _, rfl, fun i v t hv _ => by simp at hv⟩
theorem CtR.fr {w w' : World} {B k rb : Nat} {ts : List Tr} {A : Option Addr} {c : Nat} {vs : List Nv} (h : CtR w B k ts A c vs) (hf : Fr (fun j => j = rb) w w') (hr : rb < B) : CtR w' B k ts A c vs :=
  ⟨h.own.fr hf (fun ad e => by have := (h.own.addr ad e).2.1; omega), h.len, fun i v t hv ht => ((h.kids i v t hv ht).keep fun a u hc hp => cell_fr hf hc (by omega)).mono fun b hb => ⟨hb.1, Nat.lt_of_lt_of_le hb.2.1 hf.size, hb.2.2⟩⟩
theorem CtR.step {w W7 W8 : World} {B k rb a : Nat} {ts : List Tr} {A A1 : Option Addr} {c c1 : Nat} {vs : List Nv} {y : Nv} {t : Tr} (h : CtR w B k ts A c vs) (hf : Fr (fun j => j = rb) w W7) (hr : rb < B) (hB : B ≤ w.heap.size) (ha : w.heap.size ≤ a)
    (hx : NodeR W7 (fun b => a ≤ b ∧ b < W7.heap.size) y t) (ho : OwnT W8 B A1 (k + 1) c1 (vs ++ [y])) (hF : Fr (fun b => ∃ ad, A = some ad ∧ b = ad.block) W7 W8)
    (hat : A1.map (·.block) = A.map (·.block) ∨ A1.map (·.block) = some W7.heap.size) : CtR W8 B (k + 1) (ts ++ [t]) A1 c1 (vs ++ [y]) := by
  have hA : ∀ ad, A = some ad → B ≤ ad.block ∧ ad.block < w.heap.size := fun ad e => (h.own.addr ad e).2
  have hl : vs.length = k := h.own.1
  have hs := hf.size
  have hS := hF.size
  have hA1 : ∀ ad, A1 = some ad → (∃ ad0, A = some ad0 ∧ ad.block = ad0.block) ∨ ad.block = W7.heap.size := by
    rintro ad rfl
    rcases hat with e | e
    · cases A with
      | none => simp at e
      | some ad0 => simp at e; exact .inl ⟨ad0, rfl, e⟩
    · simp at e; exact .inr e
  refine ⟨ho, by rw [List.length_append, h.len]; rfl, fun i v t' hv ht => ?_⟩
  by_cases hi : i < k
  · rw [List.getElem?_append_left (by omega)] at hv
    rw [List.getElem?_append_left (by rw [h.len]; exact hi)] at ht
    refine ((h.kids i v t' hv ht).keep fun b u hc hp => cell_fr hF (cell_fr hf hc (by omega)) ?_).mono fun b hb => ⟨hb.1, by omega, fun ad e e2 => ?_⟩
    · rintro ⟨ad, e, e2⟩
      exact hp.2.2 ad e e2
    · rcases hA1 ad e with ⟨ad0, e3, e4⟩ | e3
      · exact hb.2.2 ad0 e3 (e2.trans e4)
      · omega
  · have hik : i = k := by
      have := (List.getElem?_eq_some_iff.1 hv).1
      simp at this
      omega
    subst hik
    rw [List.getElem?_append_right (by omega), hl, Nat.sub_self] at hv
    rw [List.getElem?_append_right (by rw [h.len]; exact Nat.le_refl _), h.len, Nat.sub_self] at ht
    simp at hv ht
    subst hv ht
    refine (hx.keep fun b u hc hp => cell_fr hF hc ?_).mono fun b hb => ⟨by omega, by omega, fun ad e e2 => ?_⟩
    · rintro ⟨ad, e, e2⟩
      have := hA ad e
      omega
    · rcases hA1 ad e with ⟨ad0, e3, e4⟩ | e3
      · have := hA ad0 e3
        omega
      · omega
end Go.Proofs.YtfoifdoaleaekaaGreat

namespace Go.Proofs.YtfoifdoaleaekaaGreat
open Go.RowKit Go.Acc Go.Deep
theorem ba_of (s : ByteArray) : (.string s : Value) = .string ⟨s.data.toList.toArray⟩ := by
  cases s
  simp
end Go.Proofs.YtfoifdoaleaekaaGreat

namespace Go.Proofs.YtfoifdoaleaekaaGreat
open Go.RowKit Go.Acc
theorem doc_all (f : Nat) {t : Tr} (h : Val t) (hc : t.cost ≤ 65000) : ∃ b v w, bBuild f (sortT t) = docB b v w ∧ Rep b v (sortT t) ∧ isW (w : Int) = true ∧ fitsV v b.length 0 w = true ∧ w = leastW (fitsV v b.length 0) ∧ legalT v.t = true ∧ isW (v.w : Int) = true ∧ kindT v.t = t.k ∧ b.length ≤ 65000 := by
  obtain ⟨v, e, r⟩ := build_law f (sortT t) (val_ok h)
  obtain ⟨h1, h2, h3⟩ := r.legal (sort_fix h)
  have hs := calls_size f (sortT t) (val_ok h) Bd.new good_new
  rw [cost_sort t h] at hs
  have hb : (Bd.calls f (sortT t) Bd.new).b.length ≤ (Bd.calls f (sortT t) Bd.new).size := by unfold Bd.size; omega
  have hz : Bd.new.size = 0 := rfl
  have e' : (Bd.calls f (sortT t) Bd.new).s = [v] := e
  obtain ⟨hw, hf⟩ := leastW_is (fitsV v (Bd.calls f (sortT t) Bd.new).b.length 0) (fitsV8 r.fit 0)
  exact ⟨_, v, _, by simp only [bBuild, Bd.finish, e', docB], r, isW_nat.2 hw, hf, rfl, h1, h2, h3.trans (sort_k t), by omega⟩
end Go.Proofs.YtfoifdoaleaekaaGreat
