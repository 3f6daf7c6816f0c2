/-
  Package encode: calls of a map.
  Package encode: calls of any checked and sorted tree.
  Package encode: Capped and Build of any tree.
  accordionref00: room.cut and Cut, of any tree that came in.
  The document of a checked tree, with its size; what is known of a cut tree.
-/
import Derived.Test.YtfoifdoaleaekaaGreatQg38
import Derived.Test.YtfoifdoaleaekaaGreatQg43
import Derived.Deep.RegionHeld3
import Derived.Deep.Strs
namespace Go.Proofs.YtfoifdoaleaekaaGreat
open Go.RowKit Go.Acc
set_option maxRecDepth 100000 in
set_option maxHeartbeats 4000000 in
theorem callsmap_spec (n : Int) (u : Nat) (s : List UInt8) (ks : List (List UInt8)) (c : List Tr) (hkc : ks.length = c.length) (h0 : ∀ x ∈ ks, hasZero x = false) (hu : ks.Pairwise (· < ·)) (hO : ∀ t ∈ c, CalOk t) (hD : ∀ t ∈ c, CallsD t) : CallsD (.mk 17 n u s ks c) := by
  intro M fl b x w o p h hg hn hR hp hm
  obtain ⟨f, hf⟩ : ∃ f, Go.Proofs.YtfoifdoaleaekaaGreat.bits fl = f := ⟨_, rfl⟩
  rw [hf]
  obtain ⟨hk, _, _, _, _, hbn⟩ := hR.fields
  have hk : 17 = x.k := hk
  have hbn : c.length = x.bn := hbn
  have hmc : b.size + keysCost ks + Tr.costL c ≤ 65000 := by unfold Tr.cost at hm; omega
  have ecl := costL_len c
  generalize ht : Tr.mk 17 n u s ks c = t0 at hR
  cases hR with
  | @mk _ ks' l' vs hKs hka _ _ hI hpb _ _ hl hc =>
    injection ht with e1 e2 e3 e4 e5 e6
    subst e5 e6
    obtain ⟨k, xn, xu, xs, XA, xan, xac, XB, xbn, xbc⟩ := x
    obtain rfl : 17 = k := hk
    clear e1 e2 e3 e4
    have hbn : c.length = xbn := hbn
    have hI : IsN w XB xbn vs := hI
    have hpb : ∀ ad, XB = some ad → p ad.block := hpb
    have HI := Lib.hid hI
    have hKs : IsS w XA xan ks := hKs
    have hka : ∀ ad, XA = some ad → p ad.block := hka
    have HKS := Lib.hid hKs
    have HKA := Lib.hid hka
    have HKC := Lib.hid (show ks.length = c.length from hkc)
    have HXA := Lib.hid (show ks.length = xan by have := hKs.1; simpa using this)
    have HZ := Lib.hid h0
    have HKR := Lib.hid (show ∀ (i : Nat) v t, vs[i]? = some v → c[i]? = some t → NodeR w p v t from hc)
    have HD := Lib.hid hD
    have HP := Lib.hid hp
    have HPB := Lib.hid hpb
    have HF := Lib.hid hf
    have HBN := Lib.hid hbn
    have HVL := Lib.hid hl
    have HST := Lib.hid (fun j => entries_step f hkc hO hg hn hmc j)
    have HBL := Lib.hid (show b.s.length ≤ 65000 by unfold Bd.size at hmc; omega)
    have hB := below_two w (.cells #[.pointer (some ⟨M.β, 0, none⟩)] 122) (.cells #[.int .i64 (⟨17, xn, xu, xs, XA, xan, xac, XB, xbn, xbc⟩ : Nv).k, .int .i64 (⟨17, xn, xu, xs, XA, xan, xac, XB, xbn, xbc⟩ : Nv).n, .int .u64 ((⟨17, xn, xu, xs, XA, xan, xac, XB, xbn, xbc⟩ : Nv).u : Int), .string ⟨(⟨17, xn, xu, xs, XA, xan, xac, XB, xbn, xbc⟩ : Nv).s.toArray⟩, .slice (⟨17, xn, xu, xs, XA, xan, xac, XB, xbn, xbc⟩ : Nv).A (⟨17, xn, xu, xs, XA, xan, xac, XB, xbn, xbc⟩ : Nv).an (⟨17, xn, xu, xs, XA, xan, xac, XB, xbn, xbc⟩ : Nv).ac, .slice (⟨17, xn, xu, xs, XA, xan, xac, XB, xbn, xbc⟩ : Nv).B (⟨17, xn, xu, xs, XA, xan, xac, XB, xbn, xbc⟩ : Nv).bn (⟨17, xn, xu, xs, XA, xan, xac, XB, xbn, xbc⟩ : Nv).bc] 26)
    have HT0 := Lib.hid (To.fresh Bld hB o 0)
    have HM0 := Lib.hid (h.fresh hB 0)
    have HC0 := Lib.hid (clc_new M ⟨17, xn, xu, xs, XA, xan, xac, XB, xbn, xbc⟩ w o)
    obtain ⟨m, hmm⟩ : ∃ m, b.s.length = m := ⟨_, rfl⟩
    have HMM := Lib.hid hmm
    have hxl : xbn ≤ 65000 := by omega
    obtain ⟨kvs, vs', hem⟩ := em_ok f hkc h0 hu hO hg hn hmc
    rw [hmm] at hem
    have HEM := Lib.hid hem
    have HEQ := Lib.hid (show Bd.calls f (.mk 17 xn xu xs ks c) b = (Bd.callsM f ks c b).endMap f ks m by rw [Bd.calls, if_neg (by omega), if_pos rfl, hmm])
    clear h hg hn hp hm hI hpb hl hc hD hO hf hB hmm hem hmc ecl hKs hka h0 hu hkc
    go_enter Tryz.func74, Tryz.ntmps74
    go_upto_region 1 with fail
    generalize (w.alloc (.cells #[.pointer (some ⟨M.β, 0, none⟩)] 122)).alloc (.cells #[.int .i64 (⟨17, xn, xu, xs, XA, xan, xac, XB, xbn, xbc⟩ : Nv).k, .int .i64 (⟨17, xn, xu, xs, XA, xan, xac, XB, xbn, xbc⟩ : Nv).n, .int .u64 ((⟨17, xn, xu, xs, XA, xan, xac, XB, xbn, xbc⟩ : Nv).u : Int), .string ⟨(⟨17, xn, xu, xs, XA, xan, xac, XB, xbn, xbc⟩ : Nv).s.toArray⟩, .slice (⟨17, xn, xu, xs, XA, xan, xac, XB, xbn, xbc⟩ : Nv).A (⟨17, xn, xu, xs, XA, xan, xac, XB, xbn, xbc⟩ : Nv).an (⟨17, xn, xu, xs, XA, xan, xac, XB, xbn, xbc⟩ : Nv).ac, .slice (⟨17, xn, xu, xs, XA, xan, xac, XB, xbn, xbc⟩ : Nv).B (⟨17, xn, xu, xs, XA, xan, xac, XB, xbn, xbc⟩ : Nv).bn (⟨17, xn, xu, xs, XA, xan, xac, XB, xbn, xbc⟩ : Nv).bc] 26) = w1 at HT0 HM0 HC0 ⊢
    generalize newO o w.heap.size 0 = o1 at HT0 HM0 HC0
    generalize w.heap.size + 1 = bn at HC0 ⊢
    generalize w.heap.size = bx at HC0 ⊢
    obtain ⟨x0, x1, x2, x3, x4, x5, x6⟩ := HC0.out.cells
    go_wp2_with fail
    go_at_call 120
    refine (cmap_spec M fl b m _ o1 HM0.out HMM.out).mono ?_
    rintro e w' ⟨rfl, rfl⟩
    go_wp2_with fail
    go_loopw [77] (fun uu wr => ∃ j : Nat, j ≤ xbn ∧ uu = .int .i64 (j : Int) ∧ ∃ o', BM M fl wr o' (Bd.callsM f (ks.take j) (c.take j) b) ∧ To Bld w o wr o' ∧ ClC M ⟨17, xn, xu, xs, XA, xan, xac, XB, xbn, xbc⟩ bx bn wr o') (fun uu _ => xbn - (intOf uu).toNat)
    case atStart => exact ⟨0, Nat.zero_le _, rfl, o1, by rw [List.take_zero, List.take_zero]; exact HM0.out, HT0.out, HC0.out⟩
    case round =>
      obtain ⟨j, hj, rfl, o', hMr, hTr, hCr⟩ := hrel
      have HMR := Lib.hid hMr
      have HTR := Lib.hid hTr
      have HCR := Lib.hid hCr
      clear hMr hTr hCr x0 x1 x2 x3 x4 x5 x6
      obtain ⟨x0, x1, x2, x3, x4, x5, x6⟩ := HCR.out.cells
      by_cases hlt : j < xbn
      · obtain ⟨v, hv⟩ : ∃ v, vs[j]? = some v := ⟨_, List.getElem?_eq_getElem (by have h1 := HVL.out; have h2 := HBN.out; omega)⟩
        obtain ⟨t, ht⟩ : ∃ t, c[j]? = some t := ⟨_, List.getElem?_eq_getElem (by have h2 := HBN.out; omega)⟩
        have hp' : ∀ q, p q → q < w.heap.size ∧ o q = 0 := HP.out
        have hIr : IsN wr XB xbn vs := HI.out.fr HTR.out.fr (fun ad e => by rw [(hp' _ (HPB.out ad e)).2]; exact bld_0)
        have hKr : IsS wr XA xan ks := HKS.out.fr HTR.out.fr (fun ad e => by rw [(hp' _ (HKA.out ad e)).2]; exact bld_0)
        have hja : j < xan := by have h1 := HXA.out; have h2 := HKC.out; have h3 := HBN.out; omega
        obtain ⟨g2, o2, e, v0, v1, v2, v3, v4, v5⟩ := isn_at hIr hv
        obtain ⟨g1, o1', eA, hk', hs⟩ := iss_at hKr hja
        have hks : ks[j]? = some ks[j] := List.getElem?_eq_getElem hk'
        have hes := HST.out j
        have hE := entry_spec M fl (Bd.callsM f (ks.take j) (c.take j) b) ⟨17, xn, xu, xs, XA, xan, xac, XB, xbn, xbc⟩ v t ks[j] j g1 o1' g2 o2 bx bn wr o' p HMR.out hes.1 hes.2.1 HCR.out (fun q hq => ⟨Nat.lt_of_lt_of_le (hp' q hq).1 HTR.out.size, (HTR.out.ow _ (hp' q hq).1).trans (hp' q hq).2⟩) eA e (HKA.out _ eA) (HPB.out _ e) hja hlt hs
          (fun i u hu => by match i, hu with
            | 0, hu => simp at hu; rw [← hu]; exact v0
            | 1, hu => simp at hu; rw [← hu]; exact v1
            | 2, hu => simp at hu; rw [← hu]; exact v2
            | 3, hu => simp at hu; rw [← hu]; exact v3
            | 4, hu => simp at hu; rw [← hu]; exact v4
            | 5, hu => simp at hu; rw [← hu]; exact v5
            | i + 6, hu => simp at hu)
          ((HKR.out j v t hv ht).to_ HTR.out (fun q hq => by rw [(hp' q hq).2]; exact bld_0)) (HD.out t (List.mem_of_getElem? ht)) (HZ.out _ (List.getElem_mem _)) (hes.2.2 t _ ht hks).1 (by rw [HF.out]; exact (hes.2.2 t _ ht hks).2)
        rw [HF.out] at hE
        have HCD := Lib.hid hE
        have HSN := Lib.hid (show Bd.callsM f (ks.take (j + 1)) (c.take (j + 1)) b = Bd.calls f t ((Bd.callsM f (ks.take j) (c.take j) b).key f ks[j]) by
          obtain ⟨q1, q2⟩ := List.getElem?_eq_some_iff.1 ht
          rw [List.take_succ_eq_append_getElem q1, q2, List.take_succ_eq_append_getElem hk', callsM_take f _ _ _ _ _ (by rw [List.length_take, List.length_take, HKC.out])])
        have hj0 : (0 : Int) ≤ (j : Int) := by omega
        have hjn : (j : Int) < (xbn : Int) := by omega
        clear hv ht hp' hIr hKr hE hes hks hs v0 v1 v2 v3 v4 v5 e eA
        go_wp2_with fail
        go_at_call 121
        refine HCD.out.mono ?_
        rintro e w2 ⟨rfl, o2, hM2, hT2⟩
        have HM2 := Lib.hid hM2
        have HT2 := Lib.hid (HTR.out.trans hT2)
        have HC2 := Lib.hid (HCR.out.to_ hT2 bld_0)
        clear hM2 hT2 x0 x1 x2 x3 x4 x5 x6
        go_wp2_with fail
        go_roundw
        case rel => exact ⟨j + 1, by omega, by go_num, o2, by rw [HSN.out]; exact HM2.out, HT2.out, HC2.out⟩
        case measure => simp [intOf]; omega
      · obtain rfl : j = xbn := by omega
        have hct : c.take j = c := List.take_of_length_le (by have h2 := HBN.out; omega)
        have hkt : ks.take j = ks := List.take_of_length_le (by have h2 := HBN.out; have h3 := HKC.out; omega)
        rw [hct, hkt] at HMR
        clear hct hkt
        have hee := endmap_spec M fl (Bd.callsM f ks c b) ks kvs vs' m wr o' HMR.out HEM.out
        rw [HF.out] at hee
        have HEE := Lib.hid hee
        clear hee
        go_wp2_with fail
        go_at_call 123
        refine HEE.out.mono ?_
        rintro e w2 ⟨rfl, o2, hM2, hT2⟩
        have HM2 := Lib.hid hM2
        have HT2 := Lib.hid (HTR.out.trans hT2)
        clear hM2 hT2
        go_wp2_with fail
        go_end0
        exact ⟨rfl, o2, by rw [HEQ.out]; exact HM2.out, HT2.out⟩
end Go.Proofs.YtfoifdoaleaekaaGreat

namespace Go.Proofs.YtfoifdoaleaekaaGreat
open Go.RowKit Go.Acc
theorem calls_all {t : Tr} (h : CalOk t) : CallsD t := by
  induction h with
  | @leaf k n u s ks c h1 h2 hn hz =>
    intro M fl b x w o p hM hg hN hR hp hm
    have e : Bd.calls (Go.Proofs.YtfoifdoaleaekaaGreat.bits fl) (.mk k n u s ks c) b = b.leaf (Go.Proofs.YtfoifdoaleaekaaGreat.bits fl) k n u s := by rw [Bd.calls, if_neg (by omega), if_neg (by omega), if_pos h2]
    rw [e]
    exact leafall_spec M fl b x k n u s ks c w o p hM hR h1 h2 hn hz (by unfold Tr.cost at hm; omega)
  | @flat k c n u s ks h1 h2 hn hz hf =>
    intro M fl b x w o p hM hg hN hR hp hm
    have e : Bd.calls (Go.Proofs.YtfoifdoaleaekaaGreat.bits fl) (.mk k n u s ks c) b = b.flat (Go.Proofs.YtfoifdoaleaekaaGreat.bits fl) k c := by rw [Bd.calls, if_neg (by omega), if_neg (by omega), if_neg (by omega)]
    rw [e]
    exact flat_spec M fl b x k n u s ks c w o p hM hg hR h1 h2 hn hz hf (by unfold Tr.cost at hm; omega)
  | @vec c n u s ks h ih => exact callsvec_spec n u s ks c h ih
  | @map c ks n u s hl h0 hu h ih => exact callsmap_spec n u s ks c hl h0 hu h ih
end Go.Proofs.YtfoifdoaleaekaaGreat

namespace Go.Proofs.YtfoifdoaleaekaaGreat
open Go.RowKit Go.Acc
theorem doc_ok (f : Nat) {t : Tr} (h : Val t) (hc : t.cost ≤ 65000) : ∃ v y, (Bd.calls f (sortT t) Bd.new).s = [v] ∧ FinOk (Bd.calls f (sortT t) Bd.new).b v y ∧ docB (Bd.calls f (sortT t) Bd.new).b v y = bBuild f (sortT t) := by
  obtain ⟨v, e, r⟩ := build_law f (sortT t) (val_ok h)
  obtain ⟨h1, h2, h3⟩ := r.legal (sort_fix h)
  have hs := calls_size f (sortT t) (val_ok h) Bd.new good_new
  rw [cost_sort t h] at hs
  have hb : (Bd.calls f (sortT t) Bd.new).b.length ≤ (Bd.calls f (sortT t) Bd.new).size := by unfold Bd.size; omega
  have hz : Bd.new.size = 0 := rfl
  have e' : (Bd.calls f (sortT t) Bd.new).s = [v] := e
  exact ⟨v, _, e', finok_gen h1 h2 r.fit (by omega), by simp only [bBuild, Bd.finish, e', docB]⟩
set_option maxRecDepth 100000 in
set_option maxHeartbeats 2000000 in
theorem capped_okC (fl : Int) {x : Nv} {t : Tr} {p : Nat → Prop} {w : World} (h : NodeR w p x t) (hp : ∀ k, p k → k < w.heap.size) (hca : CallsD (sortT t)) (hc : t.cost ≤ 65000) (he : (chk ers 0 t 0).1 = 0) :
    Calls Tryz.prog 37 #[.agg #[.int .i64 x.k, .int .i64 x.n, .int .u64 (x.u : Int), .string ⟨x.s.toArray⟩, .slice x.A x.an x.ac, .slice x.B x.bn x.bc], .int .i64 fl, .int .i64 1048576] w (DocW w (bBuild (Go.Proofs.YtfoifdoaleaekaaGreat.bits fl) (sortT t))) := by
  have hv := chk_val ers_ok t 0 0 he
  obtain ⟨v, y, es, hf, ed⟩ := doc_ok (Go.Proofs.YtfoifdoaleaekaaGreat.bits fl) hv hc
  have HV := Lib.hid (And.intro es hf)
  have HD := Lib.hid ed
  have HCA := Lib.hid hca
  have HCO := Lib.hid (show Bd.new.size + (sortT t).cost ≤ 65000 by rw [cost_sort t hv]; have hz : Bd.new.size = 0 := rfl; omega)
  have hb := (Below.refl w.heap.size w).alloc (Nat.le_refl _) (.cells #[.int .i64 x.k, .int .i64 x.n, .int .u64 (x.u : Int), .string ⟨x.s.toArray⟩, .slice x.A x.an x.ac, .slice x.B x.bn x.bc] 26)
  have HB := Lib.hid hb
  have HX := Lib.hid (Blk.new w 26 #[.int .i64 x.k, .int .i64 x.n, .int .u64 (x.u : Int), .string ⟨x.s.toArray⟩, .slice x.A x.an x.ac, .slice x.B x.bn x.bc])
  have HS := Lib.hid (sortedok_spec (h.pure hb) (fun k hk => Nat.lt_of_lt_of_le (hp k hk) hb.size) (by omega) he)
  obtain ⟨b', hb'⟩ : ∃ b', Bd.calls (Go.Proofs.YtfoifdoaleaekaaGreat.bits fl) (sortT t) Bd.new = b' := ⟨_, rfl⟩
  rw [hb'] at HV HD
  have HBB := Lib.hid hb'
  clear h hp hca hc he hv es hf ed hb hb'
  go_enter Tryz.func37, Tryz.ntmps37
  go_wp2_with fail
  go_at_call 19
  refine HS.out.mono ?_
  rintro e w1 ⟨z, rfl, hN1, hb1⟩
  have HB1 := Lib.hid (pure_below HB.out hb1)
  have HN1 := Lib.hid hN1
  have HL1 := Lib.hid (show (w.alloc (.cells #[.int .i64 x.k, .int .i64 x.n, .int .u64 (x.u : Int), .string ⟨x.s.toArray⟩, .slice x.A x.an x.ac, .slice x.B x.bn x.bc] 26)).heap.size ≤ w1.heap.size from hb1.size)
  clear hN1 hb1
  have hB2 := (Below.refl w1.heap.size w1).alloc (Nat.le_refl _) (.cells #[.int .i64 z.k, .int .i64 z.n, .int .u64 (z.u : Int), .string ⟨z.s.toArray⟩, .slice z.A z.an z.ac, .slice z.B z.bn z.bc] 26)
  have HX2 := Lib.hid (Blk.new w1 26 #[.int .i64 z.k, .int .i64 z.n, .int .u64 (z.u : Int), .string ⟨z.s.toArray⟩, .slice z.A z.an z.ac, .slice z.B z.bn z.bc])
  have HB2 := Lib.hid (pure_below HB1.out hB2)
  have HN2 := Lib.hid (HN1.out.pure hB2)
  have HL2 := Lib.hid (show w1.heap.size ≤ (w1.alloc (.cells #[.int .i64 z.k, .int .i64 z.n, .int .u64 (z.u : Int), .string ⟨z.s.toArray⟩, .slice z.A z.an z.ac, .slice z.B z.bn z.bc] 26)).heap.size from hB2.size)
  clear hB2
  go_wp2_with fail
  go_at_call 73
  refine (cnew_spec fl _ (fun _ => 0)).mono ?_
  rintro e w3 ⟨M, o3, rfl, hM, hT⟩
  have hb3 := hT.below (fun _ _ h => h)
  have HX3 := Lib.hid (HX2.out.pure hb3)
  have HM3 := Lib.hid hM
  have HT3 := Lib.hid (hT.mono (J := Bld) fun _ h => h.elim)
  have HB3 := Lib.hid (pure_below HB2.out hb3)
  have HC3 := Lib.hid (HCA.out M fl Bd.new z w3 o3 _ hM good_new nok_new (HN2.out.pure hb3) (fun k hk => by have h1 := HL2.out; exact ⟨by have h2 := hb3.size; omega, hT.ow k (by omega)⟩) HCO.out)
  rw [HBB.out] at HC3
  have x0 : w3.cell? ⟨w1.heap.size, 0, none⟩ = some (.int .i64 z.k) := HX3.out.cell 0
  have x1 : w3.cell? ⟨w1.heap.size, 1, none⟩ = some (.int .i64 z.n) := HX3.out.cell 1
  have x2 : w3.cell? ⟨w1.heap.size, 2, none⟩ = some (.int .u64 (z.u : Int)) := HX3.out.cell 2
  have x3 : w3.cell? ⟨w1.heap.size, 3, none⟩ = some (.string ⟨z.s.toArray⟩) := HX3.out.cell 3
  have x4 : w3.cell? ⟨w1.heap.size, 4, none⟩ = some (.slice z.A z.an z.ac) := HX3.out.cell 4
  have x5 : w3.cell? ⟨w1.heap.size, 5, none⟩ = some (.slice z.B z.bn z.bc) := HX3.out.cell 5
  clear hM hT hb3
  go_wp2_with fail
  go_at_call 74
  refine HC3.out.mono ?_
  rintro e w4 ⟨rfl, o4, hM4, hT4⟩
  have HM4 := Lib.hid hM4
  have HT4 := Lib.hid (HT3.out.trans hT4)
  clear hM4 hT4 x0 x1 x2 x3 x4 x5
  go_wp2_with fail
  go_at_call 75
  refine (finish_spec M fl b' v y _ o4 HM4.out HV.out.1 HV.out.2).mono ?_
  rintro e w5 ⟨A, m, c, rfl, hO, o5, hT5⟩
  have HO := Lib.hid hO
  have HT5 := Lib.hid (HT4.out.trans hT5)
  have HSZ := Lib.hid (show w.heap.size ≤ w4.heap.size from Nat.le_trans HB2.out.size HT4.out.size)
  clear hO hT5
  go_wp2_with fail
  go_ret2
  exact ⟨A, m, c, rfl, by rw [← HD.out]; exact HO.out.rebase HSZ.out, pure_below HB2.out (HT5.out.below fun _ _ => bld_0)⟩
theorem build_okC (fl : Int) {x : Nv} {t : Tr} {p : Nat → Prop} {w : World} (h : NodeR w p x t) (hp : ∀ k, p k → k < w.heap.size) (hca : CallsD (sortT t)) (hc : t.cost ≤ 65000) (he : (chk ers 0 t 0).1 = 0) :
    Calls Tryz.prog 10 #[.agg #[.int .i64 x.k, .int .i64 x.n, .int .u64 (x.u : Int), .string ⟨x.s.toArray⟩, .slice x.A x.an x.ac, .slice x.B x.bn x.bc], .int .i64 fl] w (DocW w (bBuild (Go.Proofs.YtfoifdoaleaekaaGreat.bits fl) (sortT t))) := by
  have hb := (Below.refl w.heap.size w).alloc (Nat.le_refl _) (.cells #[.int .i64 x.k, .int .i64 x.n, .int .u64 (x.u : Int), .string ⟨x.s.toArray⟩, .slice x.A x.an x.ac, .slice x.B x.bn x.bc] 26)
  have HB := Lib.hid hb
  have HH := Lib.hid (capped_okC fl (h.pure hb) (fun k hk => Nat.lt_of_lt_of_le (hp k hk) hb.size) hca hc he)
  clear h hp hca hc he hb
  go_enter Tryz.func10, Tryz.ntmps10
  go_wp2_with fail
  go_at_call 37
  refine HH.out.mono ?_
  intro e w1 hD
  obtain ⟨A, m, c, rfl, hO, hb⟩ := hD
  have HO := Lib.hid hO
  have HB1 := Lib.hid hb
  clear hO hb
  go_wp2_with fail
  go_ret2
  exact docw_lift HB.out ⟨A, m, c, rfl, HO.out, HB1.out⟩
theorem build_ok (fl : Int) {x : Nv} {t : Tr} {p : Nat → Prop} {w : World} (h : NodeR w p x t) (hp : ∀ k, p k → k < w.heap.size) (hN : NumT t) (hc : t.cost ≤ 65000) (he : (chk ers 0 t 0).1 = 0) :
    Calls Tryz.prog 10 #[.agg #[.int .i64 x.k, .int .i64 x.n, .int .u64 (x.u : Int), .string ⟨x.s.toArray⟩, .slice x.A x.an x.ac, .slice x.B x.bn x.bc], .int .i64 fl] w (DocW w (bBuild (Go.Proofs.YtfoifdoaleaekaaGreat.bits fl) (sortT t))) :=
  build_okC fl h hp (calls_all (cal_ok (chk_val ers_ok t 0 0 he) hN)) hc he
end Go.Proofs.YtfoifdoaleaekaaGreat

namespace Go.Proofs.YtfoifdoaleaekaaGreat
open Go.RowKit Go.Acc
inductive NodeI (w : World) : Nv → Tr → Prop
  | mk {x : Nv} {ks : List (List UInt8)} {l : List Tr} {vs : List Nv} (h1 : IsS w x.A x.an ks) (h2 : IsN w x.B x.bn vs) (hn : x.bn ≤ 9223372036854775807) (hl : vs.length = l.length)
      (hc : ∀ (i : Nat) v t, vs[i]? = some v → l[i]? = some t → NodeI w v t) : NodeI w x (.mk x.k x.n x.u x.s ks l)
theorem NodeI.pure {w w' : World} {x : Nv} {t : Tr} (h : NodeI w x t) (hb : Below w.heap.size w w') : NodeI w' x t := by
  induction h with
  | mk h1 h2 hn hl hc ih => exact .mk (h1.pure hb) (h2.pure hb) hn hl ih
structure CtR (w : World) (B k : Nat) (ts : List Tr) (A : Option Addr) (c : Nat) (vs : List Nv) : Prop where
  own : OwnT w B A k c vs
  len : ts.length = k
  kids : ∀ (i : Nat) v t, vs[i]? = some v → ts[i]? = some t → NodeR w (fun b => B ≤ b ∧ b < w.heap.size ∧ ∀ ad, A = some ad → b ≠ ad.block) v t
theorem CtR.nil (w : World) (B : Nat) : CtR w B 0 [] none 0 [] := ⟨Own.nil _ _, rfl, fun i v t hv _ => by simp at hv⟩
theorem CtR.fr {w w' : World} {B k rb : Nat} {ts : List Tr} {A : Option Addr} {c : Nat} {vs : List Nv} (h : CtR w B k ts A c vs) (hf : Fr (fun j => j = rb) w w') (hr : rb < B) : CtR w' B k ts A c vs :=
  ⟨h.own.fr hf (fun ad e => by have := (h.own.addr ad e).2.1; omega), h.len, fun i v t hv ht => ((h.kids i v t hv ht).keep fun a u hc hp => cell_fr hf hc (by omega)).mono fun b hb => ⟨hb.1, Nat.lt_of_lt_of_le hb.2.1 hf.size, hb.2.2⟩⟩
theorem CtR.step {w W7 W8 : World} {B k rb a : Nat} {ts : List Tr} {A A1 : Option Addr} {c c1 : Nat} {vs : List Nv} {y : Nv} {t : Tr} (h : CtR w B k ts A c vs) (hf : Fr (fun j => j = rb) w W7) (hr : rb < B) (hB : B ≤ w.heap.size) (ha : w.heap.size ≤ a)
    (hx : NodeR W7 (fun b => a ≤ b ∧ b < W7.heap.size) y t) (ho : OwnT W8 B A1 (k + 1) c1 (vs ++ [y])) (hF : Fr (fun b => ∃ ad, A = some ad ∧ b = ad.block) W7 W8)
    (hat : A1.map (·.block) = A.map (·.block) ∨ A1.map (·.block) = some W7.heap.size) : CtR W8 B (k + 1) (ts ++ [t]) A1 c1 (vs ++ [y]) := by
  have hA : ∀ ad, A = some ad → B ≤ ad.block ∧ ad.block < w.heap.size := fun ad e => (h.own.addr ad e).2
  have hl : vs.length = k := h.own.1
  have hs := hf.size
  have hS := hF.size
  have hA1 : ∀ ad, A1 = some ad → (∃ ad0, A = some ad0 ∧ ad.block = ad0.block) ∨ ad.block = W7.heap.size := by
    rintro ad rfl
    rcases hat with e | e
    · cases A with
      | none => simp at e
      | some ad0 => simp at e; exact .inl ⟨ad0, rfl, e⟩
    · simp at e; exact .inr e
  refine ⟨ho, by rw [List.length_append, h.len]; rfl, fun i v t' hv ht => ?_⟩
  by_cases hi : i < k
  · rw [List.getElem?_append_left (by omega)] at hv
    rw [List.getElem?_append_left (by rw [h.len]; exact hi)] at ht
    refine ((h.kids i v t' hv ht).keep fun b u hc hp => cell_fr hF (cell_fr hf hc (by omega)) ?_).mono fun b hb => ⟨hb.1, by omega, fun ad e e2 => ?_⟩
    · rintro ⟨ad, e, e2⟩
      exact hp.2.2 ad e e2
    · rcases hA1 ad e with ⟨ad0, e3, e4⟩ | e3
      · exact hb.2.2 ad0 e3 (e2.trans e4)
      · omega
  · have hik : i = k := by
      have := (List.getElem?_eq_some_iff.1 hv).1
      simp at this
      omega
    subst hik
    rw [List.getElem?_append_right (by omega), hl, Nat.sub_self] at hv
    rw [List.getElem?_append_right (by rw [h.len]; exact Nat.le_refl _), h.len, Nat.sub_self] at ht
    simp at hv ht
    subst hv ht
    refine (hx.keep fun b u hc hp => cell_fr hF hc ?_).mono fun b hb => ⟨by omega, by omega, fun ad e e2 => ?_⟩
    · rintro ⟨ad, e, e2⟩
      have := hA ad e
      omega
    · rcases hA1 ad e with ⟨ad0, e3, e4⟩ | e3
      · have := hA ad0 e3
        omega
      · omega
end Go.Proofs.YtfoifdoaleaekaaGreat

namespace Go.Proofs.YtfoifdoaleaekaaGreat
open Go.RowKit Go.Acc
theorem doc_all (f : Nat) {t : Tr} (h : Val t) (hc : t.cost ≤ 65000) : ∃ b v w, bBuild f (sortT t) = docB b v w ∧ Rep b v (sortT t) ∧ isW (w : Int) = true ∧ fitsV v b.length 0 w = true ∧ w = leastW (fitsV v b.length 0) ∧ legalT v.t = true ∧ isW (v.w : Int) = true ∧ kindT v.t = t.k ∧ b.length ≤ 65000 := by
  obtain ⟨v, e, r⟩ := build_law f (sortT t) (val_ok h)
  obtain ⟨h1, h2, h3⟩ := r.legal (sort_fix h)
  have hs := calls_size f (sortT t) (val_ok h) Bd.new good_new
  rw [cost_sort t h] at hs
  have hb : (Bd.calls f (sortT t) Bd.new).b.length ≤ (Bd.calls f (sortT t) Bd.new).size := by unfold Bd.size; omega
  have hz : Bd.new.size = 0 := rfl
  have e' : (Bd.calls f (sortT t) Bd.new).s = [v] := e
  obtain ⟨hw, hf⟩ := leastW_is (fitsV v (Bd.calls f (sortT t) Bd.new).b.length 0) (fitsV8 r.fit 0)
  exact ⟨_, v, _, by simp only [bBuild, Bd.finish, e', docB], r, isW_nat.2 hw, hf, rfl, h1, h2, h3.trans (sort_k t), by omega⟩
end Go.Proofs.YtfoifdoaleaekaaGreat
