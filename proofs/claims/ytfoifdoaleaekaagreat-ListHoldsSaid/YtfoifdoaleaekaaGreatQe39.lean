/-
  Package encode: calls of a map.
  Package encode: calls of any checked and sorted tree.
  The document of a key, a string, a blob: what Finish needs, and what the readers of text find, with bytes ahead and behind. No program in sight.
  Package encode: Capped and Build of any tree.
  accordionref00: Short, Texts; the plain cut of a tree.
-/
import Derived.Test.YtfoifdoaleaekaaGreatQe33
import Derived.Test.YtfoifdoaleaekaaGreatQe38
import Derived.Lib.BytesEntry
namespace Go.Proofs.YtfoifdoaleaekaaGreat
open Go.RowKit Go.Acc
set_option maxRecDepth 100000 in
set_option maxHeartbeats 4000000 in
theorem callsmap_spec (n : Int) (u : Nat) (s : List UInt8) (ks : List (List UInt8)) (c : List Tr) (hkc : ks.length = c.length) (h0 : ∀ x ∈ ks, hasZero x = false) (hu : ks.Pairwise (· < ·)) (hO : ∀ t ∈ c, CalOk t) (hD : ∀ t ∈ c, CallsD t) : CallsD (.mk 17 n u s ks c) := by
  intro M fl b x w o p h hg hn hR hp hm
  obtain ⟨f, hf⟩ : ∃ f, Go.Proofs.YtfoifdoaleaekaaGreat.bits fl = f := ⟨_, rfl⟩
  rw [hf]
  obtain ⟨hk, _, _, _, _, hbn⟩ := hR.fields
  have hk : 17 = x.k := hk
  have hbn : c.length = x.bn := hbn
  have hmc : b.size + keysCost ks + Tr.costL c ≤ 65000 := by unfold Tr.cost at hm; omega
  have ecl := costL_len c
  generalize ht : Tr.mk 17 n u s ks c = t0 at hR
  cases hR with
  | @mk _ ks' l' vs hKs hka _ _ hI hpb _ _ hl hc =>
    injection ht with e1 e2 e3 e4 e5 e6
    subst e5 e6
    obtain ⟨k, xn, xu, xs, XA, xan, xac, XB, xbn, xbc⟩ := x
    obtain rfl : 17 = k := hk
    clear e1 e2 e3 e4
    have hbn : c.length = xbn := hbn
    have hI : IsN w XB xbn vs := hI
    have hpb : ∀ ad, XB = some ad → p ad.block := hpb
    have HI := Lib.hid hI
    have hKs : IsS w XA xan ks := hKs
    have hka : ∀ ad, XA = some ad → p ad.block := hka
    have HKS := Lib.hid hKs
    have HKA := Lib.hid hka
    have HKC := Lib.hid (show ks.length = c.length from hkc)
    have HXA := Lib.hid (show ks.length = xan by have := hKs.1; simpa using this)
    have HZ := Lib.hid h0
    have HKR := Lib.hid (show ∀ (i : Nat) v t, vs[i]? = some v → c[i]? = some t → NodeR w p v t from hc)
    have HD := Lib.hid hD
    have HP := Lib.hid hp
    have HPB := Lib.hid hpb
    have HF := Lib.hid hf
    have HBN := Lib.hid hbn
    have HVL := Lib.hid hl
    have HST := Lib.hid (fun j => entries_step f hkc hO hg hn hmc j)
    have HBL := Lib.hid (show b.s.length ≤ 65000 by unfold Bd.size at hmc; omega)
    have hB := below_two w (.cells #[.pointer (some ⟨M.β, 0, none⟩)] 122) (.cells #[.int .i64 (⟨17, xn, xu, xs, XA, xan, xac, XB, xbn, xbc⟩ : Nv).k, .int .i64 (⟨17, xn, xu, xs, XA, xan, xac, XB, xbn, xbc⟩ : Nv).n, .int .u64 ((⟨17, xn, xu, xs, XA, xan, xac, XB, xbn, xbc⟩ : Nv).u : Int), .string ⟨(⟨17, xn, xu, xs, XA, xan, xac, XB, xbn, xbc⟩ : Nv).s.toArray⟩, .slice (⟨17, xn, xu, xs, XA, xan, xac, XB, xbn, xbc⟩ : Nv).A (⟨17, xn, xu, xs, XA, xan, xac, XB, xbn, xbc⟩ : Nv).an (⟨17, xn, xu, xs, XA, xan, xac, XB, xbn, xbc⟩ : Nv).ac, .slice (⟨17, xn, xu, xs, XA, xan, xac, XB, xbn, xbc⟩ : Nv).B (⟨17, xn, xu, xs, XA, xan, xac, XB, xbn, xbc⟩ : Nv).bn (⟨17, xn, xu, xs, XA, xan, xac, XB, xbn, xbc⟩ : Nv).bc] 26)
    have HT0 := Lib.hid (To.fresh Bld hB o 0)
    have HM0 := Lib.hid (h.fresh hB 0)
    have HC0 := Lib.hid (clc_new M ⟨17, xn, xu, xs, XA, xan, xac, XB, xbn, xbc⟩ w o)
    obtain ⟨m, hmm⟩ : ∃ m, b.s.length = m := ⟨_, rfl⟩
    have HMM := Lib.hid hmm
    have hxl : xbn ≤ 65000 := by omega
    obtain ⟨kvs, vs', hem⟩ := em_ok f hkc h0 hu hO hg hn hmc
    rw [hmm] at hem
    have HEM := Lib.hid hem
    have HEQ := Lib.hid (show Bd.calls f (.mk 17 xn xu xs ks c) b = (Bd.callsM f ks c b).endMap f ks m by rw [Bd.calls, if_neg (by omega), if_pos rfl, hmm])
    clear h hg hn hp hm hI hpb hl hc hD hO hf hB hmm hem hmc ecl hKs hka h0 hu hkc
    go_enter Tryz.func74, Tryz.ntmps74
    go_upto_region 1 with fail
    generalize (w.alloc (.cells #[.pointer (some ⟨M.β, 0, none⟩)] 122)).alloc (.cells #[.int .i64 (⟨17, xn, xu, xs, XA, xan, xac, XB, xbn, xbc⟩ : Nv).k, .int .i64 (⟨17, xn, xu, xs, XA, xan, xac, XB, xbn, xbc⟩ : Nv).n, .int .u64 ((⟨17, xn, xu, xs, XA, xan, xac, XB, xbn, xbc⟩ : Nv).u : Int), .string ⟨(⟨17, xn, xu, xs, XA, xan, xac, XB, xbn, xbc⟩ : Nv).s.toArray⟩, .slice (⟨17, xn, xu, xs, XA, xan, xac, XB, xbn, xbc⟩ : Nv).A (⟨17, xn, xu, xs, XA, xan, xac, XB, xbn, xbc⟩ : Nv).an (⟨17, xn, xu, xs, XA, xan, xac, XB, xbn, xbc⟩ : Nv).ac, .slice (⟨17, xn, xu, xs, XA, xan, xac, XB, xbn, xbc⟩ : Nv).B (⟨17, xn, xu, xs, XA, xan, xac, XB, xbn, xbc⟩ : Nv).bn (⟨17, xn, xu, xs, XA, xan, xac, XB, xbn, xbc⟩ : Nv).bc] 26) = w1 at HT0 HM0 HC0 ⊢
    generalize newO o w.heap.size 0 = o1 at HT0 HM0 HC0
    generalize w.heap.size + 1 = bn at HC0 ⊢
    generalize w.heap.size = bx at HC0 ⊢
    obtain ⟨x0, x1, x2, x3, x4, x5, x6⟩ := HC0.out.cells
    go_wp2_with fail
    go_at_call 120
    refine (cmap_spec M fl b m _ o1 HM0.out HMM.out).mono ?_
    rintro e w' ⟨rfl, rfl⟩
    go_wp2_with fail
    go_loopw [77] (fun uu wr => ∃ j : Nat, j ≤ xbn ∧ uu = .int .i64 (j : Int) ∧ ∃ o', BM M fl wr o' (Bd.callsM f (ks.take j) (c.take j) b) ∧ To Bld w o wr o' ∧ ClC M ⟨17, xn, xu, xs, XA, xan, xac, XB, xbn, xbc⟩ bx bn wr o') (fun uu _ => xbn - (intOf uu).toNat)
    case atStart => exact ⟨0, Nat.zero_le _, rfl, o1, by rw [List.take_zero, List.take_zero]; exact HM0.out, HT0.out, HC0.out⟩
    case round =>
      obtain ⟨j, hj, rfl, o', hMr, hTr, hCr⟩ := hrel
      have HMR := Lib.hid hMr
      have HTR := Lib.hid hTr
      have HCR := Lib.hid hCr
      clear hMr hTr hCr x0 x1 x2 x3 x4 x5 x6
      obtain ⟨x0, x1, x2, x3, x4, x5, x6⟩ := HCR.out.cells
      by_cases hlt : j < xbn
      · obtain ⟨v, hv⟩ : ∃ v, vs[j]? = some v := ⟨_, List.getElem?_eq_getElem (by have h1 := HVL.out; have h2 := HBN.out; omega)⟩
        obtain ⟨t, ht⟩ : ∃ t, c[j]? = some t := ⟨_, List.getElem?_eq_getElem (by have h2 := HBN.out; omega)⟩
        have hp' : ∀ q, p q → q < w.heap.size ∧ o q = 0 := HP.out
        have hIr : IsN wr XB xbn vs := HI.out.fr HTR.out.fr (fun ad e => by rw [(hp' _ (HPB.out ad e)).2]; exact bld_0)
        have hKr : IsS wr XA xan ks := HKS.out.fr HTR.out.fr (fun ad e => by rw [(hp' _ (HKA.out ad e)).2]; exact bld_0)
        have hja : j < xan := by have h1 := HXA.out; have h2 := HKC.out; have h3 := HBN.out; omega
        obtain ⟨g2, o2, e, v0, v1, v2, v3, v4, v5⟩ := isn_at hIr hv
        obtain ⟨g1, o1', eA, hk', hs⟩ := iss_at hKr hja
        have hks : ks[j]? = some ks[j] := List.getElem?_eq_getElem hk'
        have hes := HST.out j
        have hE := entry_spec M fl (Bd.callsM f (ks.take j) (c.take j) b) ⟨17, xn, xu, xs, XA, xan, xac, XB, xbn, xbc⟩ v t ks[j] j g1 o1' g2 o2 bx bn wr o' p HMR.out hes.1 hes.2.1 HCR.out (fun q hq => ⟨Nat.lt_of_lt_of_le (hp' q hq).1 HTR.out.size, (HTR.out.ow _ (hp' q hq).1).trans (hp' q hq).2⟩) eA e (HKA.out _ eA) (HPB.out _ e) hja hlt hs
          (fun i u hu => by match i, hu with
            | 0, hu => simp at hu; rw [← hu]; exact v0
            | 1, hu => simp at hu; rw [← hu]; exact v1
            | 2, hu => simp at hu; rw [← hu]; exact v2
            | 3, hu => simp at hu; rw [← hu]; exact v3
            | 4, hu => simp at hu; rw [← hu]; exact v4
            | 5, hu => simp at hu; rw [← hu]; exact v5
            | i + 6, hu => simp at hu)
          ((HKR.out j v t hv ht).to_ HTR.out (fun q hq => by rw [(hp' q hq).2]; exact bld_0)) (HD.out t (List.mem_of_getElem? ht)) (HZ.out _ (List.getElem_mem _)) (hes.2.2 t _ ht hks).1 (by rw [HF.out]; exact (hes.2.2 t _ ht hks).2)
        rw [HF.out] at hE
        have HCD := Lib.hid hE
        have HSN := Lib.hid (show Bd.callsM f (ks.take (j + 1)) (c.take (j + 1)) b = Bd.calls f t ((Bd.callsM f (ks.take j) (c.take j) b).key f ks[j]) by
          obtain ⟨q1, q2⟩ := List.getElem?_eq_some_iff.1 ht
          rw [List.take_succ_eq_append_getElem q1, q2, List.take_succ_eq_append_getElem hk', callsM_take f _ _ _ _ _ (by rw [List.length_take, List.length_take, HKC.out])])
        have hj0 : (0 : Int) ≤ (j : Int) := by omega
        have hjn : (j : Int) < (xbn : Int) := by omega
        clear hv ht hp' hIr hKr hE hes hks hs v0 v1 v2 v3 v4 v5 e eA
        go_wp2_with fail
        go_at_call 121
        refine HCD.out.mono ?_
        rintro e w2 ⟨rfl, o2, hM2, hT2⟩
        have HM2 := Lib.hid hM2
        have HT2 := Lib.hid (HTR.out.trans hT2)
        have HC2 := Lib.hid (HCR.out.to_ hT2 bld_0)
        clear hM2 hT2 x0 x1 x2 x3 x4 x5 x6
        go_wp2_with fail
        go_roundw
        case rel => exact ⟨j + 1, by omega, by go_num, o2, by rw [HSN.out]; exact HM2.out, HT2.out, HC2.out⟩
        case measure => simp [intOf]; omega
      · obtain rfl : j = xbn := by omega
        have hct : c.take j = c := List.take_of_length_le (by have h2 := HBN.out; omega)
        have hkt : ks.take j = ks := List.take_of_length_le (by have h2 := HBN.out; have h3 := HKC.out; omega)
        rw [hct, hkt] at HMR
        clear hct hkt
        have hee := endmap_spec M fl (Bd.callsM f ks c b) ks kvs vs' m wr o' HMR.out HEM.out
        rw [HF.out] at hee
        have HEE := Lib.hid hee
        clear hee
        go_wp2_with fail
        go_at_call 123
        refine HEE.out.mono ?_
        rintro e w2 ⟨rfl, o2, hM2, hT2⟩
        have HM2 := Lib.hid hM2
        have HT2 := Lib.hid (HTR.out.trans hT2)
        clear hM2 hT2
        go_wp2_with fail
        go_end0
        exact ⟨rfl, o2, by rw [HEQ.out]; exact HM2.out, HT2.out⟩
end Go.Proofs.YtfoifdoaleaekaaGreat

namespace Go.Proofs.YtfoifdoaleaekaaGreat
open Go.RowKit Go.Acc
theorem calls_all {t : Tr} (h : CalOk t) : CallsD t := by
  induction h with
  | @leaf k n u s ks c h1 h2 hn hz =>
    intro M fl b x w o p hM hg hN hR hp hm
    have e : Bd.calls (Go.Proofs.YtfoifdoaleaekaaGreat.bits fl) (.mk k n u s ks c) b = b.leaf (Go.Proofs.YtfoifdoaleaekaaGreat.bits fl) k n u s := by rw [Bd.calls, if_neg (by omega), if_neg (by omega), if_pos h2]
    rw [e]
    exact leafall_spec M fl b x k n u s ks c w o p hM hR h1 h2 hn hz (by unfold Tr.cost at hm; omega)
  | @flat k c n u s ks h1 h2 hn hz hf =>
    intro M fl b x w o p hM hg hN hR hp hm
    have e : Bd.calls (Go.Proofs.YtfoifdoaleaekaaGreat.bits fl) (.mk k n u s ks c) b = b.flat (Go.Proofs.YtfoifdoaleaekaaGreat.bits fl) k c := by rw [Bd.calls, if_neg (by omega), if_neg (by omega), if_neg (by omega)]
    rw [e]
    exact flat_spec M fl b x k n u s ks c w o p hM hg hR h1 h2 hn hz hf (by unfold Tr.cost at hm; omega)
  | @vec c n u s ks h ih => exact callsvec_spec n u s ks c h ih
  | @map c ks n u s hl h0 hu h ih => exact callsmap_spec n u s ks c hl h0 hu h ih
end Go.Proofs.YtfoifdoaleaekaaGreat

namespace Go.Proofs.YtfoifdoaleaekaaGreat
open Go.RowKit Go.Acc
theorem alignB_le8 {w : Nat} (b : List UInt8) (hw : isW (w : Int) = true) : (alignB w b).length ≤ b.length + 8 := by
  simp only [alignB, List.length_append, List.length_replicate, padN]
  rcases w_cases hw with rfl | rfl | rfl | rfl <;> omega
theorem finok_gen {l : List UInt8} {v : Bv} (ht : legalT v.t = true) (hv : isW (v.w : Int) = true) (hf : Fit l.length v) (hl : l.length + 20 ≤ 1048576) : FinOk l v (leastW (fitsV v l.length 0)) := by
  obtain ⟨hw, hfit⟩ := leastW_is (fitsV v l.length 0) (fitsV8 hf 0)
  have hw := isW_nat.2 hw
  obtain ⟨y, hy⟩ : ∃ y, leastW (fitsV v l.length 0) = y := ⟨_, rfl⟩
  rw [hy] at hw hfit ⊢
  obtain ⟨a1, a2, a3⟩ := align_len hw l
  cases hi : inl v.t with
  | true =>
    have he : elemN y (alignB y l).length v = v.n % 2 ^ (8 * y) := by unfold elemN; rw [if_pos hi]
    exact ⟨ht, hv, hy, hw, by rw [he]; exact fits_low _ _, by rw [he]; exact low_lt _ hw, (fun h => absurd hi (by rw [h]; decide)), hl⟩
  | false =>
    obtain ⟨h1, h2⟩ := fits_off hi hfit
    have he : elemN y (alignB y l).length v = (alignB y l).length - v.n := by unfold elemN; rw [if_neg (by rw [hi]; decide)]
    have h8 := alignB_le8 l hw
    rw [Nat.zero_mul, Nat.add_zero, ← a1] at h2
    have hlt := bWidth_lt hw (by omega) h2
    exact ⟨ht, hv, hy, hw, by rw [he]; exact decide_eq_true (.inr hlt), by rw [he]; omega, fun _ => by omega, hl⟩
end Go.Proofs.YtfoifdoaleaekaaGreat

namespace Go.Proofs.YtfoifdoaleaekaaGreat
open Go.RowKit Go.Acc
theorem doc_ok (f : Nat) {t : Tr} (h : Val t) (hc : t.cost ≤ 65000) : ∃ v y, (Bd.calls f (sortT t) Bd.new).s = [v] ∧ FinOk (Bd.calls f (sortT t) Bd.new).b v y ∧ docB (Bd.calls f (sortT t) Bd.new).b v y = bBuild f (sortT t) := by
  obtain ⟨v, e, r⟩ := build_law f (sortT t) (val_ok h)
  obtain ⟨h1, h2, h3⟩ := r.legal (sort_fix h)
  have hs := calls_size f (sortT t) (val_ok h) Bd.new good_new
  rw [cost_sort t h] at hs
  have hb : (Bd.calls f (sortT t) Bd.new).b.length ≤ (Bd.calls f (sortT t) Bd.new).size := by unfold Bd.size; omega
  have hz : Bd.new.size = 0 := rfl
  have e' : (Bd.calls f (sortT t) Bd.new).s = [v] := e
  exact ⟨v, _, e', finok_gen h1 h2 r.fit (by omega), by simp only [bBuild, Bd.finish, e', docB]⟩
set_option maxRecDepth 100000 in
set_option maxHeartbeats 2000000 in
theorem capped_ok (fl : Int) {x : Nv} {t : Tr} {p : Nat → Prop} {w : World} (h : NodeR w p x t) (hp : ∀ k, p k → k < w.heap.size) (hN : NumT t) (hc : t.cost ≤ 65000) (he : (chk ers 0 t 0).1 = 0) :
    Calls Tryz.prog 37 #[.agg #[.int .i64 x.k, .int .i64 x.n, .int .u64 (x.u : Int), .string ⟨x.s.toArray⟩, .slice x.A x.an x.ac, .slice x.B x.bn x.bc], .int .i64 fl, .int .i64 1048576] w (DocW w (bBuild (Go.Proofs.YtfoifdoaleaekaaGreat.bits fl) (sortT t))) := by
  have hv := chk_val ers_ok t 0 0 he
  obtain ⟨v, y, es, hf, ed⟩ := doc_ok (Go.Proofs.YtfoifdoaleaekaaGreat.bits fl) hv hc
  have HV := Lib.hid (And.intro es hf)
  have HD := Lib.hid ed
  have HCA := Lib.hid (calls_all (cal_ok hv hN))
  have HCO := Lib.hid (show Bd.new.size + (sortT t).cost ≤ 65000 by rw [cost_sort t hv]; have hz : Bd.new.size = 0 := rfl; omega)
  have hb := (Below.refl w.heap.size w).alloc (Nat.le_refl _) (.cells #[.int .i64 x.k, .int .i64 x.n, .int .u64 (x.u : Int), .string ⟨x.s.toArray⟩, .slice x.A x.an x.ac, .slice x.B x.bn x.bc] 26)
  have HB := Lib.hid hb
  have HX := Lib.hid (Blk.new w 26 #[.int .i64 x.k, .int .i64 x.n, .int .u64 (x.u : Int), .string ⟨x.s.toArray⟩, .slice x.A x.an x.ac, .slice x.B x.bn x.bc])
  have HS := Lib.hid (sortedok_spec (h.pure hb) (fun k hk => Nat.lt_of_lt_of_le (hp k hk) hb.size) (by omega) he)
  obtain ⟨b', hb'⟩ : ∃ b', Bd.calls (Go.Proofs.YtfoifdoaleaekaaGreat.bits fl) (sortT t) Bd.new = b' := ⟨_, rfl⟩
  rw [hb'] at HV HD
  have HBB := Lib.hid hb'
  clear h hp hN hc he hv es hf ed hb hb'
  go_enter Tryz.func37, Tryz.ntmps37
  go_wp2_with fail
  go_at_call 19
  refine HS.out.mono ?_
  rintro e w1 ⟨z, rfl, hN1, hb1⟩
  have HB1 := Lib.hid (pure_below HB.out hb1)
  have HN1 := Lib.hid hN1
  have HL1 := Lib.hid (show (w.alloc (.cells #[.int .i64 x.k, .int .i64 x.n, .int .u64 (x.u : Int), .string ⟨x.s.toArray⟩, .slice x.A x.an x.ac, .slice x.B x.bn x.bc] 26)).heap.size ≤ w1.heap.size from hb1.size)
  clear hN1 hb1
  have hB2 := (Below.refl w1.heap.size w1).alloc (Nat.le_refl _) (.cells #[.int .i64 z.k, .int .i64 z.n, .int .u64 (z.u : Int), .string ⟨z.s.toArray⟩, .slice z.A z.an z.ac, .slice z.B z.bn z.bc] 26)
  have HX2 := Lib.hid (Blk.new w1 26 #[.int .i64 z.k, .int .i64 z.n, .int .u64 (z.u : Int), .string ⟨z.s.toArray⟩, .slice z.A z.an z.ac, .slice z.B z.bn z.bc])
  have HB2 := Lib.hid (pure_below HB1.out hB2)
  have HN2 := Lib.hid (HN1.out.pure hB2)
  have HL2 := Lib.hid (show w1.heap.size ≤ (w1.alloc (.cells #[.int .i64 z.k, .int .i64 z.n, .int .u64 (z.u : Int), .string ⟨z.s.toArray⟩, .slice z.A z.an z.ac, .slice z.B z.bn z.bc] 26)).heap.size from hB2.size)
  clear hB2
  go_wp2_with fail
  go_at_call 73
  refine (cnew_spec fl _ (fun _ => 0)).mono ?_
  rintro e w3 ⟨M, o3, rfl, hM, hT⟩
  have hb3 := hT.below (fun _ _ h => h)
  have HX3 := Lib.hid (HX2.out.pure hb3)
  have HM3 := Lib.hid hM
  have HT3 := Lib.hid (hT.mono (J := Bld) fun _ h => h.elim)
  have HB3 := Lib.hid (pure_below HB2.out hb3)
  have HC3 := Lib.hid (HCA.out M fl Bd.new z w3 o3 _ hM good_new nok_new (HN2.out.pure hb3) (fun k hk => by have h1 := HL2.out; exact ⟨by have h2 := hb3.size; omega, hT.ow k (by omega)⟩) HCO.out)
  rw [HBB.out] at HC3
  have x0 : w3.cell? ⟨w1.heap.size, 0, none⟩ = some (.int .i64 z.k) := HX3.out.cell 0
  have x1 : w3.cell? ⟨w1.heap.size, 1, none⟩ = some (.int .i64 z.n) := HX3.out.cell 1
  have x2 : w3.cell? ⟨w1.heap.size, 2, none⟩ = some (.int .u64 (z.u : Int)) := HX3.out.cell 2
  have x3 : w3.cell? ⟨w1.heap.size, 3, none⟩ = some (.string ⟨z.s.toArray⟩) := HX3.out.cell 3
  have x4 : w3.cell? ⟨w1.heap.size, 4, none⟩ = some (.slice z.A z.an z.ac) := HX3.out.cell 4
  have x5 : w3.cell? ⟨w1.heap.size, 5, none⟩ = some (.slice z.B z.bn z.bc) := HX3.out.cell 5
  clear hM hT hb3
  go_wp2_with fail
  go_at_call 74
  refine HC3.out.mono ?_
  rintro e w4 ⟨rfl, o4, hM4, hT4⟩
  have HM4 := Lib.hid hM4
  have HT4 := Lib.hid (HT3.out.trans hT4)
  clear hM4 hT4 x0 x1 x2 x3 x4 x5
  go_wp2_with fail
  go_at_call 75
  refine (finish_spec M fl b' v y _ o4 HM4.out HV.out.1 HV.out.2).mono ?_
  rintro e w5 ⟨A, m, c, rfl, hO, o5, hT5⟩
  have HO := Lib.hid hO
  have HT5 := Lib.hid (HT4.out.trans hT5)
  have HSZ := Lib.hid (show w.heap.size ≤ w4.heap.size from Nat.le_trans HB2.out.size HT4.out.size)
  clear hO hT5
  go_wp2_with fail
  go_ret2
  exact ⟨A, m, c, rfl, by rw [← HD.out]; exact HO.out.rebase HSZ.out, pure_below HB2.out (HT5.out.below fun _ _ => bld_0)⟩
set_option maxRecDepth 100000 in
set_option maxHeartbeats 2000000 in
theorem capped_er (fl : Int) {x : Nv} {t : Tr} {p : Nat → Prop} {w : World} {er : Int} (h : NodeR w p x t) (hp : ∀ k, p k → k < w.heap.size) (hc : t.cost ≤ 1000000) (he : (chk ers 0 t 0).1 = er) (hne : er ≠ 0) :
    Calls Tryz.prog 37 #[.agg #[.int .i64 x.k, .int .i64 x.n, .int .u64 (x.u : Int), .string ⟨x.s.toArray⟩, .slice x.A x.an x.ac, .slice x.B x.bn x.bc], .int .i64 fl, .int .i64 1048576] w fun e w' => e = .returned (.tuple #[.slice none 0 0, .int .i64 er]) ∧ Below w.heap.size w w' := by
  have hb := (Below.refl w.heap.size w).alloc (Nat.le_refl _) (.cells #[.int .i64 x.k, .int .i64 x.n, .int .u64 (x.u : Int), .string ⟨x.s.toArray⟩, .slice x.A x.an x.ac, .slice x.B x.bn x.bc] 26)
  have HB := Lib.hid hb
  have HX := Lib.hid (Blk.new w 26 #[.int .i64 x.k, .int .i64 x.n, .int .u64 (x.u : Int), .string ⟨x.s.toArray⟩, .slice x.A x.an x.ac, .slice x.B x.bn x.bc])
  have HS := Lib.hid (sortederr_spec (h.pure hb) (fun k hk => Nat.lt_of_lt_of_le (hp k hk) hb.size) hc he hne)
  have hbn : (er != 0) = true := by simpa using hne
  clear h hp hc he hne hb
  go_enter Tryz.func37, Tryz.ntmps37
  go_wp2_with fail
  go_at_call 19
  refine HS.out.mono ?_
  rintro e w1 ⟨rfl, hb1⟩
  have HB1 := Lib.hid (pure_below HB.out hb1)
  clear hb1
  go_wp2_with fail
  go_ret2
  exact ⟨rfl, HB1.out.alloc HB1.out.size _⟩
theorem build_ok (fl : Int) {x : Nv} {t : Tr} {p : Nat → Prop} {w : World} (h : NodeR w p x t) (hp : ∀ k, p k → k < w.heap.size) (hN : NumT t) (hc : t.cost ≤ 65000) (he : (chk ers 0 t 0).1 = 0) :
    Calls Tryz.prog 10 #[.agg #[.int .i64 x.k, .int .i64 x.n, .int .u64 (x.u : Int), .string ⟨x.s.toArray⟩, .slice x.A x.an x.ac, .slice x.B x.bn x.bc], .int .i64 fl] w (DocW w (bBuild (Go.Proofs.YtfoifdoaleaekaaGreat.bits fl) (sortT t))) := by
  have hb := (Below.refl w.heap.size w).alloc (Nat.le_refl _) (.cells #[.int .i64 x.k, .int .i64 x.n, .int .u64 (x.u : Int), .string ⟨x.s.toArray⟩, .slice x.A x.an x.ac, .slice x.B x.bn x.bc] 26)
  have HB := Lib.hid hb
  have HH := Lib.hid (capped_ok fl (h.pure hb) (fun k hk => Nat.lt_of_lt_of_le (hp k hk) hb.size) hN hc he)
  clear h hp hN hc he hb
  go_enter Tryz.func10, Tryz.ntmps10
  go_wp2_with fail
  go_at_call 37
  refine HH.out.mono ?_
  intro e w1 hD
  obtain ⟨A, m, c, rfl, hO, hb⟩ := hD
  have HO := Lib.hid hO
  have HB1 := Lib.hid hb
  clear hO hb
  go_wp2_with fail
  go_ret2
  exact docw_lift HB.out ⟨A, m, c, rfl, HO.out, HB1.out⟩
theorem build_er (fl : Int) {x : Nv} {t : Tr} {p : Nat → Prop} {w : World} {er : Int} (h : NodeR w p x t) (hp : ∀ k, p k → k < w.heap.size) (hc : t.cost ≤ 1000000) (he : (chk ers 0 t 0).1 = er) (hne : er ≠ 0) :
    Calls Tryz.prog 10 #[.agg #[.int .i64 x.k, .int .i64 x.n, .int .u64 (x.u : Int), .string ⟨x.s.toArray⟩, .slice x.A x.an x.ac, .slice x.B x.bn x.bc], .int .i64 fl] w fun e w' => e = .returned (.tuple #[.slice none 0 0, .int .i64 er]) ∧ Below w.heap.size w w' := by
  have hb := (Below.refl w.heap.size w).alloc (Nat.le_refl _) (.cells #[.int .i64 x.k, .int .i64 x.n, .int .u64 (x.u : Int), .string ⟨x.s.toArray⟩, .slice x.A x.an x.ac, .slice x.B x.bn x.bc] 26)
  have HB := Lib.hid hb
  have HH := Lib.hid (capped_er fl (h.pure hb) (fun k hk => Nat.lt_of_lt_of_le (hp k hk) hb.size) hc he hne)
  clear h hp hc he hne hb
  go_enter Tryz.func10, Tryz.ntmps10
  go_wp2_with fail
  go_at_call 37
  refine HH.out.mono ?_
  rintro e w1 ⟨rfl, hb⟩
  have HB1 := Lib.hid (pure_below HB.out hb)
  clear hb
  go_wp2_with fail
  go_ret2
  exact ⟨rfl, HB1.out⟩
end Go.Proofs.YtfoifdoaleaekaaGreat

namespace Go.Proofs.YtfoifdoaleaekaaGreat
open Go.RowKit Go.Acc
mutual
/-- A tree cut to a number of nodes and a length of strings; what is left of the number. -/
def cutT (m : Nat) : Tr → Nat → Tr × Nat
  | .mk k n u s ks l, left => (.mk k n u (s.take m) ((ks.take 64).map fun x => x.take m) (cutL m l left).1, (cutL m l left).2)
def cutL (m : Nat) : List Tr → Nat → List Tr × Nat
  | [], left => ([], left)
  | t :: r, left => if left = 0 then ([], 0) else ((cutT m t (left - 1)).1 :: (cutL m r (cutT m t (left - 1)).2).1, (cutL m r (cutT m t (left - 1)).2).2)
end
theorem keys_cut (m : Nat) : ∀ (l : List (List UInt8)), keysCost (l.map fun x => x.take m) ≤ l.length * (m + 20)
  | [] => by simp [keysCost]
  | x :: r => by
    have h := keys_cut m r
    have h1 : (x.take m).length ≤ m := by rw [List.length_take]; omega
    simp only [List.map_cons, keysCost, List.length_cons, Nat.add_mul, Nat.one_mul]
    omega
mutual
/-- The nodes of a cut tree, and its cost. -/
theorem cutT_left (m : Nat) : ∀ (t : Tr) (left : Nat), (cutT m t left).2 ≤ left ∧ (cutT m t left).1.cost ≤ 64 + 2 * m + 64 * (m + 20) + (left - (cutT m t left).2) * (104 + 2 * m + 64 * (m + 20))
  | .mk k n u s ks l, left => by
    have h := cutL_left m l left
    rw [cutT]
    refine ⟨h.1, ?_⟩
    simp only [Tr.cost]
    have h1 : (s.take m).length ≤ m := by rw [List.length_take]; omega
    have h2 := keys_cut m (ks.take 64)
    have h3 : (ks.take 64).length ≤ 64 := by rw [List.length_take]; omega
    have h4 := Nat.mul_le_mul_right (m + 20) h3
    omega
theorem cutL_left (m : Nat) : ∀ (l : List Tr) (left : Nat), (cutL m l left).2 ≤ left ∧ Tr.costL (cutL m l left).1 ≤ (left - (cutL m l left).2) * (104 + 2 * m + 64 * (m + 20))
  | [], left => by simp [cutL, Tr.costL]
  | t :: r, left => by
    rw [cutL]
    by_cases h0 : left = 0
    · rw [if_pos h0]
      simp [Tr.costL]
    · rw [if_neg h0]
      have h1 := cutT_left m t (left - 1)
      have h2 := cutL_left m r (cutT m t (left - 1)).2
      refine ⟨by omega, ?_⟩
      simp only [Tr.costL]
      generalize (cutT m t (left - 1)).2 = a at *
      generalize (cutL m r a).2 = b at *
      have e : left - b = (left - 1 - a) + (a - b) + 1 := by omega
      rw [e, Nat.add_mul, Nat.add_mul]
      omega
end
mutual
theorem cutT_pre (m : Nat) : ∀ (t : Tr) (left d : Nat), (Tr.pre d (cutT m t left).1).length + (cutT m t left).2 ≤ left + 1
  | .mk k n u s ks l, left, d => by
    have h := cutL_pre m l left (d + 1)
    rw [cutT, Tr.pre, List.length_cons]
    omega
theorem cutL_pre (m : Nat) : ∀ (l : List Tr) (left d : Nat), (Tr.pre.Tr.preL d (cutL m l left).1).length + (cutL m l left).2 ≤ left
  | [], left, d => by simp [cutL, Tr.pre.Tr.preL]
  | t :: r, left, d => by
    rw [cutL]
    by_cases h0 : left = 0
    · rw [if_pos h0]
      simp [Tr.pre.Tr.preL]
    · rw [if_neg h0]
      have h1 := cutT_pre m t (left - 1) d
      have h2 := cutL_pre m r (cutT m t (left - 1)).2 d
      simp only [Tr.pre.Tr.preL, List.length_append]
      omega
end
inductive Lim (m : Nat) : Tr → Prop
  | mk {k n : Int} {u : Nat} {s : List UInt8} {ks : List (List UInt8)} {l : List Tr} (h1 : s.length ≤ m) (h2 : ∀ x ∈ ks, x.length ≤ m) (h : ∀ t ∈ l, Lim m t) : Lim m (.mk k n u s ks l)
mutual
theorem cutT_lim (m : Nat) : ∀ (t : Tr) (left : Nat), Lim m (cutT m t left).1
  | .mk k n u s ks l, left => by
    rw [cutT]
    refine .mk (by rw [List.length_take]; omega) (fun x hx => ?_) (cutL_lim m l left)
    obtain ⟨y, _, rfl⟩ := List.mem_map.1 hx
    rw [List.length_take]
    omega
theorem cutL_lim (m : Nat) : ∀ (l : List Tr) (left : Nat), ∀ t ∈ (cutL m l left).1, Lim m t
  | [], left, t, h => by simp [cutL] at h
  | x :: r, left, t, h => by
    rw [cutL] at h
    by_cases h0 : left = 0
    · rw [if_pos h0] at h
      simp at h
    · rw [if_neg h0] at h
      rcases List.mem_cons.1 h with h | h
      · rw [h]
        exact cutT_lim m x (left - 1)
      · exact cutL_lim m r _ t h
end
mutual
theorem cutT_num (m : Nat) : ∀ (t : Tr) (left : Nat), NumT t → NumT (cutT m t left).1
  | .mk k n u s ks l, left, h => by
    cases h with
    | mk h1 h2 h =>
      rw [cutT]
      exact .mk h1 h2 (cutL_num m l left h)
theorem cutL_num (m : Nat) : ∀ (l : List Tr) (left : Nat), (∀ t ∈ l, NumT t) → ∀ t ∈ (cutL m l left).1, NumT t
  | [], left, _, t, h => by simp [cutL] at h
  | x :: r, left, hn, t, h => by
    rw [cutL] at h
    by_cases h0 : left = 0
    · rw [if_pos h0] at h
      simp at h
    · rw [if_neg h0] at h
      rcases List.mem_cons.1 h with h | h
      · rw [h]
        exact cutT_num m x (left - 1) (hn x (by simp))
      · exact cutL_num m r _ (fun y hy => hn y (by simp [hy])) t h
end
theorem keys_lim (m : Nat) : ∀ (l : List (List UInt8)), (∀ x ∈ l, x.length ≤ m) → keysCost l ≤ l.length * (m + 20)
  | [], _ => by simp [keysCost]
  | x :: r, h => by
    have h1 := keys_lim m r (fun y hy => h y (by simp [hy]))
    have h2 := h x (by simp)
    simp only [keysCost, List.length_cons, Nat.add_mul, Nat.one_mul]
    omega
mutual
/-- The cost of a checked tree, by its nodes. -/
theorem cost_val (m : Nat) : ∀ (t : Tr) (d : Nat), Val t → Lim m t → t.cost + m + 60 ≤ (Tr.pre d t).length * (124 + 3 * m)
  | .mk k n u s ks l, d, hv, hl => by
    cases hv with
    | mk g1 _ _ _ gl =>
    cases hl with
    | mk l1 l2 l3 =>
      have h := costL_val m l (d + 1) gl l3
      have hk := keys_lim m ks l2
      simp only [suchT, Bool.and_eq_true, decide_eq_true_eq] at g1
      obtain ⟨⟨⟨⟨⟨_, gks⟩, _⟩, glen⟩, _⟩, _⟩ := g1
      have gks : k = 17 ∨ ks = [] := gks
      have glen : k = 17 → ks.length = l.length := glen
      have hkl : ks.length ≤ l.length := by
        rcases gks with h | h
        · rw [glen h]; exact Nat.le_refl _
        · rw [h]; simp
      have hkm := Nat.mul_le_mul_right (m + 20) hkl
      rw [Tr.pre, Tr.cost, List.length_cons, Nat.add_mul, Nat.one_mul]
      omega
theorem costL_val (m : Nat) : ∀ (l : List Tr) (d : Nat), (∀ t ∈ l, Val t) → (∀ t ∈ l, Lim m t) → Tr.costL l + l.length * (m + 20) ≤ (Tr.pre.Tr.preL d l).length * (124 + 3 * m)
  | [], d, _, _ => by simp [Tr.costL, Tr.pre.Tr.preL]
  | t :: r, d, hv, hl => by
    have h1 := cost_val m t d (hv t (by simp)) (hl t (by simp))
    have h2 := costL_val m r d (fun x hx => hv x (by simp [hx])) (fun x hx => hl x (by simp [hx]))
    simp only [Tr.costL, Tr.pre.Tr.preL, List.length_append, List.length_cons, Nat.add_mul, Nat.one_mul]
    simp only [Nat.mul_add] at h1 h2 ⊢
    omega
end
theorem short_is (s : List UInt8) (m : Nat) (w : World) : Calls Tryz.prog 61 #[.string ⟨s.toArray⟩, .int .i64 m] w fun e w' => e = .returned (.string ⟨(s.take m).toArray⟩) ∧ w = w' := by
  have hs : (⟨s.toArray⟩ : ByteArray).size = s.length := rfl
  by_cases h : m < s.length
  · have hm0 : (m : Int) ≤ s.length := by omega
    have hd : decide (m < s.length) = true := decide_eq_true h
    have he : (⟨s.toArray⟩ : ByteArray).extract 0 m = ⟨(s.take m).toArray⟩ := by
      rw [ByteArray.extract_mk, List.drop_zero, Nat.sub_zero]
    have HE := Lib.hid he
    clear he
    go_enter Tryz.func61, Tryz.ntmps61
    go_wp2
    go_ret
    refine ⟨?_, rfl⟩
    show Ending.returned (.string (ByteArray.extract ⟨s.toArray⟩ 0 (min (s.length : Int) (m : Int)).toNat)) = _
    rw [show (min (s.length : Int) (m : Int)).toNat = m by omega, HE.out]
  · have hd : decide (m < s.length) = false := decide_eq_false h
    have he : s.take m = s := List.take_of_length_le (by omega)
    have HE := Lib.hid he
    clear he
    go_enter Tryz.func61, Tryz.ntmps61
    go_wp2
    go_ret
    refine ⟨?_, rfl⟩
    show Ending.returned (.string (ByteArray.extract ⟨s.toArray⟩ 0 (min (s.length : Int) (m : Int)).toNat)) = _
    rw [show (min (s.length : Int) (m : Int)).toNat = s.length by omega, HE.out, ByteArray.extract_mk]
    simp
def StrsW (w : World) (n : Nat) (l : List (List UInt8)) (e : Ending) (w' : World) : Prop := ∃ A c, e = .returned (.slice A n c) ∧ OwnS w' w.heap.size A n c l ∧ Below w.heap.size w w'
set_option maxHeartbeats 1000000 in
theorem texts_spec (A : Option Addr) (n c : Nat) (l : List (List UInt8)) (many long : Nat) (w : World) (h : IsS w A n l) (hm : many ≤ 1000) :
    Calls Tryz.prog 72 #[.slice A n c, .int .i64 (many : Int), .int .i64 (long : Int)] w (StrsW w (min n many) ((l.take many).map fun x => x.take long)) := by
  have HI := Lib.hid h
  have hl : l.length = n := by have := h.1; simpa using this
  have HL := Lib.hid hl
  have HSH := Lib.hid (fun (s : List UInt8) (w : World) => short_is s long w)
  clear h hl
  go_enter Tryz.func72, Tryz.ntmps72
  go_wp2_with fail
  go_loopw [7, 8] (fun s u wr => ∃ k : Nat, k ≤ n ∧ k ≤ many ∧ u = .int .i64 (k : Int) ∧ ∃ B d, s = .slice B k d ∧ OwnS wr w.heap.size B k d ((l.take k).map fun x => x.take long) ∧ Below w.heap.size w wr) (fun _ u _ => many - (intOf u).toNat)
  case atStart => exact ⟨0, Nat.zero_le _, Nat.zero_le _, rfl, none, 0, rfl, Own.nil _ _, Below.refl _ _⟩
  case round =>
    obtain ⟨k, hk, hkm, rfl, B, d, rfl, ho, hb⟩ := hrel
    have HO := Lib.hid ho
    have HB := Lib.hid hb
    have HIR := Lib.hid (HI.out.pure hb)
    clear ho hb
    by_cases h1 : k < n
    · by_cases h2 : k < many
      · obtain ⟨g, off, e, hk', hs⟩ := iss_at HIR.out h1
        have HT := Lib.hid (show (l.take (k + 1)).map (fun x => x.take long) = (l.take k).map (fun x => x.take long) ++ [l[k].take long] by
          rw [List.take_succ_eq_append_getElem hk', List.map_append]; rfl)
        generalize l[k] = y at hs HT
        have hk0 : (0 : Int) ≤ (k : Int) := by omega
        have hkn : (k : Int) < (n : Int) := by omega
        have hkM : (k : Int) < (many : Int) := by omega
        rw [e]
        have HE := Lib.hid e
        clear e hk'
        go_wp2_with fail
        go_at_call 61
        refine (HSH.out _ _).mono ?_
        rintro e w' ⟨rfl, rfl⟩
        have HO1 := Lib.hid (HO.out.pure ((Below.refl wr.heap.size wr).alloc (Nat.le_refl _) (.cells #[.string ⟨(y.take long).toArray⟩] 9)))
        have HB1 := Lib.hid (HB.out.alloc HB.out.size (.cells #[.string ⟨(y.take long).toArray⟩] 9))
        have HI1 := Lib.hid (str_lit wr (y.take long))
        go_wp2_with (at_builtin; refine wpl_app _ rfl (.tmp 20) (.tmp 27) _ rfl 9 _ 1 16 Tryz.underlying23 info_st rfl (by omega) stc_len stc_one _ _ _ _ _ rfl HO1.out _ _ _ _ rfl HI1.out (by omega) HB1.out.size ?_; intro A1 c1 w1 hown1 hfr1 hat1)
        have HO4 := Lib.hid hown1
        have HB4 := Lib.hid (below_fr HB1.out hfr1 (by rintro j ⟨ad, e, rfl⟩; exact (HO1.out.addr ad e).2.1))
        clear hown1 hfr1 hat1 hs
        go_wp2_with fail
        go_roundw
        case rel => exact ⟨k + 1, by omega, by omega, by go_num, A1, c1, rfl, by rw [HT.out]; exact HO4.out, HB4.out⟩
        case measure => simp [intOf]; omega
      · obtain rfl : many = k := by omega
        have hkn : (many : Int) < (n : Int) := by omega
        have hmin : min n many = many := by omega
        have HM := Lib.hid hmin
        clear hmin
        go_wp2_with fail
        go_ret
        rw [HM.out]
        exact ⟨B, d, rfl, HO.out, HB.out⟩
    · obtain rfl : n = k := by omega
      have hmin : min n many = n := by omega
      have ht : l.take many = l.take n := by rw [List.take_of_length_le (by have := HL.out; omega), List.take_of_length_le (by have := HL.out; omega)]
      have HM := Lib.hid (And.intro hmin ht)
      clear hmin ht
      go_wp2_with fail
      go_ret
      rw [HM.out.1, HM.out.2]
      exact ⟨B, d, rfl, HO.out, HB.out⟩
end Go.Proofs.YtfoifdoaleaekaaGreat
