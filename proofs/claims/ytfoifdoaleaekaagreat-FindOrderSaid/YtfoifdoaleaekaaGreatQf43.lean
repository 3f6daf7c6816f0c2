/-
  Package accordionlaw25: built, the document of the map of the keys.
-/
import Derived.Test.YtfoifdoaleaekaaGreatQf42
namespace Go.Proofs.YtfoifdoaleaekaaGreat
open Go.RowKit Go.Acc
def intNd (i : Nat) : Nv := ⟨3, (i : Int), 0, [], none, 0, 0, none, 0, 0⟩
theorem int_node (w : World) (p : Nat → Prop) (i : Nat) : NodeR w p (intNd i) (leafI (i : Int)) :=
  NodeR.mk (x := intNd i) (ks := []) (Is.nil _ _) (fun _ h => by cases h) (Nat.le_refl _) (Nat.zero_le _) (Is.nil _ _) (fun _ h => by cases h) (Nat.le_refl _) (Nat.zero_le _) rfl (fun i v t hv _ => by simp at hv)
theorem map_node {w : World} {B0 B1 : Nat} {A : Option Addr} {n c : Nat} {ks : List (List UInt8)} {B : Option Addr} {d : Nat} (h1 : OwnS w B0 A n c ks) (h2 : OwnT w B1 B n d ((List.range n).map intNd)) (hn : n ≤ 40) :
    NodeR w (fun b => b < w.heap.size) ⟨17, 0, 0, [], A, n, c, B, n, d⟩ (fmTr ks) := by
  have hl : ks.length = n := h1.1
  unfold fmTr
  rw [hl]
  refine NodeR.mk (x := ⟨17, 0, 0, [], A, n, c, B, n, d⟩) h1.is (fun ad e => (h1.addr ad e).2.2) h1.cap.1 (show n ≤ 1099511627776 by omega) h2.is (fun ad e => (h2.addr ad e).2.2) h2.cap.1 (show n ≤ 1099511627776 by omega) (by rw [List.length_map, List.length_range, fmKids_len]) (fun i v t hv ht => ?_)
  have hi : i < n := by simpa using (List.getElem?_eq_some_iff.1 hv).1
  rw [List.getElem?_map, List.getElem?_range hi] at hv
  rw [fmKids_at hi] at ht
  injection hv with hv
  injection ht with ht
  rw [← hv, ← ht]
  exact int_node _ _ _
theorem leafnum_spec (M : Bp) (fl : Int) (b : Bd) (x : Nv) (k n : Int) (u : Nat) (s : List UInt8) (ks : List (List UInt8)) (c : List Tr) (w : World) (o : Nat → Nat) (p : Nat → Prop) (h : BM M fl w o b) (hR : NodeR w p x (.mk k n u s ks c)) (hx : k = 1 ∨ k = 2 ∨ k = 3 ∨ k = 4 ∨ k = 8 ∨ k = 9)
    (hn : (-9223372036854775808 ≤ n ∧ n ≤ 9223372036854775807) ∧ u < 18446744073709551616) (hm : b.size + 64 ≤ 65000) :
    Calls Tryz.prog 74 #[.pointer (some ⟨M.β, 0, none⟩), .agg #[.int .i64 x.k, .int .i64 x.n, .int .u64 (x.u : Int), .string ⟨x.s.toArray⟩, .slice x.A x.an x.ac, .slice x.B x.bn x.bc]] w (BTo M fl (b.leaf (Go.Proofs.YtfoifdoaleaekaaGreat.bits fl) k n u s) w o) := by
  obtain ⟨hk, hxn, hxu, hxs, _, _⟩ := hR.fields
  have hk : k = x.k := hk
  have hxn : n = x.n := hxn
  have hxu : u = x.u := hxu
  have hxs : s = x.s := hxs
  subst hk hxn hxu hxs
  have hsz : b.b.length + b.s.length + b.keys.length + b.texts.length + b.names.length ≤ b.size := by unfold Bd.size; omega
  refine callsleaf_spec M fl _ x.k x.n x.u x.s x.A x.an x.ac x.B x.bn x.bc w o ⟨by omega, by omega⟩ (fun W hB => ?_)
  exact leafn_spec M fl _ b x.k x.n x.u x.s x.A x.an x.ac x.B x.bn x.bc W o (h.pure hB) (by omega) (by omega) hn.1 hn.2 hx
theorem fm_leaf {i : Int} (hi : -9223372036854775808 ≤ i ∧ i ≤ 9223372036854775807) : CallsD (leafI i) := by
  intro M fl b x w o p hM hg hN hR hp hm
  unfold leafI at hR hm ⊢
  have e : Bd.calls (Go.Proofs.YtfoifdoaleaekaaGreat.bits fl) (.mk 3 i 0 [] [] []) b = b.leaf (Go.Proofs.YtfoifdoaleaekaaGreat.bits fl) 3 i 0 [] := by rw [Bd.calls, if_neg (by omega), if_neg (by omega), if_pos (by omega)]
  rw [e]
  exact leafnum_spec M fl b x 3 i 0 [] [] [] w o p hM hR (by omega) ⟨hi, by omega⟩ (by unfold Tr.cost at hm; omega)
theorem fm_calls {ks : List (List UInt8)} (hk : KeysOk ks) (hl : ks.length ≤ 40) : CallsD (sortT (fmTr ks)) := by
  rw [sort_fm]
  have hc : ∀ t ∈ (fmE ks).map (·.2), ∃ i : Int, (-9223372036854775808 ≤ i ∧ i ≤ 9223372036854775807) ∧ t = leafI i := by
    intro t ht
    obtain ⟨e, he, rfl⟩ := List.mem_map.1 ht
    obtain ⟨_, i, hi, e2⟩ := fmE_mem he
    exact ⟨_, by omega, e2⟩
  refine callsmap_spec 0 0 [] _ _ (by rw [List.length_map, List.length_map]) (fun x hx => (hk.2 x ((fmE_keys ks x).1 hx)).1) (fmE_up hk.1) (fun t ht => ?_) (fun t ht => ?_)
  · obtain ⟨i, hi, rfl⟩ := hc t ht
    exact .leaf _ _ _ (by omega) (by omega) ⟨hi, by omega⟩ (fun h => by omega)
  · obtain ⟨i, hi, rfl⟩ := hc t ht
    exact fm_leaf hi
def FmBuiltW (w : World) (ks : List (List UInt8)) (e : Ending) (w' : World) : Prop :=
  ∃ A n c L, ∃ p q t v : Int, e = .returned (.tuple #[.slice A n c, .agg #[.int .i64 p, .int .i64 q, .int .i64 t, .int .i64 v], .bool true]) ∧ IsB w' A n L ∧ n ≤ c ∧ n ≤ 65040 ∧ MapD L p q t v ((fmE ks).map (·.1)) ((fmE ks).map (·.2.n)) ∧ Below w.heap.size w w'
theorem fbuilt_end {w w4 : World} {g : Nat} {A1 : Option Addr} {n : Nat} {L : List UInt8} (rp rq rt rv : Int) (hR : Blk w4 g 36 #[.int .i64 0, .int .i64 0, .int .i64 0, .int .i64 0]) (hI : IsB w4 A1 n L) (hA : ∀ ad, A1 = some ad → ¬ ad.block = g) (hg : w.heap.size ≤ g) (hB : Below w.heap.size w w4) :
    ∃ wF, wF = (((((w4.alloc (.cells #[.int .i64 rp, .int .i64 rq, .int .i64 rt, .int .i64 rv] 36)).setCell ⟨g, 0, none⟩ (.int .i64 rp)).setCell ⟨g, 1, none⟩ (.int .i64 rq)).setCell ⟨g, 2, none⟩ (.int .i64 rt)).setCell ⟨g, 3, none⟩ (.int .i64 rv)).drew ∧
      wF.cell? ⟨g, 0, none⟩ = some (.int .i64 rp) ∧ wF.cell? ⟨g, 1, none⟩ = some (.int .i64 rq) ∧ wF.cell? ⟨g, 2, none⟩ = some (.int .i64 rt) ∧ wF.cell? ⟨g, 3, none⟩ = some (.int .i64 rv) ∧ IsB wF A1 n L ∧ Below w.heap.size w wF := by
  have h5 := hR.alloc (.cells #[.int .i64 rp, .int .i64 rq, .int .i64 rt, .int .i64 rv] 36)
  have hB5 := hB.alloc hB.size (.cells #[.int .i64 rp, .int .i64 rq, .int .i64 rt, .int .i64 rv] 36)
  have hI5 := hI.alloc (.cells #[.int .i64 rp, .int .i64 rq, .int .i64 rt, .int .i64 rv] 36)
  generalize w4.alloc (.cells #[.int .i64 rp, .int .i64 rq, .int .i64 rt, .int .i64 rv] 36) = w5 at *
  refine ⟨_, rfl, ?_⟩
  have h6 := h5.set_ 0 (.int .i64 rp)
  have b6 := hB5.setCell (p := ⟨g, 0, none⟩) hg (.int .i64 rp)
  have i6 := hI5.fr (S := fun k => k = g) (Fr.setCell (S := fun k => k = g) (p := ⟨g, 0, none⟩) (Fr.refl _ w5) (fun _ => rfl) (.int .i64 rp)) hA
  generalize w5.setCell ⟨g, 0, none⟩ (.int .i64 rp) = w6 at *
  have h7 := h6.set_ 1 (.int .i64 rq)
  have b7 := b6.setCell (p := ⟨g, 1, none⟩) hg (.int .i64 rq)
  have i7 := i6.fr (S := fun k => k = g) (Fr.setCell (S := fun k => k = g) (p := ⟨g, 1, none⟩) (Fr.refl _ w6) (fun _ => rfl) (.int .i64 rq)) hA
  generalize w6.setCell ⟨g, 1, none⟩ (.int .i64 rq) = w7 at *
  have h8 := h7.set_ 2 (.int .i64 rt)
  have b8 := b7.setCell (p := ⟨g, 2, none⟩) hg (.int .i64 rt)
  have i8 := i7.fr (S := fun k => k = g) (Fr.setCell (S := fun k => k = g) (p := ⟨g, 2, none⟩) (Fr.refl _ w7) (fun _ => rfl) (.int .i64 rt)) hA
  generalize w7.setCell ⟨g, 2, none⟩ (.int .i64 rt) = w8 at *
  have h9 := h8.set_ 3 (.int .i64 rv)
  have b9 := b8.setCell (p := ⟨g, 3, none⟩) hg (.int .i64 rv)
  have i9 := i8.fr (S := fun k => k = g) (Fr.setCell (S := fun k => k = g) (p := ⟨g, 3, none⟩) (Fr.refl _ w8) (fun _ => rfl) (.int .i64 rv)) hA
  generalize w8.setCell ⟨g, 3, none⟩ (.int .i64 rv) = w9 at *
  exact ⟨h9.cell 0, h9.cell 1, h9.cell 2, h9.cell 3, bisb_drew i9, b9.drew⟩
set_option maxRecDepth 100000 in
set_option maxHeartbeats 4000000 in
theorem fbuilt_spec (A : Option Addr) (n c : Nat) (ks : List (List UInt8)) (fl : Int) (B0 : Nat) (w : World) (h : OwnS w B0 A n c ks) (hk : KeysOk ks) (hl : ks.length ≤ 40) :
    Calls Tryz.prog 27 #[.slice A n c, .int .i64 fl] w (FmBuiltW w ks) := by
  have HO := Lib.hid h
  have hn : n ≤ 40 := by rw [← h.1]; exact hl
  have HK := Lib.hid hk
  have HL := Lib.hid hl
  clear h hk hl
  go_enter Tryz.func27, Tryz.ntmps27
  go_upto_region 2 with fail
  have HB := Lib.hid (show Below w.heap.size w ((w.alloc (.cells #[.int .i64 0, .int .i64 0, .int .i64 0, .int .i64 0] 36)).alloc (.cells #[.int .i64 17, .int .i64 0, .int .u64 0, .string ⟨#[]⟩, .slice A n c, .slice none 0 0] 26)) from ((Below.refl _ _).alloc (Nat.le_refl _) _).alloc (by simp) _)
  have HR := Lib.hid ((Blk.new w 36 #[.int .i64 0, .int .i64 0, .int .i64 0, .int .i64 0]).alloc (.cells #[.int .i64 17, .int .i64 0, .int .u64 0, .string ⟨#[]⟩, .slice A n c, .slice none 0 0] 26))
  have hx := Blk.new (w.alloc (.cells #[.int .i64 0, .int .i64 0, .int .i64 0, .int .i64 0] 36)) 26 #[.int .i64 17, .int .i64 0, .int .u64 0, .string ⟨#[]⟩, .slice A n c, .slice none 0 0]
  rw [show (w.alloc (.cells #[.int .i64 0, .int .i64 0, .int .i64 0, .int .i64 0] 36)).heap.size = w.heap.size + 1 by simp] at hx
  have HX := Lib.hid hx
  clear hx
  generalize (w.alloc (.cells #[.int .i64 0, .int .i64 0, .int .i64 0, .int .i64 0] 36)).alloc (.cells #[.int .i64 17, .int .i64 0, .int .u64 0, .string ⟨#[]⟩, .slice A n c, .slice none 0 0] 26) = w1 at HB HR HX ⊢
  obtain ⟨g, hg⟩ : ∃ g, w.heap.size = g := ⟨_, rfl⟩
  obtain ⟨b, hb'⟩ : ∃ b, w.heap.size + 1 = b := ⟨_, rfl⟩
  rw [hb'] at HX ⊢
  have HG := Lib.hid (show w.heap.size ≤ b ∧ w.heap.size ≠ b by omega)
  clear hb' hg
  have hgw : g < 1 ∨ 0 ≤ g := .inr (Nat.zero_le _)
  clear hgw
  obtain ⟨g5, hg5⟩ : ∃ g5, w.heap.size = g5 := ⟨_, rfl⟩
  rw [hg5] at HR ⊢
  have HG5 := Lib.hid (show w.heap.size ≤ g5 ∧ g5 ≠ b by have := HG.out; omega)
  clear hg5
  have HO1 := Lib.hid (HO.out.pure HB.out)
  have HLT := Lib.hid (And.intro HX.out.lt HR.out.lt)
  go_wp2_with fail
  go_loopw [8] (fun u wr => ∃ k : Nat, k ≤ n ∧ u = .int .i64 (k : Int) ∧ ∃ B d, Blk wr b 26 #[.int .i64 17, .int .i64 0, .int .u64 0, .string ⟨#[]⟩, .slice A n c, .slice B k d] ∧ OwnT wr w1.heap.size B k d ((List.range k).map intNd) ∧ Blk wr g5 36 #[.int .i64 0, .int .i64 0, .int .i64 0, .int .i64 0] ∧ Below w.heap.size w wr ∧ w1.heap.size ≤ wr.heap.size) (fun u _ => n - (intOf u).toNat)
  case atStart => exact ⟨0, Nat.zero_le _, rfl, none, 0, HX.out, Own.nil _ _, HR.out, HB.out, Nat.le_refl _⟩
  case round =>
    obtain ⟨k, hkn, rfl, B, d, hX, ho, hR, hb, hsz⟩ := hrel
    have HXR := Lib.hid hX
    have HON := Lib.hid ho
    have HRR := Lib.hid hR
    have HBR := Lib.hid hb
    have HOR := Lib.hid (HO.out.pure hb)
    have HSZ := Lib.hid hsz
    clear hX ho hR hb hsz
    by_cases hlt : k < n
    · have hk0 : (0 : Int) ≤ (k : Int) := by omega
      have hkN : (k : Int) < (n : Int) := by omega
      have HT := Lib.hid (show (List.range (k + 1)).map intNd = (List.range k).map intNd ++ [intNd k] by rw [List.range_succ, List.map_append]; rfl)
      have x5 : wr.cell? ⟨b, 5, none⟩ = some (.slice B k d) := HXR.out.cell 5
      have f5 := HXR.out.frozen 5
      have hal := (Below.refl wr.heap.size wr).alloc (Nat.le_refl _) (.cells #[.int .i64 3, .int .i64 (k : Int), .int .u64 0, .string ⟨#[]⟩, .slice none 0 0, .slice none 0 0] 26)
      have HO4 := Lib.hid (HON.out.pure hal)
      have HX4 := Lib.hid (HXR.out.pure hal)
      have HR4 := Lib.hid (HRR.out.pure hal)
      have HB4 := Lib.hid (pure_below HBR.out hal)
      have HI4 := Lib.hid (show IsN (wr.alloc (.cells #[.int .i64 3, .int .i64 (k : Int), .int .u64 0, .string ⟨#[]⟩, .slice none 0 0, .slice none 0 0] 26)) (some ⟨wr.heap.size, 0, none⟩) 1 [intNd k] from nv_one wr (intNd k))
      have HS4 := Lib.hid (show w1.heap.size ≤ (wr.alloc (.cells #[.int .i64 3, .int .i64 (k : Int), .int .u64 0, .string ⟨#[]⟩, .slice none 0 0, .slice none 0 0] 26)).heap.size from Nat.le_trans HSZ.out hal.size)
      clear hal
      go_wp2_with (at_builtin; refine wpl_app _ rfl (.tmp 22) (.tmp 25) _ rfl 26 _ 6 88 Tryz.underlying24 info_nd rfl (by omega) nvc_len nvc_one _ _ _ _ _ rfl HO4.out _ _ _ _ rfl HI4.out (by omega) HS4.out ?_; intro A1 d1 w5 hown hfr hat; have hX5 := HX4.out.fr hfr (by rintro ⟨ad, e, h⟩; have h1 := (HO4.out.addr ad e).2.1; have h2 := HLT.out.1; omega); have y5 : w5.cell? ⟨b, 5, none⟩ = some (.slice B k d) := hX5.cell 5; have g5' := hX5.frozen 5)
      have HF6 := Lib.hid (Fr.setCell (S := fun j => j = b) (Fr.refl _ w5) (p := ⟨b, 5, none⟩) (fun _ => rfl) (.slice A1 (k + 1) d1))
      have HX6 := Lib.hid (show Blk (w5.setCell ⟨b, 5, none⟩ (.slice A1 (k + 1) d1)) b 26 #[.int .i64 17, .int .i64 0, .int .u64 0, .string ⟨#[]⟩, .slice A n c, .slice A1 (k + 1) d1] from hX5.set_ 5 _)
      have HO6 := Lib.hid (hown.fr HF6.out (fun ad e => by have h1 := (hown.addr ad e).2.1; have h2 := HLT.out.1; omega))
      have HR5 := Lib.hid (HR4.out.fr hfr (by rintro ⟨ad, e, h⟩; have h1 := (HO4.out.addr ad e).2.1; have h2 := HLT.out.2; omega))
      have HR6 := Lib.hid (HR5.out.fr HF6.out HG5.out.2)
      have HB5 := Lib.hid (below_fr HB4.out hfr (by rintro j ⟨ad, e, rfl⟩; have h1 := (HO4.out.addr ad e).2.1; have h2 := HB.out.size; omega))
      have HB6 := Lib.hid (below_fr HB5.out HF6.out (by rintro j rfl; exact HG.out.1))
      have HS6 := Lib.hid (Nat.le_trans (Nat.le_trans HS4.out hfr.size) HF6.out.size)
      clear hown hfr hat x5 f5 y5 g5' hX5
      go_wp2_with fail
      go_roundw
      case rel => exact ⟨k + 1, by omega, by go_num, A1, d1, HX6.out, by rw [HT.out]; exact HO6.out, HR6.out, HB6.out, HS6.out⟩
      case measure => simp [intOf]; omega
    · obtain rfl : n = k := by omega
      have hNR := map_node HOR.out HON.out hn
      have hcost := cost_fm HK.out HL.out
      have hchk := chk_fm HK.out HL.out
      obtain ⟨dbs, v, yw, ed, hrep, hyw, hfit, hlw, hleg, hvw, hkd, hbl2⟩ := doc_all (Go.Proofs.YtfoifdoaleaekaaGreat.bits fl) (chk_val ers_ok _ 0 0 hchk) hcost
      have hMD := fm_doc HK.out HL.out hrep hyw hleg hvw hbl2 hfit
      obtain ⟨rt1, rt2⟩ := root_doc (x := []) (b := dbs) (v := v) (w := yw) rfl hyw hleg hvw
      have hdl : (docB dbs v yw).length ≤ 65040 := by
        have h1 := bdoc_len [] dbs v yw
        have h2 := alignB_le8 dbs (isW_nat.2 (isW_nat.1 hyw))
        have h3 : yw ≤ 8 := by rcases isW_nat.1 hyw with h | h | h | h <;> omega
        simp only [List.nil_append, List.length_nil] at h1
        omega
      have hBD := build_okC fl hNR (fun k hk => hk) (fm_calls HK.out HL.out) hcost hchk
      obtain ⟨P, hP⟩ : ∃ P, (alignB yw dbs).length = P := ⟨_, rfl⟩
      obtain ⟨dd, hd⟩ : ∃ d, docB dbs v yw = d := ⟨_, rfl⟩
      obtain ⟨tt, htt⟩ : ∃ tt, v.t = tt := ⟨_, rfl⟩
      obtain ⟨V, hV⟩ : ∃ V, ownW yw v = V := ⟨_, rfl⟩
      rw [List.nil_append, List.length_nil, Nat.zero_add] at rt2
      rw [List.nil_append] at rt1
      rw [hd, hP, htt, hV] at rt2 hMD
      rw [hd] at rt1 ed hdl
      rw [ed] at hBD
      have HBD := Lib.hid hBD
      have HRE := Lib.hid rt1
      have HRW := Lib.hid rt2
      have HMD := Lib.hid hMD
      have HDL := Lib.hid hdl
      have x0 : wr.cell? ⟨b, 0, none⟩ = some (.int .i64 17) := HXR.out.cell 0
      have x1 : wr.cell? ⟨b, 1, none⟩ = some (.int .i64 0) := HXR.out.cell 1
      have x2 : wr.cell? ⟨b, 2, none⟩ = some (.int .u64 0) := HXR.out.cell 2
      have x3 : wr.cell? ⟨b, 3, none⟩ = some (.string ⟨#[]⟩) := HXR.out.cell 3
      have x4 : wr.cell? ⟨b, 4, none⟩ = some (.slice A n c) := HXR.out.cell 4
      have x5 : wr.cell? ⟨b, 5, none⟩ = some (.slice B n d) := HXR.out.cell 5
      clear hNR hcost hchk hrep hyw hfit hlw hleg hvw hkd hbl2 hMD rt1 rt2 hdl hBD hP hd htt hV ed
      go_wp2_with fail
      go_at_call 10
      refine HBD.out.mono ?_
      intro e w5 hDoc
      obtain ⟨A1, n1, c1, rfl, hO, hb⟩ := hDoc
      have HO5 := Lib.hid hO
      have HN5 := Lib.hid (show n1 ≤ 65040 by rw [← hO.1]; exact HDL.out)
      have HB5 := Lib.hid (pure_below HBR.out hb)
      have HR5 := Lib.hid (HRR.out.pure hb)
      have HA5 := Lib.hid (show ∀ ad, A1 = some ad → ¬ ad.block = g5 from fun ad e h => by have h1 := (hO.addr ad e).2.1; have h2 := HRR.out.lt; omega)
      have hn1 := HN5.out
      clear hb hO x0 x1 x2 x3 x4 x5 HBD
      go_wp2_with fail
      go_at_call 13
      refine (root_spec2 A1 n1 c1 dd _ _ _ _ _ 0 HO5.out.is (by omega) HRW.out HRE.out).mono ?_
      rintro e w6 ⟨rfl, hb⟩
      have HI6 := Lib.hid (HO5.out.is.pure hb)
      have HC6 := Lib.hid (show n1 ≤ c1 from HO5.out.cap.1)
      have HB6 := Lib.hid (pure_below HB5.out hb)
      have HR6 := Lib.hid (HR5.out.pure hb)
      clear hb
      have hR5 := HR6.out.alloc (.cells #[.int .i64 (P : Int), .int .i64 (yw : Int), .int .i64 (tt : Int), .int .i64 (V : Int)] 36)
      have r0 := cell0 hR5
      have r1 := cell1 hR5
      have r2 := cell2 hR5
      have r3 := cell3 hR5
      have f0 := hR5.frozen 0
      have f1 := hR5.frozen 1
      have f2 := hR5.frozen 2
      have f3 := hR5.frozen 3
      have hne : g5 ≠ w6.heap.size := Nat.ne_of_lt HR6.out.lt
      clear hR5
      go_wp2_with fail
      go_region
      obtain ⟨wF, hwF, r0, r1, r2, r3, hIF, hBF⟩ := fbuilt_end (P : Int) (yw : Int) (tt : Int) (V : Int) HR6.out HI6.out HA5.out HG5.out.1 HB6.out
      have HIF := Lib.hid hIF
      have HBF := Lib.hid hBF
      rw [← hwF]
      clear hne hIF hBF hwF f0 f1 f2 f3
      go_wp2_with fail
      refine bodyPost_ret (v := .tuple #[.slice A1 n1 c1, .agg #[.int .i64 (P : Int), .int .i64 (yw : Int), .int .i64 (tt : Int), .int .i64 (V : Int)], .bool true]) (by simp [results, Tryz.results27, go_sem, r0, r1, r2, r3]) rfl ?_
      exact ⟨A1, n1, c1, dd, (P : Int), (yw : Int), (tt : Int), (V : Int), rfl, HIF.out, HC6.out, HN5.out, HMD.out, HBF.out⟩
end Go.Proofs.YtfoifdoaleaekaaGreat
