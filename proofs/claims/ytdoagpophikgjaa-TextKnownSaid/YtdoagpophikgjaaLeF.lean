/-
  Package le: setting integers; the reference's Put, PutInt, Set; spoiling.
-/
import Derived.Test.YtdoagpophikgjaaLeE
namespace Go.Proofs.Ytdoagpophikgjaa
open Go.RowKit Go.Acc


def setE (n : Nat) (a x : Int) (b : Bool) : Int := if loadE n a x = 0 then (if b = true then 0 else 10) else loadE n a x
def setB (l : List UInt8) (a x : Int) (u : Nat) (b : Bool) : List UInt8 := if loadE l.length a x = 0 ∧ b = true then l.take a.toNat ++ leBytes x.toNat u ++ l.drop (a.toNat + x.toNat) else []
set_option maxHeartbeats 1000000 in
theorem set_spec (A : Option Addr) (n c u : Nat) (a x : Int) (l : List UInt8) (w : World) (h : IsB w A n l) (hn : n ≤ 1099511627776) (hu : (u : Int) < 18446744073709551616) :
    Calls Try.prog 34 #[.slice A n c, .int .i64 a, .int .i64 x, .int .u64 u] w (PutW w (setB l a x u (fitsU x.toNat u)) (setE n a x (fitsU x.toNat u))) := by
  have hlen := h.1
  subst hlen
  have HR := Lib.hid h
  have HU := Lib.hid hu
  clear h hu
  have HN := Lib.hid hn
  have hK1 := (Blk.new w 3 #[.int .i64 x]).alloc (.cells #[.int .u64 (u : Int)] 49)
  have hK2 := blk_new2 w (.cells #[.int .i64 x] 3) 49 #[.int .u64 (u : Int)]
  have hI := (HR.out.alloc (.cells #[.int .i64 x] 3)).alloc (.cells #[.int .u64 (u : Int)] 49)
  have hB0 : Below w.heap.size w ((w.alloc (.cells #[.int .i64 x] 3)).alloc (.cells #[.int .u64 (u : Int)] 49)) := ((Below.refl _ _).alloc (Nat.le_refl _) _).alloc (by simp) _
  have HK := Lib.hid (And.intro hK1 (And.intro hK2 (And.intro hI hB0)))
  clear hK1 hK2 hI hB0 hn
  rcases load_cases l a x with ⟨k, y, rfl, rfl, h1, h2, h3, h4, e1, e2⟩ | ⟨e1, e2, e3⟩
  · have HX := Lib.hid h1
    have h1x := Lib.hid h2
    have hy8 := h4
    have es := Lib.hid (show setE l.length k y (fitsU (y : Int).toNat u) = (if fitsU y u = true then 0 else 10) by simp [setE, e1])
    have eb := Lib.hid (show setB l k y u (fitsU (y : Int).toNat u) = if fitsU y u = true then l.take k ++ leBytes y u ++ l.drop (k + y) else [] by simp [setB, e1])
    clear e1 e2 h1 h2 h4
    go_enter Try.func34, Try.ntmps34
    go_wp2_with fail
    go_at_call 66; refine (cloneb_spec A l.length c l _ HK.out.2.2.1 HN.out).mono ?_; rintro e w1 ⟨A1, n1, c1, rfl, hO1, hB1⟩; obtain rfl : n1 = l.length := (by rw [← hO1.1]); have v1 : w1.cell? ⟨w.heap.size, 0, none⟩ = some (.int .i64 y) := (HK.out.1.pure hB1).cell 0; have v2 : w1.cell? ⟨w.heap.size + 1, 0, none⟩ = some (.int .u64 u) := (HK.out.2.1.pure hB1).cell 0; have HO1 := Lib.hid hO1; have HB1 := Lib.hid hB1; clear hO1 hB1
    have hcap := HO1.out.cap
    rcases A1 with _ | ad
    · exact absurd (HO1.out.is.none_ bc_len (by omega)).2 (by have := h1x.out; omega)
    obtain ⟨had, hge, hlt⟩ := HO1.out.addr ad rfl
    obtain ⟨g, rfl⟩ : ∃ g, ad = ⟨g, 0, none⟩ := ⟨_, had⟩
    obtain ⟨cur, hK, hsz, hback⟩ := own_seg HO1.out
    have HBK := Lib.hid hback
    have HKK := Lib.hid hK
    have HGE := Lib.hid hge
    have HLT := Lib.hid hlt
    clear hback hK hge hlt had
    go_wp2_with fail
    go_at_call 64
    refine (within_yes (some ⟨g, 0, none⟩) l.length c1 k y 67 #[.pointer (some ⟨w.heap.size, 0, none⟩), .pointer (some ⟨w.heap.size + 1, 0, none⟩)] w1
      (fun e w' => (fitsU y u = false ∧ e = .returned (.int .i64 10) ∧ w1 = w') ∨ (fitsU y u = true ∧ e = .returned (.int .i64 0) ∧ ∃ cur', Blk w' g 5 cur' ∧ Seg cur k ((leBytes y u).flatMap bc) y cur' ∧ Fr (fun k => k = g) w1 w'))
      HX.out h1x.out hcap.1 (by have := HN.out; omega) Try.call67 ?_).mono ?_
    · have hs := setc_spec w.heap.size (w.heap.size + 1) g k y (c1 - k) u y cur w1 (HK.out.1.pure HB1.out) (HK.out.2.1.pure HB1.out) HX.out HU.out HKK.out (by have := h1x.out; omega) rfl
      have e : (some (⟨g, 0, none⟩ : Addr)).map (fun p => p.add k) = some ⟨g, k, none⟩ := by simp [add_none]
      rw [e]
      refine hs.mono ?_
      rintro e w' (⟨hf, rfl, h⟩ | ⟨hf, rfl, h⟩)
      · exact ⟨⟨_, rfl⟩, .inl ⟨hf, rfl, h⟩⟩
      · exact ⟨⟨_, rfl⟩, .inr ⟨hf, rfl, h⟩⟩
    · rintro e w' (⟨hf, rfl, rfl⟩ | ⟨hf, rfl, cur', hK', hS, hF⟩)
      · have HF := Lib.hid hf
        clear hf
        go_wp2
        go_ret2
        rw [es.out, eb.out, HF.out]
        exact ⟨none, 0, 0, rfl, Own.nil _ _, pure_trans HK.out.2.2.2 HB1.out⟩
      · have HF := Lib.hid hf
        have HO := Lib.hid (HBK.out w' cur' k y (leBytes y u) hK' hS (leBytes_length _ _) h1x.out)
        have HFR := Lib.hid hF
        clear hf hK' hS hF
        go_wp2
        go_ret2
        rw [es.out, eb.out, HF.out]
        refine ⟨some ⟨g, 0, none⟩, l.length, c1, rfl, HO.out.rebase HK.out.2.2.2.size, below_fr (pure_trans HK.out.2.2.2 HB1.out) HFR.out ?_⟩
        rintro j rfl
        exact Nat.le_trans HK.out.2.2.2.size HGE.out
  · have es := Lib.hid (show setE l.length a x (fitsU x.toNat u) = loadE l.length a x by simp [setE, e1])
    have eb := Lib.hid (show setB l a x u (fitsU x.toNat u) = [] by simp [setB, e1])
    have HE := Lib.hid e1
    clear e1 e2 e3
    go_enter Try.func34, Try.ntmps34
    go_wp2_with fail
    go_at_call 66; refine (cloneb_spec A l.length c l _ HK.out.2.2.1 HN.out).mono ?_; rintro e w1 ⟨A1, n1, c1, rfl, hO1, hB1⟩; obtain rfl : n1 = l.length := (by rw [← hO1.1]); have v1 : w1.cell? ⟨w.heap.size, 0, none⟩ = some (.int .i64 x) := (HK.out.1.pure hB1).cell 0; have v2 : w1.cell? ⟨w.heap.size + 1, 0, none⟩ = some (.int .u64 u) := (HK.out.2.1.pure hB1).cell 0; have HO1 := Lib.hid hO1; have HB1 := Lib.hid hB1; clear hO1 hB1
    go_wp2_with fail
    go_at_call 64
    refine (within_no A1 l.length c1 a x _ _ HE.out (by have := HN.out; omega)).mono ?_
    rintro e w' ⟨rfl, rfl⟩
    have e0 : (loadE l.length a x != 0) = true := by simpa using HE.out
    go_wp2
    go_ret2
    rw [es.out, eb.out]
    exact ⟨none, 0, 0, rfl, Own.nil _ _, pure_trans HK.out.2.2.2 HB1.out⟩
end Go.Proofs.Ytdoagpophikgjaa
