/-
  Package list: the property ListKnown.
-/
import Derived.Test.YtaigofpipoimkaaLiO
import Derived.Test.YtaigofpipoimkaaMake
import Derived.Test.YtaigofpipoimkaaLeE
namespace Go.Proofs.Ytaigofpipoimkaa
open Go.RowKit Go.Acc
theorem own_setB {w : World} {B g n c i : Nat} {l : List UInt8} (h : OwnB w B (some ⟨g, 0, none⟩) n c l) (hi : i < n) (b : UInt8) :
    (w.frozen? ⟨g, i, none⟩ = false ∧ ∃ u, w.cell? ⟨g, i, none⟩ = some u) ∧ OwnB (w.setCell ⟨g, i, none⟩ (.int .u8 (b.toNat : Int))) B (some ⟨g, 0, none⟩) n c (l.take i ++ [b] ++ l.drop (i + 1)) := by
  obtain ⟨cur, hK, hsz, hback⟩ := own_seg h
  refine ⟨⟨hK.frozen i, _, (hK.cell i).trans (Array.getElem?_eq_getElem (by omega))⟩, hback _ _ i 1 [b] (hK.set_ i _) ?_ rfl (by omega)⟩
  have := (Seg.zero cur i ([b].flatMap bc)).step (v := .int .u8 (b.toNat : Int)) rfl (by omega)
  exact this
theorem own_some {w : World} {B n c : Nat} {A : Option Addr} {l : List UInt8} (h : OwnB w B A n c l) (hn : 0 < n) : ∃ g, A = some ⟨g, 0, none⟩ ∧ B ≤ g := by
  cases A with
  | none => exact absurd (h.is.none_ bc_len (by omega)).2 (by omega)
  | some ad =>
    obtain ⟨h1, h2, _⟩ := h.addr ad rfl
    exact ⟨ad.block, by rw [h1], h2⟩
theorem isb_vs_ {w : World} {g n : Nat} {vs : Array Value} (hg : w.heap.size = g) (hn : vs.size = n) (h : vs.toList = (unb vs).flatMap bc) : IsB (w.alloc (.cells vs 5)) (some ⟨g, 0, none⟩) n (unb vs) := by
  subst hg
  exact isb_vs w vs n hn h
def kb24 : List UInt8 := [0, 0, 1, 4, 2, 5, 6, 4, 12, 0, 3, 0, 0, 0, 0, 0, 1, 0, 0, 0, 0, 0, 0, 0, 255, 255, 255, 255, 255, 255, 255, 255, 8, 16, 24]
set_option maxRecDepth 100000 in
set_option maxHeartbeats 4000000 in
theorem listknown_spec (w : World) : Calls Try.prog 10 #[] w fun e w' => e = .returned (.bool true) ∧ Below w.heap.size w w' := by
  go_enter Try.func10, Try.ntmps10
  go_wp2_with fail
  go_loopw [2, 3, 4] (fun t _ _ wr => ∃ k : Int, -1 ≤ k ∧ k ≤ 38 ∧ t = .int .i64 k ∧ Below w.heap.size w wr ∧ IsB wr (some ⟨w.heap.size, 0, none⟩) 35 kb24) (fun t _ _ _ => (38 - intOf t).toNat)
  case atStart =>
    refine ⟨-1, by omega, by omega, rfl, (Below.refl _ _).alloc (Nat.le_refl _) _, ?_⟩
    exact isb_lit w _ kb24 35 rfl rfl
  case round =>
    obtain ⟨i, hi0, hi, rfl, hB, hT⟩ := hrel
    have HB := Lib.hid hB
    have HT := Lib.hid hT
    clear hB hT
    by_cases hlt : i < 38
    · obtain ⟨wo, rfl⟩ : ∃ wo : World, wo = wr := ⟨_, rfl⟩
      go_wp2_with fail
      go_loopw [3, 4] (fun t _ wr => ∃ k : Int, -1 ≤ k ∧ k ≤ 37 ∧ t = .int .i64 k ∧ Below wo.heap.size wo wr ∧ IsB wr (some ⟨w.heap.size, 0, none⟩) 35 kb24) (fun t _ _ => (37 - intOf t).toNat)
      case atStart => exact ⟨-1, by omega, by omega, rfl, Below.refl _ _, HT.out⟩
      case round =>
        obtain ⟨j, hj0, hj, rfl, hB, hT⟩ := hrel
        have HB2 := Lib.hid hB
        replace HT := Lib.hid hT
        clear hB hT
        by_cases hlt2 : j < 37
        · obtain ⟨wp, rfl⟩ : ∃ wp : World, wp = wr := ⟨_, rfl⟩
          go_wp2_with fail
          go_loopw [4] (fun t wr => ∃ k : Int, 0 ≤ k ∧ k ≤ 9 ∧ t = .int .i64 k ∧ Below wp.heap.size wp wr ∧ IsB wr (some ⟨w.heap.size, 0, none⟩) 35 kb24) (fun t _ => (9 - intOf t).toNat)
          case atStart => exact ⟨0, by omega, by omega, rfl, Below.refl _ _, HT.out⟩
          case round =>
            obtain ⟨x, hx0, hx, rfl, hB, hT⟩ := hrel
            have HBC := Lib.hid hB
            replace HT := Lib.hid hT
            clear hB hT
            by_cases hlt3 : x < 9
            · go_wp2_with fail
              go_at_call 46
              refine (of24_spec j 1 i x _).mono ?_
              rintro e wn ⟨rfl, hb⟩
              replace HBC := Lib.hid (pure_below HBC.out hb)
              replace HT := Lib.hid (HT.out.pure hb)
              clear hb
              go_wp2_with fail
              go_at_call 7
              refine (listtells_spec _ 35 35 j 1 i x j _ _ HT.out (by decide)).mono ?_
              rintro e wn ⟨rfl, hb⟩
              replace HBC := Lib.hid (pure_below HBC.out hb)
              replace HT := Lib.hid (HT.out.pure hb)
              clear hb
              go_wp2_with fail
              go_at_call 46
              refine (of24_spec j x i 1 _).mono ?_
              rintro e wn ⟨rfl, hb⟩
              replace HBC := Lib.hid (pure_below HBC.out hb)
              replace HT := Lib.hid (HT.out.pure hb)
              clear hb
              go_wp2_with fail
              go_at_call 7
              refine (listtells_spec _ 35 35 j x i 1 9223372036854775807 _ _ HT.out (by decide)).mono ?_
              rintro e wn ⟨rfl, hb⟩
              replace HBC := Lib.hid (pure_below HBC.out hb)
              replace HT := Lib.hid (HT.out.pure hb)
              clear hb
              go_wp2
              go_roundw
              case rel => exact ⟨x + 1, by omega, by omega, by go_num, HBC.out, HT.out⟩
              case measure => simp [intOf]; omega
            · go_wp2
              go_roundw
              case rel => exact ⟨j + 1, by omega, by omega, by go_num, pure_below HB2.out HBC.out, HT.out⟩
              case measure => simp [intOf]; omega
        · go_wp2
          go_roundw
          case rel => exact ⟨i + 1, by omega, by omega, by go_num, pure_below HB.out HB2.out, HT.out⟩
          case measure => simp [intOf]; omega
    · clear HT
      go_wp2_with fail
      go_loopw [5, 6, 7] (fun t _ _ wr => ∃ k : Int, (k = 1 ∨ k = 2 ∨ k = 4 ∨ k = 8 ∨ k = 16) ∧ t = .int .i64 k ∧ Below w.heap.size w wr) (fun t _ _ _ => (16 - intOf t).toNat)
      case atStart => exact ⟨1, by omega, rfl, HB.out⟩
      case round =>
        obtain ⟨V, hV, rfl, hB⟩ := hrel
        replace HB := Lib.hid hB
        clear hB
        rcases hV with rfl | rfl | rfl | rfl | rfl
        · obtain ⟨wp, rfl⟩ : ∃ wp : World, wp = wr := ⟨_, rfl⟩
          go_wp2_with fail
          go_loopw [6, 7] (fun t _ wr => ∃ k : Nat, k ≤ 12 ∧ t = .int .i64 k ∧ Below wp.heap.size wp wr) (fun t _ _ => (12 - intOf t).toNat)
          case atStart => exact ⟨0, by omega, rfl, Below.refl _ _⟩
          case round =>
            obtain ⟨k, hk, rfl, hB⟩ := hrel
            have HBC := Lib.hid hB
            clear hB
            by_cases hlt3 : k < 12
            · obtain ⟨Z, hZ, hZ2, hmk⟩ := make_b 8 (by omega)
              replace hmk : ∀ W : World, (Instr.makeSlice 25 (.int .i64 8) (.int .i64 8)).run Try.prog W = .ok (.slice (some ⟨W.heap.size, 0, none⟩) 8 8) (W.alloc (.cells Z 5)) := hmk
              have HT := Lib.hid (ownb_lit wr Z 8 wp.heap.size _ HBC.out.size (by simp) (by omega) hZ2)
              replace HBC := Lib.hid (HBC.out.alloc HBC.out.size (.cells Z 5))
              clear hZ hZ2
              go_wp2_with (first
                | (at_builtin; refine wpl_zeros _ rfl (.tmp 46) _ _ _ rfl 5 _ 1 1 _ _ Try.underlying25 Try.underlying3 info_b rfl (by omega) bc_len bc_one (0 : UInt8) rfl _ _ _ _ _ rfl HT.out 30 _ rfl rfl (by omega) (by omega) HBC.out.size ?_; intro A2 c2 w2 hown2 hfr2 hat2; replace HBC := Lib.hid (below_fr HBC.out hfr2 (fun j ⟨ad, e, h⟩ => by rw [h]; exact (HT.out.addr ad e).2.1)); obtain ⟨g, rfl, hge⟩ := own_some hown2 (by omega); obtain ⟨⟨hfz, u0, hcu⟩, hO3⟩ := own_setB hown2 (i := 7) (by omega) (UInt8.ofNat k); rw [show ((UInt8.ofNat k).toNat : Int) = k by rw [UInt8.toNat_ofNat']; omega] at hO3; obtain ⟨L, hL⟩ : ∃ L, OwnB _ _ _ 38 _ L := ⟨_, hO3⟩; replace HT := Lib.hid (hL.pure ((Below.refl _ _).alloc (Nat.le_refl _) (.cells #[.int .u8 30] 5))); replace HBC := Lib.hid (HBC.out.setCell (p := ⟨g, 7, none⟩) hge (.int .u8 (k : Int))); replace HBC := Lib.hid (HBC.out.alloc HBC.out.size (.cells #[.int .u8 30] 5)); clear hown2 hfr2 hat2 hO3 hL)
                | (at_builtin; refine wpl_app _ rfl (.tmp 54) (.tmp 55) _ rfl 5 _ 1 1 Try.underlying25 info_b rfl (by omega) bc_len bc_one _ _ _ _ _ rfl HT.out _ 1 _ _ rfl (isb_vs_ (vs := #[.int .u8 30]) (n := 1) (by simp) (by rfl) (by rfl)) (by omega) HBC.out.size ?_; intro A4 c4 w4 hown4 hfr4 hat4; replace HBC := Lib.hid (below_fr HBC.out hfr4 (fun j ⟨ad, e, h⟩ => by rw [h]; exact (HT.out.addr ad e).2.1)); obtain ⟨g4, rfl, hge4⟩ := own_some hown4 (by omega); obtain ⟨L4, hL4⟩ : ∃ L, OwnB _ _ _ 39 _ L := ⟨_, hown4⟩; replace HT := Lib.hid hL4; clear hown4 hfr4 hat4 hL4 hfz hcu))
              have hc4 : 39 ≤ c4 := HT.out.cap.1
              go_at_call 46
              refine (of24_spec 38 1 10 1 _).mono ?_
              rintro e wn ⟨rfl, hb⟩
              replace HBC := Lib.hid (pure_below HBC.out hb)
              replace HT := Lib.hid (HT.out.pure hb)
              clear hb
              go_wp2_with fail
              go_at_call 7
              refine (listtells_spec _ 39 c4 38 1 10 1 k _ _ HT.out.is hc4).mono ?_
              rintro e wn ⟨rfl, hb⟩
              replace HBC := Lib.hid (pure_below HBC.out hb)
              replace HT := Lib.hid (HT.out.pure hb)
              clear hb
              go_wp2_with fail
              go_at_call 46
              refine (of24_spec 38 1 11 1 _).mono ?_
              rintro e wn ⟨rfl, hb⟩
              replace HBC := Lib.hid (pure_below HBC.out hb)
              replace HT := Lib.hid (HT.out.pure hb)
              clear hb
              go_wp2_with fail
              go_at_call 7
              refine (listtells_spec _ 39 c4 38 1 11 1 (-9223372036854775808) _ _ HT.out.is hc4).mono ?_
              rintro e wn ⟨rfl, hb⟩
              replace HBC := Lib.hid (pure_below HBC.out hb)
              replace HT := Lib.hid (HT.out.pure hb)
              clear hb
              go_wp2_with fail
              go_at_call 46
              refine (of24_spec 38 1 9 1 _).mono ?_
              rintro e wn ⟨rfl, hb⟩
              replace HBC := Lib.hid (pure_below HBC.out hb)
              replace HT := Lib.hid (HT.out.pure hb)
              clear hb
              go_wp2_with fail
              go_at_call 7
              refine (listtells_spec _ 39 c4 38 1 9 1 ((k : Int) - 1) _ _ HT.out.is hc4).mono ?_
              rintro e wn ⟨rfl, hb⟩
              replace HBC := Lib.hid (pure_below HBC.out hb)
              replace HT := Lib.hid (HT.out.pure hb)
              clear hb
              go_wp2_with fail
              go_at_call 46
              refine (of24_spec 38 1 14 1 _).mono ?_
              rintro e wn ⟨rfl, hb⟩
              replace HBC := Lib.hid (pure_below HBC.out hb)
              replace HT := Lib.hid (HT.out.pure hb)
              clear hb
              go_wp2_with fail
              go_at_call 8
              refine (listwithin_spec _ 39 c4 38 1 14 1 _ _ HT.out.is hc4).mono ?_
              rintro e wn ⟨rfl, hb⟩
              replace HBC := Lib.hid (pure_below HBC.out hb)
              replace HT := Lib.hid (HT.out.pure hb)
              clear hb
              obtain ⟨⟨hfz, u1, hcu⟩, hO3⟩ := own_setB HT.out (i := 7) (by omega) 255
              obtain ⟨L5, hL5⟩ : ∃ L, OwnB (wn.setCell ⟨g4, 7, none⟩ (.int .u8 255)) _ _ 39 _ L := ⟨_, hO3⟩
              replace HT := Lib.hid hL5
              replace HBC := Lib.hid (HBC.out.setCell (p := ⟨g4, 7, none⟩) hge4 (.int .u8 255))
              clear hO3 hL5
              go_wp2_with fail
              go_at_call 46
              refine (of24_spec 38 1 10 1 _).mono ?_
              rintro e wn ⟨rfl, hb⟩
              replace HBC := Lib.hid (pure_below HBC.out hb)
              replace HT := Lib.hid (HT.out.pure hb)
              clear hb
              clear hfz hcu
              go_wp2_with fail
              go_at_call 7
              refine (listtells_spec _ 39 c4 38 1 10 1 k _ _ HT.out.is hc4).mono ?_
              rintro e wn ⟨rfl, hb⟩
              replace HBC := Lib.hid (pure_below HBC.out hb)
              replace HT := Lib.hid (HT.out.pure hb)
              clear hb
              go_wp2_with fail
              go_at_call 46
              refine (of24_spec 38 1 36 1 _).mono ?_
              rintro e wn ⟨rfl, hb⟩
              replace HBC := Lib.hid (pure_below HBC.out hb)
              replace HT := Lib.hid (HT.out.pure hb)
              clear hb
              go_wp2_with fail
              go_at_call 7
              refine (listtells_spec _ 39 c4 38 1 36 1 k _ _ HT.out.is hc4).mono ?_
              rintro e wn ⟨rfl, hb⟩
              replace HBC := Lib.hid (pure_below HBC.out hb)
              replace HT := Lib.hid (HT.out.pure hb)
              clear hb
              go_wp2
              go_roundw
              case rel => exact ⟨k + 1, by omega, by go_num, HBC.out⟩
              case measure => simp [intOf]; omega
            · go_wp2
              go_roundw
              case rel => exact ⟨2 * 1, by decide, rfl, pure_below HB.out HBC.out⟩
              case measure => simp [intOf]
        · obtain ⟨wp, rfl⟩ : ∃ wp : World, wp = wr := ⟨_, rfl⟩
          go_wp2_with fail
          go_loopw [6, 7] (fun t _ wr => ∃ k : Nat, k ≤ 12 ∧ t = .int .i64 k ∧ Below wp.heap.size wp wr) (fun t _ _ => (12 - intOf t).toNat)
          case atStart => exact ⟨0, by omega, rfl, Below.refl _ _⟩
          case round =>
            obtain ⟨k, hk, rfl, hB⟩ := hrel
            have HBC := Lib.hid hB
            clear hB
            by_cases hlt3 : k < 12
            · obtain ⟨Z, hZ, hZ2, hmk⟩ := make_b 8 (by omega)
              replace hmk : ∀ W : World, (Instr.makeSlice 25 (.int .i64 8) (.int .i64 8)).run Try.prog W = .ok (.slice (some ⟨W.heap.size, 0, none⟩) 8 8) (W.alloc (.cells Z 5)) := hmk
              have HT := Lib.hid (ownb_lit wr Z 8 wp.heap.size _ HBC.out.size (by simp) (by omega) hZ2)
              replace HBC := Lib.hid (HBC.out.alloc HBC.out.size (.cells Z 5))
              clear hZ hZ2
              go_wp2_with (first
                | (at_builtin; refine wpl_zeros _ rfl (.tmp 46) _ _ _ rfl 5 _ 1 1 _ _ Try.underlying25 Try.underlying3 info_b rfl (by omega) bc_len bc_one (0 : UInt8) rfl _ _ _ _ _ rfl HT.out 30 _ rfl rfl (by omega) (by omega) HBC.out.size ?_; intro A2 c2 w2 hown2 hfr2 hat2; replace HBC := Lib.hid (below_fr HBC.out hfr2 (fun j ⟨ad, e, h⟩ => by rw [h]; exact (HT.out.addr ad e).2.1)); obtain ⟨g, rfl, hge⟩ := own_some hown2 (by omega); obtain ⟨⟨hfz, u0, hcu⟩, hO3⟩ := own_setB hown2 (i := 6) (by omega) (UInt8.ofNat k); rw [show ((UInt8.ofNat k).toNat : Int) = k by rw [UInt8.toNat_ofNat']; omega] at hO3; obtain ⟨L, hL⟩ : ∃ L, OwnB _ _ _ 38 _ L := ⟨_, hO3⟩; replace HT := Lib.hid (hL.pure ((Below.refl _ _).alloc (Nat.le_refl _) (.cells #[.int .u8 30] 5))); replace HBC := Lib.hid (HBC.out.setCell (p := ⟨g, 6, none⟩) hge (.int .u8 (k : Int))); replace HBC := Lib.hid (HBC.out.alloc HBC.out.size (.cells #[.int .u8 30] 5)); clear hown2 hfr2 hat2 hO3 hL)
                | (at_builtin; refine wpl_app _ rfl (.tmp 54) (.tmp 55) _ rfl 5 _ 1 1 Try.underlying25 info_b rfl (by omega) bc_len bc_one _ _ _ _ _ rfl HT.out _ 1 _ _ rfl (isb_vs_ (vs := #[.int .u8 30]) (n := 1) (by simp) (by rfl) (by rfl)) (by omega) HBC.out.size ?_; intro A4 c4 w4 hown4 hfr4 hat4; replace HBC := Lib.hid (below_fr HBC.out hfr4 (fun j ⟨ad, e, h⟩ => by rw [h]; exact (HT.out.addr ad e).2.1)); obtain ⟨g4, rfl, hge4⟩ := own_some hown4 (by omega); obtain ⟨L4, hL4⟩ : ∃ L, OwnB _ _ _ 39 _ L := ⟨_, hown4⟩; replace HT := Lib.hid hL4; clear hown4 hfr4 hat4 hL4 hfz hcu))
              have hc4 : 39 ≤ c4 := HT.out.cap.1
              go_at_call 46
              refine (of24_spec 38 1 10 2 _).mono ?_
              rintro e wn ⟨rfl, hb⟩
              replace HBC := Lib.hid (pure_below HBC.out hb)
              replace HT := Lib.hid (HT.out.pure hb)
              clear hb
              go_wp2_with fail
              go_at_call 7
              refine (listtells_spec _ 39 c4 38 1 10 2 k _ _ HT.out.is hc4).mono ?_
              rintro e wn ⟨rfl, hb⟩
              replace HBC := Lib.hid (pure_below HBC.out hb)
              replace HT := Lib.hid (HT.out.pure hb)
              clear hb
              go_wp2_with fail
              go_at_call 46
              refine (of24_spec 38 1 11 2 _).mono ?_
              rintro e wn ⟨rfl, hb⟩
              replace HBC := Lib.hid (pure_below HBC.out hb)
              replace HT := Lib.hid (HT.out.pure hb)
              clear hb
              go_wp2_with fail
              go_at_call 7
              refine (listtells_spec _ 39 c4 38 1 11 2 (-9223372036854775808) _ _ HT.out.is hc4).mono ?_
              rintro e wn ⟨rfl, hb⟩
              replace HBC := Lib.hid (pure_below HBC.out hb)
              replace HT := Lib.hid (HT.out.pure hb)
              clear hb
              go_wp2_with fail
              go_at_call 46
              refine (of24_spec 38 1 9 2 _).mono ?_
              rintro e wn ⟨rfl, hb⟩
              replace HBC := Lib.hid (pure_below HBC.out hb)
              replace HT := Lib.hid (HT.out.pure hb)
              clear hb
              go_wp2_with fail
              go_at_call 7
              refine (listtells_spec _ 39 c4 38 1 9 2 ((k : Int) - 1) _ _ HT.out.is hc4).mono ?_
              rintro e wn ⟨rfl, hb⟩
              replace HBC := Lib.hid (pure_below HBC.out hb)
              replace HT := Lib.hid (HT.out.pure hb)
              clear hb
              go_wp2_with fail
              go_at_call 46
              refine (of24_spec 38 1 14 2 _).mono ?_
              rintro e wn ⟨rfl, hb⟩
              replace HBC := Lib.hid (pure_below HBC.out hb)
              replace HT := Lib.hid (HT.out.pure hb)
              clear hb
              go_wp2_with fail
              go_at_call 8
              refine (listwithin_spec _ 39 c4 38 1 14 2 _ _ HT.out.is hc4).mono ?_
              rintro e wn ⟨rfl, hb⟩
              replace HBC := Lib.hid (pure_below HBC.out hb)
              replace HT := Lib.hid (HT.out.pure hb)
              clear hb
              obtain ⟨⟨hfz, u1, hcu⟩, hO3⟩ := own_setB HT.out (i := 7) (by omega) 255
              obtain ⟨L5, hL5⟩ : ∃ L, OwnB (wn.setCell ⟨g4, 7, none⟩ (.int .u8 255)) _ _ 39 _ L := ⟨_, hO3⟩
              replace HT := Lib.hid hL5
              replace HBC := Lib.hid (HBC.out.setCell (p := ⟨g4, 7, none⟩) hge4 (.int .u8 255))
              clear hO3 hL5
              go_wp2_with fail
              go_at_call 46
              refine (of24_spec 38 1 10 2 _).mono ?_
              rintro e wn ⟨rfl, hb⟩
              replace HBC := Lib.hid (pure_below HBC.out hb)
              replace HT := Lib.hid (HT.out.pure hb)
              clear hb
              clear hfz hcu
              go_wp2_with fail
              go_at_call 7
              refine (listtells_spec _ 39 c4 38 1 10 2 k _ _ HT.out.is hc4).mono ?_
              rintro e wn ⟨rfl, hb⟩
              replace HBC := Lib.hid (pure_below HBC.out hb)
              replace HT := Lib.hid (HT.out.pure hb)
              clear hb
              go_wp2_with fail
              go_at_call 46
              refine (of24_spec 38 1 36 2 _).mono ?_
              rintro e wn ⟨rfl, hb⟩
              replace HBC := Lib.hid (pure_below HBC.out hb)
              replace HT := Lib.hid (HT.out.pure hb)
              clear hb
              go_wp2_with fail
              go_at_call 7
              refine (listtells_spec _ 39 c4 38 1 36 2 k _ _ HT.out.is hc4).mono ?_
              rintro e wn ⟨rfl, hb⟩
              replace HBC := Lib.hid (pure_below HBC.out hb)
              replace HT := Lib.hid (HT.out.pure hb)
              clear hb
              go_wp2
              go_roundw
              case rel => exact ⟨k + 1, by omega, by go_num, HBC.out⟩
              case measure => simp [intOf]; omega
            · go_wp2
              go_roundw
              case rel => exact ⟨2 * 2, by decide, rfl, pure_below HB.out HBC.out⟩
              case measure => simp [intOf]
        · obtain ⟨wp, rfl⟩ : ∃ wp : World, wp = wr := ⟨_, rfl⟩
          go_wp2_with fail
          go_loopw [6, 7] (fun t _ wr => ∃ k : Nat, k ≤ 12 ∧ t = .int .i64 k ∧ Below wp.heap.size wp wr) (fun t _ _ => (12 - intOf t).toNat)
          case atStart => exact ⟨0, by omega, rfl, Below.refl _ _⟩
          case round =>
            obtain ⟨k, hk, rfl, hB⟩ := hrel
            have HBC := Lib.hid hB
            clear hB
            by_cases hlt3 : k < 12
            · obtain ⟨Z, hZ, hZ2, hmk⟩ := make_b 8 (by omega)
              replace hmk : ∀ W : World, (Instr.makeSlice 25 (.int .i64 8) (.int .i64 8)).run Try.prog W = .ok (.slice (some ⟨W.heap.size, 0, none⟩) 8 8) (W.alloc (.cells Z 5)) := hmk
              have HT := Lib.hid (ownb_lit wr Z 8 wp.heap.size _ HBC.out.size (by simp) (by omega) hZ2)
              replace HBC := Lib.hid (HBC.out.alloc HBC.out.size (.cells Z 5))
              clear hZ hZ2
              go_wp2_with (first
                | (at_builtin; refine wpl_zeros _ rfl (.tmp 46) _ _ _ rfl 5 _ 1 1 _ _ Try.underlying25 Try.underlying3 info_b rfl (by omega) bc_len bc_one (0 : UInt8) rfl _ _ _ _ _ rfl HT.out 30 _ rfl rfl (by omega) (by omega) HBC.out.size ?_; intro A2 c2 w2 hown2 hfr2 hat2; replace HBC := Lib.hid (below_fr HBC.out hfr2 (fun j ⟨ad, e, h⟩ => by rw [h]; exact (HT.out.addr ad e).2.1)); obtain ⟨g, rfl, hge⟩ := own_some hown2 (by omega); obtain ⟨⟨hfz, u0, hcu⟩, hO3⟩ := own_setB hown2 (i := 4) (by omega) (UInt8.ofNat k); rw [show ((UInt8.ofNat k).toNat : Int) = k by rw [UInt8.toNat_ofNat']; omega] at hO3; obtain ⟨L, hL⟩ : ∃ L, OwnB _ _ _ 38 _ L := ⟨_, hO3⟩; replace HT := Lib.hid (hL.pure ((Below.refl _ _).alloc (Nat.le_refl _) (.cells #[.int .u8 30] 5))); replace HBC := Lib.hid (HBC.out.setCell (p := ⟨g, 4, none⟩) hge (.int .u8 (k : Int))); replace HBC := Lib.hid (HBC.out.alloc HBC.out.size (.cells #[.int .u8 30] 5)); clear hown2 hfr2 hat2 hO3 hL)
                | (at_builtin; refine wpl_app _ rfl (.tmp 54) (.tmp 55) _ rfl 5 _ 1 1 Try.underlying25 info_b rfl (by omega) bc_len bc_one _ _ _ _ _ rfl HT.out _ 1 _ _ rfl (isb_vs_ (vs := #[.int .u8 30]) (n := 1) (by simp) (by rfl) (by rfl)) (by omega) HBC.out.size ?_; intro A4 c4 w4 hown4 hfr4 hat4; replace HBC := Lib.hid (below_fr HBC.out hfr4 (fun j ⟨ad, e, h⟩ => by rw [h]; exact (HT.out.addr ad e).2.1)); obtain ⟨g4, rfl, hge4⟩ := own_some hown4 (by omega); obtain ⟨L4, hL4⟩ : ∃ L, OwnB _ _ _ 39 _ L := ⟨_, hown4⟩; replace HT := Lib.hid hL4; clear hown4 hfr4 hat4 hL4 hfz hcu))
              have hc4 : 39 ≤ c4 := HT.out.cap.1
              go_at_call 46
              refine (of24_spec 38 1 10 4 _).mono ?_
              rintro e wn ⟨rfl, hb⟩
              replace HBC := Lib.hid (pure_below HBC.out hb)
              replace HT := Lib.hid (HT.out.pure hb)
              clear hb
              go_wp2_with fail
              go_at_call 7
              refine (listtells_spec _ 39 c4 38 1 10 4 k _ _ HT.out.is hc4).mono ?_
              rintro e wn ⟨rfl, hb⟩
              replace HBC := Lib.hid (pure_below HBC.out hb)
              replace HT := Lib.hid (HT.out.pure hb)
              clear hb
              go_wp2_with fail
              go_at_call 46
              refine (of24_spec 38 1 11 4 _).mono ?_
              rintro e wn ⟨rfl, hb⟩
              replace HBC := Lib.hid (pure_below HBC.out hb)
              replace HT := Lib.hid (HT.out.pure hb)
              clear hb
              go_wp2_with fail
              go_at_call 7
              refine (listtells_spec _ 39 c4 38 1 11 4 (-9223372036854775808) _ _ HT.out.is hc4).mono ?_
              rintro e wn ⟨rfl, hb⟩
              replace HBC := Lib.hid (pure_below HBC.out hb)
              replace HT := Lib.hid (HT.out.pure hb)
              clear hb
              go_wp2_with fail
              go_at_call 46
              refine (of24_spec 38 1 9 4 _).mono ?_
              rintro e wn ⟨rfl, hb⟩
              replace HBC := Lib.hid (pure_below HBC.out hb)
              replace HT := Lib.hid (HT.out.pure hb)
              clear hb
              go_wp2_with fail
              go_at_call 7
              refine (listtells_spec _ 39 c4 38 1 9 4 ((k : Int) - 1) _ _ HT.out.is hc4).mono ?_
              rintro e wn ⟨rfl, hb⟩
              replace HBC := Lib.hid (pure_below HBC.out hb)
              replace HT := Lib.hid (HT.out.pure hb)
              clear hb
              go_wp2_with fail
              go_at_call 46
              refine (of24_spec 38 1 14 4 _).mono ?_
              rintro e wn ⟨rfl, hb⟩
              replace HBC := Lib.hid (pure_below HBC.out hb)
              replace HT := Lib.hid (HT.out.pure hb)
              clear hb
              go_wp2_with fail
              go_at_call 8
              refine (listwithin_spec _ 39 c4 38 1 14 4 _ _ HT.out.is hc4).mono ?_
              rintro e wn ⟨rfl, hb⟩
              replace HBC := Lib.hid (pure_below HBC.out hb)
              replace HT := Lib.hid (HT.out.pure hb)
              clear hb
              obtain ⟨⟨hfz, u1, hcu⟩, hO3⟩ := own_setB HT.out (i := 7) (by omega) 255
              obtain ⟨L5, hL5⟩ : ∃ L, OwnB (wn.setCell ⟨g4, 7, none⟩ (.int .u8 255)) _ _ 39 _ L := ⟨_, hO3⟩
              replace HT := Lib.hid hL5
              replace HBC := Lib.hid (HBC.out.setCell (p := ⟨g4, 7, none⟩) hge4 (.int .u8 255))
              clear hO3 hL5
              go_wp2_with fail
              go_at_call 46
              refine (of24_spec 38 1 10 4 _).mono ?_
              rintro e wn ⟨rfl, hb⟩
              replace HBC := Lib.hid (pure_below HBC.out hb)
              replace HT := Lib.hid (HT.out.pure hb)
              clear hb
              clear hfz hcu
              go_wp2_with fail
              go_at_call 7
              refine (listtells_spec _ 39 c4 38 1 10 4 k _ _ HT.out.is hc4).mono ?_
              rintro e wn ⟨rfl, hb⟩
              replace HBC := Lib.hid (pure_below HBC.out hb)
              replace HT := Lib.hid (HT.out.pure hb)
              clear hb
              go_wp2_with fail
              go_at_call 46
              refine (of24_spec 38 1 36 4 _).mono ?_
              rintro e wn ⟨rfl, hb⟩
              replace HBC := Lib.hid (pure_below HBC.out hb)
              replace HT := Lib.hid (HT.out.pure hb)
              clear hb
              go_wp2_with fail
              go_at_call 7
              refine (listtells_spec _ 39 c4 38 1 36 4 k _ _ HT.out.is hc4).mono ?_
              rintro e wn ⟨rfl, hb⟩
              replace HBC := Lib.hid (pure_below HBC.out hb)
              replace HT := Lib.hid (HT.out.pure hb)
              clear hb
              go_wp2
              go_roundw
              case rel => exact ⟨k + 1, by omega, by go_num, HBC.out⟩
              case measure => simp [intOf]; omega
            · go_wp2
              go_roundw
              case rel => exact ⟨2 * 4, by decide, rfl, pure_below HB.out HBC.out⟩
              case measure => simp [intOf]
        · obtain ⟨wp, rfl⟩ : ∃ wp : World, wp = wr := ⟨_, rfl⟩
          go_wp2_with fail
          go_loopw [6, 7] (fun t _ wr => ∃ k : Nat, k ≤ 12 ∧ t = .int .i64 k ∧ Below wp.heap.size wp wr) (fun t _ _ => (12 - intOf t).toNat)
          case atStart => exact ⟨0, by omega, rfl, Below.refl _ _⟩
          case round =>
            obtain ⟨k, hk, rfl, hB⟩ := hrel
            have HBC := Lib.hid hB
            clear hB
            by_cases hlt3 : k < 12
            · obtain ⟨Z, hZ, hZ2, hmk⟩ := make_b 8 (by omega)
              replace hmk : ∀ W : World, (Instr.makeSlice 25 (.int .i64 8) (.int .i64 8)).run Try.prog W = .ok (.slice (some ⟨W.heap.size, 0, none⟩) 8 8) (W.alloc (.cells Z 5)) := hmk
              have HT := Lib.hid (ownb_lit wr Z 8 wp.heap.size _ HBC.out.size (by simp) (by omega) hZ2)
              replace HBC := Lib.hid (HBC.out.alloc HBC.out.size (.cells Z 5))
              clear hZ hZ2
              go_wp2_with (first
                | (at_builtin; refine wpl_zeros _ rfl (.tmp 46) _ _ _ rfl 5 _ 1 1 _ _ Try.underlying25 Try.underlying3 info_b rfl (by omega) bc_len bc_one (0 : UInt8) rfl _ _ _ _ _ rfl HT.out 30 _ rfl rfl (by omega) (by omega) HBC.out.size ?_; intro A2 c2 w2 hown2 hfr2 hat2; replace HBC := Lib.hid (below_fr HBC.out hfr2 (fun j ⟨ad, e, h⟩ => by rw [h]; exact (HT.out.addr ad e).2.1)); obtain ⟨g, rfl, hge⟩ := own_some hown2 (by omega); obtain ⟨⟨hfz, u0, hcu⟩, hO3⟩ := own_setB hown2 (i := 0) (by omega) (UInt8.ofNat k); rw [show ((UInt8.ofNat k).toNat : Int) = k by rw [UInt8.toNat_ofNat']; omega] at hO3; obtain ⟨L, hL⟩ : ∃ L, OwnB _ _ _ 38 _ L := ⟨_, hO3⟩; replace HT := Lib.hid (hL.pure ((Below.refl _ _).alloc (Nat.le_refl _) (.cells #[.int .u8 30] 5))); replace HBC := Lib.hid (HBC.out.setCell (p := ⟨g, 0, none⟩) hge (.int .u8 (k : Int))); replace HBC := Lib.hid (HBC.out.alloc HBC.out.size (.cells #[.int .u8 30] 5)); clear hown2 hfr2 hat2 hO3 hL)
                | (at_builtin; refine wpl_app _ rfl (.tmp 54) (.tmp 55) _ rfl 5 _ 1 1 Try.underlying25 info_b rfl (by omega) bc_len bc_one _ _ _ _ _ rfl HT.out _ 1 _ _ rfl (isb_vs_ (vs := #[.int .u8 30]) (n := 1) (by simp) (by rfl) (by rfl)) (by omega) HBC.out.size ?_; intro A4 c4 w4 hown4 hfr4 hat4; replace HBC := Lib.hid (below_fr HBC.out hfr4 (fun j ⟨ad, e, h⟩ => by rw [h]; exact (HT.out.addr ad e).2.1)); obtain ⟨g4, rfl, hge4⟩ := own_some hown4 (by omega); obtain ⟨L4, hL4⟩ : ∃ L, OwnB _ _ _ 39 _ L := ⟨_, hown4⟩; replace HT := Lib.hid hL4; clear hown4 hfr4 hat4 hL4 hfz hcu))
              have hc4 : 39 ≤ c4 := HT.out.cap.1
              go_at_call 46
              refine (of24_spec 38 1 10 8 _).mono ?_
              rintro e wn ⟨rfl, hb⟩
              replace HBC := Lib.hid (pure_below HBC.out hb)
              replace HT := Lib.hid (HT.out.pure hb)
              clear hb
              go_wp2_with fail
              go_at_call 7
              refine (listtells_spec _ 39 c4 38 1 10 8 k _ _ HT.out.is hc4).mono ?_
              rintro e wn ⟨rfl, hb⟩
              replace HBC := Lib.hid (pure_below HBC.out hb)
              replace HT := Lib.hid (HT.out.pure hb)
              clear hb
              go_wp2_with fail
              go_at_call 46
              refine (of24_spec 38 1 11 8 _).mono ?_
              rintro e wn ⟨rfl, hb⟩
              replace HBC := Lib.hid (pure_below HBC.out hb)
              replace HT := Lib.hid (HT.out.pure hb)
              clear hb
              go_wp2_with fail
              go_at_call 7
              refine (listtells_spec _ 39 c4 38 1 11 8 (-9223372036854775808) _ _ HT.out.is hc4).mono ?_
              rintro e wn ⟨rfl, hb⟩
              replace HBC := Lib.hid (pure_below HBC.out hb)
              replace HT := Lib.hid (HT.out.pure hb)
              clear hb
              go_wp2_with fail
              go_at_call 46
              refine (of24_spec 38 1 9 8 _).mono ?_
              rintro e wn ⟨rfl, hb⟩
              replace HBC := Lib.hid (pure_below HBC.out hb)
              replace HT := Lib.hid (HT.out.pure hb)
              clear hb
              go_wp2_with fail
              go_at_call 7
              refine (listtells_spec _ 39 c4 38 1 9 8 ((k : Int) - 1) _ _ HT.out.is hc4).mono ?_
              rintro e wn ⟨rfl, hb⟩
              replace HBC := Lib.hid (pure_below HBC.out hb)
              replace HT := Lib.hid (HT.out.pure hb)
              clear hb
              go_wp2_with fail
              go_at_call 46
              refine (of24_spec 38 1 14 8 _).mono ?_
              rintro e wn ⟨rfl, hb⟩
              replace HBC := Lib.hid (pure_below HBC.out hb)
              replace HT := Lib.hid (HT.out.pure hb)
              clear hb
              go_wp2_with fail
              go_at_call 8
              refine (listwithin_spec _ 39 c4 38 1 14 8 _ _ HT.out.is hc4).mono ?_
              rintro e wn ⟨rfl, hb⟩
              replace HBC := Lib.hid (pure_below HBC.out hb)
              replace HT := Lib.hid (HT.out.pure hb)
              clear hb
              obtain ⟨⟨hfz, u1, hcu⟩, hO3⟩ := own_setB HT.out (i := 7) (by omega) 255
              obtain ⟨L5, hL5⟩ : ∃ L, OwnB (wn.setCell ⟨g4, 7, none⟩ (.int .u8 255)) _ _ 39 _ L := ⟨_, hO3⟩
              replace HT := Lib.hid hL5
              replace HBC := Lib.hid (HBC.out.setCell (p := ⟨g4, 7, none⟩) hge4 (.int .u8 255))
              clear hO3 hL5
              go_wp2_with fail
              go_at_call 46
              refine (of24_spec 38 1 10 8 _).mono ?_
              rintro e wn ⟨rfl, hb⟩
              replace HBC := Lib.hid (pure_below HBC.out hb)
              replace HT := Lib.hid (HT.out.pure hb)
              clear hb
              clear hfz hcu
              go_wp2_with fail
              go_at_call 7
              refine (listtells_spec _ 39 c4 38 1 10 8 k _ _ HT.out.is hc4).mono ?_
              rintro e wn ⟨rfl, hb⟩
              replace HBC := Lib.hid (pure_below HBC.out hb)
              replace HT := Lib.hid (HT.out.pure hb)
              clear hb
              go_wp2_with fail
              go_at_call 46
              refine (of24_spec 38 1 36 8 _).mono ?_
              rintro e wn ⟨rfl, hb⟩
              replace HBC := Lib.hid (pure_below HBC.out hb)
              replace HT := Lib.hid (HT.out.pure hb)
              clear hb
              go_wp2_with fail
              go_at_call 7
              refine (listtells_spec _ 39 c4 38 1 36 8 k _ _ HT.out.is hc4).mono ?_
              rintro e wn ⟨rfl, hb⟩
              replace HBC := Lib.hid (pure_below HBC.out hb)
              replace HT := Lib.hid (HT.out.pure hb)
              clear hb
              go_wp2
              go_roundw
              case rel => exact ⟨k + 1, by omega, by go_num, HBC.out⟩
              case measure => simp [intOf]; omega
            · go_wp2
              go_roundw
              case rel => exact ⟨2 * 8, by decide, rfl, pure_below HB.out HBC.out⟩
              case measure => simp [intOf]
        · go_wp2_with fail
          go_at_call 40
          refine (liworks_spec _).mono ?_
          rintro e w5 ⟨rfl, hb⟩
          replace HB := Lib.hid (pure_below HB.out hb)
          clear hb
          go_wp2_with fail
          go_at_call 46
          refine (of24_spec 0 1 10 1 _).mono ?_
          rintro e w5 ⟨rfl, hb⟩
          replace HB := Lib.hid (pure_below HB.out hb)
          clear hb
          go_wp2_with fail
          go_at_call 7
          refine (listtells_spec none 0 0 0 1 10 1 0 [] _ (Is.nil _ _) (by decide)).mono ?_
          rintro e w5 ⟨rfl, hb⟩
          replace HB := Lib.hid (pure_below HB.out hb)
          clear hb
          go_wp2
          go_ret
          exact ⟨rfl, HB.out⟩

open Go.ChangeShapes Go.WideShapes Go.ChangeAt
theorem listKnown_run (W : World) (_base : Nat) : Calls Try.prog 10 #[] W fun e w' => e = .returned (.bool true) ∧ Below W.heap.size W w' := listknown_spec W

set_option maxRecDepth 100000 in
theorem listKnown_lifted (os : Os) (started : os.Started) (H : Type) (enc : TypeId × Value → H) :
    ReturnsInHanded {} Try.checked os 10 .any (Rows.listKnownSpec.pre6 enc Try.prog Try.f10 Rows.listKnownRow.domain false) (Rows.listKnownSpec.post enc Try.prog Try.f10 false true false false) := by
  refine returnsInHanded_of_change (C := Try.checked) acc_own started (by kernel_rfl) Try.func10
    (ChangeSpec.witness6 (enc := enc) (C := Try.checked) false ⟨#[], #[], []⟩ 8 (by kernel_rfl) (by kernel_rfl) (by kernel_rfl) (by kernel_rfl)) ?_
  intro W base args ds gs before hval0 hW hcnd _
  have hval : ∀ (j : Nat) t v, Try.f10.params[j]? = some t → args[j]? = some v → Value.okWide Try.prog W .any base t v := hval0
  have hW' := hW
  obtain ⟨p, q, hA0, hV, rfl, hfz, hnd⟩ := hW
  have hA : DataW.TrodAll enc Try.prog W 0 (fun _ => true) true Try.f10.params.toList args.toList ds p := hA0
  rw [Try.params10] at hA
  obtain ⟨rfl, rfl, rfl⟩ := trodAll_none hA
  obtain ⟨rfl, rfl⟩ := trodVars_none hV
  clear hA0 hval0
  refine (listKnown_run W base).mono fun e W' ⟨he, bel⟩ => ?_
  subst he
  exact ⟨_, rfl, _, _, _, [], [], [], hW', trodAll_mk1 (shut_bool Try.underlying4 _), trodAll_mk0, rfl, bel.frame _, fun h => by cases h⟩

theorem listKnown_holds : Rows.ListKnownSaid :=
  OpenClaim.holds_of_wide 10 Try.f10 rfl rfl rfl rfl rfl rfl rfl ⟨rfl, rfl, rfl, rfl, rfl⟩ rfl rfl rfl rfl rfl (by kernel_rfl) Try.func10 (by kernel_rfl)
    (of_decide_eq_true (by kernel_rfl)) (by unfold Func.isWrapper; rw [if_neg (of_decide_eq_false (by kernel_rfl))]; exact ⟨rfl, rfl⟩)
    (fun os started H enc _ => listKnown_lifted os started H enc)
#print axioms listKnown_holds
end Go.Proofs.Ytaigofpipoimkaa
