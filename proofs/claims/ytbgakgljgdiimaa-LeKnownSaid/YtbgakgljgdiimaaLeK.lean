/-
  Package le: the property LePuts.
-/
import Derived.Test.YtbgakgljgdiimaaLeRow
namespace Go.Proofs.Ytbgakgljgdiimaa
open Go.RowKit Go.Acc

theorem wrap64_bd (u : Int) : -9223372036854775808 ≤ wrap64 u ∧ wrap64 u ≤ 9223372036854775807 := by unfold wrap64; omega
set_option maxRecDepth 100000 in
set_option maxHeartbeats 1000000 in
theorem leputs_spec (A : Option Addr) (n c u : Nat) (a x : Int) (l : List UInt8) (w : World) (h : IsB w A n l) (hc : n ≤ c) (hu : (u : Int) < 18446744073709551616) :
    Calls Try.prog 4 #[.slice A n c, .agg #[.int .i64 a, .int .i64 x, .int .u64 u]] w fun e w' => e = .returned (.bool true) ∧ Below w.heap.size w w' := by
  have HR := Lib.hid h
  have HUU := Lib.hid hu
  clear h hu
  by_cases h300 : n ≤ 300
  · go_enter Try.func4, Try.ntmps4
    go_wp2_with fail
    have HM := Lib.hid ((HR.out.take bc_len (k := n) (by omega)).alloc (.cells #[.int .i64 a, .int .i64 x, .int .u64 (u : Int)] 34))
    have HK := Lib.hid (Blk.new w 34 #[.int .i64 a, .int .i64 x, .int .u64 (u : Int)])
    have H0 := Lib.hid ((Below.refl w.heap.size w).alloc (Nat.le_refl _) (.cells #[.int .i64 a, .int .i64 x, .int .u64 (u : Int)] 34))
    clear HR
    go_at_call 10
    refine (copyb_spec A (n) c (l.take (n)) _ HM.out (by omega)).mono ?_
    rintro e w1 ⟨A1, n1, c1, rfl, hO1, hb1⟩
    obtain rfl : n = n1 := by rw [← hO1.1, HM.out.1]
    have H0 := Lib.hid (pure_trans H0.out hb1)
    have HB := Lib.hid (Below.refl w1.heap.size w1)
    have HI := Lib.hid hO1.is
    have hc1 := hO1.cap.1
    have HM := Lib.hid (HM.out.pure hb1)
    have V0 := Lib.hid (((HK.out.pure hb1).cell 0).trans (show _ = some (Value.int .i64 a) from rfl))
    have V1 := Lib.hid (((HK.out.pure hb1).cell 1).trans (show _ = some (Value.int .i64 x) from rfl))
    have V2 := Lib.hid (((HK.out.pure hb1).cell 2).trans (show _ = some (Value.int .u64 (u : Int)) from rfl))
    have v0 := V0.out
    have v1 := V1.out
    have v2 := V2.out
    clear hO1 hb1
    go_wp2_with fail
    go_at_call 17
    refine (put_spec A1 (n) c1 u x (l.take (n)) _ (HI.out.pure HB.out) hc1 (by omega) HUU.out).mono ?_
    rintro e w2 ⟨AP, nP, cP, rfl, hOP, hb⟩
    have HPG := Lib.hid (fun ad (h : AP = some ad) => (hOP.addr ad h).2.1)
    have HPL := Lib.hid (fun ad (h : AP = some ad) => (hOP.addr ad h).2.2)
    clear v0 v1 v2
    have HZP := Lib.hid hb.size
    have HB := Lib.hid (pure_below HB.out hb); have v0 := cell_pure HB.out V0.out; have v1 := cell_pure HB.out V1.out; have v2 := cell_pure HB.out V2.out
    have HP := Lib.hid hOP
    clear hOP hb
    go_wp2_with fail
    go_at_call 18
    refine (rput_spec A1 (n) c1 u x (l.take (n)) _ (HI.out.pure HB.out) (by omega) HUU.out).mono ?_
    rintro e w3 ⟨AQ, nQ, cQ, rfl, hOQ, hb⟩
    have HQG := Lib.hid (fun ad (h : AQ = some ad) => (hOQ.addr ad h).2.1)
    have HQL := Lib.hid (fun ad (h : AQ = some ad) => (hOQ.addr ad h).2.2)
    clear v0 v1 v2
    have HZQ := Lib.hid hb.size
    have HB := Lib.hid (pure_below HB.out hb); have v0 := cell_pure HB.out V0.out; have v1 := cell_pure HB.out V1.out; have v2 := cell_pure HB.out V2.out
    have HQ := Lib.hid hOQ
    have HP := Lib.hid (HP.out.pure hb)
    clear hOQ hb
    go_wp2_with fail
    go_at_call 19
    refine (puti_spec A1 (n) c1 x (wrap64 u) (l.take (n)) _ (HI.out.pure HB.out) hc1 (by omega) (wrap64_bd u)).mono ?_
    rintro e w4 ⟨AR, nR, cR, rfl, hOR, hb⟩
    have HRG := Lib.hid (fun ad (h : AR = some ad) => (hOR.addr ad h).2.1)
    have HRL := Lib.hid (fun ad (h : AR = some ad) => (hOR.addr ad h).2.2)
    clear v0 v1 v2
    have HZR := Lib.hid hb.size
    have HB := Lib.hid (pure_below HB.out hb); have v0 := cell_pure HB.out V0.out; have v1 := cell_pure HB.out V1.out; have v2 := cell_pure HB.out V2.out
    have HR := Lib.hid hOR
    have HP := Lib.hid (HP.out.pure hb)
    have HQ := Lib.hid (HQ.out.pure hb)
    clear hOR hb
    go_wp2_with fail
    go_at_call 20
    refine (rputi_spec A1 (n) c1 x (wrap64 u) (l.take (n)) _ (HI.out.pure HB.out) (by omega) (wrap64_bd u)).mono ?_
    rintro e w5 ⟨AS, nS, cS, rfl, hOS, hb⟩
    have HSG := Lib.hid (fun ad (h : AS = some ad) => (hOS.addr ad h).2.1)
    have HSL := Lib.hid (fun ad (h : AS = some ad) => (hOS.addr ad h).2.2)
    clear v0 v1 v2
    have HZS := Lib.hid hb.size
    have HB := Lib.hid (pure_below HB.out hb); have v0 := cell_pure HB.out V0.out; have v1 := cell_pure HB.out V1.out; have v2 := cell_pure HB.out V2.out
    have HS := Lib.hid hOS
    have HP := Lib.hid (HP.out.pure hb)
    have HQ := Lib.hid (HQ.out.pure hb)
    have HR := Lib.hid (HR.out.pure hb)
    clear hOS hb
    go_wp2_with fail
    go_at_call 21
    refine (set_spec A1 (n) c1 u a x (l.take (n)) _ (HI.out.pure HB.out) (by omega) HUU.out).mono ?_
    rintro e w6 ⟨AT', nT, cT, rfl, hOT, hb⟩
    have HTG := Lib.hid (fun ad (h : AT' = some ad) => (hOT.addr ad h).2.1)
    have HTL := Lib.hid (fun ad (h : AT' = some ad) => (hOT.addr ad h).2.2)
    clear v0 v1 v2
    have HZT := Lib.hid hb.size
    have HB := Lib.hid (pure_below HB.out hb); have v0 := cell_pure HB.out V0.out; have v1 := cell_pure HB.out V1.out; have v2 := cell_pure HB.out V2.out
    have HT := Lib.hid hOT
    have HP := Lib.hid (HP.out.pure hb)
    have HQ := Lib.hid (HQ.out.pure hb)
    have HR := Lib.hid (HR.out.pure hb)
    have HS := Lib.hid (HS.out.pure hb)
    clear hOT hb
    go_wp2_with fail
    go_at_call 22
    refine (rset_spec A1 (n) c1 u a x (l.take (n)) _ (HI.out.pure HB.out) hc1 (by omega) HUU.out).mono ?_
    rintro e w7 ⟨AU, nU, cU, rfl, hOU, hb⟩
    have HUG := Lib.hid (fun ad (h : AU = some ad) => (hOU.addr ad h).2.1)
    have HUL := Lib.hid (fun ad (h : AU = some ad) => (hOU.addr ad h).2.2)
    clear v0 v1 v2
    have HZU := Lib.hid hb.size
    have HB := Lib.hid (pure_below HB.out hb); have v0 := cell_pure HB.out V0.out; have v1 := cell_pure HB.out V1.out; have v2 := cell_pure HB.out V2.out
    have HU := Lib.hid hOU
    have HP := Lib.hid (HP.out.pure hb)
    have HQ := Lib.hid (HQ.out.pure hb)
    have HR := Lib.hid (HR.out.pure hb)
    have HS := Lib.hid (HS.out.pure hb)
    have HT := Lib.hid (HT.out.pure hb)
    clear hOU hb
    go_wp2_with fail
    go_at_call 15
    refine (eqb_spec AP AQ nP nQ cP cQ _ _ _ HP.out.is HQ.out.is).mono ?_
    rw [eqB_self]
    rintro e w' ⟨rfl, rfl⟩
    go_wp2_with fail
    go_at_call 15
    refine (eqb_spec AR AS nR nS cR cS _ _ _ HR.out.is HS.out.is).mono ?_
    rw [eqB_self]
    rintro e w' ⟨rfl, rfl⟩
    go_wp2_with fail
    go_at_call 15
    refine (eqb_spec AT' AU nT nU cT cU _ _ _ HT.out.is HU.out.is).mono ?_
    rw [eqB_self]
    rintro e w' ⟨rfl, rfl⟩
    go_wp2_with fail
    go_at_call 23
    refine (spoil_spec AP nP cP _ _ _ HP.out).mono ?_
    rintro e w8 ⟨rfl, hf⟩
    have HB := Lib.hid (below_fr HB.out hf (by rintro k ⟨ad, h, rfl⟩; exact HPG.out ad h))
    have HR := Lib.hid (HR.out.fr hf (by rintro ad h ⟨ad', h', e⟩; have := HRG.out ad h; have := HPL.out ad' h'; have := HZQ.out; omega))
    have HT := Lib.hid (HT.out.fr hf (by rintro ad h ⟨ad', h', e⟩; have := HTG.out ad h; have := HPL.out ad' h'; have := HZQ.out; have := HZR.out; have := HZS.out; omega))
    clear hf v0 v1 v2 HP HQ HS HU
    go_wp2_with fail
    go_at_call 23
    refine (spoil_spec AR nR cR _ _ _ HR.out).mono ?_
    rintro e w9 ⟨rfl, hf⟩
    have HB := Lib.hid (below_fr HB.out hf (by rintro k ⟨ad, h, rfl⟩; have := HRG.out ad h; have := HZP.out; have := HZQ.out; omega))
    have HT := Lib.hid (HT.out.fr hf (by rintro ad h ⟨ad', h', e⟩; have := HTG.out ad h; have := HRL.out ad' h'; have := HZS.out; omega))
    clear hf HR
    go_wp2_with fail
    go_at_call 23
    refine (spoil_spec AT' nT cT _ _ _ HT.out).mono ?_
    rintro e w10 ⟨rfl, hf⟩
    have HB := Lib.hid (below_fr HB.out hf (by rintro k ⟨ad, h, rfl⟩; have := HTG.out ad h; have := HZP.out; have := HZQ.out; have := HZR.out; have := HZS.out; omega))
    have HI := Lib.hid (HI.out.pure HB.out)
    have HM := Lib.hid (HM.out.pure HB.out)
    clear hf HT HUU
    go_wp2_with (first
      | (go_at_call 15; refine (eqb_spec A1 A (n) (n) c1 c _ _ _ HI.out HM.out).mono ?_; rw [eqB_self]; rintro e w' ⟨rfl, rfl⟩)
      | (go_at_call 16; refine (works_spec _).mono ?_; rintro e w11 ⟨rfl, hb⟩; have HB := Lib.hid (pure_below HB.out hb); clear hb))
    go_ret
    exact ⟨rfl, pure_trans H0.out HB.out⟩
  · have h3 : 300 < n := by omega
    clear h300
    go_enter Try.func4, Try.ntmps4
    go_wp2_with fail
    have HM := Lib.hid ((HR.out.take bc_len (k := 300) (by omega)).alloc (.cells #[.int .i64 a, .int .i64 x, .int .u64 (u : Int)] 34))
    have HK := Lib.hid (Blk.new w 34 #[.int .i64 a, .int .i64 x, .int .u64 (u : Int)])
    have H0 := Lib.hid ((Below.refl w.heap.size w).alloc (Nat.le_refl _) (.cells #[.int .i64 a, .int .i64 x, .int .u64 (u : Int)] 34))
    clear HR
    go_at_call 10
    refine (copyb_spec A (300) c (l.take (300)) _ HM.out (by omega)).mono ?_
    rintro e w1 ⟨A1, n1, c1, rfl, hO1, hb1⟩
    obtain rfl : 300 = n1 := by rw [← hO1.1, HM.out.1]
    have H0 := Lib.hid (pure_trans H0.out hb1)
    have HB := Lib.hid (Below.refl w1.heap.size w1)
    have HI := Lib.hid hO1.is
    have hc1 := hO1.cap.1
    have HM := Lib.hid (HM.out.pure hb1)
    have V0 := Lib.hid (((HK.out.pure hb1).cell 0).trans (show _ = some (Value.int .i64 a) from rfl))
    have V1 := Lib.hid (((HK.out.pure hb1).cell 1).trans (show _ = some (Value.int .i64 x) from rfl))
    have V2 := Lib.hid (((HK.out.pure hb1).cell 2).trans (show _ = some (Value.int .u64 (u : Int)) from rfl))
    have v0 := V0.out
    have v1 := V1.out
    have v2 := V2.out
    clear hO1 hb1
    go_wp2_with fail
    go_at_call 17
    refine (put_spec A1 (300) c1 u x (l.take (300)) _ (HI.out.pure HB.out) hc1 (by omega) HUU.out).mono ?_
    rintro e w2 ⟨AP, nP, cP, rfl, hOP, hb⟩
    have HPG := Lib.hid (fun ad (h : AP = some ad) => (hOP.addr ad h).2.1)
    have HPL := Lib.hid (fun ad (h : AP = some ad) => (hOP.addr ad h).2.2)
    clear v0 v1 v2
    have HZP := Lib.hid hb.size
    have HB := Lib.hid (pure_below HB.out hb); have v0 := cell_pure HB.out V0.out; have v1 := cell_pure HB.out V1.out; have v2 := cell_pure HB.out V2.out
    have HP := Lib.hid hOP
    clear hOP hb
    go_wp2_with fail
    go_at_call 18
    refine (rput_spec A1 (300) c1 u x (l.take (300)) _ (HI.out.pure HB.out) (by omega) HUU.out).mono ?_
    rintro e w3 ⟨AQ, nQ, cQ, rfl, hOQ, hb⟩
    have HQG := Lib.hid (fun ad (h : AQ = some ad) => (hOQ.addr ad h).2.1)
    have HQL := Lib.hid (fun ad (h : AQ = some ad) => (hOQ.addr ad h).2.2)
    clear v0 v1 v2
    have HZQ := Lib.hid hb.size
    have HB := Lib.hid (pure_below HB.out hb); have v0 := cell_pure HB.out V0.out; have v1 := cell_pure HB.out V1.out; have v2 := cell_pure HB.out V2.out
    have HQ := Lib.hid hOQ
    have HP := Lib.hid (HP.out.pure hb)
    clear hOQ hb
    go_wp2_with fail
    go_at_call 19
    refine (puti_spec A1 (300) c1 x (wrap64 u) (l.take (300)) _ (HI.out.pure HB.out) hc1 (by omega) (wrap64_bd u)).mono ?_
    rintro e w4 ⟨AR, nR, cR, rfl, hOR, hb⟩
    have HRG := Lib.hid (fun ad (h : AR = some ad) => (hOR.addr ad h).2.1)
    have HRL := Lib.hid (fun ad (h : AR = some ad) => (hOR.addr ad h).2.2)
    clear v0 v1 v2
    have HZR := Lib.hid hb.size
    have HB := Lib.hid (pure_below HB.out hb); have v0 := cell_pure HB.out V0.out; have v1 := cell_pure HB.out V1.out; have v2 := cell_pure HB.out V2.out
    have HR := Lib.hid hOR
    have HP := Lib.hid (HP.out.pure hb)
    have HQ := Lib.hid (HQ.out.pure hb)
    clear hOR hb
    go_wp2_with fail
    go_at_call 20
    refine (rputi_spec A1 (300) c1 x (wrap64 u) (l.take (300)) _ (HI.out.pure HB.out) (by omega) (wrap64_bd u)).mono ?_
    rintro e w5 ⟨AS, nS, cS, rfl, hOS, hb⟩
    have HSG := Lib.hid (fun ad (h : AS = some ad) => (hOS.addr ad h).2.1)
    have HSL := Lib.hid (fun ad (h : AS = some ad) => (hOS.addr ad h).2.2)
    clear v0 v1 v2
    have HZS := Lib.hid hb.size
    have HB := Lib.hid (pure_below HB.out hb); have v0 := cell_pure HB.out V0.out; have v1 := cell_pure HB.out V1.out; have v2 := cell_pure HB.out V2.out
    have HS := Lib.hid hOS
    have HP := Lib.hid (HP.out.pure hb)
    have HQ := Lib.hid (HQ.out.pure hb)
    have HR := Lib.hid (HR.out.pure hb)
    clear hOS hb
    go_wp2_with fail
    go_at_call 21
    refine (set_spec A1 (300) c1 u a x (l.take (300)) _ (HI.out.pure HB.out) (by omega) HUU.out).mono ?_
    rintro e w6 ⟨AT', nT, cT, rfl, hOT, hb⟩
    have HTG := Lib.hid (fun ad (h : AT' = some ad) => (hOT.addr ad h).2.1)
    have HTL := Lib.hid (fun ad (h : AT' = some ad) => (hOT.addr ad h).2.2)
    clear v0 v1 v2
    have HZT := Lib.hid hb.size
    have HB := Lib.hid (pure_below HB.out hb); have v0 := cell_pure HB.out V0.out; have v1 := cell_pure HB.out V1.out; have v2 := cell_pure HB.out V2.out
    have HT := Lib.hid hOT
    have HP := Lib.hid (HP.out.pure hb)
    have HQ := Lib.hid (HQ.out.pure hb)
    have HR := Lib.hid (HR.out.pure hb)
    have HS := Lib.hid (HS.out.pure hb)
    clear hOT hb
    go_wp2_with fail
    go_at_call 22
    refine (rset_spec A1 (300) c1 u a x (l.take (300)) _ (HI.out.pure HB.out) hc1 (by omega) HUU.out).mono ?_
    rintro e w7 ⟨AU, nU, cU, rfl, hOU, hb⟩
    have HUG := Lib.hid (fun ad (h : AU = some ad) => (hOU.addr ad h).2.1)
    have HUL := Lib.hid (fun ad (h : AU = some ad) => (hOU.addr ad h).2.2)
    clear v0 v1 v2
    have HZU := Lib.hid hb.size
    have HB := Lib.hid (pure_below HB.out hb); have v0 := cell_pure HB.out V0.out; have v1 := cell_pure HB.out V1.out; have v2 := cell_pure HB.out V2.out
    have HU := Lib.hid hOU
    have HP := Lib.hid (HP.out.pure hb)
    have HQ := Lib.hid (HQ.out.pure hb)
    have HR := Lib.hid (HR.out.pure hb)
    have HS := Lib.hid (HS.out.pure hb)
    have HT := Lib.hid (HT.out.pure hb)
    clear hOU hb
    go_wp2_with fail
    go_at_call 15
    refine (eqb_spec AP AQ nP nQ cP cQ _ _ _ HP.out.is HQ.out.is).mono ?_
    rw [eqB_self]
    rintro e w' ⟨rfl, rfl⟩
    go_wp2_with fail
    go_at_call 15
    refine (eqb_spec AR AS nR nS cR cS _ _ _ HR.out.is HS.out.is).mono ?_
    rw [eqB_self]
    rintro e w' ⟨rfl, rfl⟩
    go_wp2_with fail
    go_at_call 15
    refine (eqb_spec AT' AU nT nU cT cU _ _ _ HT.out.is HU.out.is).mono ?_
    rw [eqB_self]
    rintro e w' ⟨rfl, rfl⟩
    go_wp2_with fail
    go_at_call 23
    refine (spoil_spec AP nP cP _ _ _ HP.out).mono ?_
    rintro e w8 ⟨rfl, hf⟩
    have HB := Lib.hid (below_fr HB.out hf (by rintro k ⟨ad, h, rfl⟩; exact HPG.out ad h))
    have HR := Lib.hid (HR.out.fr hf (by rintro ad h ⟨ad', h', e⟩; have := HRG.out ad h; have := HPL.out ad' h'; have := HZQ.out; omega))
    have HT := Lib.hid (HT.out.fr hf (by rintro ad h ⟨ad', h', e⟩; have := HTG.out ad h; have := HPL.out ad' h'; have := HZQ.out; have := HZR.out; have := HZS.out; omega))
    clear hf v0 v1 v2 HP HQ HS HU
    go_wp2_with fail
    go_at_call 23
    refine (spoil_spec AR nR cR _ _ _ HR.out).mono ?_
    rintro e w9 ⟨rfl, hf⟩
    have HB := Lib.hid (below_fr HB.out hf (by rintro k ⟨ad, h, rfl⟩; have := HRG.out ad h; have := HZP.out; have := HZQ.out; omega))
    have HT := Lib.hid (HT.out.fr hf (by rintro ad h ⟨ad', h', e⟩; have := HTG.out ad h; have := HRL.out ad' h'; have := HZS.out; omega))
    clear hf HR
    go_wp2_with fail
    go_at_call 23
    refine (spoil_spec AT' nT cT _ _ _ HT.out).mono ?_
    rintro e w10 ⟨rfl, hf⟩
    have HB := Lib.hid (below_fr HB.out hf (by rintro k ⟨ad, h, rfl⟩; have := HTG.out ad h; have := HZP.out; have := HZQ.out; have := HZR.out; have := HZS.out; omega))
    have HI := Lib.hid (HI.out.pure HB.out)
    have HM := Lib.hid (HM.out.pure HB.out)
    clear hf HT HUU
    go_wp2_with (first
      | (go_at_call 15; refine (eqb_spec A1 A (300) (300) c1 c _ _ _ HI.out HM.out).mono ?_; rw [eqB_self]; rintro e w' ⟨rfl, rfl⟩)
      | (go_at_call 16; refine (works_spec _).mono ?_; rintro e w11 ⟨rfl, hb⟩; have HB := Lib.hid (pure_below HB.out hb); clear hb))
    go_ret
    exact ⟨rfl, pure_trans H0.out HB.out⟩

open Go.ChangeShapes Go.WideShapes Go.ChangeAt
theorem lePuts_run {H : Type} {enc : TypeId × Value → H} {v0 v1 : Value} {d0 d1 : DataW H} {p0 p1 : List MemPlace} (W : World) (base : Nat) (k0 : Value.okWide Try.prog W .any base 22 v0) (k1 : Value.okWide Try.prog W .any base 34 v1)
    (h0 : DataW.Trod enc Try.prog W 0 (fun _ => true) true 22 v0 d0 p0) (h1 : DataW.Trod enc Try.prog W 0 (fun _ => true) true 34 v1 d1 p1) :
    Calls Try.prog 4 #[v0, v1] W fun e w' => e = .returned (.bool true) ∧ Below W.heap.size W w' := by
  obtain ⟨A, n, c, l, rfl, hI, hc, _⟩ := bytes_arg k0 h0
  obtain ⟨a, x, u, rfl, _, _, hu⟩ := case_arg k1 h1
  exact leputs_spec A n c u a x l W hI hc hu

set_option maxRecDepth 100000 in
theorem lePuts_lifted (os : Os) (started : os.Started) (H : Type) (enc : TypeId × Value → H) :
    ReturnsInHanded {} Try.checked os 4 .any (Rows.lePutsSpec.pre6 enc Try.prog Try.f4 Rows.lePutsRow.domain false) (Rows.lePutsSpec.post enc Try.prog Try.f4 false true false false) := by
  refine returnsInHanded_of_change (C := Try.checked) acc_own started (by kernel_rfl) Try.func4
    (ChangeSpec.witness6 (enc := enc) (C := Try.checked) false ⟨#[], #[.slice none 0 0, .agg #[.int .i64 0, .int .i64 0, .int .u64 0]], []⟩ 8 (by kernel_rfl) (by kernel_rfl) (by kernel_rfl) (by kernel_rfl)) ?_
  intro W base args ds gs before hval0 hW hcnd _
  have hval : ∀ (j : Nat) t v, Try.f4.params[j]? = some t → args[j]? = some v → Value.okWide Try.prog W .any base t v := hval0
  have hW' := hW
  obtain ⟨p, q, hA0, hV, rfl, hfz, hnd⟩ := hW
  have hA : DataW.TrodAll enc Try.prog W 0 (fun _ => true) true Try.f4.params.toList args.toList ds p := hA0
  rw [Try.params4] at hA
  rw [Try.params4] at hval
  obtain ⟨v0, vs0, d0, ds0, p0, q0, hargs, rfl, rfl, h0, r0⟩ := trodAll_cons hA
  obtain ⟨v1, vs1, d1, ds1, p1, q1, rfl, rfl, rfl, h1, r1⟩ := trodAll_cons r0
  obtain ⟨rfl, rfl, rfl⟩ := trodAll_nil r1
  obtain rfl : args = #[v0, v1] := by cases args; simp_all
  obtain ⟨rfl, rfl⟩ := trodVars_none hV
  have k0 := hval 0 22 v0 rfl rfl
  have k1 := hval 1 34 v1 rfl rfl
  clear hA0 hval0
  refine (lePuts_run (enc := enc) W base k0 k1 h0 h1).mono fun e W' ⟨he, bel⟩ => ?_
  subst he
  exact ⟨_, rfl, _, _, _, [], _, [], hW', trodAll_mk1 (shut_bool Try.underlying4 _), (trodAll_cons_mk (below_arg acc_laidOut (by kernel_rfl) (of_decide_eq_true (by kernel_rfl)) h0 bel) (trodAll_cons_mk (below_arg acc_laidOut (by kernel_rfl) (of_decide_eq_true (by kernel_rfl)) h1 bel) trodAll_mk0)), rfl, bel.frame _, fun h => by cases h⟩

theorem lePuts_holds : Rows.LePutsSaid :=
  OpenClaim.holds_of_wide 4 Try.f4 rfl rfl rfl rfl rfl rfl rfl ⟨rfl, rfl, rfl, rfl, rfl⟩ rfl rfl rfl rfl rfl (by kernel_rfl) Try.func4 (by kernel_rfl)
    (of_decide_eq_true (by kernel_rfl)) (by unfold Func.isWrapper; rw [if_neg (of_decide_eq_false (by kernel_rfl))]; exact ⟨rfl, rfl⟩)
    (fun os started H enc _ => lePuts_lifted os started H enc)
#print axioms lePuts_holds
end Go.Proofs.Ytbgakgljgdiimaa
