/-
  Package minimal: the iterator over the elements of a vector or a map.
-/
import Derived.Test.YtejalfjeihlpeaaGreatQ31
import Derived.RangeFuncNested
import Derived.RangeFuncBound
import Derived.RangeFuncCalls
import Derived.RangeFuncLeaves
import Derived.Shelf.Abstract
import Derived.Shelf.RegionOpen
import Derived.OwnWalkIn
import Derived.TacticsInMore
import Derived.LoopNIn
import Derived.LoopIn
namespace Go.Proofs.YtejalfjeihlpeaaGreat
open Go.RowKit Go.Acc
attribute [local go_sem] Oper.semAt_some
theorem belowG {w w' : World} (h : Below w.heap.size w w') : w.grownBy w' none := ⟨h.os, h.tape, h.output, h.size, fun k hk _ => h.block k hk⟩
/-- What the iterator reads between two rounds. -/
structure ItF (E : MnE) (p q t v : Int) (bx br : Nat) (w : World) : Prop where
  m : MnB E w
  x : Blk w bx 68 #[.pointer (some ⟨E.bw, 0, none⟩)]
  r : Blk w br 48 #[.int .i64 p, .int .i64 q, .int .i64 t, .int .i64 v]
theorem ItF.pure {E : MnE} {p q t v : Int} {bx br : Nat} {w w' : World} (h : ItF E p q t v bx br w) (hb : Below w.heap.size w w') : ItF E p q t v bx br w' := ⟨h.m.pure hb, h.x.pure hb, h.r.pure hb⟩
/-- What a round keeps. -/
def ItK (E : MnE) (p q t v : Int) (bx br : Nat) (w w' : World) : Prop := ItF E p q t v bx br w → ItF E p q t v bx br w'
/-- The i-th element, as it is handed over. -/
def encE (l : List UInt8) (r : Rq) (N : Nat) (i : Fin N) : Array Value := #[.int .i64 (i.val : Int), .agg #[.int .i64 (cvAt l r i.val).p, .int .i64 (cvAt l r i.val).q, .int .i64 (cvAt l r i.val).t, .int .i64 (cvAt l r i.val).v]]
set_option maxHeartbeats 400000 in
theorem elems_spec (E : MnE) (p q t v : Int) (w : World) : Calls Tryz.prog 74 #[.pointer (some ⟨E.bw, 0, none⟩), .agg #[.int .i64 p, .int .i64 q, .int .i64 t, .int .i64 v]] w fun e w' => e = .returned (.func (.func 110) #[] #[.pointer (some ⟨w.heap.size, 0, none⟩), .pointer (some ⟨w.heap.size + 1, 0, none⟩)]) ∧ w' = (w.alloc (.cells #[.pointer (some ⟨E.bw, 0, none⟩)] 68)).alloc (.cells #[.int .i64 p, .int .i64 q, .int .i64 t, .int .i64 v] 48) := by
  go_enter Tryz.func74, Tryz.ntmps74
  go_wp2
  go_ret
  exact ⟨rfl, rfl⟩
theorem lsLen_le (l : List UInt8) (p q t v : Int) : lsLen l p q t v ≤ l.length := by
  by_cases h : lsE l p q t v = 0
  · obtain ⟨h1, _, _, h4⟩ := ls_room h
    have h5 : lsLen l p q t v * 1 ≤ lsLen l p q t v * (v.toNat + tgs t) := Nat.mul_le_mul_left _ (by omega)
    omega
  · unfold lsLen
    rw [if_neg h]
    exact Nat.zero_le _
set_option maxRecDepth 100000 in
set_option maxHeartbeats 2000000 in
theorem elems1_stops (E : MnE) (p q t v : Int) (bx br N : Nat) (w : World) (hN : lsLen E.l p q t v = N) (h : ItF E p q t v bx br w) (n : Nat) (hn : 1 ≤ n) :
    SeqStopsK Fence.wide n Tryz.prog 110 #[.pointer (some ⟨bx, 0, none⟩), .pointer (some ⟨br, 0, none⟩)] (encE E.l ⟨p, q, t, v⟩ N) (ItK E p q t v bx br) (fun xs => xs = List.finRange N) (fun pre => pre <+: List.finRange N) N w := by
  intro l J Jx W hW hJ hJx hY h0
  have HI := Lib.hid (h.pure hW)
  have HJ := Lib.hid h0
  have HJA := Lib.hid hJ
  have HY := Lib.hid hY
  have HN := Lib.hid hN
  clear h hW h0 hJ hY hN hJx
  refine callsIn_wide.2 ?_
  obtain ⟨er, he⟩ : ∃ a, lsE E.l p q t v = a := ⟨_, rfl⟩
  have HEE := Lib.hid he
  have HNI := Lib.hid (show (lsLen E.l p q t v : Int) = (N : Int) by rw [HN.out])
  have hcc := HI.out.m.hc
  have hnn := HI.out.m.hn
  have hNb : N ≤ 4294967296 := by have h1 := lsLen_le E.l p q t v; have h2 := HI.out.m.b.1; have h3 := HN.out; omega
  clear he
  have c0 := HI.out.m.c0
  have b0 : W.cell? ⟨bx, 0, none⟩ = some (.pointer (some ⟨E.bw, 0, none⟩)) := HI.out.x.cell 0
  have x0 := cell0 HI.out.r
  have x1 := cell1 HI.out.r
  have x2 := cell2 HI.out.r
  have x3 := cell3 HI.out.r
  go_enter Tryz.func110, Tryz.ntmps110
  go_wp2_with fail
  go_region_held3 (fun w' => w'.cell? ⟨bx, 0, none⟩ = some (.pointer (some ⟨E.bw, 0, none⟩)) ∧ w'.cell? ⟨E.bw, 0, none⟩ = some (.slice E.A E.n E.c) ∧ (w'.cell? ⟨br, 0, none⟩ = some (.int .i64 p) ∧ w'.cell? ⟨br, 1, none⟩ = some (.int .i64 q) ∧ w'.cell? ⟨br, 2, none⟩ = some (.int .i64 t) ∧ w'.cell? ⟨br, 3, none⟩ = some (.int .i64 v)))
    (first | with_reducible exact ⟨b0, c0, x0, x1, x2, x3⟩ | with_reducible exact ⟨ldrew_ b0, ldrew_ c0, ldrew_ x0, ldrew_ x1, ldrew_ x2, ldrew_ x3⟩)
    (first | (go_at_call 91; (with_reducible refine (llen_is E.A E.n E.c p q t v N er E.l _ HI.out.m.drew.b hcc (by omega) HNI.out HEE.out).mono ?_); rintro e w5 ⟨rfl, hb⟩; have hb2 := pure_trans (below_drew W) hb; replace HI := Lib.hid (HI.out.pure hb2); replace HJ := Lib.hid (HJA.out _ _ _ none HJ.out (belowG hb2) (fun r e => by cases e)); replace b0 := cell_pure hb2 b0; replace c0 := cell_pure hb2 c0; replace x0 := cell_pure hb2 x0; replace x1 := cell_pure hb2 x1; replace x2 := cell_pure hb2 x2; replace x3 := cell_pure hb2 x3; clear hb hb2))
  clear b0 c0 x0 x1 x2 x3
  go_wp2_with fail
  go_loopw [19] (fun u wr => ∃ k : Nat, u = .int .i64 k ∧ k ≤ N ∧ ItF E p q t v bx br wr ∧ J ((List.finRange N).take k) wr) (fun u _ => N - (intOf u).toNat)
  case atStart => exact ⟨0, rfl, Nat.zero_le _, HI.out, by rw [List.take_zero]; exact HJ.out⟩
  case round =>
    clear HI HJ
    obtain ⟨k, rfl, hkN, hI1, hJ1⟩ := hrel
    have HI := Lib.hid hI1
    have HJ := Lib.hid hJ1
    clear hI1 hJ1
    by_cases hk : k < N
    · obtain ⟨kp, hk1⟩ : ∃ x, atP E.l p q t v k = x := ⟨_, rfl⟩
      obtain ⟨kq, hk2⟩ : ∃ x, atQ E.l p q t v k = x := ⟨_, rfl⟩
      obtain ⟨kt, hk3⟩ : ∃ x, atT E.l p q t v k = x := ⟨_, rfl⟩
      obtain ⟨kv, hk4⟩ : ∃ x, atV E.l p q t v k = x := ⟨_, rfl⟩
      obtain ⟨ee, hee'⟩ : ∃ x, atE E.l p q t v k = x := ⟨_, rfl⟩
      have HP := Lib.hid hk1
      have HQQ := Lib.hid hk2
      have HT := Lib.hid hk3
      have HV := Lib.hid hk4
      have HKE := Lib.hid hee'
      clear hk1 hk2 hk3 hk4 hee'
      go_upto_region 4 with fail
      go_cut [7, 8] (fun u7 u8 wx => ∃ wy, wy = wx ∧ u8 = .int .i64 ee ∧ ∃ g, u7 = .pointer (some ⟨g, 0, none⟩) ∧ Blk wx g 48 #[.int .i64 kp, .int .i64 kq, .int .i64 kt, .int .i64 kv] ∧ Below wr.heap.size wr wx)
      case first =>
        have HQ := Lib.hid (Below.refl wr.heap.size wr)
        have HL := Lib.hid HI.out.m.b
        have HX0 := Lib.hid HI.out
        have HB0 := Lib.hid (show wr.cell? ⟨bx, 0, none⟩ = some (.pointer (some ⟨E.bw, 0, none⟩)) from HI.out.x.cell 0)
        have hn1 : E.bw ≠ wr.heap.size := by have := lt_of_cell HI.out.m.c0; simp only at this; omega
        have hn2 : br ≠ wr.heap.size := by have := HI.out.r.lt; omega
        have hn3 : bx ≠ wr.heap.size := by have := HI.out.x.lt; omega
        have c0 := HI.out.m.c0
        have b0 : wr.cell? ⟨bx, 0, none⟩ = some (.pointer (some ⟨E.bw, 0, none⟩)) := HI.out.x.cell 0
        have x0 := cell0 HI.out.r
        have x1 := cell1 HI.out.r
        have x2 := cell2 HI.out.r
        have x3 := cell3 HI.out.r
        clear HI HJ
        go_region_held3 (fun w' => w'.cell? ⟨bx, 0, none⟩ = some (.pointer (some ⟨E.bw, 0, none⟩)) ∧ w'.cell? ⟨E.bw, 0, none⟩ = some (.slice E.A E.n E.c) ∧ (w'.cell? ⟨br, 0, none⟩ = some (.int .i64 p) ∧ w'.cell? ⟨br, 1, none⟩ = some (.int .i64 q) ∧ w'.cell? ⟨br, 2, none⟩ = some (.int .i64 t) ∧ w'.cell? ⟨br, 3, none⟩ = some (.int .i64 v)))
          ((with_reducible refine ⟨?_, ?_, ?_, ?_, ?_, ?_⟩) <;> (repeat (first | with_reducible assumption | with_reducible refine ldrew ?_ | with_reducible refine lalloc _ ?_ | with_reducible refine lsetA ?_ ?_)))
          (first | (go_at_call 93; (first | (with_reducible refine (lat_is E.A E.n E.c p q t v k kp kq kt kv ee E.l _ (HL.out.pure HQ.out.drew) hcc (by omega) HP.out HQQ.out HT.out HV.out HKE.out).mono ?_) | (with_reducible refine (lat_is E.A E.n E.c p q t v k kp kq kt kv ee E.l _ (HL.out.pure (HQ.out.alloc HQ.out.size _).drew) hcc (by omega) HP.out HQQ.out HT.out HV.out HKE.out).mono ?_)); rintro e w7 ⟨rfl, hb⟩; (first | (with_reducible replace HQ := Lib.hid (pure_below HQ.out.drew hb)) | ((with_reducible have HK := Lib.hid ((Blk.new wr 48 #[.int .i64 0, .int .i64 0, .int .i64 0, .int .i64 0]).drew.pure hb)); (with_reducible replace HQ := Lib.hid (pure_below (HQ.out.alloc HQ.out.size _).drew hb)); have q0 := cell0 HK.out; have q1 := cell1 HK.out; have q2 := cell2 HK.out; have q3 := cell3 HK.out; have p0 := HK.out.frozen 0; have p1 := HK.out.frozen 1; have p2 := HK.out.frozen 2; have p3 := HK.out.frozen 3)); replace b0 := cell_pure HQ.out HB0.out; replace c0 := cell_pure HQ.out HX0.out.m.c0; replace x0 := cell_pure HQ.out (cell0 HX0.out.r); replace x1 := cell_pure HQ.out (cell1 HX0.out.r); replace x2 := cell_pure HQ.out (cell2 HX0.out.r); replace x3 := cell_pure HQ.out (cell3 HX0.out.r); have hn4 : E.bw ≠ w7.heap.size := (by have := lt_of_cell c0; simp only at this; omega); have hn5 : br ≠ w7.heap.size := (by have := lt_of_cell x0; simp only at this; omega); have hn6 : bx ≠ w7.heap.size := (by have := lt_of_cell b0; simp only at this; omega); clear hb))
        all_goals
          go_wp2_with fail
          go_meet
          first
            | with_reducible exact ⟨_, rfl, rfl, _, rfl, Blk.new _ _ _, HQ.out.alloc HQ.out.size _⟩
            | exact ⟨_, rfl, rfl, _, rfl, (((HK.out.set_ 0 _).set_ 1 _).set_ 2 _).set_ 3 _, below_set4 _ HQ.out (Nat.le_refl _) _ _ _ _⟩
      case rest =>
      obtain ⟨w6, rfl, rfl, g, rfl, hK, hb⟩ := hcut
      replace HI := Lib.hid (HI.out.pure hb)
      replace HJ := Lib.hid (HJA.out _ _ _ none HJ.out (belowG hb) (fun r e => by cases e))
      have k0 := cell0 hK
      have k1 := cell1 hK
      have k2 := cell2 hK
      have k3 := cell3 hK
      have henc : encE E.l ⟨p, q, t, v⟩ N ⟨k, hk⟩ = #[.int .i64 (k : Int), .agg #[.int .i64 kp, .int .i64 kq, .int .i64 kt, .int .i64 kv]] := by
        unfold encE cvAt
        simp only [HP.out, HQQ.out, HT.out, HV.out]
      obtain ⟨fn, tmps, assign, body, hy, hR⟩ := HY.out ((List.finRange N).take k) ⟨k, hk⟩ _ HJ.out (by rw [List.length_take, List.length_finRange]; omega)
      rw [henc] at hy
      clear hb hK henc
      go_upto_region 5 with fail
      refine (wpIn_wide (n := n)).1 ?_
      gi_wp2
      refine hR.mono ?_
      rintro e W9 (⟨rfl, hJ9, hk9⟩ | ⟨rfl, hJ9⟩)
      · have HI9 := Lib.hid (hk9 HI.out)
        have HJ9 := Lib.hid hJ9
        clear hJ9 hk9 hR hy HI HJ k0 k1 k2 k3
        gi_wp2
        have hwk : IntKind.i64.wrap ((k : Int) + 1) = (k : Int) + 1 := IntWalk.i64_in _ (by omega)
        go_wp2_with fail
        go_roundw
        case rel =>
          refine ⟨k + 1, by go_num, hk, HI9.out, ?_⟩
          have e : (List.finRange N).take (k + 1) = (List.finRange N).take k ++ [⟨k, hk⟩] := by
            rw [← List.take_append_getElem (by rw [List.length_finRange]; exact hk)]
            simp
          rw [e]
          exact HJ9.out
        case measure => simp [intOf]; omega
      · have HJ9 := Lib.hid hJ9
        have HPF := Lib.hid (show (List.finRange N).take k ++ [⟨k, hk⟩] <+: List.finRange N by
          have e : (List.finRange N).take (k + 1) = (List.finRange N).take k ++ [⟨k, hk⟩] := by
            rw [← List.take_append_getElem (by rw [List.length_finRange]; exact hk)]
            simp
          rw [← e]
          exact List.take_prefix _ _)
        clear hJ9 hR hy HI HJ k0 k1 k2 k3
        gi_wp2
        go_wp2_with fail
        refine bodyPost_ret (results_none rfl _ _ _) rfl ?_
        exact ⟨⟨_, rfl⟩, .inr ⟨_, HPF.out, HJ9.out⟩⟩
    · have hkk : k = N := by omega
      have hd : decide (k < N) = false := decide_eq_false (by omega)
      have HE := Lib.hid (show (List.finRange N).take k = List.finRange N from List.take_of_length_le (by rw [List.length_finRange]; omega))
      clear hk hkk
      go_wp2_with fail
      go_end0
      refine ⟨⟨_, rfl⟩, .inl ⟨_, rfl, ?_⟩⟩
      have := HJ.out
      rw [HE.out] at this
      exact this
end Go.Proofs.YtejalfjeihlpeaaGreat
