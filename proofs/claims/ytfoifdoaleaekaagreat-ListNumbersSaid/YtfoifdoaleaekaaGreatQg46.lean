/-
  ListNumbers, the walk.
  ListNumbers: for every list of integers and every way to lay them, integers in untyped, typed and fixed vectors of a built document are read unchanged. No conditions.
-/
import Derived.Test.YtfoifdoaleaekaaGreatQg44
import Derived.Test.YtfoifdoaleaekaaGreatQg45
import Derived.Deep.CutBlock
namespace Go.Proofs.YtfoifdoaleaekaaGreat
open Go.RowKit Go.Acc
theorem isu_at {w : World} {A : Option Addr} {n : Nat} {l : List Nat} (h : Is ubc w A n l) {k : Nat} (hk : k < n) :
    ∃ b off, A = some ⟨b, off, none⟩ ∧ ∃ hk' : k < l.length, w.cell? ⟨b, off + k, none⟩ = some (.int .u64 (l[k] : Int)) := by
  obtain ⟨b, off, e, hk', hc⟩ := h.at_ (show ∀ x : Nat, (ubc x).length = 1 from fun _ => rfl) (by omega) hk
  exact ⟨b, off, e, hk', by have := hc 0 (by omega); simpa [ubc] using this⟩
def ndN (sg : Bool) (u : Nat) : Int := if sg = true then wrap64 (u : Int) else 0
def ndU (sg : Bool) (u : Nat) : Nat := if sg = true then 0 else u
def ndK (sg : Bool) : Int := if sg = true then 3 else 4
def numNd (sg : Bool) (u : Nat) : Nv := ⟨ndK sg, ndN sg u, ndU sg u, [], none, 0, 0, none, 0, 0⟩
theorem num_node (w : World) (p : Nat → Prop) (sg : Bool) (u : Nat) : NodeR w p (numNd sg u) (numTr sg u) := by
  have e : numTr sg u = .mk (numNd sg u).k (numNd sg u).n (numNd sg u).u (numNd sg u).s [] [] := by
    unfold numTr numNd ndK ndN ndU leafI leafU
    cases sg <;> simp
  rw [e]
  exact NodeR.mk (Is.nil _ _) (fun _ h => by cases h) (Nat.le_refl _) (Nat.zero_le _) (Is.nil _ _) (fun _ h => by cases h) (Nat.le_refl _) (Nat.zero_le _) rfl (fun i v t hv _ => by simp at hv)
set_option maxRecDepth 100000 in
set_option maxHeartbeats 8000000 in
theorem lnum_spec (A : Option Addr) (n c : Nat) (us : List Nat) (sg : Bool) (how : Int) (w : World) (hI : Is ubc w A n us) (hU : ∀ u ∈ us, u < 18446744073709551616) :
    Calls Tryz.prog 5 #[.slice A n c, .bool sg, .int .i64 how] w fun e w' => e = .returned (.bool true) ∧ Below w.heap.size w w' := by
  have HI := Lib.hid hI
  have HI0 := HI
  have HUB := Lib.hid hU
  have HUL := Lib.hid (show us.length = n from hI.1)
  obtain ⟨kk, hkk⟩ : ∃ kk, ndK sg = kk := ⟨_, rfl⟩
  have HKK := Lib.hid hkk
  clear hI hU hkk
  go_enter Tryz.func5, Tryz.ntmps5
  go_upto_if 23 with fail
  go_cut [7] (fun u7 wx => ∃ wy, wy = wx ∧ u7 = .int .i64 kk ∧ Below w.heap.size w wx)
  case first =>
    cases sg with
    | true =>
      go_wp2_with fail
      go_meet
      exact ⟨_, rfl, by rw [← HKK.out]; rfl, Below.refl _ _⟩
    | false =>
      go_wp2_with fail
      go_meet
      exact ⟨_, rfl, by rw [← HKK.out]; rfl, Below.refl _ _⟩
  case rest =>
  obtain ⟨w1, rfl, rfl, hb⟩ := hcut
  have HI1 := Lib.hid (HI.out.pure hb)
  have HB1 := Lib.hid hb
  clear hb HI
  go_wp2_with fail
  go_loopw [8, 9] (fun s u wr => ∃ k : Nat, k ≤ n ∧ k ≤ 40 ∧ u = .int .i64 (k : Int) ∧ ∃ B d, s = .slice B k d ∧ OwnT wr w1.heap.size B k d ((us.take k).map (numNd sg)) ∧ Below w1.heap.size w1 wr) (fun _ u _ => 40 - (intOf u).toNat)
  case atStart => exact ⟨0, Nat.zero_le _, Nat.zero_le _, rfl, none, 0, rfl, Own.nil _ _, Below.refl _ _⟩
  case round =>
    obtain ⟨k, hk, hkm, rfl, B, d, rfl, ho, hb⟩ := hrel
    have HO := Lib.hid ho
    have HB := Lib.hid hb
    have HIR := Lib.hid (HI1.out.pure hb)
    clear ho hb
    by_cases hlt : k < n ∧ k < 40
    · obtain ⟨h1, h2⟩ := hlt
      · obtain ⟨ga, off, e, hk', hs⟩ := isu_at HIR.out h1
        have HT := Lib.hid (show (us.take (k + 1)).map (numNd sg) = (us.take k).map (numNd sg) ++ [numNd sg us[k]] by
          rw [List.take_succ_eq_append_getElem hk', List.map_append]; rfl)
        have hub := HUB.out us[k] (List.getElem_mem _)
        generalize us[k] = y at hs HT hub
        have hk0 : (0 : Int) ≤ (k : Int) := by omega
        have hkn : (k : Int) < (n : Int) := by omega
        have hkM : (k : Int) < 40 := by omega
        have HY := Lib.hid hub
        rw [e]
        clear e hk' hub
        go_upto_if 40 with fail
        have hx0 := Blk.new wr 26 #[.int .i64 kk, .int .i64 0, .int .u64 (y : Int), .string ⟨#[]⟩, .slice none 0 0, .slice none 0 0]
        have hal := (Below.refl wr.heap.size wr).alloc (Nat.le_refl _) (.cells #[.int .i64 kk, .int .i64 0, .int .u64 (y : Int), .string ⟨#[]⟩, .slice none 0 0, .slice none 0 0] 26)
        have HX0 := Lib.hid hx0
        have HAL := Lib.hid hal
        have hs2 := cell_pure hal hs
        clear hs hx0 hal
        generalize wr.alloc (.cells #[.int .i64 kk, .int .i64 0, .int .u64 (y : Int), .string ⟨#[]⟩, .slice none 0 0, .slice none 0 0] 26) = w2 at HX0 HAL hs2 ⊢
        have HSZ := Lib.hid (show wr.heap.size ≤ wr.heap.size from Nat.le_refl _)
        generalize hb0 : wr.heap.size = b0 at HX0 HSZ ⊢
        have HB0 := Lib.hid hb0
        clear hb0
        go_cut [] (fun wx => ∃ wy, wy = wx ∧ Blk wx b0 26 #[.int .i64 kk, .int .i64 (ndN sg y), .int .u64 (ndU sg y : Int), .string ⟨#[]⟩, .slice none 0 0, .slice none 0 0] ∧ Below wr.heap.size wr wx)
        case first =>
          cases sg with
          | true =>
            have c0 : w2.cell? ⟨b0, 0, none⟩ = some (.int .i64 kk) := HX0.out.cell 0
            have c1 : w2.cell? ⟨b0, 1, none⟩ = some (.int .i64 0) := HX0.out.cell 1
            have c2 : w2.cell? ⟨b0, 2, none⟩ = some (.int .u64 (y : Int)) := HX0.out.cell 2
            have c3 : w2.cell? ⟨b0, 3, none⟩ = some (.string ⟨#[]⟩) := HX0.out.cell 3
            have c4 : w2.cell? ⟨b0, 4, none⟩ = some (.slice none 0 0) := HX0.out.cell 4
            have c5 : w2.cell? ⟨b0, 5, none⟩ = some (.slice none 0 0) := HX0.out.cell 5
            have hfz : ∀ j, w2.frozen? ⟨b0, j, none⟩ = false := fun j => HX0.out.frozen j
            have f0 := hfz 0
            have f1 := hfz 1
            have f2 := hfz 2
            have f3 := hfz 3
            have f4 := hfz 4
            have f5 := hfz 5
            clear hfz
            go_wp2_with fail
            go_meet
            have e1 : ndN true y = wrap64 (y : Int) := if_pos rfl
            have e2 : (ndU true y : Int) = 0 := by rw [show ndU true y = 0 from if_pos rfl]; rfl
            rw [e1, e2]
            exact ⟨_, rfl, (((((HX0.out.set_ 0 _).set_ 1 _).set_ 2 _).set_ 3 _).set_ 4 _).set_ 5 _, below_fr HAL.out (fr_set6 w2 b0 _ _ _ _ _ _) (by rintro j rfl; exact Nat.le_of_eq HB0.out)⟩
          | false =>
            go_wp2_with fail
            go_meet
            have e1 : ndN false y = 0 := if_neg (by decide)
            have e2 : ndU false y = y := if_neg (by decide)
            rw [e1, e2]
            exact ⟨_, rfl, HX0.out, HAL.out⟩
        case rest =>
        obtain ⟨w3, rfl, hX3, hb3⟩ := hcut
        have HX3 := Lib.hid hX3
        have HO3 := Lib.hid (HO.out.pure hb3)
        have HB3 := Lib.hid (pure_below HB.out hb3)
        have c0 : w3.cell? ⟨b0, 0, none⟩ = some (.int .i64 kk) := hX3.cell 0
        have c1 : w3.cell? ⟨b0, 1, none⟩ = some (.int .i64 (ndN sg y)) := hX3.cell 1
        have c2 : w3.cell? ⟨b0, 2, none⟩ = some (.int .u64 (ndU sg y : Int)) := hX3.cell 2
        have c3 : w3.cell? ⟨b0, 3, none⟩ = some (.string ⟨#[]⟩) := hX3.cell 3
        have c4 : w3.cell? ⟨b0, 4, none⟩ = some (.slice none 0 0) := hX3.cell 4
        have c5 : w3.cell? ⟨b0, 5, none⟩ = some (.slice none 0 0) := hX3.cell 5
        have hal := (Below.refl w3.heap.size w3).alloc (Nat.le_refl _) (.cells #[.int .i64 kk, .int .i64 (ndN sg y), .int .u64 (ndU sg y : Int), .string ⟨#[]⟩, .slice none 0 0, .slice none 0 0] 26)
        have HO4 := Lib.hid (HO3.out.pure hal)
        have HB4 := Lib.hid (pure_below HB3.out hal)
        have HI4 := Lib.hid (show IsN (w3.alloc (.cells #[.int .i64 kk, .int .i64 (ndN sg y), .int .u64 (ndU sg y : Int), .string ⟨#[]⟩, .slice none 0 0, .slice none 0 0] 26)) (some ⟨w3.heap.size, 0, none⟩) 1 [numNd sg y] by
          have e : numNd sg y = ⟨kk, ndN sg y, ndU sg y, [], none, 0, 0, none, 0, 0⟩ := by unfold numNd; rw [HKK.out]
          rw [e]
          exact nv_one w3 _)
        clear hX3 hb3 hal hs2 HSZ
        go_wp2_with (at_builtin; refine wpl_app _ rfl (.tmp 48) (.tmp 50) _ rfl 26 _ 6 88 Tryz.underlying24 info_nd rfl (by omega) nvc_len nvc_one _ _ _ _ _ rfl HO4.out _ _ _ _ rfl HI4.out (by omega) HB4.out.size ?_; intro A1 d1 w5 hown hfr hat)
        have HO5 := Lib.hid hown
        have HB5 := Lib.hid (below_fr HB4.out hfr (by rintro j ⟨ad, e, rfl⟩; exact (HO4.out.addr ad e).2.1))
        clear hown hfr hat c0 c1 c2 c3 c4 c5
        go_wp2_with fail
        go_roundw
        case rel => exact ⟨k + 1, by omega, by omega, by go_num, A1, d1, rfl, by rw [HT.out]; exact HO5.out, HB5.out⟩
        case measure => simp [intOf]; omega
    · go_upto_region 6 with fail
      go_cut [31] (fun u31 wx => ∃ wy, wy = wx ∧ u31 = .bool false ∧ Below wr.heap.size wr wx)
      case first =>
        by_cases h1 : k < n
        · have h2 : ¬ k < 40 := fun h => hlt ⟨h1, h⟩
          have hkn : (k : Int) < (n : Int) := by omega
          have hk4 : ¬ (k : Int) < 40 := by omega
          go_wp2_with fail
          go_meet
          exact ⟨_, rfl, rfl, Below.refl _ _⟩
        · have hkn : ¬ (k : Int) < (n : Int) := by omega
          go_wp2_with fail
          go_meet
          exact ⟨_, rfl, rfl, Below.refl _ _⟩
      case rest =>
      obtain ⟨w2, rfl, rfl, hb⟩ := hcut
      have HO2 := Lib.hid (HO.out.pure hb)
      have HB2 := Lib.hid (pure_below HB1.out (pure_below HB.out hb))
      have HI2 := Lib.hid (HIR.out.pure hb)
      have HKE := Lib.hid (show k ≤ n ∧ k ≤ 40 ∧ (k = n ∨ k = 40) by omega)
      have hb40 : k ≤ 40 := hkm
      clear hb HO HB HIR hk hkm hlt HI1 HB1
      go_upto_region 12 with fail
      go_upto_region 13 with fail
      have hal := (Below.refl w2.heap.size w2).alloc (Nat.le_refl _) (.cells #[.int .i64 10, .int .i64 0, .int .u64 0, .string ⟨#[]⟩, .slice none 0 0, .slice B k d] 26)
      have HX3 := Lib.hid (Blk.new w2 26 #[.int .i64 10, .int .i64 0, .int .u64 0, .string ⟨#[]⟩, .slice none 0 0, .slice B k d])
      have HO3 := Lib.hid (HO2.out.pure hal)
      have HB3 := Lib.hid (pure_below HB2.out hal)
      have HI3 := Lib.hid (HI2.out.pure hal)
      generalize w2.alloc (.cells #[.int .i64 10, .int .i64 0, .int .u64 0, .string ⟨#[]⟩, .slice none 0 0, .slice B k d] 26) = w3 at HX3 HO3 HB3 HI3 ⊢
      generalize hb1 : w2.heap.size = b1 at HX3 ⊢
      have HL1 := Lib.hid (show b1 < w3.heap.size from HX3.out.lt)
      have HN1 := Lib.hid (show ∀ ad, B = some ad → ad.block < b1 from fun ad e => by rw [← hb1]; exact (HO2.out.addr ad e).2.2)
      have HW1 := Lib.hid (show w.heap.size ≤ b1 by rw [← hb1]; exact HB2.out.size)
      clear hal hb1 HO2 HB2 HI2
      have HBR := Lib.hid (fun (w : World) => show Calls Tryz.prog 12 #[.int .i64 how, .int .i64 3] w fun e w' => e = .returned (.int .i64 (how % 3)) ∧ w = w' from bring_spec how 3 w (by omega) (by omega))
      have hq : how % 3 = 0 ∨ how % 3 = 1 ∨ how % 3 = 2 := by omega
      generalize how % 3 = q at HBR hq
      have HQ := Lib.hid hq
      clear hq
      go_wp2_with fail
      go_at_call 12
      refine (HBR.out _).mono ?_
      rintro e w' ⟨rfl, rfl⟩
      go_upto_block 2 with fail
      go_cut [] (fun wx => ∃ wy, wy = wx ∧ ∃ K, KOk sg K k ∧ Blk wx b1 26 #[.int .i64 K, .int .i64 0, .int .u64 0, .string ⟨#[]⟩, .slice none 0 0, .slice B k d] ∧ Fr (fun j => j = b1) w3 wx)
      case first =>
        have c0 : w3.cell? ⟨b1, 0, none⟩ = some (.int .i64 10) := HX3.out.cell 0
        have f0 : w3.frozen? ⟨b1, 0, none⟩ = false := HX3.out.frozen 0
        rcases HQ.out with rfl | rfl | rfl
        · go_wp2_with fail
          go_meet
          exact ⟨_, rfl, 10, .inl rfl, HX3.out, Fr.refl _ _⟩
        · cases sg with
          | true =>
            go_wp2_with fail
            go_meet
            exact ⟨_, rfl, 11, .inr (.inl ⟨rfl, .inl rfl⟩), (HX3.out.set_ 0 _).set_ 0 _, ((Fr.refl (fun j => j = b1) w3).setCell (p := ⟨b1, 0, none⟩) (fun _ => rfl) _).setCell (p := ⟨b1, 0, none⟩) (fun _ => rfl) _⟩
          | false =>
            go_wp2_with fail
            go_meet
            exact ⟨_, rfl, 12, .inr (.inr ⟨rfl, .inl rfl⟩), HX3.out.set_ 0 _, (Fr.refl (fun j => j = b1) w3).setCell (p := ⟨b1, 0, none⟩) (fun _ => rfl) _⟩
        · by_cases h2 : 2 ≤ k
          · by_cases h4 : k ≤ 4
            · have h2' : (2 : Int) ≤ (k : Int) := by omega
              have h4' : (k : Int) ≤ 4 := by omega
              cases sg with
              | true =>
                go_wp2_with fail
                go_meet
                exact ⟨_, rfl, 15, .inr (.inl ⟨rfl, .inr ⟨rfl, h2, h4⟩⟩), (HX3.out.set_ 0 _).set_ 0 _, ((Fr.refl (fun j => j = b1) w3).setCell (p := ⟨b1, 0, none⟩) (fun _ => rfl) _).setCell (p := ⟨b1, 0, none⟩) (fun _ => rfl) _⟩
              | false =>
                go_wp2_with fail
                go_meet
                exact ⟨_, rfl, 16, .inr (.inr ⟨rfl, .inr ⟨rfl, h2, h4⟩⟩), HX3.out.set_ 0 _, (Fr.refl (fun j => j = b1) w3).setCell (p := ⟨b1, 0, none⟩) (fun _ => rfl) _⟩
            · have h2' : (2 : Int) ≤ (k : Int) := by omega
              have h4' : ¬ (k : Int) ≤ 4 := by omega
              go_wp2_with fail
              go_meet
              exact ⟨_, rfl, 10, .inl rfl, HX3.out, Fr.refl _ _⟩
          · have h2' : ¬ (2 : Int) ≤ (k : Int) := by omega
            go_wp2_with fail
            go_meet
            exact ⟨_, rfl, 10, .inl rfl, HX3.out, Fr.refl _ _⟩
      case rest =>
      obtain ⟨w4, rfl, K, hK, hX4, hF4⟩ := hcut
      have hO4 := HO3.out.fr hF4 (fun ad e => by have := HN1.out ad e; omega)
      have hbl := HL1.out
      have hul : (us.take k).length = k := by have h1 := HKE.out; have h2 := HUL.out; rw [List.length_take]; omega
      have hub : ∀ u ∈ us.take k, u < 18446744073709551616 := fun u hu => HUB.out u (List.mem_of_mem_take hu)
      have hK' : KOk sg K (us.take k).length := by rw [hul]; exact hK
      have hcost : Tr.cost (.mk K 0 0 [] [] ((us.take k).map (numTr sg))) ≤ 65000 := by rw [cost_nums, hul]; omega
      have hchk := chk_nums sg K (us.take k) (by omega) hK'
      have hsort := sort_nums sg K (us.take k) (kok_rng hK').2.2.2.1
      obtain ⟨b, v, yw, ed, hrep, hyw, hfit, hlw, hleg, hvw, hkd, hbl2⟩ := doc_all (Go.Proofs.YtfoifdoaleaekaaGreat.bits 0) (chk_val ers_ok _ 0 0 hchk) hcost
      have hnd := num_doc hub hK' (by rw [← hsort]; exact hrep) hyw hleg hvw hbl2 hfit
      obtain ⟨rt1, rt2⟩ := root_doc (x := []) (b := b) (v := v) (w := yw) rfl hyw hleg hvw
      have hdl : (docB b v yw).length ≤ 65040 := by
        have h1 := bdoc_len [] b v yw
        have h2 := alignB_le8 b (isW_nat.2 (isW_nat.1 hyw))
        have h3 : yw ≤ 8 := by rcases isW_nat.1 hyw with h | h | h | h <;> omega
        simp only [List.nil_append, List.length_nil] at h1
        omega
      have hR : NodeR w4 (fun b => b < w4.heap.size) ⟨K, 0, 0, [], none, 0, 0, B, k, d⟩ (.mk K 0 0 [] [] ((us.take k).map (numTr sg))) := by
        refine NodeR.mk (x := ⟨K, 0, 0, [], none, 0, 0, B, k, d⟩) (ks := []) (Is.nil _ _) (fun _ h => by cases h) (Nat.le_refl _) (Nat.zero_le _) hO4.is (fun ad e => ?_) hO4.cap.1 (show k ≤ 1099511627776 by omega) (by rw [List.length_map, List.length_map]) (fun i v t hv ht => ?_)
        · have h1 := HN1.out ad e
          have h2 := hF4.size
          omega
        · rw [List.getElem?_map] at hv ht
          cases hi : (us.take k)[i]? with
          | none => rw [hi] at hv; simp at hv
          | some u =>
            rw [hi] at hv ht
            simp only [Option.map_some, Option.some.injEq] at hv ht
            rw [← hv, ← ht]
            exact num_node _ _ _ _
      have hBD := build_ok 0 hR (fun k hk => hk) (numT_nums sg K (us.take k) hub) hcost hchk
      obtain ⟨P, hP⟩ : ∃ P, (alignB yw b).length = P := ⟨_, rfl⟩
      obtain ⟨dd, hd⟩ : ∃ d, docB b v yw = d := ⟨_, rfl⟩
      obtain ⟨tt, htt⟩ : ∃ tt, v.t = tt := ⟨_, rfl⟩
      obtain ⟨V, hV⟩ : ∃ V, ownW yw v = V := ⟨_, rfl⟩
      rw [List.nil_append, List.length_nil, Nat.zero_add] at rt2
      rw [List.nil_append] at rt1
      rw [hd, hP, htt, hV] at rt2 hnd
      rw [hd] at rt1 ed hdl
      rw [ed] at hBD
      have HBD := Lib.hid hBD
      have HRE := Lib.hid rt1
      have HRR := Lib.hid rt2
      have HND := Lib.hid hnd
      have HDL := Lib.hid hdl
      have HTL := Lib.hid hul
      have HB4 := Lib.hid (below_fr HB3.out hF4 (by rintro j rfl; exact HW1.out))
      have HI4 := Lib.hid (HI0.out.pure HB4.out)
      have x0 : w4.cell? ⟨b1, 0, none⟩ = some (.int .i64 K) := hX4.cell 0
      have x1 : w4.cell? ⟨b1, 1, none⟩ = some (.int .i64 0) := hX4.cell 1
      have x2 : w4.cell? ⟨b1, 2, none⟩ = some (.int .u64 0) := hX4.cell 2
      have x3 : w4.cell? ⟨b1, 3, none⟩ = some (.string ⟨#[]⟩) := hX4.cell 3
      have x4 : w4.cell? ⟨b1, 4, none⟩ = some (.slice none 0 0) := hX4.cell 4
      have x5 : w4.cell? ⟨b1, 5, none⟩ = some (.slice B k d) := hX4.cell 5
      clear hO4 hbl hul hub hK' hcost hchk hsort hrep hyw hfit hlw hleg hvw hkd hbl2 hnd rt1 rt2 hdl hR hBD hP hd htt hV ed hK hX4 hF4
      go_wp2_with fail
      go_at_call 10
      refine HBD.out.mono ?_
      intro e w5 hDoc
      obtain ⟨A1, n1, c1, rfl, hO, hb⟩ := hDoc
      have HO5 := Lib.hid hO
      have HN5 := Lib.hid (show n1 ≤ 65040 by rw [← hO.1]; exact HDL.out)
      have HB5 := Lib.hid (pure_below HB4.out hb)
      have HI5 := Lib.hid (HI4.out.pure hb)
      have hn1 := HN5.out
      clear hb hO x0 x1 x2 x3 x4 x5 HBD HB4 HI4
      go_wp2_with fail
      go_at_call 13
      refine (root_spec2 A1 n1 c1 dd _ _ _ _ _ 0 HO5.out.is (by omega) HRR.out HRE.out).mono ?_
      rintro e w6 ⟨rfl, hb⟩
      have hal := (Below.refl w6.heap.size w6).alloc (Nat.le_refl _) (.cells #[.int .i64 (P : Int), .int .i64 (yw : Int), .int .i64 (tt : Int), .int .i64 (V : Int)] 36)
      have hbb := pure_trans hb hal
      have HD7 := Lib.hid (HO5.out.is.pure hbb)
      have HC7 := Lib.hid (show n1 ≤ c1 from HO5.out.cap.1)
      have HB7 := Lib.hid (pure_below HB5.out hbb)
      have HI7 := Lib.hid (HI5.out.pure hbb)
      have HR7 := Lib.hid (Blk.new w6 36 #[.int .i64 (P : Int), .int .i64 (yw : Int), .int .i64 (tt : Int), .int .i64 (V : Int)])
      clear hb hal hbb HO5 HB5 HI5
      go_upto_region 25 with fail
      generalize w6.alloc (.cells #[.int .i64 (P : Int), .int .i64 (yw : Int), .int .i64 (tt : Int), .int .i64 (V : Int)] 36) = w7 at HD7 HB7 HI7 HR7 ⊢
      generalize w6.heap.size = b14 at HR7 ⊢
      have r0 := cell0 HR7.out
      have r1 := cell1 HR7.out
      have r2 := cell2 HR7.out
      have r3 := cell3 HR7.out
      have HLN := Lib.hid (show ((lsLen dd (P : Int) (yw : Int) (tt : Int) (V : Int) : Nat) : Int) = (k : Int) by rw [HND.out.len.2, HTL.out])
      go_wp2_with fail
      go_at_call 21
      refine (has_yes A1 n1 c1 (P : Int) (yw : Int) (tt : Int) (V : Int) (k : Int) 0 _ _ HD7.out HC7.out (by omega) HLN.out HND.out.len.1).mono ?_
      rintro e w8 ⟨rfl, hb⟩
      have HD8 := Lib.hid (HD7.out.pure hb)
      have HB8 := Lib.hid (pure_below HB7.out hb)
      have HI8 := Lib.hid (HI7.out.pure hb)
      have HR8 := Lib.hid (HR7.out.pure hb)
      clear hb r0 r1 r2 r3 HD7 HB7 HI7 HR7
      go_wp2_with fail
      go_loopw [16] (fun uu wr => ∃ j : Nat, j ≤ k ∧ uu = .int .i64 (j : Int) ∧ Below w8.heap.size w8 wr) (fun uu _ => k - (intOf uu).toNat)
      case atStart => exact ⟨0, Nat.zero_le _, rfl, Below.refl _ _⟩
      case round =>
        obtain ⟨j, hj, rfl, hbr⟩ := hrel
        have HBR2 := Lib.hid hbr
        have HDR := Lib.hid (HD8.out.pure hbr)
        have HIR := Lib.hid (HI8.out.pure hbr)
        have HRR2 := Lib.hid (HR8.out.pure hbr)
        clear hbr
        have r0 := cell0 HRR2.out
        have r1 := cell1 HRR2.out
        have r2 := cell2 HRR2.out
        have r3 := cell3 HRR2.out
        by_cases hlt : j < k
        · obtain ⟨ga, off, e, hj', hs⟩ := isu_at HIR.out (show j < n by have := HKE.out; omega)
          have hju : (us.take k)[j]? = some us[j] := by rw [List.getElem?_take, if_pos hlt, List.getElem?_eq_getElem hj']
          have hel := HND.out.el j us[j] hju
          generalize us[j] = y at hs hel
          obtain ⟨h0, hI1, hU1⟩ := hel
          obtain ⟨aa, haa⟩ : ∃ a, atP dd (P : Int) (yw : Int) (tt : Int) (V : Int) (j : Int) = a := ⟨_, rfl⟩
          obtain ⟨ab, hab⟩ : ∃ a, atQ dd (P : Int) (yw : Int) (tt : Int) (V : Int) (j : Int) = a := ⟨_, rfl⟩
          obtain ⟨at', hat'⟩ : ∃ a, atT dd (P : Int) (yw : Int) (tt : Int) (V : Int) (j : Int) = a := ⟨_, rfl⟩
          obtain ⟨av, hav⟩ : ∃ a, atV dd (P : Int) (yw : Int) (tt : Int) (V : Int) (j : Int) = a := ⟨_, rfl⟩
          have HAT := Lib.hid (lat_is A1 n1 c1 (P : Int) (yw : Int) (tt : Int) (V : Int) (j : Int) aa ab at' av 0 _ wr HDR.out HC7.out (by omega) haa hab hat' hav h0)
          rw [haa, hab, hat', hav] at hI1 hU1
          obtain ⟨si, hsi⟩ : ∃ x, intV dd aa ab at' av = x := ⟨_, rfl⟩
          obtain ⟨se, hse⟩ : ∃ x, intE dd aa ab at' av = x := ⟨_, rfl⟩
          obtain ⟨ui, hui⟩ : ∃ x : Int, (uintV dd aa ab at' av : Int) = x := ⟨_, rfl⟩
          obtain ⟨ue, hue⟩ : ∃ x, uintE dd aa ab at' av = x := ⟨_, rfl⟩
          have HSI := Lib.hid (fun W (h : IsB W A1 n1 dd) => int_is A1 n1 c1 aa ab at' av dd si se W h HC7.out (by omega) hsi hse)
          have HUI := Lib.hid (fun W (h : IsB W A1 n1 dd) => uint_is A1 n1 c1 aa ab at' av dd ui ue W h HC7.out (by omega) hui hue)
          have HI1' := Lib.hid (show sg = true → si = wrap64 (y : Int) ∧ se = 0 from fun h => by rw [← hsi, ← hse]; exact hI1 h)
          have HU1' := Lib.hid (show sg = false → ui = (y : Int) ∧ ue = 0 from fun h => by rw [← hui, ← hue, (hU1 h).1]; exact ⟨rfl, (hU1 h).2⟩)
          have hj0 : (0 : Int) ≤ (j : Int) := by omega
          have hjk : (j : Int) < (k : Int) := by omega
          have hjn : (j : Int) < (n : Int) := by have := HKE.out; omega
          have HE := Lib.hid e
          clear e hju hj' h0 hI1 hU1 haa hab hat' hav hsi hse hui hue
          go_wp2_with fail
          go_at_call 22
          refine HAT.out.mono ?_
          rintro e w9 ⟨rfl, hb⟩
          have hal := (Below.refl w9.heap.size w9).alloc (Nat.le_refl _) (.cells #[.int .i64 aa, .int .i64 ab, .int .i64 at', .int .i64 av] 36)
          have hbb := pure_trans hb hal
          have HR9 := Lib.hid (Blk.new w9 36 #[.int .i64 aa, .int .i64 ab, .int .i64 at', .int .i64 av])
          have HD9 := Lib.hid (HDR.out.pure hbb)
          have HB9 := Lib.hid (pure_below HBR2.out hbb)
          have hs9 := cell_pure hbb hs
          clear hb hal hbb hs r0 r1 r2 r3
          go_upto_region 31 with fail
          generalize w9.alloc (.cells #[.int .i64 aa, .int .i64 ab, .int .i64 at', .int .i64 av] 36) = w10 at HR9 HD9 HB9 hs9 ⊢
          generalize w9.heap.size = b17 at HR9 ⊢
          have r0 := cell0 HR9.out
          have r1 := cell1 HR9.out
          have r2 := cell2 HR9.out
          have r3 := cell3 HR9.out
          go_wp2_with fail
          go_at_call 23
          refine (HSI.out _ HD9.out).mono ?_
          rintro e w11 ⟨rfl, hb⟩
          have HR11 := Lib.hid (HR9.out.pure hb)
          have HD11 := Lib.hid (HD9.out.pure hb)
          have HB11 := Lib.hid (pure_below HB9.out hb)
          have hs11 := cell_pure hb hs9
          clear hb hs9 r0 r1 r2 r3
          have r0 := cell0 HR11.out
          have r1 := cell1 HR11.out
          have r2 := cell2 HR11.out
          have r3 := cell3 HR11.out
          go_wp2_with fail
          go_at_call 24
          refine (HUI.out _ HD11.out).mono ?_
          rintro e w12 ⟨rfl, hb⟩
          have HB12 := Lib.hid (pure_below HB11.out hb)
          have hs12 := cell_pure hb hs11
          clear hb hs11 r0 r1 r2 r3
          have e := HE.out
          rw [e]
          clear e
          go_upto_region 33 with fail
          go_cut [156] (fun u156 wx => ∃ wy, wy = wx ∧ u156 = .bool false ∧ Below w12.heap.size w12 wx)
          case first =>
            cases sg with
            | true =>
              obtain ⟨rfl, rfl⟩ := HI1'.out rfl
              go_wp2_with fail
              go_meet
              exact ⟨_, rfl, rfl, Below.refl _ _⟩
            | false =>
              obtain ⟨rfl, rfl⟩ := HU1'.out rfl
              go_wp2_with fail
              go_meet
              exact ⟨_, rfl, rfl, Below.refl _ _⟩
          case rest =>
          obtain ⟨w13, rfl, rfl, hb⟩ := hcut
          have HB13 := Lib.hid (pure_below HB12.out hb)
          clear hb hs12
          go_wp2_with fail
          go_roundw
          case rel =>
            rw [HE.out]
            repeat apply Exists.intro
            refine ⟨⟨j + 1, by omega, ?_, HB13.out⟩, rfl⟩
            go_num
          case measure => simp [intOf]; omega
        · have hkn : ¬ ((j : Int) < (k : Int)) := by omega
          go_wp2_with fail
          go_at_call 18
          refine (liworks_spec _).mono ?_
          rintro e w9 ⟨rfl, hb⟩
          have HB9 := Lib.hid (pure_below (pure_below HB8.out HBR2.out) hb)
          clear hb
          go_wp2_with fail
          go_ret
          exact ⟨rfl, HB9.out⟩
end Go.Proofs.YtfoifdoaleaekaaGreat

namespace Go.Proofs.YtfoifdoaleaekaaGreat
open Go.RowKit Go.Acc Go.ChangeShapes Go.WideShapes Go.ChangeAt Go.Deep
set_option maxRecDepth 100000 in
theorem bool_arg {H : Type} {enc : TypeId × Value → H} {W : World} {base : Nat} {v : Value} {d : DataW H} {p : List MemPlace} (k : Value.okWide Tryz.prog W .any base 4 v) (h : DataW.Trod enc Tryz.prog W 0 (fun _ => true) true 4 v d p) :
    ∃ b, v = .bool b := by
  obtain ⟨_, _⟩ := h
  obtain ⟨b, rfl⟩ := okWide_bool Tryz.underlying4 k
  exact ⟨b, rfl⟩
set_option maxRecDepth 100000 in
theorem nums_read {H : Type} {enc : TypeId × Value → H} {W : World} {base : Nat} {spare : Nat → Bool} {held : Bool} {fuel : Nat} {v : Value} {x : DataW H × List MemPlace} (h : DataW.trod enc Tryz.prog W base spare held fuel 49 [v] = some x) :
    ∃ A n c l, v = .slice A n c ∧ Is ubc W A n l ∧ n ≤ c ∧ ∀ u ∈ l, ((u : Nat) : Int) < 18446744073709551616 := by
  rcases open_ints Tryz.underlying49 Tryz.underlying22 (by kernel_rfl) h with ⟨e, _⟩ | ⟨a, n, c, zs, e, _, hl, hm, hz, _, hcell, hwf⟩
  · obtain rfl : v = .slice none 0 0 := by simpa using e
    exact ⟨none, 0, 0, [], rfl, Is.nil _ _, by omega, fun u hu => by cases hu⟩
  · obtain rfl : v = .slice (some a) n c := by simpa using e
    simp only [maxLen] at hm
    have hzn : n ≤ zs.length := by rw [hz]; split <;> omega
    obtain ⟨l, hl', hq⟩ := is_of_elems (f := ubc) (sz := 1) (fun _ => rfl) (by omega) (w := W) (a := a) (n := n) (fun u => ((u : Nat) : Int) < 18446744073709551616) (fun i hi => by
      have hc := hcell i (by omega)
      have hb := u64_bd (hwf (zs.getD i 0) (by rw [List.getD_eq_getElem?_getD, List.getElem?_eq_getElem (show i < zs.length by omega)]; exact List.getElem_mem _))
      refine ⟨(zs.getD i 0).toNat, by omega, fun j hj => ?_⟩
      obtain rfl : j = 0 := by omega
      have e : (((zs.getD i 0).toNat : Nat) : Int) = zs.getD i 0 := by omega
      rw [Nat.mul_one, Nat.add_zero, hc]
      show _ = some (Value.int .u64 _)
      rw [e])
    exact ⟨some a, n, c, l, rfl, hl', hl, hq⟩
set_option maxRecDepth 100000 in
theorem nums_arg {H : Type} {enc : TypeId × Value → H} {W : World} {base : Nat} {v : Value} {d : DataW H} {p : List MemPlace} (k : Value.okWide Tryz.prog W .any base 49 v) (h : DataW.Trod enc Tryz.prog W 0 (fun _ => true) true 49 v d p) :
    ∃ A n c l, v = .slice A n c ∧ Is ubc W A n l ∧ n ≤ c ∧ ∀ u ∈ l, ((u : Nat) : Int) < 18446744073709551616 := by
  obtain ⟨_, _, _, rfl⟩ := okWide_slice Tryz.underlying49 k
  obtain ⟨f, hf⟩ := h
  exact nums_read hf
set_option maxRecDepth 100000 in
theorem listNumbers_run {H : Type} {enc : TypeId × Value → H} {v0 v1 v2 : Value} {d0 d1 d2 : DataW H} {p0 p1 p2 : List MemPlace} (W : World) (base : Nat) (k0 : Value.okWide Tryz.prog W .any base 49 v0) (k1 : Value.okWide Tryz.prog W .any base 4 v1) (k2 : Value.okWide Tryz.prog W .any base 3 v2)
    (h0 : DataW.Trod enc Tryz.prog W 0 (fun _ => true) true 49 v0 d0 p0) (h1 : DataW.Trod enc Tryz.prog W 0 (fun _ => true) true 4 v1 d1 p1) (h2 : DataW.Trod enc Tryz.prog W 0 (fun _ => true) true 3 v2 d2 p2) :
    Calls Tryz.prog 5 #[v0, v1, v2] W fun e w' => e = .returned (.bool true) ∧ Below W.heap.size W w' := by
  obtain ⟨A, n, c, l, rfl, hI, _, hu⟩ := nums_arg k0 h0
  obtain ⟨b, rfl⟩ := bool_arg k1 h1
  obtain ⟨i, rfl, _⟩ := int_arg k2 h2
  exact lnum_spec A n c l b i W hI (fun u hu' => by have := hu u hu'; omega)

set_option maxRecDepth 100000 in
theorem listNumbers_lifted (os : Os) (started : os.Started) (H : Type) (enc : TypeId × Value → H) :
    ReturnsInHanded {} Tryz.checked os 5 .any (Rows.listNumbersSpec.pre6 enc Tryz.prog Tryz.f5 Rows.listNumbersRow.domain false) (Rows.listNumbersSpec.post enc Tryz.prog Tryz.f5 false true false false) := by
  refine returnsInHanded_of_change (C := Tryz.checked) acc_own started (by kernel_rfl) Tryz.func5
    (ChangeSpec.witness6 (enc := enc) (C := Tryz.checked) false ⟨#[], #[.slice none 0 0, .bool false, .int .i64 0], []⟩ 8 (by kernel_rfl) (by kernel_rfl) (by kernel_rfl) (by kernel_rfl)) ?_
  intro W base args ds gs before hval0 hW hcnd _
  have hval : ∀ (j : Nat) t v, Tryz.f5.params[j]? = some t → args[j]? = some v → Value.okWide Tryz.prog W .any base t v := hval0
  have hW' := hW
  obtain ⟨p, q, hA0, hV, rfl, hfz, hnd⟩ := hW
  have hA : DataW.TrodAll enc Tryz.prog W 0 (fun _ => true) true Tryz.f5.params.toList args.toList ds p := hA0
  rw [Tryz.params5] at hA
  rw [Tryz.params5] at hval
  obtain ⟨v0, vs0, d0, ds0, p0, q0, hargs, rfl, rfl, h0, r0⟩ := trodAll_cons hA
  obtain ⟨v1, vs1, d1, ds1, p1, q1, rfl, rfl, rfl, h1, r1⟩ := trodAll_cons r0
  obtain ⟨v2, vs2, d2, ds2, p2, q2, rfl, rfl, rfl, h2, r2⟩ := trodAll_cons r1
  obtain ⟨rfl, rfl, rfl⟩ := trodAll_nil r2
  obtain rfl : args = #[v0, v1, v2] := by cases args; simp_all
  obtain ⟨rfl, rfl⟩ := trodVars_none hV
  have k0 := hval 0 49 v0 rfl rfl
  have k1 := hval 1 4 v1 rfl rfl
  have k2 := hval 2 3 v2 rfl rfl
  clear hA0 hval0
  refine (listNumbers_run (enc := enc) W base k0 k1 k2 h0 h1 h2).mono fun e W' ⟨he, bel⟩ => ?_
  subst he
  exact ⟨_, rfl, _, _, _, [], _, [], hW', trodAll_mk1 (shut_bool Tryz.underlying4 _), (trodAll_cons_mk (below_arg acc_laidOut (by kernel_rfl) (of_decide_eq_true (by kernel_rfl)) h0 bel) (trodAll_cons_mk (below_arg acc_laidOut (by kernel_rfl) (of_decide_eq_true (by kernel_rfl)) h1 bel) (trodAll_cons_mk (below_arg acc_laidOut (by kernel_rfl) (of_decide_eq_true (by kernel_rfl)) h2 bel) trodAll_mk0))), rfl, bel.frame _, fun h => by cases h⟩

theorem listNumbers_holds : Rows.ListNumbersSaid :=
  OpenClaim.holds_of_wide 5 Tryz.f5 rfl rfl rfl rfl rfl rfl rfl ⟨rfl, rfl, rfl, rfl, rfl⟩ rfl rfl rfl rfl rfl (by kernel_rfl) Tryz.func5 (by kernel_rfl)
    (of_decide_eq_true (by kernel_rfl)) (by unfold Func.isWrapper; rw [if_neg (of_decide_eq_false (by kernel_rfl))]; exact ⟨rfl, rfl⟩)
    (fun os started H enc _ => listNumbers_lifted os started H enc)
#print axioms listNumbers_holds
end Go.Proofs.YtfoifdoaleaekaaGreat
