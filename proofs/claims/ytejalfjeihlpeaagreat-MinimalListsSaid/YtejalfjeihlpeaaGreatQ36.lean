/-
  Package minimal: comes always ends; what it answers.
  Package minimal: Check.
  Package cover: more fuel does not change the result (property CoverFuel).
  Package minimal: the examples of the chapter.
-/
import Derived.Test.YtejalfjeihlpeaaGreatQ30
import Derived.Test.YtejalfjeihlpeaaGreatQ35
namespace Go.Proofs.YtejalfjeihlpeaaGreat
open Go.RowKit Go.Acc
/-- All spots that a document of n bytes can have. -/
def mnAll (n : Nat) : List P3 := (List.range (n + 1)).flatMap fun (a : Nat) => (List.range 64).flatMap fun (t : Nat) => (List.range 9).map fun (v : Nat) => ((a : Int), (t : Int), (v : Int))
theorem mnall_mem {n : Nat} {a t v : Int} (ha : 0 ≤ a ∧ a ≤ n) (ht : 0 ≤ t ∧ t < 64) (hv : 1 ≤ v ∧ v ≤ 8) : (a, t, v) ∈ mnAll n := by
  unfold mnAll
  refine List.mem_flatMap.2 ⟨a.toNat, List.mem_range.2 (by omega), List.mem_flatMap.2 ⟨t.toNat, List.mem_range.2 (by omega), List.mem_map.2 ⟨v.toNat, List.mem_range.2 (by omega), ?_⟩⟩⟩
  rw [Int.toNat_of_nonneg ha.1, Int.toNat_of_nonneg ht.1, Int.toNat_of_nonneg (by omega)]
def mnLeft (n : Nat) (had : List P3) : Nat := (mnAll n).countP fun y => decide (y ∉ had)
def MnPd (l : List UInt8) (d : Nat) (had : List P3) : Prop := mnLeft l.length had < d
theorem count_lt {α : Type} {p q : α → Bool} : ∀ (U : List α) (y : α), y ∈ U → (∀ x, p x = true → q x = true) → p y = false → q y = true → U.countP p < U.countP q
  | [], y, h, _, _, _ => absurd h (List.not_mem_nil)
  | x :: U, y, h, hpq, h1, h2 => by
    have hle := List.countP_mono_left (l := U) (p := p) (q := q) (fun x _ => hpq x)
    rw [List.countP_cons, List.countP_cons]
    rcases List.mem_cons.1 h with rfl | h
    · rw [h1, h2]
      simp
      omega
    · have h4 := count_lt U y h hpq h1 h2
      have h3 := hpq x
      cases e : p x with
      | false =>
        rw [if_neg (by decide)]
        split <;> omega
      | true =>
        rw [h3 e]
        simp
        exact h4
theorem mnleft_see (n : Nat) (had : List P3) (y : P3) (h : y ∈ mnAll n) (hn : y ∉ had) : mnLeft n (had ++ [y]) < mnLeft n had := by
  unfold mnLeft
  refine count_lt _ y h (fun x hx => ?_) (by simp) (by simp [hn])
  have := of_decide_eq_true hx
  exact decide_eq_true fun h => this (List.mem_append_left _ h)
theorem mneach_tot (l : List UInt8) (r : Rq) (hv : isW r.v = true) (go : Rq → List P3 → Option (Except Int (List P3))) (Pd : List P3 → Prop) (hgo : ∀ r h, MnOk r → Pd h → ∃ res, go r h = some res ∧ ∀ h', res = .ok h' → Pd h') :
    ∀ (is : List Nat) (h : List P3), Pd h → ∃ res, mnEach go l r is h = some res ∧ ∀ h', res = .ok h' → Pd h'
  | [], h, hp => ⟨.ok h, rfl, fun h' e => by injection e with e; exact e ▸ hp⟩
  | i :: is, h, hp => by
    obtain ⟨res, h1, h2⟩ := hgo (cvAt l r i) h (mnok_at l r hv i) hp
    unfold mnEach
    rw [h1]
    cases res with
    | error a => exact ⟨_, rfl, fun h' e => by cases e⟩
    | ok h' => exact mneach_tot l r hv go Pd hgo is h' (h2 _ rfl)
theorem mnok_in {l : List UInt8} {r : Rq} (hok : MnOk r) (hi : ¬ inlineT r.t = true) : mnHere l r ∈ mnAll l.length := by
  rcases hok with h | h
  · exact absurd h hi
  · exact mnall_mem (tgt_bd l r.p r.q r.t r.v) h.2 (isw_le h.1)
theorem mngo_tot (l : List UInt8) : ∀ (d : Nat) (r : Rq) (h : List P3), MnOk r → MnPd l d h → ∃ res, mnGo l d r h = some res ∧ ∀ h', res = .ok h' → MnPd l d h'
  | 0, _, _, _, hp => absurd hp (Nat.not_lt_zero _)
  | d + 1, r, h, hok, hp => by
    unfold mnGo
    by_cases h1 : inlineT r.t = true
    · rw [if_pos h1]
      exact ⟨_, rfl, fun h' e => by injection e with e; exact e ▸ hp⟩
    rw [if_neg h1]
    by_cases h2 : mnHere l r ∈ h ∨ r.t = 4
    · rw [if_pos h2]
      exact ⟨_, rfl, fun h' e => by injection e with e; exact e ▸ hp⟩
    rw [if_neg h2]
    by_cases h3 : 1 < r.v ∧ mnFits l r (r.v / 2) = true
    · rw [if_pos h3]
      exact ⟨_, rfl, fun h' e => by cases e⟩
    rw [if_neg h3]
    have hv : isW r.v = true := hok.elim (fun h => absurd h h1) (fun h => h.1)
    have hs : MnPd l d (h ++ [mnHere l r]) := by
      have := mnleft_see l.length h (mnHere l r) (mnok_in hok h1) (fun h' => h2 (.inl h'))
      unfold MnPd at hp ⊢
      omega
    have up : ∀ h', MnPd l d h' → MnPd l (d + 1) h' := fun h' hh => Nat.lt_succ_of_lt hh
    unfold mnRest
    by_cases h9 : r.t = 9
    · rw [if_pos h9]
      obtain ⟨res, e1, e2⟩ := mngo_tot l d (cvKey l r) _ (mnok_key l r) hs
      rw [e1]
      cases res with
      | error a => exact ⟨_, rfl, fun h' e => by cases e⟩
      | ok h' =>
        obtain ⟨res, e3, e4⟩ := mneach_tot l r hv (mnGo l d) (MnPd l d) (mngo_tot l d) _ h' (e2 _ rfl)
        exact ⟨res, e3, fun h' e => up _ (e4 _ e)⟩
    · rw [if_neg h9]
      obtain ⟨res, e3, e4⟩ := mneach_tot l r hv (mnGo l d) (MnPd l d) (mngo_tot l d) (List.range (lsLen l r.p r.q r.t r.v)) _ hs
      exact ⟨res, e3, fun h' e => up _ (e4 _ e)⟩
theorem comat_all (E : MnE) (m : Nat) (hA : MnA E m) : ∀ d, ComAt E m (mnGo E.l d) (MnPd E.l d)
  | 0 => fun _ _ _ _ _ _ _ _ _ _ hp _ => absurd hp (Nat.not_lt_zero _)
  | d + 1 => comes_step E m hA d (MnPd E.l d) (MnPd E.l (d + 1)) (comat_all E m hA d) (mngo_tot E.l d) (fun r had hok hi hp hn => by
      have := mnleft_see E.l.length had (mnHere E.l r) (mnok_in hok (by rw [hi]; decide)) hn
      unfold MnPd at hp ⊢
      omega)
def mnFuel (l : List UInt8) : Nat := (l.length + 1) * 576 + 1
theorem mnall_len (n : Nat) : (mnAll n).length = (n + 1) * 576 := by
  unfold mnAll
  rw [List.length_flatMap]
  simp [List.length_flatMap, List.map_const', List.sum_replicate_nat]
theorem mnfuel_ok (l : List UInt8) (had : List P3) : MnPd l (mnFuel l) had := Nat.lt_succ_of_le (by rw [← mnall_len]; exact List.countP_le_length)
/-- What is found from a reference on. -/
def mnRun (l : List UInt8) (r : Rq) : Except Int (List P3) := (mnGo l (mnFuel l) r []).getD (.ok [])
theorem mnrun_is {l : List UInt8} {r : Rq} (h : MnOk r) : mnGo l (mnFuel l) r [] = some (mnRun l r) := by
  obtain ⟨res, h1, _⟩ := mngo_tot l (mnFuel l) r [] h (mnfuel_ok l [])
  unfold mnRun
  rw [h1]
  rfl
theorem mncomes_is (E : MnE) (m : Nat) (hA : MnA E m) (x p q t v : Int) (res : Except Int (List P3)) (w : World) (h : LookB E m [] x w) (hok : MnOk ⟨p, q, t, v⟩) (hr : mnRun E.l ⟨p, q, t, v⟩ = res) :
    Calls Tryz.prog 38 #[.pointer (some ⟨E.bw, 0, none⟩), .agg #[.int .i64 p, .int .i64 q, .int .i64 t, .int .i64 v]] w fun e w' => ComO E m x w e w' res :=
  comat_all E m hA (mnFuel E.l) [] x p q t v res w h hok (mnfuel_ok _ _) (hr ▸ mnrun_is hok)
end Go.Proofs.YtejalfjeihlpeaaGreat

namespace Go.Proofs.YtejalfjeihlpeaaGreat
open Go.RowKit Go.Acc
attribute [local go_sem] Oper.semAt_some
def mnRes : Except Int (List P3) → Int × Int
  | .error a => (a, 10)
  | .ok _ => (0, 0)
/-- The offset and the error that Check returns. -/
def mnCheck (l : List UInt8) (fuel : Int) : Int × Int :=
  if cvPartsE l fuel ≠ 0 then (0, cvPartsE l fuel)
  else if 1 < (cvRoot l).q ∧ mnStands l (cvRoot l).p (cvRoot l).q (cvRoot l).t (cvRoot l).v (cvRoot l).p ((cvRoot l).q / 2) = true then ((cvRoot l).p, 10)
  else mnRes (mnRun l (cvRoot l))
theorem root_of_parts {l : List UInt8} {fuel : Int} (h : cvPartsE l fuel = 0) : rootE l = 0 := by
  refine Decidable.byContradiction fun hr => ?_
  unfold cvPartsE at h
  rw [if_pos hr] at h
  exact hr h
theorem mnok_root {l : List UInt8} (h : rootE l = 0) : MnOk (cvRoot l) ∧ RqOk l.length (cvRoot l) := by
  refine ⟨.inr ?_, (root_ok h).1⟩
  obtain ⟨x, hx⟩ : ∃ x, l.getD (l.length - 1) 0 = x := ⟨_, rfl⟩
  obtain ⟨y, hy⟩ : ∃ x, l.getD (l.length - 2) 0 = x := ⟨_, rfl⟩
  have h3 : ¬ l.length < 3 := fun h3 => by rw [rootE_1 h3] at h; cases h
  have hw : isW (x.toNat : Int) = true := by
    cases hw : isW (x.toNat : Int) with
    | true => rfl
    | false => rw [rootE_2 hx hw] at h; cases h
  have hu : unE y = 0 := by
    refine Decidable.byContradiction fun hu => ?_
    rw [rootE_3 h3 hx hy hw hu] at h
    exact hu h
  have hl : legalT ((y.toNat : Int) / 4) = true := by
    unfold unE at hu
    split at hu
    · assumption
    · cases hu
  have hr := rootR_ok hx hy h
  unfold cvRoot
  rw [hr]
  unfold unT unW
  rw [if_pos hl, if_pos hl]
  have := y.toNat_lt
  refine ⟨?_, by simp only; omega, by simp only; omega⟩
  simp only
  have hm : y.toNat % 4 < 4 := Nat.mod_lt _ (by decide)
  generalize y.toNat % 4 = z at hm ⊢
  have : z = 0 ∨ z = 1 ∨ z = 2 ∨ z = 3 := by omega
  rcases this with rfl | rfl | rfl | rfl <;> decide
theorem stands_at (bw : Nat) (A : Option Addr) (n c : Nat) (p q t v pos f : Int) (r : Bool) (l : List UInt8) (w : World) (h : MnB ⟨bw, A, n, c, l⟩ w) (hp : pos ≤ 1099511627776) (hr : mnStands l p q t v pos f = r) :
    Calls Tryz.prog 37 #[.pointer (some ⟨bw, 0, none⟩), .agg #[.int .i64 p, .int .i64 q, .int .i64 t, .int .i64 v], .int .i64 pos, .int .i64 f] w fun e w' => e = .returned (.bool r) ∧ Below w.heap.size w w' :=
  stands_is ⟨bw, A, n, c, l⟩ p q t v pos f r w h hp hr
theorem mncomes_at (bw : Nat) (A : Option Addr) (n c : Nat) (l : List UInt8) (m : Nat) (hA : MnA ⟨bw, A, n, c, l⟩ m) (x p q t v : Int) (res : Except Int (List P3)) (w : World) (h : LookB ⟨bw, A, n, c, l⟩ m [] x w) (hok : MnOk ⟨p, q, t, v⟩) (hr : mnRun l ⟨p, q, t, v⟩ = res) :
    Calls Tryz.prog 38 #[.pointer (some ⟨bw, 0, none⟩), .agg #[.int .i64 p, .int .i64 q, .int .i64 t, .int .i64 v]] w fun e w' => ComO ⟨bw, A, n, c, l⟩ m x w e w' res :=
  mncomes_is ⟨bw, A, n, c, l⟩ m hA x p q t v res w h hok hr
theorem ret_check {l : List UInt8} {fuel a e : Int} (h : mnCheck l fuel = (a, e)) : Ending.returned (.tuple #[.int .i64 a, .int .i64 e]) = Ending.returned (.tuple #[.int .i64 (mnCheck l fuel).1, .int .i64 (mnCheck l fuel).2]) := by rw [h]
set_option maxRecDepth 100000 in
set_option maxHeartbeats 1000000 in
theorem check_spec (A : Option Addr) (n c : Nat) (fuel : Int) (l : List UInt8) (w : World) (hl : IsB w A n l) (hc : n ≤ c) (hn : n ≤ 4294967296) (hf : fuel ≤ 100000000) :
    Calls Tryz.prog 14 #[.slice A n c, .int .i64 fuel] w fun e w' => e = .returned (.tuple #[.int .i64 (mnCheck l fuel).1, .int .i64 (mnCheck l fuel).2]) ∧ Below w.heap.size w w' := by
  have hlen := hl.1
  have HI := Lib.hid hl
  have hP := parts_spec A n c fuel l w hl hc hn hf
  clear hl
  by_cases he : cvPartsE l fuel = 0
  · have hr := root_of_parts he
    obtain ⟨hok, hrq⟩ := mnok_root hr
    obtain ⟨⟨p, q, t, v⟩, hrt⟩ : ∃ r, cvRoot l = r := ⟨_, rfl⟩
    rw [hrt] at hok hrq
    obtain ⟨res, hres⟩ : ∃ res, mnRun l ⟨p, q, t, v⟩ = res := ⟨_, rfl⟩
    obtain ⟨st, hst⟩ : ∃ b, mnStands l p q t v p (q / 2) = b := ⟨_, rfl⟩
    have hck : mnCheck l fuel = if 1 < q ∧ st = true then (p, 10) else mnRes res := by
      unfold mnCheck
      rw [if_neg (by rw [he]; decide), hrt, hres]
      simp only [hst]
    have HCK := Lib.hid hck
    have HOK := Lib.hid hok
    have HRES := Lib.hid hres
    have HST := Lib.hid hst
    have hq : 1 ≤ q ∧ q ≤ 8 := ⟨hrq.2.1, hrq.2.2.1⟩
    have h3 : 3 ≤ n := by have := (root_ok hr).2; omega
    have hp : 0 ≤ p ∧ p ≤ n := by have h1 := hrq.1; have h2 := hrq.2.2.2; simp only at h1 h2; omega
    have hR := fun W (h : IsB W A n l) => root_spec A n c l W h (by omega)
    have hrr : (rootR l).1 = p ∧ (rootR l).2.1 = q ∧ (rootR l).2.2.1 = t ∧ (rootR l).2.2.2 = v := by
      unfold cvRoot at hrt
      injection hrt with h1 h2 h3 h4
      exact ⟨h1, h2, h3, h4⟩
    rw [hr, hrr.1, hrr.2.1, hrr.2.2.1, hrr.2.2.2] at hR
    rw [he] at hP
    have HRT := Lib.hid hR
    have HP := Lib.hid hP
    clear he hr hok hrq hrt hres hst hck hR hP hrr
    go_enter Tryz.func14, Tryz.ntmps14
    go_wp2_with fail
    go_at_call 8
    refine HP.out.mono ?_
    rintro e w1 ⟨A', k, c', rfl, hO, hb⟩
    have HB := Lib.hid hb
    replace HI := Lib.hid (HI.out.pure hb)
    clear hO hb HP
    go_wp2_with fail
    go_at_call 25
    refine (HRT.out _ HI.out).mono ?_
    rintro e w2 ⟨rfl, hb⟩
    replace HB := Lib.hid (pure_below HB.out hb)
    replace HI := Lib.hid (HI.out.pure hb)
    clear hb HRT
    have h0 := run_makeMap (P := Tryz.prog) 69
    go_upto_region 6 with fail
    obtain ⟨W, hW⟩ : ∃ W, W = ((w2.alloc (.cells #[.int .i64 p, .int .i64 q, .int .i64 t, .int .i64 v] 48)).alloc (.map #[] 0)).alloc (.cells #[.slice A n c, .map (some (w2.heap.size + 1)), .int .i64 0] 71) := ⟨_, rfl⟩
    rw [← hW]
    have hbW : Below w2.heap.size w2 W := by
      subst hW
      exact (((Below.refl _ _).alloc (Nat.le_refl _) _).alloc (by simp) _).alloc (by simp <;> omega) _
    have hX : Blk W w2.heap.size 48 #[.int .i64 p, .int .i64 q, .int .i64 t, .int .i64 v] := by
      subst hW
      exact ((Blk.new w2 _ _).alloc _).alloc _
    have hA : ∀ ad, A = some ad → ad.block < w2.heap.size := by
      intro ad had
      obtain ⟨b', off, e, hlt⟩ := HI.out.some_ bc_len (by omega) (by omega)
      rw [e] at had
      injection had with had
      subst had
      exact hlt
    have hLk : LookB ⟨w2.heap.size + 1 + 1, A, n, c, l⟩ (w2.heap.size + 1) [] 0 W := by
      refine ⟨hc, hn, HI.out.pure hbW, ?_, ?_, fun ad had => Nat.lt_of_lt_of_le (hA ad had) hbW.size⟩
      · subst hW
        exact Blk.new_ (by simp) _ _
      · subst hW
        exact ⟨#[], 0, (Below.heap_alloc _ _ _ (by simp)).trans (heap_new_ (by simp) _), rfl, by simp⟩
    have hMA : MnA ⟨w2.heap.size + 1 + 1, A, n, c, l⟩ (w2.heap.size + 1) := by
      refine ⟨fun ad had hs => ?_, by simp only; omega⟩
      have := hA ad had
      unfold MnS at hs
      simp only at hs
      omega
    have HWS := Lib.hid HB.out.size
    replace HB := Lib.hid (pure_below HB.out hbW)
    have HX := Lib.hid hX
    have HLK := Lib.hid hLk
    have HMA := Lib.hid hMA
    clear hW hbW hX hA hLk hMA h0 HI
    have HBW := Lib.hid (show w.heap.size ≤ w2.heap.size + 1 + 1 by have := HWS.out; omega)
    have HBM := Lib.hid (show w.heap.size ≤ w2.heap.size + 1 by have := HWS.out; omega)
    generalize w2.heap.size + 1 + 1 = bw at HLK HMA HBW ⊢
    generalize w2.heap.size + 1 = m at HLK HMA HBM ⊢
    generalize w2.heap.size = bR at HX ⊢
    have x0 := cell0 HX.out; have x1 := cell1 HX.out; have x2 := cell2 HX.out; have x3 := cell3 HX.out
    go_cut [29] from 11 to 53 (fun u29 wx => ∃ wy, wy = wx ∧ u29 = .bool (decide (1 < q ∧ st = true)) ∧ Below W.heap.size W wx)
    case first =>
      by_cases hq1 : 1 < q
      · have hd1 : decide (1 < q) = true := decide_eq_true hq1
        have hdv : IntKind.i64.wrap (q.tdiv 2) = q / 2 := by rw [Int.tdiv_eq_ediv_of_nonneg (by omega)]; exact IntWalk.i64_in _ (by omega)
        have HSF := Lib.hid (show decide (1 < q ∧ st = true) = st by cases st <;> simp [hq1])
        have HQ := Lib.hid (Below.refl W.heap.size W)
        clear HB
        go_wp2_with (go_at_call 37; (with_reducible refine (stands_at bw A n c p q t v p (q / 2) st l _ HLK.out.m (by omega) HST.out).mono ?_); rintro e w8 ⟨rfl, hb⟩; replace HQ := Lib.hid hb; clear x0 x1 x2 x3; clear hb)
        go_meet
        rw [HSF.out]
        exact ⟨_, rfl, rfl, HQ.out⟩
      · have hd1 : decide (1 < q) = false := decide_eq_false hq1
        have HSF := Lib.hid (show decide (1 < q ∧ st = true) = false from decide_eq_false fun h => hq1 h.1)
        go_wp2_with fail
        go_meet
        rw [HSF.out]
        exact ⟨_, rfl, rfl, Below.refl _ _⟩
    case rest =>
    obtain ⟨w8, rfl, rfl, hb⟩ := hcut
    replace HB := Lib.hid (pure_below HB.out hb)
    replace HX := Lib.hid (HX.out.pure hb)
    replace HLK := Lib.hid (HLK.out.pure hb)
    clear x0 x1 x2 x3
    clear hb
    have x0 := cell0 HX.out; have x1 := cell1 HX.out; have x2 := cell2 HX.out; have x3 := cell3 HX.out
    by_cases hc1 : 1 < q ∧ st = true
    · have hd : decide (1 < q ∧ st = true) = true := decide_eq_true hc1
      rw [hd]
      have hr := HCK.out
      rw [if_pos hc1] at hr
      have HR := Lib.hid hr
      clear hr hc1 hd
      go_wp2_with fail
      go_ret2
      exact ⟨ret_check HR.out, HB.out⟩
    · have hd : decide (1 < q ∧ st = true) = false := decide_eq_false hc1
      rw [hd]
      have hr := HCK.out
      rw [if_neg hc1] at hr
      have HR := Lib.hid hr
      have HCM := Lib.hid (mncomes_at bw A n c l m HMA.out 0 p q t v res w8 HLK.out HOK.out HRES.out)
      clear hr hc1 hd
      go_wp2_with fail
      go_at_call 38
      refine HCM.out.mono ?_
      cases res with
      | error a =>
        rintro e w9 ⟨rfl, ⟨had, hL⟩, hF⟩
        have HL := Lib.hid hL
        have hb : Below w.heap.size w w9 := HB.out.trans (hF.belowB (fun i hi hs => by have h1 := HBW.out; have h2 := HBM.out; unfold MnS at hs; simp only at hs; omega) HB.out.size)
        replace HB := Lib.hid hb
        clear hb hL hF x0 x1 x2 x3
        have v0 : _ = some (Value.int .i64 a) := HL.out.k.cell 2
        go_wp2_with fail
        go_ret2
        exact ⟨ret_check HR.out, HB.out⟩
      | ok had =>
        rintro e w9 ⟨rfl, hL, hF⟩
        have hb : Below w.heap.size w w9 := HB.out.trans (hF.belowB (fun i hi hs => by have h1 := HBW.out; have h2 := HBM.out; unfold MnS at hs; simp only at hs; omega) HB.out.size)
        replace HB := Lib.hid hb
        clear hb hL hF x0 x1 x2 x3
        go_wp2_with fail
        go_ret2
        exact ⟨ret_check HR.out, HB.out⟩
  · have hne : (cvPartsE l fuel != 0) = true := by simpa using he
    have hck : mnCheck l fuel = (0, cvPartsE l fuel) := by unfold mnCheck; rw [if_pos he]
    have HCK := Lib.hid hck
    have HP := Lib.hid hP
    clear hck he hP
    go_enter Tryz.func14, Tryz.ntmps14
    go_wp2_with fail
    go_at_call 8
    refine HP.out.mono ?_
    rintro e w1 ⟨A', k, c', rfl, hO, hb⟩
    have HB := Lib.hid hb
    clear hb hO
    go_wp2_with fail
    go_ret2
    exact ⟨ret_check HCK.out, HB.out⟩
end Go.Proofs.YtejalfjeihlpeaaGreat

namespace Go.Proofs.YtejalfjeihlpeaaGreat
open Go.RowKit Go.Acc
def CvS.more (s : CvS) (k : Nat) : CvS := { s with left := s.left + k }
theorem tell_more (s : CvS) (k : Nat) (a b c : Int) : (s.more k).tell a b c = (s.tell a b c).more k := by unfold CvS.tell; split <;> rfl
def Eases (k : Nat) (go go' : Rq → CvS → CvS × Int) : Prop := ∀ r s, (go r s).2 ≠ 260 → go' r (s.more k) = ((go r s).1.more k, (go r s).2)
section
variable {l : List UInt8} {go go' : Rq → CvS → CvS × Int} (r : Rq) {k : Nat}
theorem text_more (s : CvS) : cvText l r (s.more k) = ((cvText l r s).1.more k, (cvText l r s).2) := by
  unfold cvText
  (repeat' split) <;> simp only [tell_more]
theorem apart_more (s : CvS) : cvApart l r (s.more k) = ((cvApart l r s).1.more k, (cvApart l r s).2) := by
  unfold cvApart
  (repeat' split) <;> simp only [tell_more]
theorem tag_more (i : Nat) (s : CvS) : cvTag l r i (s.more k) = (cvTag l r i s).more k := by unfold cvTag; split <;> simp only [tell_more]
theorem len_more (s : CvS) : cvLen l r (s.more k) = (cvLen l r s).more k := by unfold cvLen; split <;> simp only [tell_more]
theorem keys_more (hg : Eases k go go') (s : CvS) (h : (cvKeys l go r s).2 ≠ 260) : cvKeys l go' r (s.more k) = ((cvKeys l go r s).1.more k, (cvKeys l go r s).2) := by
  unfold cvKeys at h ⊢
  split
  · rfl
  · rename_i h1
    rw [if_neg h1] at h
    have hne : (go (cvKey l r) s).2 ≠ 260 := by
      by_cases h2 : (go (cvKey l r) s).2 ≠ 0
      · rw [if_pos h2] at h; exact h
      · have := Decidable.of_not_not h2; omega
    have e := hg (cvKey l r) s hne
    rw [e]
    split
    · rfl
    · simp only [tell_more]
theorem head_more (hg : Eases k go go') (s : CvS) (h : (cvHead l go r s).2 ≠ 260) : cvHead l go' r (s.more k) = ((cvHead l go r s).1.more k, (cvHead l go r s).2) := by
  unfold cvHead at h ⊢
  split
  · rename_i ht
    rw [if_pos ht] at h
    exact keys_more r hg s h
  · rfl
theorem elems_more (hg : Eases k go go') : ∀ (n i : Nat) (s : CvS), (cvElems l go r n i s).2 ≠ 260 → cvElems l go' r n i (s.more k) = ((cvElems l go r n i s).1.more k, (cvElems l go r n i s).2)
  | 0, i, s, _ => rfl
  | n + 1, i, s, h => by
    unfold cvElems at h ⊢
    rw [tag_more]
    split
    · rfl
    · rename_i h1
      rw [if_neg h1] at h
      have hne : (go (cvAt l r i) (cvTag l r i s)).2 ≠ 260 := by
        by_cases h2 : (go (cvAt l r i) (cvTag l r i s)).2 ≠ 0
        · rw [if_pos h2] at h; exact h
        · have := Decidable.of_not_not h2; omega
      have e := hg (cvAt l r i) (cvTag l r i s) hne
      rw [e]
      split
      · rfl
      · rename_i h2
        rw [if_neg h2] at h
        exact elems_more hg n (i + 1) _ h
theorem list_more (hg : Eases k go go') (s : CvS) (h : (cvList l go r s).2 ≠ 260) : cvList l go' r (s.more k) = ((cvList l go r s).1.more k, (cvList l go r s).2) := by
  unfold cvList at h ⊢
  split
  · rfl
  · rename_i h1
    rw [if_neg h1] at h
    have hne : (cvHead l go r s).2 ≠ 260 := by
      by_cases h2 : (cvHead l go r s).2 ≠ 0
      · rw [if_pos h2] at h; exact h
      · have := Decidable.of_not_not h2; omega
    have e := head_more r hg s hne
    rw [e]
    split
    · rfl
    · rename_i h2
      rw [if_neg h2] at h
      simp only [len_more]
      exact elems_more r hg _ _ _ h
theorem data_more (hg : Eases k go go') (s : CvS) (h : (cvData l go r s).2 ≠ 260) : cvData l go' r (s.more k) = ((cvData l go r s).1.more k, (cvData l go r s).2) := by
  unfold cvData at h ⊢
  split
  · exact text_more r s
  · rename_i h1
    rw [if_neg h1] at h
    split
    · exact apart_more r s
    · rename_i h2
      rw [if_neg h2] at h
      exact list_more r hg s h
end
theorem start_more (r : Rq) (s : CvS) (k : Nat) : cvStart r (s.more k) = (cvStart r s).more k := by
  unfold cvStart
  rw [← tell_more]
  congr 1
  unfold CvS.burn CvS.more
  simp only
  congr 1
  omega
theorem come_more (l : List UInt8) (k : Nat) : ∀ d d', d ≤ d' → Eases k (cvCome l d) (cvCome l d')
  | 0, _, _, r, s, h => absurd rfl h
  | d + 1, 0, h, _, _, _ => by omega
  | d + 1, d' + 1, hd, r, s, h => by
    unfold cvCome at h ⊢
    by_cases h1 : s.left < 1
    · rw [if_pos h1] at h; exact absurd rfl h
    · rw [if_neg h1] at h
      rw [if_neg h1, if_neg (show ¬ (s.more k).left < 1 by unfold CvS.more; simp only; omega), start_more]
      split
      · rfl
      · rename_i h2
        rw [if_neg h2] at h
        have eh : (s.more k).had = s.had := rfl
        rw [eh]
        split
        · rfl
        · rename_i h3
          rw [if_neg h3] at h
          have es : ((cvStart r s).more k).see (cvSpot l r) = ((cvStart r s).see (cvSpot l r)).more k := rfl
          rw [es]
          exact data_more r (come_more l k d d' (by omega)) _ h
theorem fuel_more (l : List UInt8) (n m : Int) (h : n ≤ m) (he : cvPartsE l n ≠ 260) : cvPartsE l m = cvPartsE l n ∧ cvParts l m = cvParts l n := by
  obtain ⟨k, rfl⟩ : ∃ k : Nat, m = n + k := ⟨(m - n).toNat, by omega⟩
  have hE : cvPartsE l (n + k) = cvPartsE l n ∧ (rootE l = 0 → (cvVisit l (n + k)).1.out = (cvVisit l n).1.out) := by
    unfold cvPartsE at he ⊢
    by_cases hr : rootE l ≠ 0
    · rw [if_pos hr, if_pos hr]; exact ⟨rfl, fun h => absurd h hr⟩
    · rw [if_neg hr] at he
      rw [if_neg hr, if_neg hr]
      have h1 := come_more l k (n.toNat + 1) ((n + k).toNat + 1) (by omega) (cvRoot l) (cvS1 l n) he
      have h2 : (cvS1 l n).more k = cvS1 l (n + k) := by unfold cvS1; rw [← tell_more, ← tell_more]; rfl
      rw [h2] at h1
      unfold cvVisit
      rw [h1]
      exact ⟨rfl, fun _ => rfl⟩
  refine ⟨hE.1, ?_⟩
  unfold cvParts
  rw [hE.1]
  split
  · rfl
  · rename_i h0
    have h0 := Decidable.of_not_not h0
    have hr : rootE l = 0 := by
      refine Decidable.byContradiction fun hr => ?_
      unfold cvPartsE at h0
      rw [if_pos hr] at h0
      exact hr h0
    rw [hE.2 hr]
set_option maxRecDepth 100000 in
set_option maxHeartbeats 400000 in
theorem bytes28_spec (A : Option Addr) (n c : Nat) (l : List UInt8) (w : World) (h : IsB w A n l) (hc : n ≤ c) :
    Calls Tryz.prog 7 #[.slice A n c] w fun e w' => ∃ A' n' c', e = .returned (.slice A' n' c') ∧ n' ≤ 1500 ∧ OwnB w' w.heap.size A' n' c' (l.take 1500) ∧ Below w.heap.size w w' := by
  obtain ⟨M, hMn, hMB, hmin, hcut⟩ := cut_facts A n c 1500 1500 rfl hc
  have hl := h.1
  have hM : l.take 1500 = l.take M := by
    by_cases hn : n ≤ 1500
    · have : M = n := by split at hmin <;> omega
      rw [this, List.take_of_length_le (by omega), List.take_of_length_le (by omega)]
    · have : M = 1500 := by split at hmin <;> omega
      rw [this]
  rw [hM]
  have hmin2 : min (n : Int) 1500 = M := by split at hmin <;> omega
  have HM := Lib.hid (h.take bc_len hMn)
  clear h hl hM
  go_enter Tryz.func7, Tryz.ntmps7
  go_wp2_with fail
  go_at_call 24
  refine (copyb_spec A M c (l.take M) _ HM.out (by omega)).mono ?_
  rintro e w1 ⟨A1, n1, c1, rfl, hO1, hb1⟩
  obtain rfl : M = n1 := by rw [← hO1.1, HM.out.1]
  have HO := Lib.hid hO1
  have HB := Lib.hid hb1
  clear hO1 hb1
  go_wp2_with fail
  go_ret
  exact ⟨A1, M, c1, rfl, by omega, HO.out, HB.out⟩
end Go.Proofs.YtejalfjeihlpeaaGreat

namespace Go.Proofs.YtejalfjeihlpeaaGreat
open Go.RowKit Go.Acc
set_option maxHeartbeats 400000 in
theorem is30_yes (s : ByteArray) (fuel a er : Int) (w : World) (hf : fuel ≤ 100000000) (hs : s.size ≤ 1000) (h1 : mnCheck s.data.toList fuel = (a, er)) :
    Calls Tryz.prog 41 #[.string s, .int .i64 fuel, .int .i64 a, .int .i64 er] w fun e w' => e = .returned (.bool true) ∧ Below w.heap.size w w' := by
  have H1 := Lib.hid h1
  obtain ⟨c, w1, hcv, hc, hi, hb⟩ := str_bytes s w
  have HI := Lib.hid hi
  have HB := Lib.hid hb
  clear h1 hi hb
  go_enter Tryz.func41, Tryz.ntmps41
  go_wp2_with fail
  go_at_call 14
  refine (check_spec _ s.size c fuel s.data.toList _ HI.out hc (by omega) hf).mono ?_
  rw [H1.out]
  rintro e w2 ⟨rfl, hb⟩
  replace HB := Lib.hid (pure_below HB.out hb)
  clear hb hcv HI
  go_wp2
  go_ret
  exact ⟨rfl, HB.out⟩
theorem w30_1 : mnCheck [5, 4, 1] 9 = (0, 0) := by decide
theorem w30_2 : mnCheck [5, 0, 5, 2] 9 = (0, 10) := by decide
theorem w30_3 : mnCheck [44, 1, 5, 2] 9 = (0, 0) := by decide
theorem w30_4 : mnCheck [255, 0, 5, 2] 9 = (0, 0) := by decide
theorem w30_5 : mnCheck [2, 104, 105, 0, 3, 20, 1] 9 = (0, 0) := by decide
theorem w30_6 : mnCheck [2, 0, 104, 105, 0, 3, 21, 1] 9 = (2, 10) := by decide
theorem w30_7 : mnCheck [2, 0, 1, 0, 44, 1, 5, 5, 6, 41, 1] 9 = (0, 0) := by decide
theorem w30_8 : mnCheck [2, 0, 1, 0, 2, 0, 5, 5, 6, 41, 1] 9 = (2, 10) := by decide
theorem w30_9 : mnCheck [5, 4, 1] 0 = (0, 260) := by decide
theorem w30_10 : mnCheck [4, 1] 9 = (0, 210) := by decide
set_option maxRecDepth 100000 in
set_option maxHeartbeats 2000000 in
theorem mnworks_spec (w : World) : Calls Tryz.prog 16 #[] w fun e w' => e = .returned (.bool true) ∧ Below w.heap.size w w' := by
  have HB := Lib.hid (Below.refl w.heap.size w)
  go_enter Tryz.func16, Tryz.ntmps16
  go_wp2_with fail
  go_at_call 41
  refine (is30_yes _ 9 0 0 _ (by decide) (by decide) w30_1).mono ?_
  rintro e wn ⟨rfl, hb⟩
  replace HB := Lib.hid (pure_below HB.out hb)
  clear hb
  go_wp2_with fail
  go_at_call 41
  refine (is30_yes _ 9 0 10 _ (by decide) (by decide) w30_2).mono ?_
  rintro e wn ⟨rfl, hb⟩
  replace HB := Lib.hid (pure_below HB.out hb)
  clear hb
  go_wp2_with fail
  go_at_call 41
  refine (is30_yes _ 9 0 0 _ (by decide) (by decide) w30_3).mono ?_
  rintro e wn ⟨rfl, hb⟩
  replace HB := Lib.hid (pure_below HB.out hb)
  clear hb
  go_wp2_with fail
  go_at_call 41
  refine (is30_yes _ 9 0 0 _ (by decide) (by decide) w30_4).mono ?_
  rintro e wn ⟨rfl, hb⟩
  replace HB := Lib.hid (pure_below HB.out hb)
  clear hb
  go_wp2_with fail
  go_at_call 41
  refine (is30_yes _ 9 0 0 _ (by decide) (by decide) w30_5).mono ?_
  rintro e wn ⟨rfl, hb⟩
  replace HB := Lib.hid (pure_below HB.out hb)
  clear hb
  go_wp2_with fail
  go_at_call 41
  refine (is30_yes _ 9 2 10 _ (by decide) (by decide) w30_6).mono ?_
  rintro e wn ⟨rfl, hb⟩
  replace HB := Lib.hid (pure_below HB.out hb)
  clear hb
  go_wp2_with fail
  go_at_call 41
  refine (is30_yes _ 9 0 0 _ (by decide) (by decide) w30_7).mono ?_
  rintro e wn ⟨rfl, hb⟩
  replace HB := Lib.hid (pure_below HB.out hb)
  clear hb
  go_wp2_with fail
  go_at_call 41
  refine (is30_yes _ 9 2 10 _ (by decide) (by decide) w30_8).mono ?_
  rintro e wn ⟨rfl, hb⟩
  replace HB := Lib.hid (pure_below HB.out hb)
  clear hb
  go_wp2_with fail
  go_at_call 41
  refine (is30_yes _ 0 0 260 _ (by decide) (by decide) w30_9).mono ?_
  rintro e wn ⟨rfl, hb⟩
  replace HB := Lib.hid (pure_below HB.out hb)
  clear hb
  go_wp2_with fail
  go_at_call 41
  refine (is30_yes _ 9 0 210 _ (by decide) (by decide) w30_10).mono ?_
  rintro e wn ⟨rfl, hb⟩
  replace HB := Lib.hid (pure_below HB.out hb)
  clear hb
  go_wp2
  go_ret
  exact ⟨rfl, HB.out⟩
end Go.Proofs.YtejalfjeihlpeaaGreat
