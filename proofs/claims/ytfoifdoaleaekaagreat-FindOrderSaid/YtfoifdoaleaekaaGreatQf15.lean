/-
  Package fit: whether a value fits, One.
  Package scalar: the readers, a map of functions.
  Package tag: Pack.
-/
import Derived.Test.YtfoifdoaleaekaaGreatQf10
import Derived.Test.YtfoifdoaleaekaaGreatQf14
import Derived.MapKept
import Derived.Carry
namespace Go.Proofs.YtfoifdoaleaekaaGreat
open Go.RowKit Go.Acc
theorem up_tdiv (a y : Nat) (hy : 0 < y) : ((a : Int) + y - 1).tdiv y * y = (upN a y : Nat) := by
  unfold upN
  rw [show (a : Int) + y - 1 = ((a + y - 1 : Nat) : Int) by omega, Int.tdiv_eq_ediv_of_nonneg (by omega), ← Int.natCast_ediv, ← Int.natCast_mul]
theorem up_bd (a y : Nat) (hy : 0 < y) : a ≤ upN a y ∧ upN a y ≤ a + y := by
  have h := Nat.div_add_mod (a + y - 1) y
  have h2 := Nat.mod_lt (a + y - 1) hy
  unfold upN
  rw [Nat.mul_comm] at h
  constructor <;> omega
set_option maxHeartbeats 1000000 in
theorem ffits_is (v : Bv) (a i y : Nat) (r : Bool) (w : World) (hy : isW (y : Int) = true) (ha : a ≤ 1048576) (hi : i ≤ 1048576) (hr : fitsV v a i y = r) :
    Calls Tryz.prog 193 #[.agg #[.int .i64 (v.t : Int), .int .i64 (v.w : Int), .int .u64 (v.n : Int)], .int .i64 (a : Int), .int .i64 (i : Int), .int .i64 (y : Int)] w fun e w' => e = .returned (.bool r) ∧ Below w.heap.size w w' := by
  have hB := (Below.refl w.heap.size w).alloc (Nat.le_refl _) (.cells #[.int .i64 (v.t : Int), .int .i64 (v.w : Int), .int .u64 (v.n : Int)] 185)
  have HB := Lib.hid hB
  have hy8 : 1 ≤ y ∧ y ≤ 8 := by have := w_cases hy; omega
  clear hB hy
  have hX := Blk.new w 185 #[.int .i64 (v.t : Int), .int .i64 (v.w : Int), .int .u64 (v.n : Int)]
  cases hin : inl v.t with
  | true =>
    have HI := Lib.hid (show inlineT (v.t : Int) = true from hin)
    have HR := Lib.hid (show decide (v.w ≤ y) = r by rw [← hr]; unfold fitsV; rw [if_pos hin])
    clear hr hin
    have HX := Lib.hid hX
    clear hX
    go_enter Tryz.func193, Tryz.ntmps193
    go_wp2_with fail
    go_at_call 17
    refine (inline_spec (v.t : Int) _).mono ?_
    rw [HI.out]
    rintro e w' ⟨rfl, hb⟩
    have HK := Lib.hid (HX.out.pure hb)
    have x1 : w'.cell? ⟨w.heap.size, 1, none⟩ = some (.int .i64 (v.w : Int)) := HK.out.cell 1
    have HB2 := Lib.hid (pure_below HB.out hb)
    clear hb
    go_wp2_with fail
    go_ret
    exact ⟨ret_bool HR.out, HB2.out⟩
  | false =>
    have HI := Lib.hid (show inlineT (v.t : Int) = false from hin)
    have hne : ¬ inl v.t = true := by rw [hin]; decide
    have hr' : decide (v.n ≤ a ∧ bWidth (upN a y + i * y - v.n) ≤ y) = r := by rw [← hr]; unfold fitsV; rw [if_neg hne]
    have HX := Lib.hid hX
    clear hr hin hne hX
    by_cases hna : v.n ≤ a
    · obtain ⟨hu1, hu2⟩ := up_bd a y (by omega)
      have hiy : i * y ≤ 1048576 * 8 := Nat.mul_le_mul hi hy8.2
      obtain ⟨u, hu⟩ : ∃ u, upN a y = u := ⟨_, rfl⟩
      obtain ⟨q, hq⟩ : ∃ q : Nat, i * y = q := ⟨_, rfl⟩
      have ht := up_tdiv a y (by omega)
      rw [hu] at ht hu1 hu2 hr'
      rw [hq] at hiy hr'
      obtain ⟨d, hd⟩ : ∃ d, u + q - v.n = d := ⟨_, rfl⟩
      rw [hd] at hr'
      obtain ⟨p, hp⟩ : ∃ p : Nat, ((a : Int) + y - 1).tdiv y = p := ⟨(a + y - 1) / y, by rw [show (a : Int) + y - 1 = ((a + y - 1 : Nat) : Int) by omega, Int.tdiv_eq_ediv_of_nonneg (by omega)]; rfl⟩
      rw [hp] at ht
      have hp9 : p ≤ u := by
        have : (p : Int) * y = ((p * y : Nat) : Int) := by simp
        rw [this] at ht
        have h3 : p * y = u := by exact_mod_cast ht
        have : p * 1 ≤ p * y := Nat.mul_le_mul_left p (by omega)
        omega
      have HR := Lib.hid (show decide (bWidth d ≤ y) = r by rw [← hr']; exact decide_eq_decide.2 ⟨fun h => ⟨hna, h⟩, fun h => h.2⟩)
      have e1 : IntKind.i64.wrap ((a : Int) + y) = (a : Int) + y := IntWalk.i64_in _ (by omega)
      have e2 : IntKind.i64.wrap ((a : Int) + y - 1) = (a : Int) + y - 1 := IntWalk.i64_in _ (by omega)
      have e3 : IntKind.i64.wrap (p : Int) = p := IntWalk.i64_in _ (by omega)
      have hiq : (i : Int) * (y : Int) = (q : Int) := by rw [← hq]; simp
      have e4 : IntKind.i64.wrap (u : Int) = u := IntWalk.i64_in _ (by omega)
      have e5 : IntKind.i64.wrap (q : Int) = q := IntWalk.i64_in _ (by omega)
      have e6 : IntKind.i64.wrap ((u : Int) + q) = (u : Int) + q := IntWalk.i64_in _ (by omega)
      have e7 : IntKind.u64.wrap ((u : Int) + q) = (u : Int) + q := u64_in _ (by omega)
      have e8 : (u : Int) + q - v.n = d := by omega
      have e9 : IntKind.u64.wrap (d : Int) = d := u64_in _ (by omega)
      have e10 : IntKind.u64.wrap (a : Int) = a := u64_in _ (by omega)
      have hyn : ¬ y = 0 := by omega
      have HWD := Lib.hid (show wdU d = (bWidth d : Nat) from wdU_b d)
      have hd64 : d < 18446744073709551616 := by omega
      obtain ⟨bd, hbd⟩ : ∃ x, bWidth d = x := ⟨_, rfl⟩
      rw [hbd] at HR HWD
      have hgt : decide ((a : Int) < (v.n : Int)) = false := decide_eq_false (by omega)
      have hgt' : decide (a < v.n) = false := decide_eq_false (by omega)
      have HH := Lib.hid (And.intro hd64 hbd)
      clear hr' hu hq hd hd64 hbd hna hp9 hu1 hu2 hiy
      go_enter Tryz.func193, Tryz.ntmps193
      go_wp2_with fail
      go_at_call 17
      refine (inline_spec (v.t : Int) _).mono ?_
      rw [HI.out]
      rintro e w' ⟨rfl, hb⟩
      have HK := Lib.hid (HX.out.pure hb)
      have x2 : w'.cell? ⟨w.heap.size, 2, none⟩ = some (.int .u64 (v.n : Int)) := HK.out.cell 2
      have HB2 := Lib.hid (pure_below HB.out hb)
      clear hb
      go_wp2_with fail
      go_at_call 215
      refine (wof_is d bd _ HH.out.1 HWD.out).mono ?_
      rintro e w1 ⟨rfl, rfl⟩
      clear ht hp e1 e2 e3 hiq e4 e5 e6 e7 e8 e9 e10 hyn hgt hgt' x2
      go_wp2_with fail
      go_ret
      exact ⟨ret_bool HR.out, HB2.out⟩
    · have HR := Lib.hid (show false = r by rw [← hr', decide_eq_false]; exact fun h => hna h.1)
      have hgt : decide (a < v.n) = true := decide_eq_true (by omega)
      have e10 : IntKind.u64.wrap (a : Int) = a := u64_in _ (by omega)
      clear hr' hna
      go_enter Tryz.func193, Tryz.ntmps193
      go_wp2_with fail
      go_at_call 17
      refine (inline_spec (v.t : Int) _).mono ?_
      rw [HI.out]
      rintro e w' ⟨rfl, hb⟩
      have HK := Lib.hid (HX.out.pure hb)
      have x2 : w'.cell? ⟨w.heap.size, 2, none⟩ = some (.int .u64 (v.n : Int)) := HK.out.cell 2
      have HB2 := Lib.hid (pure_below HB.out hb)
      clear hb
      go_wp2_with fail
      go_ret
      exact ⟨ret_bool HR.out, HB2.out⟩
theorem pow4_is (y : Fin 4) : isW ((2 ^ y.val : Nat) : Int) = true := by
  have h : ∀ y : Fin 4, isW ((2 ^ y.val : Nat) : Int) = true := by decide
  exact h y
set_option maxHeartbeats 1000000 in
theorem one1_spec (v : Bv) (a i y bv ba bi : Nat) (w : World) (hv : Blk w bv 185 #[.int .i64 (v.t : Int), .int .i64 (v.w : Int), .int .u64 (v.n : Int)]) (ha : Blk w ba 3 #[.int .i64 (a : Int)]) (hi : Blk w bi 3 #[.int .i64 (i : Int)])
    (hy : isW (y : Int) = true) (ha2 : a ≤ 1048576) (hi2 : i ≤ 1048576) :
    Calls Tryz.prog 192 #[.int .i64 (y : Int), .pointer (some ⟨bv, 0, none⟩), .pointer (some ⟨ba, 0, none⟩), .pointer (some ⟨bi, 0, none⟩)] w fun e w' => e = .returned (.bool (fitsV v a i y)) ∧ Below w.heap.size w w' := by
  obtain ⟨r, hr⟩ : ∃ r, fitsV v a i y = r := ⟨_, rfl⟩
  rw [hr]
  have HF := Lib.hid (ffits_is v a i y r w hy ha2 hi2 hr)
  have v0 : w.cell? ⟨bv, 0, none⟩ = some (.int .i64 (v.t : Int)) := hv.cell 0
  have v1 : w.cell? ⟨bv, 1, none⟩ = some (.int .i64 (v.w : Int)) := hv.cell 1
  have v2 : w.cell? ⟨bv, 2, none⟩ = some (.int .u64 (v.n : Int)) := hv.cell 2
  have a0 : w.cell? ⟨ba, 0, none⟩ = some (.int .i64 (a : Int)) := ha.cell 0
  have i0 : w.cell? ⟨bi, 0, none⟩ = some (.int .i64 (i : Int)) := hi.cell 0
  clear hv ha hi hy ha2 hi2 hr
  go_enter Tryz.func192, Tryz.ntmps192
  go_wp2_with fail
  go_at_call 193
  refine HF.out.mono ?_
  rintro e w' ⟨rfl, hb⟩
  have HB := Lib.hid hb
  clear hb v0 v1 v2 a0 i0
  go_wp2_with fail
  go_ret
  exact ⟨rfl, HB.out⟩
set_option maxHeartbeats 1000000 in
theorem one_spec (v : Bv) (a i : Nat) (w : World) (ha2 : a ≤ 1048576) (hi2 : i ≤ 1048576) :
    Calls Tryz.prog 128 #[.agg #[.int .i64 (v.t : Int), .int .i64 (v.w : Int), .int .u64 (v.n : Int)], .int .i64 (a : Int), .int .i64 (i : Int)] w fun e w' => e = .returned (.int .i64 (leastW (fitsV v a i) : Nat)) ∧ Below w.heap.size w w' := by
  have HB := Lib.hid (show Below w.heap.size w (((w.alloc (.cells #[.int .i64 (v.t : Int), .int .i64 (v.w : Int), .int .u64 (v.n : Int)] 185)).alloc (.cells #[.int .i64 (a : Int)] 3)).alloc (.cells #[.int .i64 (i : Int)] 3)) from (((Below.refl _ _).alloc (Nat.le_refl _) _).alloc (by simp) _).alloc (by simp; omega) _)
  have HX := Lib.hid (((Blk.new w 185 #[.int .i64 (v.t : Int), .int .i64 (v.w : Int), .int .u64 (v.n : Int)]).alloc (.cells #[.int .i64 (a : Int)] 3)).alloc (.cells #[.int .i64 (i : Int)] 3))
  have HY := Lib.hid ((blk_new2 w (.cells #[.int .i64 (v.t : Int), .int .i64 (v.w : Int), .int .u64 (v.n : Int)] 185) 3 #[.int .i64 (a : Int)]).alloc (.cells #[.int .i64 (i : Int)] 3))
  have HZ := Lib.hid (blk_new2 (w.alloc (.cells #[.int .i64 (v.t : Int), .int .i64 (v.w : Int), .int .u64 (v.n : Int)] 185)) (.cells #[.int .i64 (a : Int)] 3) 3 #[.int .i64 (i : Int)])
  have e : (w.alloc (.cells #[.int .i64 (v.t : Int), .int .i64 (v.w : Int), .int .u64 (v.n : Int)] 185)).heap.size + 1 = w.heap.size + 1 + 1 := by simp
  rw [e] at HZ
  obtain ⟨r, hr⟩ : ∃ r, leastW (fitsV v a i) = r := ⟨_, rfl⟩
  have HRR := Lib.hid hr
  rw [hr]
  have HA := Lib.hid (And.intro ha2 hi2)
  clear e hr
  go_enter Tryz.func128, Tryz.ntmps128
  go_wp2_with fail
  go_at_call 190
  refine (fwithin_spec a _ (by omega)).mono ?_
  rintro e w' ⟨rfl, rfl⟩
  go_wp2_with fail
  go_at_call 190
  refine (fwithin_spec i _ (by omega)).mono ?_
  rintro e w' ⟨rfl, rfl⟩
  go_wp2_with fail
  go_at_call 191
  generalize (((w.alloc (.cells #[.int .i64 (v.t : Int), .int .i64 (v.w : Int), .int .u64 (v.n : Int)] 185)).alloc (.cells #[.int .i64 (a : Int)] 3)).alloc (.cells #[.int .i64 (i : Int)] 3)) = w1 at HB HX HY HZ ⊢
  generalize w.heap.size + 1 + 1 = bi at HZ ⊢
  generalize w.heap.size + 1 = ba at HY ⊢
  have HF := fun (y : Fin 4) (W : World) (hW : Below w1.heap.size w1 W) => one1_spec v a i (2 ^ y.val) w.heap.size ba bi W (HX.out.pure hW) (HY.out.pure hW) (HZ.out.pure hW) (pow4_is y) HA.out.1 HA.out.2
  refine (least_spec 192 #[.pointer (some ⟨w.heap.size, 0, none⟩), .pointer (some ⟨ba, 0, none⟩), .pointer (some ⟨bi, 0, none⟩)] (fitsV v a i) w1 Tryz.call192 HF).mono ?_
  rw [HRR.out]
  rintro e w' ⟨rfl, hb⟩
  have HB2 := Lib.hid (pure_below HB.out hb)
  clear hb
  go_wp2_with fail
  go_ret
  exact ⟨rfl, HB2.out⟩
end Go.Proofs.YtfoifdoaleaekaaGreat

namespace Go.Acc
open Go.RowKit
section
variable {P : Program} {mt kt et : TypeId}
theorem run_ins (hu : P.underlying mt = some (.map kt et)) (hk : P.underlying kt = some (.int .i64)) (W : World) (es : Array MapEntry) (c g : Nat) (x : Int) (v : Value) (hg : g = W.heap.size)
    (hn : Instr.findNow (.int .i64) (.int .i64 x) es.toList 0 = some none) :
    (Instr.mapUpdate mt (.map (some g)) (.int .i64 x) v).run P (W.alloc (.map es c)) = .ok () (W.alloc (.map (es.push { key := .int .i64 x, val := v, born := c }) (c + 1))) := by
  subst hg
  have hb : (W.alloc (.map es c)).heap[W.heap.size]? = some (.map es c) := heap_alloc_new W _
  have e : ∀ o o' : Obj, (W.heap.push o).setIfInBounds W.heap.size o' = W.heap.push o' := by
    intro o o'
    apply Array.ext_getElem?
    intro i
    rw [Array.getElem?_setIfInBounds, Array.getElem?_push, Array.getElem?_push]
    by_cases h : W.heap.size = i
    · subst h; simp
    · rw [if_neg h, if_neg (fun e => h e.symm)]; rw [if_neg (fun e => h e.symm)]
  have h1 : (Instr.checkKey false 10000 kt (.int .i64 x)).run P (W.alloc (.map es c)) = .ok () (W.alloc (.map es c)) := MapKept.run_checkKey (n := 9999) (k := .int .i64 x) hk rfl false
  have h2 : (Instr.findKey kt (.int .i64 x) es.toList).run P (W.alloc (.map es c)) = .ok none (W.alloc (.map es c)) := MapKept.run_findKey hk hn
  have h3 := MapKept.run_setObj_map (P := P) (.map (es.push { key := .int .i64 x, val := v, born := c }) (c + 1)) hb
  simp only [Instr.mapUpdate, Sem.run_bind, run_underlying hu, Result.andThen_ok, MapKept.run_getObj_map hb, h1, h2, h3]
  simp only [World.alloc, e]
theorem run_look (hu : P.underlying mt = some (.map kt et)) (hk : P.underlying kt = some (.int .i64)) (z : Value) (hz : ∀ W, (zeroValue et).run P W = .ok z W) (W : World) (es : Array MapEntry) (c g : Nat) (x : Int) (b : Bool) (r : Option (Nat × Value))
    (hb : W.heap[g]? = some (.map es c)) (hn : Instr.findNow (.int .i64) (.int .i64 x) es.toList 0 = some r) :
    (Instr.lookup mt (.map (some g)) (.int .i64 x) b).run P W = .ok (if b then .tuple #[(r.map (·.2)).getD z, .bool r.isSome] else (r.map (·.2)).getD z) W := by
  have h1 : (Instr.checkKey es.isEmpty 10000 kt (.int .i64 x)).run P W = .ok () W := MapKept.run_checkKey (n := 9999) (k := .int .i64 x) hk rfl _
  have h2 : (Instr.findKey kt (.int .i64 x) es.toList).run P W = .ok r W := MapKept.run_findKey hk hn
  cases r with
  | none =>
    simp only [Instr.lookup, Sem.run_bind, run_underlying hu, Result.andThen_ok, MapKept.run_getObj_map hb, h1, h2, hz, Sem.run_pure]
    rfl
  | some p =>
    obtain ⟨i, u⟩ := p
    simp only [Instr.lookup, Sem.run_bind, run_underlying hu, Result.andThen_ok, MapKept.run_getObj_map hb, h1, h2, Sem.run_pure]
    rfl
end
end Go.Acc
namespace Go.Proofs.YtfoifdoaleaekaaGreat
open Go.RowKit Go.Acc
def rdEs : Array MapEntry := #[⟨.int .i64 0, .func (.func 140) #[] #[], 0⟩, ⟨.int .i64 26, .func (.func 141) #[] #[], 1⟩, ⟨.int .i64 1, .func (.func 143) #[] #[], 2⟩, ⟨.int .i64 6, .func (.func 143) #[] #[], 3⟩, ⟨.int .i64 2, .func (.func 142) #[] #[], 4⟩, ⟨.int .i64 7, .func (.func 142) #[] #[], 5⟩]
def rdF (t : Int) : Option Value := if t = 0 then some (.func (.func 140) #[] #[]) else if t = 26 then some (.func (.func 141) #[] #[]) else if t = 1 ∨ t = 6 then some (.func (.func 143) #[] #[]) else if t = 2 ∨ t = 7 then some (.func (.func 142) #[] #[]) else none
theorem rd_find (t : Int) : ∃ r, Instr.findNow (.int .i64) (.int .i64 t) rdEs.toList 0 = some r ∧ r.map (·.2) = rdF t := by
  by_cases h0 : t = 0
  · subst h0; exact ⟨_, rfl, rfl⟩
  by_cases h1 : t = 26
  · subst h1; exact ⟨_, rfl, rfl⟩
  by_cases h2 : t = 1
  · subst h2; exact ⟨_, rfl, rfl⟩
  by_cases h3 : t = 6
  · subst h3; exact ⟨_, rfl, rfl⟩
  by_cases h4 : t = 2
  · subst h4; exact ⟨_, rfl, rfl⟩
  by_cases h5 : t = 7
  · subst h5; exact ⟨_, rfl, rfl⟩
  refine ⟨none, ?_, ?_⟩
  · have e0 : (t == 0) = false := by simpa using h0
    have e1 : (t == 26) = false := by simpa using h1
    have e2 : (t == 1) = false := by simpa using h2
    have e3 : (t == 6) = false := by simpa using h3
    have e4 : (t == 2) = false := by simpa using h4
    have e5 : (t == 7) = false := by simpa using h5
    simp only [rdEs, Instr.findNow, Instr.sameNow, if_true, e0, e1, e2, e3, e4, e5]
  · simp [rdF, h0, h1, h2, h3, h4, h5]
def RdW (w : World) (e : Ending) (w' : World) : Prop := ∃ g, e = .returned (.map (some g)) ∧ w'.heap[g]? = some (.map rdEs 6) ∧ Below w.heap.size w w'
set_option maxRecDepth 100000 in
set_option maxHeartbeats 400000 in
theorem readers_spec (w : World) : Calls Tryz.prog 96 #[] w (RdW w) := by
  have h0 := run_makeMap (P := Tryz.prog) 144
  have h1 : ∀ (W : World) (es : Array MapEntry) (c : Nat) (x : Int) (v : Value), Instr.findNow (.int .i64) (.int .i64 x) es.toList 0 = some none → (Instr.mapUpdate 144 (.map (some W.heap.size)) (.int .i64 x) v).run Tryz.prog (W.alloc (.map es c)) = .ok () (W.alloc (.map (es.push { key := .int .i64 x, val := v, born := c }) (c + 1))) :=
    fun W es c x v h => run_ins Tryz.underlying144 Tryz.underlying3 W es c _ x v rfl h
  have i0 : ∀ W : World, (Instr.mapUpdate 144 (.map (some W.heap.size)) (.int .i64 0) (.func (.func 140) #[] #[])).run Tryz.prog (W.alloc (.map #[] 0)) = .ok () (W.alloc (.map #[⟨.int .i64 0, .func (.func 140) #[] #[], 0⟩] 1)) := fun W => h1 W #[] 0 0 _ rfl
  have i1 : ∀ W : World, (Instr.mapUpdate 144 (.map (some W.heap.size)) (.int .i64 26) (.func (.func 141) #[] #[])).run Tryz.prog (W.alloc (.map #[⟨.int .i64 0, .func (.func 140) #[] #[], 0⟩] 1)) = .ok () (W.alloc (.map #[⟨.int .i64 0, .func (.func 140) #[] #[], 0⟩, ⟨.int .i64 26, .func (.func 141) #[] #[], 1⟩] 2)) := fun W => h1 W #[⟨.int .i64 0, .func (.func 140) #[] #[], 0⟩] 1 26 _ rfl
  have i2 : ∀ W : World, (Instr.mapUpdate 144 (.map (some W.heap.size)) (.int .i64 1) (.func (.func 143) #[] #[])).run Tryz.prog (W.alloc (.map #[⟨.int .i64 0, .func (.func 140) #[] #[], 0⟩, ⟨.int .i64 26, .func (.func 141) #[] #[], 1⟩] 2)) = .ok () (W.alloc (.map #[⟨.int .i64 0, .func (.func 140) #[] #[], 0⟩, ⟨.int .i64 26, .func (.func 141) #[] #[], 1⟩, ⟨.int .i64 1, .func (.func 143) #[] #[], 2⟩] 3)) := fun W => h1 W #[⟨.int .i64 0, .func (.func 140) #[] #[], 0⟩, ⟨.int .i64 26, .func (.func 141) #[] #[], 1⟩] 2 1 _ rfl
  have i3 : ∀ W : World, (Instr.mapUpdate 144 (.map (some W.heap.size)) (.int .i64 6) (.func (.func 143) #[] #[])).run Tryz.prog (W.alloc (.map #[⟨.int .i64 0, .func (.func 140) #[] #[], 0⟩, ⟨.int .i64 26, .func (.func 141) #[] #[], 1⟩, ⟨.int .i64 1, .func (.func 143) #[] #[], 2⟩] 3)) = .ok () (W.alloc (.map #[⟨.int .i64 0, .func (.func 140) #[] #[], 0⟩, ⟨.int .i64 26, .func (.func 141) #[] #[], 1⟩, ⟨.int .i64 1, .func (.func 143) #[] #[], 2⟩, ⟨.int .i64 6, .func (.func 143) #[] #[], 3⟩] 4)) := fun W => h1 W #[⟨.int .i64 0, .func (.func 140) #[] #[], 0⟩, ⟨.int .i64 26, .func (.func 141) #[] #[], 1⟩, ⟨.int .i64 1, .func (.func 143) #[] #[], 2⟩] 3 6 _ rfl
  have i4 : ∀ W : World, (Instr.mapUpdate 144 (.map (some W.heap.size)) (.int .i64 2) (.func (.func 142) #[] #[])).run Tryz.prog (W.alloc (.map #[⟨.int .i64 0, .func (.func 140) #[] #[], 0⟩, ⟨.int .i64 26, .func (.func 141) #[] #[], 1⟩, ⟨.int .i64 1, .func (.func 143) #[] #[], 2⟩, ⟨.int .i64 6, .func (.func 143) #[] #[], 3⟩] 4)) = .ok () (W.alloc (.map #[⟨.int .i64 0, .func (.func 140) #[] #[], 0⟩, ⟨.int .i64 26, .func (.func 141) #[] #[], 1⟩, ⟨.int .i64 1, .func (.func 143) #[] #[], 2⟩, ⟨.int .i64 6, .func (.func 143) #[] #[], 3⟩, ⟨.int .i64 2, .func (.func 142) #[] #[], 4⟩] 5)) := fun W => h1 W #[⟨.int .i64 0, .func (.func 140) #[] #[], 0⟩, ⟨.int .i64 26, .func (.func 141) #[] #[], 1⟩, ⟨.int .i64 1, .func (.func 143) #[] #[], 2⟩, ⟨.int .i64 6, .func (.func 143) #[] #[], 3⟩] 4 2 _ rfl
  have i5 : ∀ W : World, (Instr.mapUpdate 144 (.map (some W.heap.size)) (.int .i64 7) (.func (.func 142) #[] #[])).run Tryz.prog (W.alloc (.map #[⟨.int .i64 0, .func (.func 140) #[] #[], 0⟩, ⟨.int .i64 26, .func (.func 141) #[] #[], 1⟩, ⟨.int .i64 1, .func (.func 143) #[] #[], 2⟩, ⟨.int .i64 6, .func (.func 143) #[] #[], 3⟩, ⟨.int .i64 2, .func (.func 142) #[] #[], 4⟩] 5)) = .ok () (W.alloc (.map #[⟨.int .i64 0, .func (.func 140) #[] #[], 0⟩, ⟨.int .i64 26, .func (.func 141) #[] #[], 1⟩, ⟨.int .i64 1, .func (.func 143) #[] #[], 2⟩, ⟨.int .i64 6, .func (.func 143) #[] #[], 3⟩, ⟨.int .i64 2, .func (.func 142) #[] #[], 4⟩, ⟨.int .i64 7, .func (.func 142) #[] #[], 5⟩] 6)) := fun W => h1 W #[⟨.int .i64 0, .func (.func 140) #[] #[], 0⟩, ⟨.int .i64 26, .func (.func 141) #[] #[], 1⟩, ⟨.int .i64 1, .func (.func 143) #[] #[], 2⟩, ⟨.int .i64 6, .func (.func 143) #[] #[], 3⟩, ⟨.int .i64 2, .func (.func 142) #[] #[], 4⟩] 5 7 _ rfl
  clear h1
  go_enter Tryz.func96, Tryz.ntmps96
  go_wp2
  go_ret
  exact ⟨_, rfl, heap_alloc_new w _, (Below.refl _ _).alloc (Nat.le_refl _) _⟩
end Go.Proofs.YtfoifdoaleaekaaGreat

namespace Go.Proofs.YtfoifdoaleaekaaGreat
open Go.RowKit Go.Acc
def pkEs : Array MapEntry := #[⟨.int .i64 1, .int .i64 0, 0⟩, ⟨.int .i64 2, .int .i64 1, 1⟩, ⟨.int .i64 4, .int .i64 2, 2⟩, ⟨.int .i64 8, .int .i64 3, 3⟩]
theorem pk_find {y : Nat} (h : isW (y : Int) = true) : ∃ i, Instr.findNow (.int .i64) (.int .i64 (y : Int)) pkEs.toList 0 = some (some (i, .int .i64 (bCode y : Int))) := by
  rcases w_cases h with rfl | rfl | rfl | rfl <;> exact ⟨_, rfl⟩
set_option maxRecDepth 100000 in
set_option maxHeartbeats 1000000 in
theorem pack_spec (t y : Nat) (w : World) (ht : legalT (t : Int) = true) (hy : isW (y : Int) = true) :
    Calls Tryz.prog 132 #[.int .i64 (t : Int), .int .i64 (y : Int)] w fun e w' => e = .returned (.tuple #[.int .u8 ((UInt8.ofNat (4 * t + bCode y)).toNat : Int), .int .i64 0]) ∧ Below w.heap.size w w' := by
  have h0 := run_makeMap (P := Tryz.prog) 250
  have h1 : ∀ (W : World) (es : Array MapEntry) (c : Nat) (x : Int) (v : Value), Instr.findNow (.int .i64) (.int .i64 x) es.toList 0 = some none → (Instr.mapUpdate 250 (.map (some W.heap.size)) (.int .i64 x) v).run Tryz.prog (W.alloc (.map es c)) = .ok () (W.alloc (.map (es.push { key := .int .i64 x, val := v, born := c }) (c + 1))) :=
    fun W es c x v h => run_ins Tryz.underlying250 Tryz.underlying3 W es c _ x v rfl h
  have i0 : ∀ W : World, (Instr.mapUpdate 250 (.map (some W.heap.size)) (.int .i64 1) (.int .i64 0)).run Tryz.prog (W.alloc (.map #[] 0)) = .ok () (W.alloc (.map #[⟨.int .i64 1, .int .i64 0, 0⟩] 1)) := fun W => h1 W #[] 0 1 _ rfl
  have i1 : ∀ W : World, (Instr.mapUpdate 250 (.map (some W.heap.size)) (.int .i64 2) (.int .i64 1)).run Tryz.prog (W.alloc (.map #[⟨.int .i64 1, .int .i64 0, 0⟩] 1)) = .ok () (W.alloc (.map #[⟨.int .i64 1, .int .i64 0, 0⟩, ⟨.int .i64 2, .int .i64 1, 1⟩] 2)) := fun W => h1 W _ 1 2 _ rfl
  have i2 : ∀ W : World, (Instr.mapUpdate 250 (.map (some W.heap.size)) (.int .i64 4) (.int .i64 2)).run Tryz.prog (W.alloc (.map #[⟨.int .i64 1, .int .i64 0, 0⟩, ⟨.int .i64 2, .int .i64 1, 1⟩] 2)) = .ok () (W.alloc (.map #[⟨.int .i64 1, .int .i64 0, 0⟩, ⟨.int .i64 2, .int .i64 1, 1⟩, ⟨.int .i64 4, .int .i64 2, 2⟩] 3)) := fun W => h1 W _ 2 4 _ rfl
  have i3 : ∀ W : World, (Instr.mapUpdate 250 (.map (some W.heap.size)) (.int .i64 8) (.int .i64 3)).run Tryz.prog (W.alloc (.map #[⟨.int .i64 1, .int .i64 0, 0⟩, ⟨.int .i64 2, .int .i64 1, 1⟩, ⟨.int .i64 4, .int .i64 2, 2⟩] 3)) = .ok () (W.alloc (.map pkEs 4)) := fun W => h1 W _ 3 8 _ rfl
  obtain ⟨i, hi⟩ := pk_find hy
  have i4 : ∀ W : World, (Instr.lookup 250 (.map (some W.heap.size)) (.int .i64 (y : Int)) true).run Tryz.prog (W.alloc (.map pkEs 4)) = .ok (.tuple #[.int .i64 (bCode y : Int), .bool true]) (W.alloc (.map pkEs 4)) := fun W => run_look Tryz.underlying250 Tryz.underlying3 (.int .i64 0) (fun W => Tryz.zeroValue3 W) (W.alloc (.map pkEs 4)) pkEs 4 W.heap.size y true _ (heap_alloc_new W _) hi
  have HT := Lib.hid ht
  have ht36 : t ≤ 36 := by have := isT_iff.1 (legal_isT ht); omega
  obtain ⟨c, hc⟩ : ∃ c, bCode y = c := ⟨_, rfl⟩
  have hc3 : c ≤ 3 := by rw [← hc]; unfold bCode; (repeat' split) <;> omega
  rw [hc] at i4 ⊢
  have HR := Lib.hid (show (4 * (t : Int) + c) = ((UInt8.ofNat (4 * t + c)).toNat : Int) by
    rw [UInt8.toNat_ofNat']
    show (4 * (t : Int) + c) = (((4 * t + c) % 256 : Nat) : Int)
    omega)
  have e1 : IntKind.i64.wrap (4 * (t : Int)) = 4 * (t : Int) := by rw [IntKind.wrap_i64]; omega
  have e2 : IntKind.i64.wrap (4 * (t : Int) + c) = 4 * (t : Int) + c := by rw [IntKind.wrap_i64]; omega
  clear h1 hi hy ht hc
  go_enter Tryz.func132, Tryz.ntmps132
  go_wp2_with fail
  go_at_call 44
  refine (legal_spec (t : Int) _).mono ?_
  rw [HT.out]
  rintro e w1 ⟨rfl, hb⟩
  have HB := Lib.hid hb
  clear hb
  go_wp2_with fail
  go_ret2
  exact ⟨ret_t1 HR.out, HB.out.alloc HB.out.size _⟩
end Go.Proofs.YtfoifdoaleaekaaGreat
