/-
  A map whose keys are structs of three numbers, as a list of the keys stored.
  Package cover: the use of a reference, the closure that collects the parts.
  Package cover: the state of a walk in memory.
-/
import Derived.Test.YtejalfjeihlpeaaQ14
namespace Go.Acc
open Go.RowKit
/-- Three numbers as a struct. -/
def spV (x : Int × Int × Int) : Value := .agg #[.int .i64 x.1, .int .i64 x.2.1, .int .i64 x.2.2]
/-- Block b is a map in which just the keys l are, each with the value true. -/
def MapS (w : World) (b : Nat) (l : List (Int × Int × Int)) : Prop :=
  ∃ es k, w.heap[b]? = some (.map es k) ∧ es.toList.map (·.key) = l.map spV ∧ ∀ x ∈ es.toList, x.val = .bool true
theorem MapS.lt {w : World} {b : Nat} {l : List (Int × Int × Int)} (h : MapS w b l) : b < w.heap.size := by
  obtain ⟨es, k, hb, _⟩ := h
  exact (Array.getElem?_eq_some_iff.1 hb).1
theorem MapS.fr {w w' : World} {b : Nat} {l : List (Int × Int × Int)} {S : Nat → Prop} (h : MapS w b l) (hf : Fr S w w') (hs : ¬ S b) : MapS w' b l := by
  obtain ⟨es, k, hb, r⟩ := h
  exact ⟨es, k, by rw [hf.block b (Array.getElem?_eq_some_iff.1 hb).1 hs]; exact hb, r⟩
theorem MapS.pure {w w' : World} {b : Nat} {l : List (Int × Int × Int)} (h : MapS w b l) (hf : Below w.heap.size w w') : MapS w' b l :=
  h.fr (Fr.of_below hf fun _ => False) (fun h => h)
section
variable {P : Program} {mt kt et : TypeId} {fs : Array Field}
theorem run_ask (heq : ∀ (x y : Int × Int × Int) (W : World), (Op.equal kt (spV x) (spV y)).run P W = .ok (decide (x = y)) W) (x : Int × Int × Int) (W : World) :
    ∀ (l : List (Int × Int × Int)) (es : List MapEntry) (i : Nat), es.map (·.key) = l.map spV → (∀ y ∈ es, y.val = .bool true) →
      ∃ r : Option (Nat × Value), (Instr.findAsking kt (spV x) es i).run P W = .ok r W ∧ r.isSome = decide (x ∈ l) ∧ ∀ p, r = some p → p.2 = .bool true
  | [], [], i, _, _ => ⟨none, by simp [Instr.findAsking], by simp, by simp⟩
  | [], _ :: _, _, h, _ => by simp at h
  | _ :: _, [], _, h, _ => by simp at h
  | y :: l, e :: es, i, h, hv => by
    simp only [List.map_cons, List.cons.injEq] at h
    by_cases hxy : x = y
    · refine ⟨some (i, e.val), ?_, by simp [hxy], fun p hp => ?_⟩
      · simp only [Instr.findAsking, Sem.run_bind, h.1, heq, Result.andThen_ok, decide_eq_true hxy, if_true, Sem.run_pure]
      · injection hp with hp; subst hp; exact hv e (by simp)
    · obtain ⟨r, h1, h2, h3⟩ := run_ask heq x W l es (i + 1) h.2 (fun z hz => hv z (by simp [hz]))
      refine ⟨r, ?_, ?_, h3⟩
      · simp only [Instr.findAsking, Sem.run_bind, h.1, heq, Result.andThen_ok, decide_eq_false hxy]
        rw [if_neg (by decide)]
        exact h1
      · rw [h2]; simp [hxy]
theorem run_findS (hk : P.underlying kt = some (.struct fs)) (heq : ∀ (x y : Int × Int × Int) (W : World), (Op.equal kt (spV x) (spV y)).run P W = .ok (decide (x = y)) W) (x : Int × Int × Int) (W : World)
    (l : List (Int × Int × Int)) (es : List MapEntry) (h : es.map (·.key) = l.map spV) (hv : ∀ y ∈ es, y.val = .bool true) :
      ∃ r : Option (Nat × Value), (Instr.findKey kt (spV x) es).run P W = .ok r W ∧ r.isSome = decide (x ∈ l) ∧ ∀ p, r = some p → p.2 = .bool true := by
  obtain ⟨r, h1, h2, h3⟩ := run_ask heq x W l es 0 h hv
  refine ⟨r, ?_, h2, h3⟩
  cases es with
  | nil =>
    simp only [Instr.findAsking, Sem.run_pure] at h1
    rw [← h1]
    simp [Instr.findKey, run_underlying hk, Instr.findNow, Result.andThen]
  | cons e es => simp [Instr.findKey, run_underlying hk, Instr.findNow, Instr.sameNow, Result.andThen, h1]
/-- Looking up a key. -/
theorem run_lookS (hu : P.underlying mt = some (.map kt et)) (hk : P.underlying kt = some (.struct fs)) (heq : ∀ (x y : Int × Int × Int) (W : World), (Op.equal kt (spV x) (spV y)).run P W = .ok (decide (x = y)) W)
    (hck : ∀ (x : Int × Int × Int) (e : Bool) (W : World), (Instr.checkKey e 10000 kt (spV x)).run P W = .ok () W) (hz : ∀ W, (zeroValue et).run P W = .ok (.bool false) W)
    (b : Nat) (l : List (Int × Int × Int)) (x : Int × Int × Int) (W : World) (h : MapS W b l) : (Instr.lookup mt (.map (some b)) (spV x) false).run P W = .ok (.bool (decide (x ∈ l))) W := by
  obtain ⟨es, k, hb, h1, h2⟩ := h
  obtain ⟨r, h3, h4, h5⟩ := run_findS hk heq x W l es.toList h1 h2
  rw [← h4]
  cases r with
  | none =>
    simp only [Instr.lookup, Sem.run_bind, run_underlying hu, Result.andThen_ok, MapKept.run_getObj_map hb, hck, h3, hz, Sem.run_pure]
    rfl
  | some p =>
    obtain ⟨i, u⟩ := p
    obtain rfl : u = .bool true := h5 _ rfl
    simp only [Instr.lookup, Sem.run_bind, run_underlying hu, Result.andThen_ok, MapKept.run_getObj_map hb, hck, h3, Sem.run_pure]
    rfl
/-- Storing under a new key. -/
theorem run_insS (hu : P.underlying mt = some (.map kt et)) (hk : P.underlying kt = some (.struct fs)) (heq : ∀ (x y : Int × Int × Int) (W : World), (Op.equal kt (spV x) (spV y)).run P W = .ok (decide (x = y)) W)
    (hck : ∀ (x : Int × Int × Int) (e : Bool) (W : World), (Instr.checkKey e 10000 kt (spV x)).run P W = .ok () W)
    (b : Nat) (l : List (Int × Int × Int)) (x : Int × Int × Int) (W : World) (h : MapS W b l) (hx : x ∉ l) :
    ∃ W', (Instr.mapUpdate mt (.map (some b)) (spV x) (.bool true)).run P W = .ok () W' ∧ MapS W' b (l ++ [x]) ∧ Fr (fun k => k = b) W W' ∧ W'.heap.size = W.heap.size := by
  obtain ⟨es, k, hb, h1, h2⟩ := h
  obtain ⟨r, h3, h4, _⟩ := run_findS hk heq x W l es.toList h1 h2
  rw [decide_eq_false hx] at h4
  obtain rfl : r = none := by cases r; rfl; cases h4
  have hs := MapKept.heap_set (w := W) (o' := .map (es.push { key := spV x, val := .bool true, born := k }) (k + 1)) hb
  refine ⟨{ W with heap := W.heap.setIfInBounds b (.map (es.push { key := spV x, val := .bool true, born := k }) (k + 1)) }, ?_, ⟨_, _, hs.1, ?_, ?_⟩, ⟨rfl, rfl, rfl, by simp, fun i hi hne => hs.2 i hne⟩, by simp⟩
  · simp only [Instr.mapUpdate, Sem.run_bind, run_underlying hu, Result.andThen_ok, MapKept.run_getObj_map hb, hck, h3, MapKept.run_setObj_map _ hb]
  · simp [h1]
  · intro y hy
    simp only [Array.toList_push, List.mem_append, List.mem_singleton] at hy
    rcases hy with hy | rfl
    · exact h2 y hy
    · rfl
end
end Go.Acc
namespace Go.Proofs.Ytejalfjeihlpeaa
open Go.RowKit Go.Acc
theorem spot_eq : ∀ (x y : Int × Int × Int) (W : World), (Op.equal 66 (spV x) (spV y)).run Try.prog W = .ok (decide (x = y)) W := by
  rintro ⟨a, b, c⟩ ⟨a', b', c'⟩ W
  by_cases h1 : a = a' <;> by_cases h2 : b = b' <;> by_cases h3 : c = c' <;> (simp only [spV]; (change (Op.equalIn 10000 _ _ _).run Try.prog W = _); go_simp)
theorem spot_ck : ∀ (x : Int × Int × Int) (e : Bool) (W : World), (Instr.checkKey e 10000 66 (spV x)).run Try.prog W = .ok () W := by
  rintro ⟨a, b, c⟩ e W
  kernel_rfl
theorem spot_zero : ∀ W : World, (zeroValue 4).run Try.prog W = .ok (.bool false) W := by
  intro W
  go_simp
end Go.Proofs.Ytejalfjeihlpeaa

namespace Go.Proofs.Ytejalfjeihlpeaa
open Go.RowKit Go.Acc
def owEs : Array MapEntry := #[⟨.int .i64 0, .int .i64 1, 0⟩, ⟨.int .i64 1, .int .i64 2, 1⟩, ⟨.int .i64 2, .int .i64 3, 2⟩, ⟨.int .i64 26, .int .i64 4, 3⟩]
theorem ow_look (t : Int) : ∃ (k : Int) (b : Bool), (if b = true then k else 5) = cvOwn t ∧ ∀ (W : World) (g : Nat), W.heap[g]? = some (.map owEs 4) →
    (Instr.lookup 83 (.map (some g)) (.int .i64 t) true).run Try.prog W = .ok (.tuple #[.int .i64 k, .bool b]) W := by
  have hz : ∀ W : World, (zeroValue 3).run Try.prog W = .ok (.int .i64 0) W := by intro W; go_simp
  have key : ∀ (r : Option (Nat × Value)) (W : World) (g : Nat), Instr.findNow (.int .i64) (.int .i64 t) owEs.toList 0 = some r → W.heap[g]? = some (.map owEs 4) → (Instr.lookup 83 (.map (some g)) (.int .i64 t) true).run Try.prog W = .ok (.tuple #[(r.map (·.2)).getD (.int .i64 0), .bool r.isSome]) W := by
    intro r W g h hb
    exact run_look Try.underlying83 Try.underlying3 (.int .i64 0) hz W owEs 4 g t true r hb h
  by_cases h0 : t = 0
  · subst h0; exact ⟨1, true, rfl, fun W g hb => key (some (0, .int .i64 1)) W g rfl hb⟩
  by_cases h1 : t = 1
  · subst h1; exact ⟨2, true, rfl, fun W g hb => key (some (1, .int .i64 2)) W g rfl hb⟩
  by_cases h2 : t = 2
  · subst h2; exact ⟨3, true, rfl, fun W g hb => key (some (2, .int .i64 3)) W g rfl hb⟩
  by_cases h3 : t = 26
  · subst h3; exact ⟨4, true, rfl, fun W g hb => key (some (3, .int .i64 4)) W g rfl hb⟩
  refine ⟨0, false, by simp [cvOwn, h0, h1, h2, h3], fun W g hb => key none W g ?_ hb⟩
  have e0 : (t == 0) = false := by simpa using h0
  have e1 : (t == 1) = false := by simpa using h1
  have e2 : (t == 2) = false := by simpa using h2
  have e3 : (t == 26) = false := by simpa using h3
  simp only [owEs, Instr.findNow, Instr.sameNow, if_true, e0, e1, e2, e3]
set_option maxRecDepth 100000 in
set_option maxHeartbeats 400000 in
theorem own_spec (t : Int) (w : World) : Calls Try.prog 30 #[.int .i64 t] w fun e w' => e = .returned (.int .i64 (cvOwn t)) ∧ Below w.heap.size w w' := by
  have h0 := run_makeMap (P := Try.prog) 83
  have h1 : ∀ (W : World) (es : Array MapEntry) (c : Nat) (x : Int) (v : Value), Instr.findNow (.int .i64) (.int .i64 x) es.toList 0 = some none → (Instr.mapUpdate 83 (.map (some W.heap.size)) (.int .i64 x) v).run Try.prog (W.alloc (.map es c)) = .ok () (W.alloc (.map (es.push { key := .int .i64 x, val := v, born := c }) (c + 1))) :=
    fun W es c x v h => run_ins Try.underlying83 Try.underlying3 W es c _ x v rfl h
  have i0 : ∀ W : World, (Instr.mapUpdate 83 (.map (some W.heap.size)) (.int .i64 0) (.int .i64 1)).run Try.prog (W.alloc (.map #[] 0)) = .ok () (W.alloc (.map #[⟨.int .i64 0, .int .i64 1, 0⟩] 1)) := fun W => h1 W #[] 0 0 _ rfl
  have i1 : ∀ W : World, (Instr.mapUpdate 83 (.map (some W.heap.size)) (.int .i64 1) (.int .i64 2)).run Try.prog (W.alloc (.map #[⟨.int .i64 0, .int .i64 1, 0⟩] 1)) = .ok () (W.alloc (.map #[⟨.int .i64 0, .int .i64 1, 0⟩, ⟨.int .i64 1, .int .i64 2, 1⟩] 2)) := fun W => h1 W #[⟨.int .i64 0, .int .i64 1, 0⟩] 1 1 _ rfl
  have i2 : ∀ W : World, (Instr.mapUpdate 83 (.map (some W.heap.size)) (.int .i64 2) (.int .i64 3)).run Try.prog (W.alloc (.map #[⟨.int .i64 0, .int .i64 1, 0⟩, ⟨.int .i64 1, .int .i64 2, 1⟩] 2)) = .ok () (W.alloc (.map #[⟨.int .i64 0, .int .i64 1, 0⟩, ⟨.int .i64 1, .int .i64 2, 1⟩, ⟨.int .i64 2, .int .i64 3, 2⟩] 3)) := fun W => h1 W #[⟨.int .i64 0, .int .i64 1, 0⟩, ⟨.int .i64 1, .int .i64 2, 1⟩] 2 2 _ rfl
  have i3 : ∀ W : World, (Instr.mapUpdate 83 (.map (some W.heap.size)) (.int .i64 26) (.int .i64 4)).run Try.prog (W.alloc (.map #[⟨.int .i64 0, .int .i64 1, 0⟩, ⟨.int .i64 1, .int .i64 2, 1⟩, ⟨.int .i64 2, .int .i64 3, 2⟩] 3)) = .ok () (W.alloc (.map owEs 4)) := fun W => h1 W #[⟨.int .i64 0, .int .i64 1, 0⟩, ⟨.int .i64 1, .int .i64 2, 1⟩, ⟨.int .i64 2, .int .i64 3, 2⟩] 3 26 _ rfl
  clear h1
  obtain ⟨k, b, hk, hl⟩ := ow_look t
  have hl0 := hl (w.alloc (.map owEs 4)) w.heap.size (heap_alloc_new w _)
  rw [← hk]
  clear hl hk
  cases b with
  | true =>
    go_enter Try.func30, Try.ntmps30
    go_wp2
    go_ret
    exact ⟨rfl, (Below.refl _ _).alloc (Nat.le_refl _) _⟩
  | false =>
    go_enter Try.func30, Try.ntmps30
    go_wp2
    go_ret
    exact ⟨rfl, (Below.refl _ _).alloc (Nat.le_refl _) _⟩
/-! the parts told so far, in the variable that the closure holds -/
def pc (x : P3) : List Value := [.int .i64 x.1, .int .i64 x.2.1, .int .i64 x.2.2]
theorem pc_len (x : P3) : (pc x).length = 3 := rfl
theorem pc_one (x : P3) : ∀ u ∈ pc x, u.oneCell' = true := by
  intro u hu
  simp [pc] at hu
  rcases hu with rfl | rfl | rfl <;> rfl
abbrev IsP := Is pc
abbrev OwnP := Own pc 3 30
theorem info_p : (Try.prog.info? 30).map (fun i => (i.zero, i.size, i.bytes)) = some (some (.agg #[.int .i64 0, .int .i64 0, .int .i64 0]), 3, 24) := by kernel_rfl
/-- Block b is the variable, its row (block g) lies from block B on. -/
def OutW (w : World) (B b : Nat) (g : Option Nat) (l : List P3) : Prop := ∃ A n c, Blk w b 24 #[.slice A n c] ∧ OwnP w B A n c l ∧ A.map (·.block) = g
theorem OutW.pure {w w' : World} {B b : Nat} {g : Option Nat} {l : List P3} (h : OutW w B b g l) (hb : Below w.heap.size w w') : OutW w' B b g l := by
  obtain ⟨A, n, c, h1, h2, h3⟩ := h
  exact ⟨A, n, c, h1.pure hb, h2.pure hb, h3⟩
theorem OutW.fr {w w' : World} {B b : Nat} {g : Option Nat} {l : List P3} {S : Nat → Prop} (h : OutW w B b g l) (hf : Fr S w w') (h1 : ¬ S b) (h2 : ∀ k, g = some k → ¬ S k) : OutW w' B b g l := by
  obtain ⟨A, n, c, b1, b2, b3⟩ := h
  exact ⟨A, n, c, b1.fr hf h1, b2.fr hf (fun ad had => h2 _ (by rw [← b3, had]; rfl)), b3⟩
theorem OutW.row {w : World} {B b : Nat} {g : Option Nat} {l : List P3} (h : OutW w B b g l) : ∀ k, g = some k → B ≤ k ∧ k < w.heap.size := by
  obtain ⟨A, n, c, _, h2, rfl⟩ := h
  intro k hk
  cases A with
  | none => cases hk
  | some ad =>
    injection hk with hk
    subst hk
    exact ⟨(h2.addr ad rfl).2.1, (h2.addr ad rfl).2.2⟩
def Told (B b : Nat) (g : Option Nat) (l : List P3) (w w' : World) : Prop := ∃ g', OutW w' B b g' l ∧ Fr (fun k => k = b ∨ some k = g) w w' ∧ (g' = g ∨ ∃ k, g' = some k ∧ w.heap.size ≤ k)
theorem isp_lit (W : World) (x y z : Int) : IsP (W.alloc (.cells #[.int .i64 x, .int .i64 y, .int .i64 z] 30)) (some ⟨W.heap.size, 0, none⟩) 1 [(x, y, z)] := by
  refine ⟨rfl, fun j u hu => ⟨_, _, rfl, ?_⟩⟩
  rw [Nat.zero_add, (Blk.new W _ _).cell j]
  simpa [pc] using hu
set_option maxHeartbeats 400000 in
theorem tell_yes (B b : Nat) (g : Option Nat) (x y z : Int) (l : List P3) (w : World) (h : OutW w B b g l) (hxy : x < y) (hlen : l.length ≤ 1073741824) (hB : B ≤ w.heap.size) (hbB : b < B) :
    Calls Try.prog 18 #[.int .i64 x, .int .i64 y, .int .i64 z, .pointer (some ⟨b, 0, none⟩)] w fun e w' => e = .returned (.tuple #[]) ∧ Told B b g (l ++ [(x, y, z)]) w w' := by
  obtain ⟨A, n, c, hb, ho, rfl⟩ := h
  rw [ho.1] at hlen
  have c0 : w.cell? ⟨b, 0, none⟩ = some (.slice A n c) := hb.cell 0
  have HO := Lib.hid (ho.pure ((Below.refl _ _).alloc (Nat.le_refl _) (.cells #[.int .i64 x, .int .i64 y, .int .i64 z] 30)))
  have HB := Lib.hid (hb.alloc (.cells #[.int .i64 x, .int .i64 y, .int .i64 z] 30))
  have hne : ∀ ad, A = some ad → ad.block ≠ b := fun ad had => by have := (ho.addr ad had).2.1; omega
  have HN := Lib.hid hne
  have HA := Lib.hid (ho.addr)
  have hlt := hb.lt
  clear hb ho hne
  go_enter Try.func18, Try.ntmps18
  go_wp2_with (at_builtin; refine wpl_app _ rfl (.tmp 10) (.tmp 15) _ rfl 30 _ 3 24 Try.underlying24 info_p rfl (by omega) pc_len pc_one _ _ _ _ _ rfl HO.out _ _ _ _ rfl (isp_lit w x y z) (by omega) (by simp; omega) ?_; intro A1 c1 w1 hown1 hfr1 hat1; have B1 := HB.out.fr hfr1 (by rintro ⟨ad, h, h'⟩; exact HN.out ad h h'.symm); have d0 : w1.cell? ⟨b, 0, none⟩ = some (.slice A n c) := B1.cell 0; have f0 := B1.frozen 0; have HB1 := Lib.hid B1; have HO1 := Lib.hid hown1; have HF1 := Lib.hid hfr1; clear B1 hown1 hfr1)
  go_end0
  have hset : Fr (fun k => k = b) w1 (w1.setCell ⟨b, 0, none⟩ (.slice A1 (n + 1) c1)) := Fr.setCell (S := fun k => k = b) (Fr.refl _ _) (fun _ => rfl) _
  refine ⟨rfl, A1.map (·.block), ⟨A1, n + 1, c1, by simpa using HB1.out.set_ 0 (.slice A1 (n + 1) c1), HO1.out.fr hset ?_, rfl⟩, ?_, ?_⟩
  · intro ad had e
    have := (HO1.out.addr ad had).2.1
    omega
  · have e0 : Fr (fun k => k = b ∨ some k = A.map (·.block)) w (w.alloc (.cells #[.int .i64 x, .int .i64 y, .int .i64 z] 30)) := (Fr.refl _ _).alloc _
    have e1 : Fr (fun k => k = b ∨ some k = A.map (·.block)) (w.alloc (.cells #[.int .i64 x, .int .i64 y, .int .i64 z] 30)) w1 := HF1.out.mono (by
      rintro k hk ⟨ad, h1, rfl⟩
      exact .inr (by rw [h1]; rfl))
    exact (e0.trans e1 fun _ _ h => h).trans hset (fun k _ h => .inl h)
  · rcases hat1 with h | h
    · exact .inl h
    · exact .inr ⟨_, h, by simp⟩
set_option maxHeartbeats 400000 in
theorem tell_no (B b : Nat) (g : Option Nat) (x y z : Int) (l : List P3) (w : World) (h : OutW w B b g l) (hxy : ¬ x < y) :
    Calls Try.prog 18 #[.int .i64 x, .int .i64 y, .int .i64 z, .pointer (some ⟨b, 0, none⟩)] w fun e w' => e = .returned (.tuple #[]) ∧ Told B b g l w w' := by
  have H := Lib.hid h
  clear h
  go_enter Try.func18, Try.ntmps18
  go_wp2
  go_end0
  exact ⟨rfl, g, H.out, Fr.refl _ _, .inl rfl⟩
end Go.Proofs.Ytejalfjeihlpeaa

namespace Go.Proofs.Ytejalfjeihlpeaa
open Go.RowKit Go.Acc
/-- Where the walk's things lie: the bytes, the walk's struct, its map, the variable of the parts; rows lie from block B2 on. -/
structure CvE where
  B0 : Nat
  B2 : Nat
  bw : Nat
  bm : Nat
  bl : Nat
  A : Option Addr
  n : Nat
  c : Nat
  l : List UInt8
structure CvE.Ok (E : CvE) : Prop where
  hA : ∀ ad, E.A = some ad → ad.block < E.B0
  l0 : E.B0 ≤ E.bl
  l2 : E.bl < E.B2
  m0 : E.B0 ≤ E.bm
  m2 : E.bm < E.B2
  w0 : E.B0 ≤ E.bw
  w2 : E.bw < E.B2
  lm : E.bl ≠ E.bm
  lw : E.bl ≠ E.bw
  mw : E.bm ≠ E.bw
  hc : E.n ≤ E.c
  hn : E.n ≤ 4294967296
def CvE.cells (E : CvE) (left : Int) : Array Value := #[.slice E.A E.n E.c, .int .i64 left, .map (some E.bm), .func (.func 18) #[] #[.pointer (some ⟨E.bl, 0, none⟩)]]
structure CvW (E : CvE) (g : Option Nat) (s : CvS) (w : World) : Prop where
  ok : E.Ok
  b : IsB w E.A E.n E.l
  W : Blk w E.bw 47 (E.cells s.left)
  M : MapS w E.bm s.had
  O : OutW w E.B2 E.bl g s.out
  sz : E.B2 ≤ w.heap.size
/-- A block that is not the walk's. -/
def CvE.Free (E : CvE) (g : Option Nat) (k : Nat) : Prop := k ≠ E.bl ∧ k ≠ E.bm ∧ k ≠ E.bw ∧ g ≠ some k
/-- What a visit may change: blocks of the walk's own. -/
structure CvTo (E : CvE) (g g' : Option Nat) (w w' : World) : Prop where
  fr : Fr (fun k => ¬ E.Free g k) w w'
  keep : ∀ k, k < w.heap.size → E.Free g k → E.Free g' k
section
variable {E : CvE} {s : CvS} {g g' g'' : Option Nat} {w w' w'' : World}
theorem CvTo.refl (E : CvE) (g : Option Nat) (w : World) : CvTo E g g w w := ⟨Fr.refl _ _, fun _ _ h => h⟩
theorem CvTo.of_below (hb : Below w.heap.size w w') : CvTo E g g w w' := ⟨Fr.of_below hb _, fun _ _ h => h⟩
theorem CvTo.trans (h : CvTo E g g' w w') (h' : CvTo E g' g'' w' w'') : CvTo E g g'' w w'' :=
  ⟨h.fr.trans h'.fr (fun k hk hn hf => hn (h.keep k hk hf)), fun k hk hf => h'.keep k (Nat.lt_of_lt_of_le hk h.fr.size) (h.keep k hk hf)⟩
theorem CvTo.below (h : CvTo E g g' w w') (hb : Below w'.heap.size w' w'') : CvTo E g g' w w'' := h.trans (CvTo.of_below hb)
theorem CvTo.drew (h : CvTo E g g' w w') : CvTo E g g' w w'.drew := h.below ((Below.refl _ _).drew)
theorem CvTo.alloc (h : CvTo E g g' w w') (o : Obj) : CvTo E g g' w (w'.alloc o) := h.below ((Below.refl _ _).alloc (Nat.le_refl _) o)
/-- A block of the call's own. -/
def Lone (E : CvE) (g : Option Nat) (w : World) (k : Nat) (t : TypeId) (cs : Array Value) : Prop := Blk w k t cs ∧ E.Free g k
theorem Lone.to {k : Nat} {t : TypeId} {cs : Array Value} (h : Lone E g w k t cs) (ht : CvTo E g g' w w') : Lone E g' w' k t cs := ⟨h.1.fr ht.fr (fun hn => hn h.2), ht.keep k h.1.lt h.2⟩
theorem Lone.pure {k : Nat} {t : TypeId} {cs : Array Value} (h : Lone E g w k t cs) (hb : Below w.heap.size w w') : Lone E g w' k t cs := ⟨h.1.pure hb, h.2⟩
theorem Lone.drew {k : Nat} {t : TypeId} {cs : Array Value} (h : Lone E g w k t cs) : Lone E g w.drew k t cs := h
theorem CvW.pure (h : CvW E g s w) (hb : Below w.heap.size w w') : CvW E g s w' := ⟨h.ok, h.b.pure hb, h.W.pure hb, h.M.pure hb, h.O.pure hb, Nat.le_trans h.sz hb.size⟩
theorem CvW.drew (h : CvW E g s w) : CvW E g s w.drew := h.pure ((Below.refl _ _).drew)
theorem CvW.alloc (h : CvW E g s w) (o : Obj) : CvW E g s (w.alloc o) := h.pure ((Below.refl _ _).alloc (Nat.le_refl _) o)
theorem CvW.len (h : CvW E g s w) : E.l.length = E.n := h.b.1
theorem CvW.new (h : CvW E g s w) : E.Free g w.heap.size := by
  have := h.sz
  have := h.ok.l2
  have := h.ok.m2
  have := h.ok.w2
  refine ⟨by omega, by omega, by omega, fun e => ?_⟩
  have := (h.O.row _ e).2
  omega
theorem CvW.lone (h : CvW E g s w) (t : TypeId) (cs : Array Value) : Lone E g (w.alloc (.cells cs t)) w.heap.size t cs := ⟨Blk.new w t cs, h.new⟩
theorem CvW.low (h : CvW E g s w) {k : Nat} (hk : k < E.B0) : E.Free g k := by
  have := h.ok.l0
  have := h.ok.l2
  have := h.ok.m0
  have := h.ok.w0
  refine ⟨by omega, by omega, by omega, fun e => ?_⟩
  have := (h.O.row _ e).1
  omega
theorem CvTo.belowB (h : CvTo E g g' w w') (hw : CvW E g s w) : Below E.B0 w w' := by
  refine h.fr.belowB (fun k hk hn => hn (hw.low hk)) ?_
  have := hw.sz; have := hw.ok.l0; have := hw.ok.l2; omega
theorem CvW.cells (h : CvW E g s w) : w.cell? ⟨E.bw, 0, none⟩ = some (.slice E.A E.n E.c) ∧ w.cell? ⟨E.bw, 1, none⟩ = some (.int .i64 s.left) ∧ w.cell? ⟨E.bw, 2, none⟩ = some (.map (some E.bm)) ∧
    w.cell? ⟨E.bw, 3, none⟩ = some (.func (.func 18) #[] #[.pointer (some ⟨E.bl, 0, none⟩)]) := ⟨h.W.cell 0, h.W.cell 1, h.W.cell 2, h.W.cell 3⟩
theorem told_cv {l' : List P3} (h : CvW E g s w) (ht : Told E.B2 E.bl g l' w w') : ∃ g', CvW E g' { s with out := l' } w' ∧ CvTo E g g' w w' := by
  have ok := h.ok
  obtain ⟨g', hO, hf, hg⟩ := ht
  have row := h.O.row
  have hk : ∀ k, k < E.B2 → k ≠ E.bl → ¬ (k = E.bl ∨ some k = g) := by
    rintro k h1 h2 (h3 | h3)
    · exact h2 h3
    · have := (row k h3.symm).1; omega
  refine ⟨g', ⟨ok, h.b.fr hf ?_, h.W.fr hf (hk _ ok.w2 (Ne.symm ok.lw)), h.M.fr hf (hk _ ok.m2 (Ne.symm ok.lm)), hO, Nat.le_trans h.sz hf.size⟩, hf.mono ?_, ?_⟩
  · intro ad had
    have := ok.hA ad had
    have := ok.l0
    have := ok.l2
    exact hk _ (by omega) (by omega)
  · rintro k _ (rfl | e) hF
    · exact hF.1 rfl
    · exact hF.2.2.2 e.symm
  · intro k hk' hF
    refine ⟨hF.1, hF.2.1, hF.2.2.1, ?_⟩
    rcases hg with rfl | ⟨j, rfl, hj⟩
    · exact hF.2.2.2
    · intro e
      injection e with e
      omega
theorem tell_cv (a b c : Int) (h : CvW E g s w) (hs : s.out.length ≤ 1073741824) :
    Calls Try.prog 18 #[.int .i64 a, .int .i64 b, .int .i64 c, .pointer (some ⟨E.bl, 0, none⟩)] w fun e w' => e = .returned (.tuple #[]) ∧ ∃ g', CvW E g' (s.tell a b c) w' ∧ CvTo E g g' w w' := by
  have hB : E.B2 ≤ w.heap.size := h.sz
  by_cases hab : a < b
  · refine (tell_yes E.B2 E.bl g a b c s.out w h.O hab hs h.sz h.ok.l2).mono ?_
    rintro e w' ⟨rfl, ht⟩
    have e : s.tell a b c = { s with out := s.out ++ [(a, b, c)] } := if_pos hab
    rw [e]
    exact ⟨rfl, told_cv h ht⟩
  · refine (tell_no E.B2 E.bl g a b c s.out w h.O hab).mono ?_
    rintro e w' ⟨rfl, ht⟩
    have e : s.tell a b c = s := if_neg hab
    rw [e]
    exact ⟨rfl, told_cv h ht⟩
end
/-- What a visit answers, and the state after it. -/
def CvRes (E : CvE) (g : Option Nat) (w : World) (y : CvS × Int) (e : Ending) (w' : World) : Prop := e = .returned (.int .i64 y.2) ∧ ∃ g', CvW E g' y.1 w' ∧ CvTo E g g' w w'
end Go.Proofs.Ytejalfjeihlpeaa
