/-
  Package list: the vector that a reference leads to.
-/
import Derived.Test.YtfoifdoaleaekaaGreatQf07
import Derived.Deep.DeepCutAuto
namespace Go.Proofs.YtfoifdoaleaekaaGreat
open Go.RowKit Go.Acc
theorem tgt_rl {l : List UInt8} {p q t v : Int} (h : tgtE l p q t v = 0) : 0 ≤ tgt l p q t v ∧ tgt l p q t v ≤ l.length := by
  have hm : mayE l.length p q t v = 0 := by
    by_cases e : mayE l.length p q t v = 0
    · exact e
    · rw [tgtE_may e] at h; exact absurd h e
  obtain ⟨_, h2⟩ := mayE_ok.1 hm
  obtain ⟨h1, _⟩ := mayE_ok.1 hm
  have h2 := inB_iff.1 h2
  have h1 := formed_iff.1 h1
  have hq := isW_iff.1 h1.2.1
  unfold tgtE at h
  rw [if_pos hm] at h
  unfold tgt
  have h' : tgtE l p q t v = 0 := by unfold tgtE; rw [if_pos hm]; exact h
  rw [if_pos h']
  split at h
  · cases h
  · split at h
    · cases h
    · omega
theorem isl_drew {w : World} {A : Option Addr} {n : Nat} {l : List UInt8} (h : IsB w A n l) : IsB w.drew A n l := h
theorem lalloc {w : World} {p : Addr} {u : Value} (o : Obj) (h : w.cell? p = some u) : (w.alloc o).cell? p = some u := cell_pure ((Below.refl _ _).alloc (Nat.le_refl _) o) h
theorem ldrew {w : World} {p : Addr} {u : Value} (h : w.cell? p = some u) : w.drew.cell? p = some u := h
theorem lset {w : World} {p q : Addr} {u v : Value} (h : w.cell? q = some v) (hne : q.block ≠ p.block) : (w.setCell p u).cell? q = some v :=
  (World.cell?_of_block (w := w) (Below.heap_setCell w p u q.block hne)).trans h
def lsN (l : List UInt8) (p q t v : Int) : Nat := if 0 < manyT t then (manyT t).toNat else loadU l (tgt l p q t v - v) v
def lsX (t v : Int) : Nat := v.toNat + tgs t
def lsE (l : List UInt8) (p q t v : Int) : Int :=
  if mayE l.length p q t v ≠ 0 then mayE l.length p q t v
  else if isL t = false then 60
  else if tgtE l p q t v ≠ 0 then tgtE l p q t v
  else if tgt l p q t v % v ≠ 0 then 212
  else if (tgt l p q t v).toNat < aheadT t * v.toNat then 211
  else if l.length < (tgt l p q t v).toNat + lsN l p q t v * lsX t v then 211 else 0
def lsFrom (l : List UInt8) (p q t v : Int) : Nat := if lsE l p q t v = 0 then (tgt l p q t v).toNat - aheadT t * v.toNat else 0
def lsAt (l : List UInt8) (p q t v : Int) : Nat := if lsE l p q t v = 0 then (tgt l p q t v).toNat else 0
def lsTo (l : List UInt8) (p q t v : Int) : Nat := if lsE l p q t v = 0 then (tgt l p q t v).toNat + lsN l p q t v * lsX t v else 0
def lsLen (l : List UInt8) (p q t v : Int) : Nat := if lsE l p q t v = 0 then lsN l p q t v else 0
def lsVec (A : Option Addr) (n c : Nat) (l : List UInt8) (p q t v : Int) : Value :=
  if lsE l p q t v = 0 then .agg #[.slice A n c, .int .i64 p, .int .i64 q, .int .i64 t, .int .i64 v, .int .i64 (lsFrom l p q t v : Nat), .int .i64 (lsAt l p q t v : Nat), .int .i64 (lsTo l p q t v : Nat), .int .i64 (lsLen l p q t v : Nat)]
  else .agg #[.slice none 0 0, .int .i64 0, .int .i64 0, .int .i64 0, .int .i64 0, .int .i64 0, .int .i64 0, .int .i64 0, .int .i64 0]
def LsW (w : World) (A : Option Addr) (n c : Nat) (l : List UInt8) (p q t v : Int) (e : Ending) (w' : World) : Prop :=
  e = .returned (.tuple #[lsVec A n c l p q t v, .int .i64 (lsE l p q t v)]) ∧ Below w.heap.size w w'
theorem lsw_no {w w' : World} {A : Option Addr} {n c : Nat} {l : List UInt8} {p q t v er : Int} (h : lsE l p q t v = er) (hne : er ≠ 0) (hb : Below w.heap.size w w') :
    LsW w A n c l p q t v (.returned (.tuple #[.agg #[.slice none 0 0, .int .i64 0, .int .i64 0, .int .i64 0, .int .i64 0, .int .i64 0, .int .i64 0, .int .i64 0, .int .i64 0], .int .i64 er])) w' := by
  unfold LsW lsVec
  rw [h, if_neg hne]
  exact ⟨rfl, hb⟩
theorem lsw_yes {w w' : World} {A : Option Addr} {n c a f o k : Nat} {l : List UInt8} {p q t v : Int} (h : lsE l p q t v = 0) (ha : (tgt l p q t v).toNat = a) (hf : a - aheadT t * v.toNat = f) (hk : lsN l p q t v = k) (ho : a + k * lsX t v = o) (hb : Below w.heap.size w w') :
    LsW w A n c l p q t v (.returned (.tuple #[.agg #[.slice A n c, .int .i64 p, .int .i64 q, .int .i64 t, .int .i64 v, .int .i64 f, .int .i64 a, .int .i64 o, .int .i64 k], .int .i64 0])) w' := by
  unfold LsW lsVec lsFrom lsAt lsTo lsLen
  rw [h, if_pos rfl, if_pos rfl, if_pos rfl, if_pos rfl, if_pos rfl, ha, hf, hk, ho]
  exact ⟨rfl, hb⟩
theorem ls_cases (l : List UInt8) (p q t v : Int) : (mayE l.length p q t v ≠ 0 ∧ lsE l p q t v = mayE l.length p q t v) ∨ (mayE l.length p q t v = 0 ∧
    ((isL t = false ∧ lsE l p q t v = 60) ∨ (isL t = true ∧ ((tgtE l p q t v ≠ 0 ∧ lsE l p q t v = tgtE l p q t v) ∨ (tgtE l p q t v = 0 ∧
      ((tgt l p q t v % v ≠ 0 ∧ lsE l p q t v = 212) ∨ (tgt l p q t v % v = 0 ∧ (tgt l p q t v).toNat < aheadT t * v.toNat ∧ lsE l p q t v = 211) ∨
        (tgt l p q t v % v = 0 ∧ aheadT t * v.toNat ≤ (tgt l p q t v).toNat ∧ l.length < (tgt l p q t v).toNat + lsN l p q t v * lsX t v ∧ lsE l p q t v = 211) ∨
        (tgt l p q t v % v = 0 ∧ aheadT t * v.toNat ≤ (tgt l p q t v).toNat ∧ (tgt l p q t v).toNat + lsN l p q t v * lsX t v ≤ l.length ∧ lsE l p q t v = 0))))))) := by
  unfold lsE
  by_cases h1 : mayE l.length p q t v = 0
  · refine .inr ⟨h1, ?_⟩
    rw [if_neg (by simpa using h1)]
    cases h2 : isL t with
    | false => exact .inl ⟨rfl, if_pos rfl⟩
    | true =>
      refine .inr ⟨rfl, ?_⟩
      rw [if_neg (by decide)]
      by_cases h4 : tgtE l p q t v = 0
      · refine .inr ⟨h4, ?_⟩
        rw [if_neg (by simpa using h4)]
        by_cases h5 : tgt l p q t v % v = 0
        · rw [if_neg (by simpa using h5)]
          by_cases h6 : (tgt l p q t v).toNat < aheadT t * v.toNat
          · rw [if_pos h6]; exact .inr (.inl ⟨h5, h6, rfl⟩)
          · rw [if_neg h6]
            by_cases h7 : l.length < (tgt l p q t v).toNat + lsN l p q t v * lsX t v
            · rw [if_pos h7]; exact .inr (.inr (.inl ⟨h5, Nat.le_of_not_lt h6, h7, rfl⟩))
            · rw [if_neg h7]; exact .inr (.inr (.inr ⟨h5, Nat.le_of_not_lt h6, Nat.le_of_not_lt h7, rfl⟩))
        · rw [if_pos h5]; exact .inl ⟨h5, rfl⟩
      · rw [if_pos h4]; exact .inl ⟨h4, rfl⟩
  · rw [if_pos h1]; exact .inl ⟨h1, rfl⟩
theorem below_set9 {B : Nat} {a w : World} (g : Nat) (h : Below B a w) (hg : B ≤ g) (v0 v1 v2 v3 v4 v5 v6 v7 v8 : Value) :
    Below B a (((((((((w.setCell ⟨g, 0, none⟩ v0).setCell ⟨g, 1, none⟩ v1).setCell ⟨g, 2, none⟩ v2).setCell ⟨g, 3, none⟩ v3).setCell ⟨g, 4, none⟩ v4).setCell ⟨g, 5, none⟩ v5).setCell ⟨g, 6, none⟩ v6).setCell ⟨g, 7, none⟩ v7).setCell ⟨g, 8, none⟩ v8) :=
  ((((((((h.setCell hg _).setCell hg _).setCell hg _).setCell hg _).setCell hg _).setCell hg _).setCell hg _).setCell hg _).setCell hg _
theorem fn_nil : ∀ W : World, (binOp .eql 95 .nilFunc .nilFunc).run Tryz.prog W = .ok (.bool true) W := by
  intro W
  kernel_rfl
theorem fn_some (F : FuncId) : ∀ W : World, (binOp .eql 95 (.func (.func F) #[] #[]) .nilFunc).run Tryz.prog W = .ok (.bool false) W := by
  intro W
  kernel_rfl
theorem ahead_cases {t : Int} (h : aheadT t = 1 ∨ aheadT t = 3) (hm : manyT t = 0) : (aheadT t = 1 ∧ tgs t = 0 ∧ tagT t = false) ∨ (aheadT t = 1 ∧ tgs t = 1 ∧ tagT t = true) ∨ (aheadT t = 3 ∧ tgs t = 1 ∧ tagT t = true) := by
  unfold aheadT tgs tagT at *
  by_cases h9 : t = 9
  · subst h9
    exact .inr (.inr ⟨rfl, rfl, rfl⟩)
  · rw [if_neg h9, if_neg (by omega)]
    by_cases h10 : t = 10
    · subst h10
      exact .inr (.inl ⟨rfl, rfl, rfl⟩)
    · have e : decide (t = 9 ∨ t = 10) = false := decide_eq_false (by omega)
      rw [e]
      exact .inl ⟨rfl, rfl, rfl⟩
theorem wrapv0 (V : Nat) (h : V ≤ 8) : IntKind.i64.wrap (V : Int) = V := IntWalk.i64_in _ (by omega)
theorem wrapv1 (V : Nat) (h : V ≤ 8) : IntKind.i64.wrap ((V : Int) + 1) = (V : Int) + 1 := IntWalk.i64_in _ (by omega)
theorem mul_wrap0 (N V X : Nat) (h : N * (V + 0) = X) (hX : X ≤ 9223372036854775807) : wrap64 ((N : Int) * (V : Int)) = (X : Int) := by
  rw [← Int.natCast_mul, ← h, Nat.add_zero]
  rw [Nat.add_zero] at h
  exact wrap64_in _ (by omega)
theorem mul_wrap1 (N V X : Nat) (h : N * (V + 1) = X) (hX : X ≤ 9223372036854775807) : wrap64 ((N : Int) * ((V : Int) + 1)) = (X : Int) := by
  rw [show (V : Int) + 1 = ((V + 1 : Nat) : Int) from rfl, ← Int.natCast_mul, h]
  exact wrap64_in _ (by omega)
set_option maxRecDepth 100000 in
set_option maxHeartbeats 8000000 in
theorem lfind_spec (A : Option Addr) (n c : Nat) (p q t v : Int) (l : List UInt8) (w : World) (h : IsB w A n l) (hc : n ≤ c) (hn : n ≤ 1099511627776) :
    Calls Tryz.prog 55 #[.slice A n c, .agg #[.int .i64 p, .int .i64 q, .int .i64 t, .int .i64 v]] w (LsW w A n c l p q t v) := by
  have hlen := h.1
  subst hlen
  have HL := Lib.hid ((h.alloc (.cells #[.int .i64 p, .int .i64 q, .int .i64 t, .int .i64 v] 36)).alloc (.cells #[.slice none 0 0, .int .i64 0, .int .i64 0, .int .i64 0, .int .i64 0, .int .i64 0, .int .i64 0, .int .i64 0, .int .i64 0] 92))
  have HB := Lib.hid (((Below.refl w.heap.size w).alloc (Nat.le_refl _) (.cells #[.int .i64 p, .int .i64 q, .int .i64 t, .int .i64 v] 36)).alloc (by simp) (.cells #[.slice none 0 0, .int .i64 0, .int .i64 0, .int .i64 0, .int .i64 0, .int .i64 0, .int .i64 0, .int .i64 0, .int .i64 0] 92))
  have HX := Lib.hid ((Blk.new w 36 #[.int .i64 p, .int .i64 q, .int .i64 t, .int .i64 v]).alloc (.cells #[.slice none 0 0, .int .i64 0, .int .i64 0, .int .i64 0, .int .i64 0, .int .i64 0, .int .i64 0, .int .i64 0, .int .i64 0] 92))
  have HK := Lib.hid (Blk.new_ (w := w.alloc (.cells #[.int .i64 p, .int .i64 q, .int .i64 t, .int .i64 v] 36)) (g := w.heap.size + 1) (by simp) 92 #[.slice none 0 0, .int .i64 0, .int .i64 0, .int .i64 0, .int .i64 0, .int .i64 0, .int .i64 0, .int .i64 0, .int .i64 0])
  have hcs := ls_cases l p q t v
  clear h
  go_enter Tryz.func55, Tryz.ntmps55
  go_wp2_with fail
  go_at_call 14
  refine (may_spec A _ c p q t v _ (by omega)).mono ?_
  generalize (w.alloc (.cells #[.int .i64 p, .int .i64 q, .int .i64 t, .int .i64 v] 36)).alloc (.cells #[.slice none 0 0, .int .i64 0, .int .i64 0, .int .i64 0, .int .i64 0, .int .i64 0, .int .i64 0, .int .i64 0, .int .i64 0] 92) = wB at HL HB HX HK ⊢
  have x0 := cell0 HX.out; have x1 := cell1 HX.out; have x2 := cell2 HX.out; have x3 := cell3 HX.out
  rintro e w1 ⟨rfl, hb⟩
  clear x0 x1 x2 x3; replace HB := Lib.hid (pure_below HB.out hb); replace HX := Lib.hid (HX.out.pure hb); replace HK := Lib.hid (HK.out.pure hb); replace HL := Lib.hid (HL.out.pure hb); clear hb; have x0 := cell0 HX.out; have x1 := cell1 HX.out; have x2 := cell2 HX.out; have x3 := cell3 HX.out
  rcases hcs with ⟨hm, he⟩ | ⟨hm, hcs⟩
  · have HE := Lib.hid he
    have HN := Lib.hid hm
    have hne : (mayE l.length p q t v != 0) = true := by simpa using hm
    clear he hm
    have c0 : _ = some (Value.slice none 0 0) := HK.out.cell 0; have c1 : _ = some (Value.int .i64 0) := HK.out.cell 1; have c2 : _ = some (Value.int .i64 0) := HK.out.cell 2; have c3 : _ = some (Value.int .i64 0) := HK.out.cell 3; have c4 : _ = some (Value.int .i64 0) := HK.out.cell 4; have c5 : _ = some (Value.int .i64 0) := HK.out.cell 5; have c6 : _ = some (Value.int .i64 0) := HK.out.cell 6; have c7 : _ = some (Value.int .i64 0) := HK.out.cell 7; have c8 : _ = some (Value.int .i64 0) := HK.out.cell 8; have f0 := HK.out.frozen 0; have f1 := HK.out.frozen 1; have f2 := HK.out.frozen 2; have f3 := HK.out.frozen 3; have f4 := HK.out.frozen 4; have f5 := HK.out.frozen 5; have f6 := HK.out.frozen 6; have f7 := HK.out.frozen 7; have f8 := HK.out.frozen 8
    go_wp2
    refine bodyPost_ret (v := .tuple #[.agg #[.slice none 0 0, .int .i64 0, .int .i64 0, .int .i64 0, .int .i64 0, .int .i64 0, .int .i64 0, .int .i64 0, .int .i64 0], .int .i64 (mayE l.length p q t v)]) (by simp [results, Tryz.results55, go_sem, c0, c1, c2, c3, c4, c5, c6, c7, c8]) rfl ?_
    exact lsw_no HE.out HN.out (below_set9 _ HB.out (Nat.le_succ _) _ _ _ _ _ _ _ _ _)
  · obtain ⟨g1, g2⟩ := mayE_ok.1 hm
    have g2 := inB_iff.1 g2
    have g1 := formed_iff.1 g1
    have v1 := isW_iff.1 g1.2.2
    have ht := legal_isT g1.1
    rw [hm]
    obtain ⟨V, rfl⟩ : ∃ V : Nat, v = V := ⟨v.toNat, by omega⟩
    have hv1 : 1 ≤ V := by omega
    have hv8 : V ≤ 8 := by omega
    have hvz : (V == 0) = false := beq_eq_false_iff_ne.mpr (by omega)
    have htt := isT_iff.1 ht
    have ht0 := htt.1
    have ht37 := htt.2
    have HCS := Lib.hid hcs
    have hidx := shindex ht
    have hsh := shcases ht
    clear g1 g2 v1 hcs hm htt ht
    obtain ⟨a, F, G, tg, hrow⟩ : ∃ a F G tg, shR t.toNat = [a, F, G, tg] := by
      rcases hsh with ⟨_, e⟩ | ⟨_, _, _, _, _, e⟩ | ⟨_, _, _, e⟩ <;> exact ⟨_, _, _, _, e⟩
    have hone : a.oneCell' = true ∧ F.oneCell' = true ∧ G.oneCell' = true ∧ tg.oneCell' = true := by
      rcases hsh with ⟨_, e⟩ | ⟨_, _, _, _, _, e⟩ | ⟨_, _, _, e⟩ <;> (rw [hrow] at e; injection e with e1 e; injection e with e2 e; injection e with e3 e; injection e with e4 e; subst e1 e2 e3 e4)
      · exact ⟨rfl, rfl, rfl, rfl⟩
      · exact ⟨rfl, rfl, rfl, rfl⟩
      · exact ⟨rfl, rfl, by split <;> rfl, rfl⟩
    have hs0 := fun (W : World) (p : Addr) => run_store Tryz.prog W p a .plain hone.1
    have hs1 := fun (W : World) (p : Addr) => run_store Tryz.prog W p F .plain hone.2.1
    have hs2 := fun (W : World) (p : Addr) => run_store Tryz.prog W p G .plain hone.2.2.1
    have hs3 := fun (W : World) (p : Addr) => run_store Tryz.prog W p tg .plain hone.2.2.2
    replace hidx : ∀ W, (Instr.index 99 (.agg shS) (.int .i64 t)).run Tryz.prog W = .ok (.agg #[a, F, G, tg]) W := by
      intro W
      have := hidx W
      rw [hrow] at this
      exact this
    have HSH := Lib.hid hsh
    have HROW := Lib.hid hrow
    clear hsh hrow hone
    go_wp2_with fail
    go_upto_region 4 with fail
    go_cut [7] (fun u7 wx => ∃ g, u7 = .pointer (some ⟨g, 0, none⟩) ∧ Blk wx g 98 #[a, F, G, tg] ∧ Below w1.heap.size w1 wx)
    case first =>
      have hszw : w.heap.size + 1 < w1.heap.size := HK.out.lt
      go_region_held3 (fun w' => w'.cell? ⟨w.heap.size, 2, none⟩ = some (.int .i64 t)) (first | with_reducible assumption | (repeat (first | with_reducible assumption | (refine lset ?_ (by simp; omega)) | refine lalloc _ ?_ | refine ldrew ?_)))
        (first | (go_at_call 56; refine (shapes_spec _).mono ?_; rintro e w5 ⟨rfl, hb5⟩; have HB5 := Lib.hid hb5; have hz5 := hb5.size; (try simp at hz5); have x2 := cell_pure hb5 (p := ⟨w.heap.size, 2, none⟩) (u := .int .i64 t) (by repeat (first | with_reducible assumption | (refine lset ?_ (by simp; omega)) | refine lalloc _ ?_ | refine ldrew ?_)); (first | ((first | with_reducible have HNB := Lib.hid ((Blk.new w1 98 #[.int .i64 0, .nilFunc, .nilFunc, .int .i64 0]).drew.pure hb5) | with_reducible have HNB := Lib.hid ((Blk.new w1.drew 98 #[.int .i64 0, .nilFunc, .nilFunc, .int .i64 0]).pure hb5)); have k0 : _ = some (Value.int .i64 0) := HNB.out.cell 0; have k1 : _ = some Value.nilFunc := HNB.out.cell 1; have k2 : _ = some Value.nilFunc := HNB.out.cell 2; have k3 : _ = some (Value.int .i64 0) := HNB.out.cell 3; have g0 := HNB.out.frozen 0; have g1 := HNB.out.frozen 1; have g2 := HNB.out.frozen 2; have g3 := HNB.out.frozen 3) | skip); clear hb5))
      all_goals
        go_wp2_with fail
        go_meet
        have hz6 : w1.heap.size ≤ w5.heap.size := by have := HB5.out.size; (try simp at this); omega
        first
          | with_reducible exact ⟨_, rfl, Blk.new _ _ _, (pure_below (Below.refl _ _).drew HB5.out).alloc hz6 _⟩
          | exact ⟨_, rfl, (((HNB.out.set_ 0 a).set_ 1 F).set_ 2 G).set_ 3 tg, ((((pure_below ((Below.refl w1.heap.size w1).alloc (Nat.le_refl _) _).drew HB5.out).setCell (Nat.le_refl _) _).setCell (Nat.le_refl _) _).setCell (Nat.le_refl _) _).setCell (Nat.le_refl _) _⟩
    case rest =>
      obtain ⟨g, rfl, hS, hb⟩ := hcut
      clear x0 x1 x2 x3; replace HB := Lib.hid (pure_below HB.out hb); replace HX := Lib.hid (HX.out.pure hb); replace HK := Lib.hid (HK.out.pure hb); replace HL := Lib.hid (HL.out.pure hb); clear hb; have x0 := cell0 HX.out; have x1 := cell1 HX.out; have x2 := cell2 HX.out; have x3 := cell3 HX.out
      have HS := Lib.hid hS
      clear hS hs0 hs1 hs2 hs3 hidx
      rcases HSH.out with ⟨hL, e⟩ | ⟨hL, hM, hM4, hT, hA, e⟩ | ⟨hL, hM, hA, e⟩
      · rw [HROW.out] at e
        injection e with e1 e; injection e with e2 e; injection e with e3 e; injection e with e4 e
        subst e1 e2 e3 e4
        have he : lsE l p q t V = 60 := by
          rcases HCS.out with ⟨_, e⟩ | ⟨h, _⟩
          · exact e
          · rw [hL] at h; cases h
        have HE := Lib.hid he
        have HN := Lib.hid (show (60 : Int) ≠ 0 by decide)
        have s1 : _ = some Value.nilFunc := HS.out.cell 1
        have hfn := fn_nil
        clear he hL HCS HSH HROW
        have c0 : _ = some (Value.slice none 0 0) := HK.out.cell 0; have c1 : _ = some (Value.int .i64 0) := HK.out.cell 1; have c2 : _ = some (Value.int .i64 0) := HK.out.cell 2; have c3 : _ = some (Value.int .i64 0) := HK.out.cell 3; have c4 : _ = some (Value.int .i64 0) := HK.out.cell 4; have c5 : _ = some (Value.int .i64 0) := HK.out.cell 5; have c6 : _ = some (Value.int .i64 0) := HK.out.cell 6; have c7 : _ = some (Value.int .i64 0) := HK.out.cell 7; have c8 : _ = some (Value.int .i64 0) := HK.out.cell 8; have f0 := HK.out.frozen 0; have f1 := HK.out.frozen 1; have f2 := HK.out.frozen 2; have f3 := HK.out.frozen 3; have f4 := HK.out.frozen 4; have f5 := HK.out.frozen 5; have f6 := HK.out.frozen 6; have f7 := HK.out.frozen 7; have f8 := HK.out.frozen 8
        go_wp2
        refine bodyPost_ret (v := .tuple #[.agg #[.slice none 0 0, .int .i64 0, .int .i64 0, .int .i64 0, .int .i64 0, .int .i64 0, .int .i64 0, .int .i64 0, .int .i64 0], .int .i64 60]) (by simp [results, Tryz.results55, go_sem, c0, c1, c2, c3, c4, c5, c6, c7, c8]) rfl ?_
        exact lsw_no HE.out HN.out (below_set9 _ HB.out (Nat.le_succ _) _ _ _ _ _ _ _ _ _)
      · rw [HROW.out] at e
        injection e with e1 e; injection e with e2 e; injection e with e3 e; injection e with e4 e
        subst e1 e2 e3 e4
        obtain ⟨MM, hMM⟩ : ∃ MM : Nat, manyT t = MM := ⟨(manyT t).toNat, by omega⟩
        have hlsN : lsN l p q t V = MM := by unfold lsN; rw [if_pos hM, hMM]; rfl
        have hlsX : lsX t V = V + 0 := by unfold lsX tgs; rw [hT]; rfl
        have HMM := Lib.hid hMM
        have hM4' : MM ≤ 4 := by omega
        have hcs : (tgtE l p q t V ≠ 0 ∧ lsE l p q t V = tgtE l p q t V) ∨ (tgtE l p q t V = 0 ∧
            ((tgt l p q t V % V ≠ 0 ∧ lsE l p q t V = 212) ∨ (tgt l p q t V % V = 0 ∧ (tgt l p q t V).toNat < 0 * V ∧ lsE l p q t V = 211) ∨
            (tgt l p q t V % V = 0 ∧ 0 * V ≤ (tgt l p q t V).toNat ∧ l.length < (tgt l p q t V).toNat + MM * (V + 0) ∧ lsE l p q t V = 211) ∨
            (tgt l p q t V % V = 0 ∧ 0 * V ≤ (tgt l p q t V).toNat ∧ (tgt l p q t V).toNat + MM * (V + 0) ≤ l.length ∧ lsE l p q t V = 0))) := by
          rcases HCS.out with ⟨h, _⟩ | ⟨_, h⟩
          · rw [hL] at h; cases h
          · rw [hlsN, hlsX, hA, Int.toNat_natCast] at h
            exact h
        have HC2 := Lib.hid hcs
        have HLN := Lib.hid hlsN
        have HLX := Lib.hid hlsX
        have HA := Lib.hid hA
        clear hcs hlsN hlsX hL hM hM4 hT hA HCS HSH HROW hMM
        unfold fnV at HS
        have s0 : _ = some _ := HS.out.cell 0; have s1 : _ = some _ := HS.out.cell 1; have s3 : _ = some _ := HS.out.cell 3
        have hfn := fn_some 91
        go_wp2_with fail
        go_at_call 16
        refine (target_spec A _ c p q t V l _ HL.out hc (by omega)).mono ?_
        rintro e w3 ⟨rfl, hb⟩
        clear s0 s1 s3
        replace HS := Lib.hid (HS.out.pure hb)
        clear x0 x1 x2 x3; replace HB := Lib.hid (pure_below HB.out hb); replace HX := Lib.hid (HX.out.pure hb); replace HK := Lib.hid (HK.out.pure hb); replace HL := Lib.hid (HL.out.pure hb); clear hb; have x0 := cell0 HX.out; have x1 := cell1 HX.out; have x2 := cell2 HX.out; have x3 := cell3 HX.out
        rcases HC2.out with ⟨h1, he⟩ | ⟨h1, hcs⟩
        · have hne : (tgtE l p q t V != 0) = true := by simpa using h1
          have HE := Lib.hid he
          have HN := Lib.hid h1
          clear h1 he HC2
          have c0 : _ = some (Value.slice none 0 0) := HK.out.cell 0; have c1 : _ = some (Value.int .i64 0) := HK.out.cell 1; have c2 : _ = some (Value.int .i64 0) := HK.out.cell 2; have c3 : _ = some (Value.int .i64 0) := HK.out.cell 3; have c4 : _ = some (Value.int .i64 0) := HK.out.cell 4; have c5 : _ = some (Value.int .i64 0) := HK.out.cell 5; have c6 : _ = some (Value.int .i64 0) := HK.out.cell 6; have c7 : _ = some (Value.int .i64 0) := HK.out.cell 7; have c8 : _ = some (Value.int .i64 0) := HK.out.cell 8; have f0 := HK.out.frozen 0; have f1 := HK.out.frozen 1; have f2 := HK.out.frozen 2; have f3 := HK.out.frozen 3; have f4 := HK.out.frozen 4; have f5 := HK.out.frozen 5; have f6 := HK.out.frozen 6; have f7 := HK.out.frozen 7; have f8 := HK.out.frozen 8
          go_wp2
          refine bodyPost_ret (v := .tuple #[.agg #[.slice none 0 0, .int .i64 0, .int .i64 0, .int .i64 0, .int .i64 0, .int .i64 0, .int .i64 0, .int .i64 0, .int .i64 0], .int .i64 (tgtE l p q t V)]) (by simp [results, Tryz.results55, go_sem, c0, c1, c2, c3, c4, c5, c6, c7, c8]) rfl ?_
          exact lsw_no HE.out HN.out (below_set9 _ HB.out (Nat.le_succ _) _ _ _ _ _ _ _ _ _)
        · have htr := tgt_rl h1
          rw [h1]
          obtain ⟨b, hb0⟩ : ∃ b : Nat, tgt l p q t V = b := ⟨(tgt l p q t V).toNat, by omega⟩
          rw [hb0, Int.toNat_natCast] at hcs
          have hbl : b ≤ l.length := by omega
          have HB0 := Lib.hid hb0
          rw [hb0]
          clear h1 hb0 htr HC2
          have s0 : _ = some _ := HS.out.cell 0; have s1 : _ = some _ := HS.out.cell 1; have s3 : _ = some _ := HS.out.cell 3
          rcases hcs with ⟨h5, he⟩ | ⟨h5, h6, he⟩ | ⟨h5, h6, h7, he⟩ | ⟨h5, h6, h7, he⟩
          · have hm2 : ((b : Int) % (V : Int) != 0) = true := by simpa using h5
            have HE := Lib.hid he
            have HN := Lib.hid (show (212 : Int) ≠ 0 by decide)
            clear h5 he
            have c0 : _ = some (Value.slice none 0 0) := HK.out.cell 0; have c1 : _ = some (Value.int .i64 0) := HK.out.cell 1; have c2 : _ = some (Value.int .i64 0) := HK.out.cell 2; have c3 : _ = some (Value.int .i64 0) := HK.out.cell 3; have c4 : _ = some (Value.int .i64 0) := HK.out.cell 4; have c5 : _ = some (Value.int .i64 0) := HK.out.cell 5; have c6 : _ = some (Value.int .i64 0) := HK.out.cell 6; have c7 : _ = some (Value.int .i64 0) := HK.out.cell 7; have c8 : _ = some (Value.int .i64 0) := HK.out.cell 8; have f0 := HK.out.frozen 0; have f1 := HK.out.frozen 1; have f2 := HK.out.frozen 2; have f3 := HK.out.frozen 3; have f4 := HK.out.frozen 4; have f5 := HK.out.frozen 5; have f6 := HK.out.frozen 6; have f7 := HK.out.frozen 7; have f8 := HK.out.frozen 8
            go_wp2
            refine bodyPost_ret (v := .tuple #[.agg #[.slice none 0 0, .int .i64 0, .int .i64 0, .int .i64 0, .int .i64 0, .int .i64 0, .int .i64 0, .int .i64 0, .int .i64 0], .int .i64 212]) (by simp [results, Tryz.results55, go_sem, c0, c1, c2, c3, c4, c5, c6, c7, c8]) rfl ?_
            exact lsw_no HE.out HN.out (below_set9 _ HB.out (Nat.le_succ _) _ _ _ _ _ _ _ _ _)
          · have hm2 : ((b : Int) % (V : Int) != 0) = false := by simpa using h5
            have HE := Lib.hid he
            have HN := Lib.hid (show (211 : Int) ≠ 0 by decide)
            clear h5 he
            first
              | (exfalso; omega)
              | skip
            all_goals
              have c0 : _ = some (Value.slice none 0 0) := HK.out.cell 0; have c1 : _ = some (Value.int .i64 0) := HK.out.cell 1; have c2 : _ = some (Value.int .i64 0) := HK.out.cell 2; have c3 : _ = some (Value.int .i64 0) := HK.out.cell 3; have c4 : _ = some (Value.int .i64 0) := HK.out.cell 4; have c5 : _ = some (Value.int .i64 0) := HK.out.cell 5; have c6 : _ = some (Value.int .i64 0) := HK.out.cell 6; have c7 : _ = some (Value.int .i64 0) := HK.out.cell 7; have c8 : _ = some (Value.int .i64 0) := HK.out.cell 8; have f0 := HK.out.frozen 0; have f1 := HK.out.frozen 1; have f2 := HK.out.frozen 2; have f3 := HK.out.frozen 3; have f4 := HK.out.frozen 4; have f5 := HK.out.frozen 5; have f6 := HK.out.frozen 6; have f7 := HK.out.frozen 7; have f8 := HK.out.frozen 8
              go_wp2
              refine bodyPost_ret (v := .tuple #[.agg #[.slice none 0 0, .int .i64 0, .int .i64 0, .int .i64 0, .int .i64 0, .int .i64 0, .int .i64 0, .int .i64 0, .int .i64 0], .int .i64 211]) (by simp [results, Tryz.results55, go_sem, c0, c1, c2, c3, c4, c5, c6, c7, c8]) rfl ?_
              exact lsw_no HE.out HN.out (below_set9 _ HB.out (Nat.le_succ _) _ _ _ _ _ _ _ _ _)
          · have hm2 : ((b : Int) % (V : Int) != 0) = false := by simpa using h5
            have HE := Lib.hid he
            have HN := Lib.hid (show (211 : Int) ≠ 0 by decide)
            clear h5 he
            go_wp2_with fail
            have hw9 := wrapv0 V (by omega)
            go_region_held3 (fun w' => (w'.cell? ⟨w.heap.size, 0, none⟩ = some (.int .i64 p) ∧ w'.cell? ⟨w.heap.size, 1, none⟩ = some (.int .i64 q) ∧ w'.cell? ⟨w.heap.size, 2, none⟩ = some (.int .i64 t) ∧ w'.cell? ⟨w.heap.size, 3, none⟩ = some (.int .i64 V)) ∧ w'.cell? ⟨g, 1, none⟩ = some (.func (.func 91) #[] #[]) ∧ w'.cell? ⟨g, 3, none⟩ = some (.int .i64 0)) (first | exact ⟨⟨x0, x1, x2, x3⟩, s1, s3⟩ | exact ⟨⟨cell_pure HB6.out x0, cell_pure HB6.out x1, cell_pure HB6.out x2, cell_pure HB6.out x3⟩, cell_pure HB6.out s1, cell_pure HB6.out s3⟩)
              (first | ((go_at_call 91; refine (lfixed_spec A _ c p q t V b MM _ HMM.out hM4').mono ?_); rintro e w6 ⟨rfl, hb6⟩; have HB6 := Lib.hid hb6; clear hb6))
            have hb6 := HB6.out
            clear s0 s1 s3 hw9
            replace HS := Lib.hid (HS.out.drew.pure hb6)
            replace HB := Lib.hid (pure_below HB.out.drew hb6)
            replace HX := Lib.hid (HX.out.drew.pure hb6)
            replace HK := Lib.hid (HK.out.drew.pure hb6)
            replace HL := Lib.hid ((isl_drew HL.out).pure hb6)
            clear hb6 HB6 x0 x1 x2 x3
            have x0 := cell0 HX.out; have x1 := cell1 HX.out; have x2 := cell2 HX.out; have x3 := cell3 HX.out
            have s0 : _ = some _ := HS.out.cell 0; have s1 : _ = some _ := HS.out.cell 1; have s3 : _ = some _ := HS.out.cell 3
            by_cases hN : l.length < MM
            · have hd : decide (l.length < MM) = true := decide_eq_true hN
              have c0 : _ = some (Value.slice none 0 0) := HK.out.cell 0; have c1 : _ = some (Value.int .i64 0) := HK.out.cell 1; have c2 : _ = some (Value.int .i64 0) := HK.out.cell 2; have c3 : _ = some (Value.int .i64 0) := HK.out.cell 3; have c4 : _ = some (Value.int .i64 0) := HK.out.cell 4; have c5 : _ = some (Value.int .i64 0) := HK.out.cell 5; have c6 : _ = some (Value.int .i64 0) := HK.out.cell 6; have c7 : _ = some (Value.int .i64 0) := HK.out.cell 7; have c8 : _ = some (Value.int .i64 0) := HK.out.cell 8; have f0 := HK.out.frozen 0; have f1 := HK.out.frozen 1; have f2 := HK.out.frozen 2; have f3 := HK.out.frozen 3; have f4 := HK.out.frozen 4; have f5 := HK.out.frozen 5; have f6 := HK.out.frozen 6; have f7 := HK.out.frozen 7; have f8 := HK.out.frozen 8
              go_wp2
              refine bodyPost_ret (v := .tuple #[.agg #[.slice none 0 0, .int .i64 0, .int .i64 0, .int .i64 0, .int .i64 0, .int .i64 0, .int .i64 0, .int .i64 0, .int .i64 0], .int .i64 211]) (by simp [results, Tryz.results55, go_sem, c0, c1, c2, c3, c4, c5, c6, c7, c8]) rfl ?_
              exact lsw_no HE.out HN.out (below_set9 _ HB.out (Nat.le_succ _) _ _ _ _ _ _ _ _ _)
            · have hd : decide (l.length < MM) = false := decide_eq_false hN
              have hNl : MM ≤ 1099511627776 := by omega
              have hXB : MM * (V + 0) ≤ 9895604649984 := Nat.le_trans (Nat.mul_le_mul (show MM ≤ 1099511627776 by omega) (show V + 0 ≤ 9 by omega)) (by decide)
              obtain ⟨X, hX⟩ : ∃ X, MM * (V + 0) = X := ⟨_, rfl⟩
              rw [hX] at h7 hXB
              have HIN := Lib.hid (show inB l.length b X = false from decide_eq_false (by omega))
              have HMUL := Lib.hid (mul_wrap0 MM V X hX (by omega))
              clear h7 hX
              have hmul := HMUL.out
              go_wp2_with fail
              clear hmul
              go_at_call 35
              refine (inside_spec A _ c b X _ (by omega)).mono ?_
              rw [HIN.out]
              rintro e w7 ⟨rfl, rfl⟩
              have c0 : _ = some (Value.slice none 0 0) := HK.out.cell 0; have c1 : _ = some (Value.int .i64 0) := HK.out.cell 1; have c2 : _ = some (Value.int .i64 0) := HK.out.cell 2; have c3 : _ = some (Value.int .i64 0) := HK.out.cell 3; have c4 : _ = some (Value.int .i64 0) := HK.out.cell 4; have c5 : _ = some (Value.int .i64 0) := HK.out.cell 5; have c6 : _ = some (Value.int .i64 0) := HK.out.cell 6; have c7 : _ = some (Value.int .i64 0) := HK.out.cell 7; have c8 : _ = some (Value.int .i64 0) := HK.out.cell 8; have f0 := HK.out.frozen 0; have f1 := HK.out.frozen 1; have f2 := HK.out.frozen 2; have f3 := HK.out.frozen 3; have f4 := HK.out.frozen 4; have f5 := HK.out.frozen 5; have f6 := HK.out.frozen 6; have f7 := HK.out.frozen 7; have f8 := HK.out.frozen 8
              go_wp2
              refine bodyPost_ret (v := .tuple #[.agg #[.slice none 0 0, .int .i64 0, .int .i64 0, .int .i64 0, .int .i64 0, .int .i64 0, .int .i64 0, .int .i64 0, .int .i64 0], .int .i64 211]) (by simp [results, Tryz.results55, go_sem, c0, c1, c2, c3, c4, c5, c6, c7, c8]) rfl ?_
              exact lsw_no HE.out HN.out (below_set9 _ HB.out (Nat.le_succ _) _ _ _ _ _ _ _ _ _)
          · have hm2 : ((b : Int) % (V : Int) != 0) = false := by simpa using h5
            have HE := Lib.hid he
            clear h5 he
            go_wp2_with fail
            have hw9 := wrapv0 V (by omega)
            go_region_held3 (fun w' => (w'.cell? ⟨w.heap.size, 0, none⟩ = some (.int .i64 p) ∧ w'.cell? ⟨w.heap.size, 1, none⟩ = some (.int .i64 q) ∧ w'.cell? ⟨w.heap.size, 2, none⟩ = some (.int .i64 t) ∧ w'.cell? ⟨w.heap.size, 3, none⟩ = some (.int .i64 V)) ∧ w'.cell? ⟨g, 1, none⟩ = some (.func (.func 91) #[] #[]) ∧ w'.cell? ⟨g, 3, none⟩ = some (.int .i64 0)) (first | exact ⟨⟨x0, x1, x2, x3⟩, s1, s3⟩ | exact ⟨⟨cell_pure HB6.out x0, cell_pure HB6.out x1, cell_pure HB6.out x2, cell_pure HB6.out x3⟩, cell_pure HB6.out s1, cell_pure HB6.out s3⟩)
              (first | ((go_at_call 91; refine (lfixed_spec A _ c p q t V b MM _ HMM.out hM4').mono ?_); rintro e w6 ⟨rfl, hb6⟩; have HB6 := Lib.hid hb6; clear hb6))
            have hb6 := HB6.out
            clear s0 s1 s3 hw9
            replace HS := Lib.hid (HS.out.drew.pure hb6)
            replace HB := Lib.hid (pure_below HB.out.drew hb6)
            replace HX := Lib.hid (HX.out.drew.pure hb6)
            replace HK := Lib.hid (HK.out.drew.pure hb6)
            replace HL := Lib.hid ((isl_drew HL.out).pure hb6)
            clear hb6 HB6 x0 x1 x2 x3
            have x0 := cell0 HX.out; have x1 := cell1 HX.out; have x2 := cell2 HX.out; have x3 := cell3 HX.out
            have s0 : _ = some _ := HS.out.cell 0; have s1 : _ = some _ := HS.out.cell 1; have s3 : _ = some _ := HS.out.cell 3
            have hN0 : MM ≤ MM * (V + 0) := Nat.le_mul_of_pos_right _ (by omega)
            have hN : ¬ l.length < MM := by omega
            have hd : decide (l.length < MM) = false := decide_eq_false hN
            have hNl : MM ≤ 1099511627776 := by omega
            obtain ⟨X, hX⟩ : ∃ X, MM * (V + 0) = X := ⟨_, rfl⟩
            rw [hX] at h7 hN0
            have HIN := Lib.hid (show inB l.length b X = true from inB_iff.2 ⟨by omega, by omega, by omega⟩)
            have HMUL := Lib.hid (mul_wrap0 MM V X hX (by omega))
            have HXX := Lib.hid hX
            clear hX
            have hmul := HMUL.out
            go_wp2_with fail
            clear hmul
            go_at_call 35
            refine (inside_spec A _ c b X _ (by omega)).mono ?_
            rw [HIN.out]
            rintro e w7 ⟨rfl, rfl⟩
            have hmul := HMUL.out
            have c0 : _ = some (Value.slice none 0 0) := HK.out.cell 0; have c1 : _ = some (Value.int .i64 0) := HK.out.cell 1; have c2 : _ = some (Value.int .i64 0) := HK.out.cell 2; have c3 : _ = some (Value.int .i64 0) := HK.out.cell 3; have c4 : _ = some (Value.int .i64 0) := HK.out.cell 4; have c5 : _ = some (Value.int .i64 0) := HK.out.cell 5; have c6 : _ = some (Value.int .i64 0) := HK.out.cell 6; have c7 : _ = some (Value.int .i64 0) := HK.out.cell 7; have c8 : _ = some (Value.int .i64 0) := HK.out.cell 8; have f0 := HK.out.frozen 0; have f1 := HK.out.frozen 1; have f2 := HK.out.frozen 2; have f3 := HK.out.frozen 3; have f4 := HK.out.frozen 4; have f5 := HK.out.frozen 5; have f6 := HK.out.frozen 6; have f7 := HK.out.frozen 7; have f8 := HK.out.frozen 8
            go_wp2
            refine bodyPost_ret (v := .tuple #[.agg #[.slice A l.length c, .int .i64 p, .int .i64 q, .int .i64 t, .int .i64 V, .int .i64 (b : Int), .int .i64 b, .int .i64 ((b : Int) + X), .int .i64 MM], .int .i64 0]) (by simp [results, Tryz.results55, go_sem, c0, c1, c2, c3, c4, c5, c6, c7, c8]) rfl ?_
            rw [← Int.natCast_add]
            exact lsw_yes HE.out (by rw [HB0.out, Int.toNat_natCast]) (by rw [HA.out, Int.toNat_natCast]; try omega) HLN.out (by rw [HLX.out, HXX.out]) (below_set9 _ HB.out (Nat.le_succ _) _ _ _ _ _ _ _ _ _)
      · rw [HROW.out] at e
        have hcs : (tgtE l p q t V ≠ 0 ∧ lsE l p q t V = tgtE l p q t V) ∨ (tgtE l p q t V = 0 ∧
            ((tgt l p q t V % V ≠ 0 ∧ lsE l p q t V = 212) ∨ (tgt l p q t V % V = 0 ∧ (tgt l p q t V).toNat < aheadT t * V ∧ lsE l p q t V = 211) ∨
            (tgt l p q t V % V = 0 ∧ aheadT t * V ≤ (tgt l p q t V).toNat ∧ l.length < (tgt l p q t V).toNat + lsN l p q t V * (V + tgs t) ∧ lsE l p q t V = 211) ∨
            (tgt l p q t V % V = 0 ∧ aheadT t * V ≤ (tgt l p q t V).toNat ∧ (tgt l p q t V).toNat + lsN l p q t V * (V + tgs t) ≤ l.length ∧ lsE l p q t V = 0))) := by
          rcases HCS.out with ⟨h, _⟩ | ⟨_, h⟩
          · rw [hL] at h; cases h
          · unfold lsX at h
            rw [Int.toNat_natCast] at h
            exact h
        have hNu : lsN l p q t V = loadU l (tgt l p q t V - V) V := by unfold lsN; rw [if_neg (by omega)]
        obtain ⟨U, hU⟩ : ∃ U, lsN l p q t V = U := ⟨_, rfl⟩
        have HLN := Lib.hid hU
        have HNU := Lib.hid (hNu.symm.trans hU)
        rw [hU] at hcs
        have hsp : (aheadT t = 1 ∧ tgs t = 0 ∧ tagT t = false) ∨ (aheadT t = 1 ∧ tgs t = 1 ∧ tagT t = true) ∨ (aheadT t = 3 ∧ tgs t = 1 ∧ tagT t = true) := ahead_cases hA hM
        clear hU hNu hL hM hA HCS HSH HROW
        rcases hsp with ⟨hA, hT, hT2⟩ | ⟨hA, hT, hT2⟩ | ⟨hA, hT, hT2⟩
        · rw [hA, hT, hT2] at e
          rw [hA, hT] at hcs
          injection e with e1 e; injection e with e2 e; injection e with e3 e; injection e with e4 e
          subst e1 e2 e3 e4
          have HC2 := Lib.hid hcs
          have HLX := Lib.hid (show lsX t V = V + 0 by unfold lsX; rw [hT]; rfl)
          have HA := Lib.hid hA
          clear hcs hA hT hT2
          unfold fnV at HS
          have s0 : _ = some _ := HS.out.cell 0; have s1 : _ = some _ := HS.out.cell 1; have s3 : _ = some _ := HS.out.cell 3
          have hfn := fn_some 93
          go_wp2_with fail
          go_at_call 16
          refine (target_spec A _ c p q t V l _ HL.out hc (by omega)).mono ?_
          rintro e w3 ⟨rfl, hb⟩
          clear s0 s1 s3
          replace HS := Lib.hid (HS.out.pure hb)
          clear x0 x1 x2 x3; replace HB := Lib.hid (pure_below HB.out hb); replace HX := Lib.hid (HX.out.pure hb); replace HK := Lib.hid (HK.out.pure hb); replace HL := Lib.hid (HL.out.pure hb); clear hb; have x0 := cell0 HX.out; have x1 := cell1 HX.out; have x2 := cell2 HX.out; have x3 := cell3 HX.out
          rcases HC2.out with ⟨h1, he⟩ | ⟨h1, hcs⟩
          · have hne : (tgtE l p q t V != 0) = true := by simpa using h1
            have HE := Lib.hid he
            have HN := Lib.hid h1
            clear h1 he HC2
            have c0 : _ = some (Value.slice none 0 0) := HK.out.cell 0; have c1 : _ = some (Value.int .i64 0) := HK.out.cell 1; have c2 : _ = some (Value.int .i64 0) := HK.out.cell 2; have c3 : _ = some (Value.int .i64 0) := HK.out.cell 3; have c4 : _ = some (Value.int .i64 0) := HK.out.cell 4; have c5 : _ = some (Value.int .i64 0) := HK.out.cell 5; have c6 : _ = some (Value.int .i64 0) := HK.out.cell 6; have c7 : _ = some (Value.int .i64 0) := HK.out.cell 7; have c8 : _ = some (Value.int .i64 0) := HK.out.cell 8; have f0 := HK.out.frozen 0; have f1 := HK.out.frozen 1; have f2 := HK.out.frozen 2; have f3 := HK.out.frozen 3; have f4 := HK.out.frozen 4; have f5 := HK.out.frozen 5; have f6 := HK.out.frozen 6; have f7 := HK.out.frozen 7; have f8 := HK.out.frozen 8
            go_wp2
            refine bodyPost_ret (v := .tuple #[.agg #[.slice none 0 0, .int .i64 0, .int .i64 0, .int .i64 0, .int .i64 0, .int .i64 0, .int .i64 0, .int .i64 0, .int .i64 0], .int .i64 (tgtE l p q t V)]) (by simp [results, Tryz.results55, go_sem, c0, c1, c2, c3, c4, c5, c6, c7, c8]) rfl ?_
            exact lsw_no HE.out HN.out (below_set9 _ HB.out (Nat.le_succ _) _ _ _ _ _ _ _ _ _)
          · have htr := tgt_rl h1
            rw [h1]
            obtain ⟨b, hb0⟩ : ∃ b : Nat, tgt l p q t V = b := ⟨(tgt l p q t V).toNat, by omega⟩
            rw [hb0, Int.toNat_natCast] at hcs
            have hbl : b ≤ l.length := by omega
            have HB0 := Lib.hid hb0
            rw [hb0]
            clear h1 hb0 htr HC2
            have s0 : _ = some _ := HS.out.cell 0; have s1 : _ = some _ := HS.out.cell 1; have s3 : _ = some _ := HS.out.cell 3
            rcases hcs with ⟨h5, he⟩ | ⟨h5, h6, he⟩ | ⟨h5, h6, h7, he⟩ | ⟨h5, h6, h7, he⟩
            · have hm2 : ((b : Int) % (V : Int) != 0) = true := by simpa using h5
              have HE := Lib.hid he
              have HN := Lib.hid (show (212 : Int) ≠ 0 by decide)
              clear h5 he
              have c0 : _ = some (Value.slice none 0 0) := HK.out.cell 0; have c1 : _ = some (Value.int .i64 0) := HK.out.cell 1; have c2 : _ = some (Value.int .i64 0) := HK.out.cell 2; have c3 : _ = some (Value.int .i64 0) := HK.out.cell 3; have c4 : _ = some (Value.int .i64 0) := HK.out.cell 4; have c5 : _ = some (Value.int .i64 0) := HK.out.cell 5; have c6 : _ = some (Value.int .i64 0) := HK.out.cell 6; have c7 : _ = some (Value.int .i64 0) := HK.out.cell 7; have c8 : _ = some (Value.int .i64 0) := HK.out.cell 8; have f0 := HK.out.frozen 0; have f1 := HK.out.frozen 1; have f2 := HK.out.frozen 2; have f3 := HK.out.frozen 3; have f4 := HK.out.frozen 4; have f5 := HK.out.frozen 5; have f6 := HK.out.frozen 6; have f7 := HK.out.frozen 7; have f8 := HK.out.frozen 8
              go_wp2
              refine bodyPost_ret (v := .tuple #[.agg #[.slice none 0 0, .int .i64 0, .int .i64 0, .int .i64 0, .int .i64 0, .int .i64 0, .int .i64 0, .int .i64 0, .int .i64 0], .int .i64 212]) (by simp [results, Tryz.results55, go_sem, c0, c1, c2, c3, c4, c5, c6, c7, c8]) rfl ?_
              exact lsw_no HE.out HN.out (below_set9 _ HB.out (Nat.le_succ _) _ _ _ _ _ _ _ _ _)
            · have hm2 : ((b : Int) % (V : Int) != 0) = false := by simpa using h5
              have HE := Lib.hid he
              have HN := Lib.hid (show (211 : Int) ≠ 0 by decide)
              clear h5 he
              first
                | (exfalso; omega)
                | skip
              all_goals
                have c0 : _ = some (Value.slice none 0 0) := HK.out.cell 0; have c1 : _ = some (Value.int .i64 0) := HK.out.cell 1; have c2 : _ = some (Value.int .i64 0) := HK.out.cell 2; have c3 : _ = some (Value.int .i64 0) := HK.out.cell 3; have c4 : _ = some (Value.int .i64 0) := HK.out.cell 4; have c5 : _ = some (Value.int .i64 0) := HK.out.cell 5; have c6 : _ = some (Value.int .i64 0) := HK.out.cell 6; have c7 : _ = some (Value.int .i64 0) := HK.out.cell 7; have c8 : _ = some (Value.int .i64 0) := HK.out.cell 8; have f0 := HK.out.frozen 0; have f1 := HK.out.frozen 1; have f2 := HK.out.frozen 2; have f3 := HK.out.frozen 3; have f4 := HK.out.frozen 4; have f5 := HK.out.frozen 5; have f6 := HK.out.frozen 6; have f7 := HK.out.frozen 7; have f8 := HK.out.frozen 8
                go_wp2
                refine bodyPost_ret (v := .tuple #[.agg #[.slice none 0 0, .int .i64 0, .int .i64 0, .int .i64 0, .int .i64 0, .int .i64 0, .int .i64 0, .int .i64 0, .int .i64 0], .int .i64 211]) (by simp [results, Tryz.results55, go_sem, c0, c1, c2, c3, c4, c5, c6, c7, c8]) rfl ?_
                exact lsw_no HE.out HN.out (below_set9 _ HB.out (Nat.le_succ _) _ _ _ _ _ _ _ _ _)
            · have hm2 : ((b : Int) % (V : Int) != 0) = false := by simpa using h5
              have HE := Lib.hid he
              have HN := Lib.hid (show (211 : Int) ≠ 0 by decide)
              clear h5 he
              go_wp2_with fail
              have hw9 := wrapv0 V (by omega)
              go_region_held3 (fun w' => (w'.cell? ⟨w.heap.size, 0, none⟩ = some (.int .i64 p) ∧ w'.cell? ⟨w.heap.size, 1, none⟩ = some (.int .i64 q) ∧ w'.cell? ⟨w.heap.size, 2, none⟩ = some (.int .i64 t) ∧ w'.cell? ⟨w.heap.size, 3, none⟩ = some (.int .i64 V)) ∧ w'.cell? ⟨g, 1, none⟩ = some (.func (.func 93) #[] #[]) ∧ w'.cell? ⟨g, 3, none⟩ = some (.int .i64 0)) (first | exact ⟨⟨x0, x1, x2, x3⟩, s1, s3⟩ | exact ⟨⟨cell_pure HB6.out x0, cell_pure HB6.out x1, cell_pure HB6.out x2, cell_pure HB6.out x3⟩, cell_pure HB6.out s1, cell_pure HB6.out s3⟩)
                (first | ((go_at_call 93; refine (length_is A _ c p q t V b U l _ (isl_drew HL.out) hc hn (by omega) hv8 (by rw [← HB0.out]; exact HNU.out)).mono ?_); rintro e w6 ⟨rfl, hb6⟩; have HB6 := Lib.hid hb6; clear hb6))
              have hb6 := HB6.out
              clear s0 s1 s3 hw9
              replace HS := Lib.hid (HS.out.drew.pure hb6)
              replace HB := Lib.hid (pure_below HB.out.drew hb6)
              replace HX := Lib.hid (HX.out.drew.pure hb6)
              replace HK := Lib.hid (HK.out.drew.pure hb6)
              replace HL := Lib.hid ((isl_drew HL.out).pure hb6)
              clear hb6 HB6 x0 x1 x2 x3
              have x0 := cell0 HX.out; have x1 := cell1 HX.out; have x2 := cell2 HX.out; have x3 := cell3 HX.out
              have s0 : _ = some _ := HS.out.cell 0; have s1 : _ = some _ := HS.out.cell 1; have s3 : _ = some _ := HS.out.cell 3
              by_cases hN : l.length < U
              · have hd : decide (l.length < U) = true := decide_eq_true hN
                have c0 : _ = some (Value.slice none 0 0) := HK.out.cell 0; have c1 : _ = some (Value.int .i64 0) := HK.out.cell 1; have c2 : _ = some (Value.int .i64 0) := HK.out.cell 2; have c3 : _ = some (Value.int .i64 0) := HK.out.cell 3; have c4 : _ = some (Value.int .i64 0) := HK.out.cell 4; have c5 : _ = some (Value.int .i64 0) := HK.out.cell 5; have c6 : _ = some (Value.int .i64 0) := HK.out.cell 6; have c7 : _ = some (Value.int .i64 0) := HK.out.cell 7; have c8 : _ = some (Value.int .i64 0) := HK.out.cell 8; have f0 := HK.out.frozen 0; have f1 := HK.out.frozen 1; have f2 := HK.out.frozen 2; have f3 := HK.out.frozen 3; have f4 := HK.out.frozen 4; have f5 := HK.out.frozen 5; have f6 := HK.out.frozen 6; have f7 := HK.out.frozen 7; have f8 := HK.out.frozen 8
                go_wp2
                refine bodyPost_ret (v := .tuple #[.agg #[.slice none 0 0, .int .i64 0, .int .i64 0, .int .i64 0, .int .i64 0, .int .i64 0, .int .i64 0, .int .i64 0, .int .i64 0], .int .i64 211]) (by simp [results, Tryz.results55, go_sem, c0, c1, c2, c3, c4, c5, c6, c7, c8]) rfl ?_
                exact lsw_no HE.out HN.out (below_set9 _ HB.out (Nat.le_succ _) _ _ _ _ _ _ _ _ _)
              · have hd : decide (l.length < U) = false := decide_eq_false hN
                have hNl : U ≤ 1099511627776 := by omega
                have hXB : U * (V + 0) ≤ 9895604649984 := Nat.le_trans (Nat.mul_le_mul (show U ≤ 1099511627776 by omega) (show V + 0 ≤ 9 by omega)) (by decide)
                obtain ⟨X, hX⟩ : ∃ X, U * (V + 0) = X := ⟨_, rfl⟩
                rw [hX] at h7 hXB
                have HIN := Lib.hid (show inB l.length b X = false from decide_eq_false (by omega))
                have HMUL := Lib.hid (mul_wrap0 U V X hX (by omega))
                clear h7 hX
                have hmul := HMUL.out
                go_wp2_with fail
                clear hmul
                go_at_call 35
                refine (inside_spec A _ c b X _ (by omega)).mono ?_
                rw [HIN.out]
                rintro e w7 ⟨rfl, rfl⟩
                have c0 : _ = some (Value.slice none 0 0) := HK.out.cell 0; have c1 : _ = some (Value.int .i64 0) := HK.out.cell 1; have c2 : _ = some (Value.int .i64 0) := HK.out.cell 2; have c3 : _ = some (Value.int .i64 0) := HK.out.cell 3; have c4 : _ = some (Value.int .i64 0) := HK.out.cell 4; have c5 : _ = some (Value.int .i64 0) := HK.out.cell 5; have c6 : _ = some (Value.int .i64 0) := HK.out.cell 6; have c7 : _ = some (Value.int .i64 0) := HK.out.cell 7; have c8 : _ = some (Value.int .i64 0) := HK.out.cell 8; have f0 := HK.out.frozen 0; have f1 := HK.out.frozen 1; have f2 := HK.out.frozen 2; have f3 := HK.out.frozen 3; have f4 := HK.out.frozen 4; have f5 := HK.out.frozen 5; have f6 := HK.out.frozen 6; have f7 := HK.out.frozen 7; have f8 := HK.out.frozen 8
                go_wp2
                refine bodyPost_ret (v := .tuple #[.agg #[.slice none 0 0, .int .i64 0, .int .i64 0, .int .i64 0, .int .i64 0, .int .i64 0, .int .i64 0, .int .i64 0, .int .i64 0], .int .i64 211]) (by simp [results, Tryz.results55, go_sem, c0, c1, c2, c3, c4, c5, c6, c7, c8]) rfl ?_
                exact lsw_no HE.out HN.out (below_set9 _ HB.out (Nat.le_succ _) _ _ _ _ _ _ _ _ _)
            · have hm2 : ((b : Int) % (V : Int) != 0) = false := by simpa using h5
              have HE := Lib.hid he
              clear h5 he
              go_wp2_with fail
              have hw9 := wrapv0 V (by omega)
              go_region_held3 (fun w' => (w'.cell? ⟨w.heap.size, 0, none⟩ = some (.int .i64 p) ∧ w'.cell? ⟨w.heap.size, 1, none⟩ = some (.int .i64 q) ∧ w'.cell? ⟨w.heap.size, 2, none⟩ = some (.int .i64 t) ∧ w'.cell? ⟨w.heap.size, 3, none⟩ = some (.int .i64 V)) ∧ w'.cell? ⟨g, 1, none⟩ = some (.func (.func 93) #[] #[]) ∧ w'.cell? ⟨g, 3, none⟩ = some (.int .i64 0)) (first | exact ⟨⟨x0, x1, x2, x3⟩, s1, s3⟩ | exact ⟨⟨cell_pure HB6.out x0, cell_pure HB6.out x1, cell_pure HB6.out x2, cell_pure HB6.out x3⟩, cell_pure HB6.out s1, cell_pure HB6.out s3⟩)
                (first | ((go_at_call 93; refine (length_is A _ c p q t V b U l _ (isl_drew HL.out) hc hn (by omega) hv8 (by rw [← HB0.out]; exact HNU.out)).mono ?_); rintro e w6 ⟨rfl, hb6⟩; have HB6 := Lib.hid hb6; clear hb6))
              have hb6 := HB6.out
              clear s0 s1 s3 hw9
              replace HS := Lib.hid (HS.out.drew.pure hb6)
              replace HB := Lib.hid (pure_below HB.out.drew hb6)
              replace HX := Lib.hid (HX.out.drew.pure hb6)
              replace HK := Lib.hid (HK.out.drew.pure hb6)
              replace HL := Lib.hid ((isl_drew HL.out).pure hb6)
              clear hb6 HB6 x0 x1 x2 x3
              have x0 := cell0 HX.out; have x1 := cell1 HX.out; have x2 := cell2 HX.out; have x3 := cell3 HX.out
              have s0 : _ = some _ := HS.out.cell 0; have s1 : _ = some _ := HS.out.cell 1; have s3 : _ = some _ := HS.out.cell 3
              have hN0 : U ≤ U * (V + 0) := Nat.le_mul_of_pos_right _ (by omega)
              have hN : ¬ l.length < U := by omega
              have hd : decide (l.length < U) = false := decide_eq_false hN
              have hNl : U ≤ 1099511627776 := by omega
              obtain ⟨X, hX⟩ : ∃ X, U * (V + 0) = X := ⟨_, rfl⟩
              rw [hX] at h7 hN0
              have HIN := Lib.hid (show inB l.length b X = true from inB_iff.2 ⟨by omega, by omega, by omega⟩)
              have HMUL := Lib.hid (mul_wrap0 U V X hX (by omega))
              have HXX := Lib.hid hX
              clear hX
              have hmul := HMUL.out
              go_wp2_with fail
              clear hmul
              go_at_call 35
              refine (inside_spec A _ c b X _ (by omega)).mono ?_
              rw [HIN.out]
              rintro e w7 ⟨rfl, rfl⟩
              have hmul := HMUL.out
              have c0 : _ = some (Value.slice none 0 0) := HK.out.cell 0; have c1 : _ = some (Value.int .i64 0) := HK.out.cell 1; have c2 : _ = some (Value.int .i64 0) := HK.out.cell 2; have c3 : _ = some (Value.int .i64 0) := HK.out.cell 3; have c4 : _ = some (Value.int .i64 0) := HK.out.cell 4; have c5 : _ = some (Value.int .i64 0) := HK.out.cell 5; have c6 : _ = some (Value.int .i64 0) := HK.out.cell 6; have c7 : _ = some (Value.int .i64 0) := HK.out.cell 7; have c8 : _ = some (Value.int .i64 0) := HK.out.cell 8; have f0 := HK.out.frozen 0; have f1 := HK.out.frozen 1; have f2 := HK.out.frozen 2; have f3 := HK.out.frozen 3; have f4 := HK.out.frozen 4; have f5 := HK.out.frozen 5; have f6 := HK.out.frozen 6; have f7 := HK.out.frozen 7; have f8 := HK.out.frozen 8
              go_wp2
              refine bodyPost_ret (v := .tuple #[.agg #[.slice A l.length c, .int .i64 p, .int .i64 q, .int .i64 t, .int .i64 V, .int .i64 ((b : Int) - V), .int .i64 b, .int .i64 ((b : Int) + X), .int .i64 U], .int .i64 0]) (by simp [results, Tryz.results55, go_sem, c0, c1, c2, c3, c4, c5, c6, c7, c8]) rfl ?_
              rw [show (b : Int) - V = ((b - 1 * V : Nat) : Int) by omega, ← Int.natCast_add]
              exact lsw_yes HE.out (by rw [HB0.out, Int.toNat_natCast]) (by rw [HA.out, Int.toNat_natCast]; try omega) HLN.out (by rw [HLX.out, HXX.out]) (below_set9 _ HB.out (Nat.le_succ _) _ _ _ _ _ _ _ _ _)
        · rw [hA, hT, hT2] at e
          rw [hA, hT] at hcs
          injection e with e1 e; injection e with e2 e; injection e with e3 e; injection e with e4 e
          subst e1 e2 e3 e4
          have HC2 := Lib.hid hcs
          have HLX := Lib.hid (show lsX t V = V + 1 by unfold lsX; rw [hT]; rfl)
          have HA := Lib.hid hA
          clear hcs hA hT hT2
          unfold fnV at HS
          have s0 : _ = some _ := HS.out.cell 0; have s1 : _ = some _ := HS.out.cell 1; have s3 : _ = some _ := HS.out.cell 3
          have hfn := fn_some 93
          go_wp2_with fail
          go_at_call 16
          refine (target_spec A _ c p q t V l _ HL.out hc (by omega)).mono ?_
          rintro e w3 ⟨rfl, hb⟩
          clear s0 s1 s3
          replace HS := Lib.hid (HS.out.pure hb)
          clear x0 x1 x2 x3; replace HB := Lib.hid (pure_below HB.out hb); replace HX := Lib.hid (HX.out.pure hb); replace HK := Lib.hid (HK.out.pure hb); replace HL := Lib.hid (HL.out.pure hb); clear hb; have x0 := cell0 HX.out; have x1 := cell1 HX.out; have x2 := cell2 HX.out; have x3 := cell3 HX.out
          rcases HC2.out with ⟨h1, he⟩ | ⟨h1, hcs⟩
          · have hne : (tgtE l p q t V != 0) = true := by simpa using h1
            have HE := Lib.hid he
            have HN := Lib.hid h1
            clear h1 he HC2
            have c0 : _ = some (Value.slice none 0 0) := HK.out.cell 0; have c1 : _ = some (Value.int .i64 0) := HK.out.cell 1; have c2 : _ = some (Value.int .i64 0) := HK.out.cell 2; have c3 : _ = some (Value.int .i64 0) := HK.out.cell 3; have c4 : _ = some (Value.int .i64 0) := HK.out.cell 4; have c5 : _ = some (Value.int .i64 0) := HK.out.cell 5; have c6 : _ = some (Value.int .i64 0) := HK.out.cell 6; have c7 : _ = some (Value.int .i64 0) := HK.out.cell 7; have c8 : _ = some (Value.int .i64 0) := HK.out.cell 8; have f0 := HK.out.frozen 0; have f1 := HK.out.frozen 1; have f2 := HK.out.frozen 2; have f3 := HK.out.frozen 3; have f4 := HK.out.frozen 4; have f5 := HK.out.frozen 5; have f6 := HK.out.frozen 6; have f7 := HK.out.frozen 7; have f8 := HK.out.frozen 8
            go_wp2
            refine bodyPost_ret (v := .tuple #[.agg #[.slice none 0 0, .int .i64 0, .int .i64 0, .int .i64 0, .int .i64 0, .int .i64 0, .int .i64 0, .int .i64 0, .int .i64 0], .int .i64 (tgtE l p q t V)]) (by simp [results, Tryz.results55, go_sem, c0, c1, c2, c3, c4, c5, c6, c7, c8]) rfl ?_
            exact lsw_no HE.out HN.out (below_set9 _ HB.out (Nat.le_succ _) _ _ _ _ _ _ _ _ _)
          · have htr := tgt_rl h1
            rw [h1]
            obtain ⟨b, hb0⟩ : ∃ b : Nat, tgt l p q t V = b := ⟨(tgt l p q t V).toNat, by omega⟩
            rw [hb0, Int.toNat_natCast] at hcs
            have hbl : b ≤ l.length := by omega
            have HB0 := Lib.hid hb0
            rw [hb0]
            clear h1 hb0 htr HC2
            have s0 : _ = some _ := HS.out.cell 0; have s1 : _ = some _ := HS.out.cell 1; have s3 : _ = some _ := HS.out.cell 3
            rcases hcs with ⟨h5, he⟩ | ⟨h5, h6, he⟩ | ⟨h5, h6, h7, he⟩ | ⟨h5, h6, h7, he⟩
            · have hm2 : ((b : Int) % (V : Int) != 0) = true := by simpa using h5
              have HE := Lib.hid he
              have HN := Lib.hid (show (212 : Int) ≠ 0 by decide)
              clear h5 he
              have c0 : _ = some (Value.slice none 0 0) := HK.out.cell 0; have c1 : _ = some (Value.int .i64 0) := HK.out.cell 1; have c2 : _ = some (Value.int .i64 0) := HK.out.cell 2; have c3 : _ = some (Value.int .i64 0) := HK.out.cell 3; have c4 : _ = some (Value.int .i64 0) := HK.out.cell 4; have c5 : _ = some (Value.int .i64 0) := HK.out.cell 5; have c6 : _ = some (Value.int .i64 0) := HK.out.cell 6; have c7 : _ = some (Value.int .i64 0) := HK.out.cell 7; have c8 : _ = some (Value.int .i64 0) := HK.out.cell 8; have f0 := HK.out.frozen 0; have f1 := HK.out.frozen 1; have f2 := HK.out.frozen 2; have f3 := HK.out.frozen 3; have f4 := HK.out.frozen 4; have f5 := HK.out.frozen 5; have f6 := HK.out.frozen 6; have f7 := HK.out.frozen 7; have f8 := HK.out.frozen 8
              go_wp2
              refine bodyPost_ret (v := .tuple #[.agg #[.slice none 0 0, .int .i64 0, .int .i64 0, .int .i64 0, .int .i64 0, .int .i64 0, .int .i64 0, .int .i64 0, .int .i64 0], .int .i64 212]) (by simp [results, Tryz.results55, go_sem, c0, c1, c2, c3, c4, c5, c6, c7, c8]) rfl ?_
              exact lsw_no HE.out HN.out (below_set9 _ HB.out (Nat.le_succ _) _ _ _ _ _ _ _ _ _)
            · have hm2 : ((b : Int) % (V : Int) != 0) = false := by simpa using h5
              have HE := Lib.hid he
              have HN := Lib.hid (show (211 : Int) ≠ 0 by decide)
              clear h5 he
              first
                | (exfalso; omega)
                | skip
              all_goals
                have c0 : _ = some (Value.slice none 0 0) := HK.out.cell 0; have c1 : _ = some (Value.int .i64 0) := HK.out.cell 1; have c2 : _ = some (Value.int .i64 0) := HK.out.cell 2; have c3 : _ = some (Value.int .i64 0) := HK.out.cell 3; have c4 : _ = some (Value.int .i64 0) := HK.out.cell 4; have c5 : _ = some (Value.int .i64 0) := HK.out.cell 5; have c6 : _ = some (Value.int .i64 0) := HK.out.cell 6; have c7 : _ = some (Value.int .i64 0) := HK.out.cell 7; have c8 : _ = some (Value.int .i64 0) := HK.out.cell 8; have f0 := HK.out.frozen 0; have f1 := HK.out.frozen 1; have f2 := HK.out.frozen 2; have f3 := HK.out.frozen 3; have f4 := HK.out.frozen 4; have f5 := HK.out.frozen 5; have f6 := HK.out.frozen 6; have f7 := HK.out.frozen 7; have f8 := HK.out.frozen 8
                go_wp2
                refine bodyPost_ret (v := .tuple #[.agg #[.slice none 0 0, .int .i64 0, .int .i64 0, .int .i64 0, .int .i64 0, .int .i64 0, .int .i64 0, .int .i64 0, .int .i64 0], .int .i64 211]) (by simp [results, Tryz.results55, go_sem, c0, c1, c2, c3, c4, c5, c6, c7, c8]) rfl ?_
                exact lsw_no HE.out HN.out (below_set9 _ HB.out (Nat.le_succ _) _ _ _ _ _ _ _ _ _)
            · have hm2 : ((b : Int) % (V : Int) != 0) = false := by simpa using h5
              have HE := Lib.hid he
              have HN := Lib.hid (show (211 : Int) ≠ 0 by decide)
              clear h5 he
              go_wp2_with fail
              have hw9 := wrapv1 V (by omega)
              go_region_held3 (fun w' => (w'.cell? ⟨w.heap.size, 0, none⟩ = some (.int .i64 p) ∧ w'.cell? ⟨w.heap.size, 1, none⟩ = some (.int .i64 q) ∧ w'.cell? ⟨w.heap.size, 2, none⟩ = some (.int .i64 t) ∧ w'.cell? ⟨w.heap.size, 3, none⟩ = some (.int .i64 V)) ∧ w'.cell? ⟨g, 1, none⟩ = some (.func (.func 93) #[] #[]) ∧ w'.cell? ⟨g, 3, none⟩ = some (.int .i64 1)) (first | exact ⟨⟨x0, x1, x2, x3⟩, s1, s3⟩ | exact ⟨⟨cell_pure HB6.out x0, cell_pure HB6.out x1, cell_pure HB6.out x2, cell_pure HB6.out x3⟩, cell_pure HB6.out s1, cell_pure HB6.out s3⟩)
                (first | ((go_at_call 93; refine (length_is A _ c p q t V b U l _ (isl_drew HL.out) hc hn (by omega) hv8 (by rw [← HB0.out]; exact HNU.out)).mono ?_); rintro e w6 ⟨rfl, hb6⟩; have HB6 := Lib.hid hb6; clear hb6))
              have hb6 := HB6.out
              clear s0 s1 s3 hw9
              replace HS := Lib.hid (HS.out.drew.pure hb6)
              replace HB := Lib.hid (pure_below HB.out.drew hb6)
              replace HX := Lib.hid (HX.out.drew.pure hb6)
              replace HK := Lib.hid (HK.out.drew.pure hb6)
              replace HL := Lib.hid ((isl_drew HL.out).pure hb6)
              clear hb6 HB6 x0 x1 x2 x3
              have x0 := cell0 HX.out; have x1 := cell1 HX.out; have x2 := cell2 HX.out; have x3 := cell3 HX.out
              have s0 : _ = some _ := HS.out.cell 0; have s1 : _ = some _ := HS.out.cell 1; have s3 : _ = some _ := HS.out.cell 3
              by_cases hN : l.length < U
              · have hd : decide (l.length < U) = true := decide_eq_true hN
                have c0 : _ = some (Value.slice none 0 0) := HK.out.cell 0; have c1 : _ = some (Value.int .i64 0) := HK.out.cell 1; have c2 : _ = some (Value.int .i64 0) := HK.out.cell 2; have c3 : _ = some (Value.int .i64 0) := HK.out.cell 3; have c4 : _ = some (Value.int .i64 0) := HK.out.cell 4; have c5 : _ = some (Value.int .i64 0) := HK.out.cell 5; have c6 : _ = some (Value.int .i64 0) := HK.out.cell 6; have c7 : _ = some (Value.int .i64 0) := HK.out.cell 7; have c8 : _ = some (Value.int .i64 0) := HK.out.cell 8; have f0 := HK.out.frozen 0; have f1 := HK.out.frozen 1; have f2 := HK.out.frozen 2; have f3 := HK.out.frozen 3; have f4 := HK.out.frozen 4; have f5 := HK.out.frozen 5; have f6 := HK.out.frozen 6; have f7 := HK.out.frozen 7; have f8 := HK.out.frozen 8
                go_wp2
                refine bodyPost_ret (v := .tuple #[.agg #[.slice none 0 0, .int .i64 0, .int .i64 0, .int .i64 0, .int .i64 0, .int .i64 0, .int .i64 0, .int .i64 0, .int .i64 0], .int .i64 211]) (by simp [results, Tryz.results55, go_sem, c0, c1, c2, c3, c4, c5, c6, c7, c8]) rfl ?_
                exact lsw_no HE.out HN.out (below_set9 _ HB.out (Nat.le_succ _) _ _ _ _ _ _ _ _ _)
              · have hd : decide (l.length < U) = false := decide_eq_false hN
                have hNl : U ≤ 1099511627776 := by omega
                have hXB : U * (V + 1) ≤ 9895604649984 := Nat.le_trans (Nat.mul_le_mul (show U ≤ 1099511627776 by omega) (show V + 1 ≤ 9 by omega)) (by decide)
                obtain ⟨X, hX⟩ : ∃ X, U * (V + 1) = X := ⟨_, rfl⟩
                rw [hX] at h7 hXB
                have HIN := Lib.hid (show inB l.length b X = false from decide_eq_false (by omega))
                have HMUL := Lib.hid (mul_wrap1 U V X hX (by omega))
                clear h7 hX
                have hmul := HMUL.out
                go_wp2_with fail
                clear hmul
                go_at_call 35
                refine (inside_spec A _ c b X _ (by omega)).mono ?_
                rw [HIN.out]
                rintro e w7 ⟨rfl, rfl⟩
                have c0 : _ = some (Value.slice none 0 0) := HK.out.cell 0; have c1 : _ = some (Value.int .i64 0) := HK.out.cell 1; have c2 : _ = some (Value.int .i64 0) := HK.out.cell 2; have c3 : _ = some (Value.int .i64 0) := HK.out.cell 3; have c4 : _ = some (Value.int .i64 0) := HK.out.cell 4; have c5 : _ = some (Value.int .i64 0) := HK.out.cell 5; have c6 : _ = some (Value.int .i64 0) := HK.out.cell 6; have c7 : _ = some (Value.int .i64 0) := HK.out.cell 7; have c8 : _ = some (Value.int .i64 0) := HK.out.cell 8; have f0 := HK.out.frozen 0; have f1 := HK.out.frozen 1; have f2 := HK.out.frozen 2; have f3 := HK.out.frozen 3; have f4 := HK.out.frozen 4; have f5 := HK.out.frozen 5; have f6 := HK.out.frozen 6; have f7 := HK.out.frozen 7; have f8 := HK.out.frozen 8
                go_wp2
                refine bodyPost_ret (v := .tuple #[.agg #[.slice none 0 0, .int .i64 0, .int .i64 0, .int .i64 0, .int .i64 0, .int .i64 0, .int .i64 0, .int .i64 0, .int .i64 0], .int .i64 211]) (by simp [results, Tryz.results55, go_sem, c0, c1, c2, c3, c4, c5, c6, c7, c8]) rfl ?_
                exact lsw_no HE.out HN.out (below_set9 _ HB.out (Nat.le_succ _) _ _ _ _ _ _ _ _ _)
            · have hm2 : ((b : Int) % (V : Int) != 0) = false := by simpa using h5
              have HE := Lib.hid he
              clear h5 he
              go_wp2_with fail
              have hw9 := wrapv1 V (by omega)
              go_region_held3 (fun w' => (w'.cell? ⟨w.heap.size, 0, none⟩ = some (.int .i64 p) ∧ w'.cell? ⟨w.heap.size, 1, none⟩ = some (.int .i64 q) ∧ w'.cell? ⟨w.heap.size, 2, none⟩ = some (.int .i64 t) ∧ w'.cell? ⟨w.heap.size, 3, none⟩ = some (.int .i64 V)) ∧ w'.cell? ⟨g, 1, none⟩ = some (.func (.func 93) #[] #[]) ∧ w'.cell? ⟨g, 3, none⟩ = some (.int .i64 1)) (first | exact ⟨⟨x0, x1, x2, x3⟩, s1, s3⟩ | exact ⟨⟨cell_pure HB6.out x0, cell_pure HB6.out x1, cell_pure HB6.out x2, cell_pure HB6.out x3⟩, cell_pure HB6.out s1, cell_pure HB6.out s3⟩)
                (first | ((go_at_call 93; refine (length_is A _ c p q t V b U l _ (isl_drew HL.out) hc hn (by omega) hv8 (by rw [← HB0.out]; exact HNU.out)).mono ?_); rintro e w6 ⟨rfl, hb6⟩; have HB6 := Lib.hid hb6; clear hb6))
              have hb6 := HB6.out
              clear s0 s1 s3 hw9
              replace HS := Lib.hid (HS.out.drew.pure hb6)
              replace HB := Lib.hid (pure_below HB.out.drew hb6)
              replace HX := Lib.hid (HX.out.drew.pure hb6)
              replace HK := Lib.hid (HK.out.drew.pure hb6)
              replace HL := Lib.hid ((isl_drew HL.out).pure hb6)
              clear hb6 HB6 x0 x1 x2 x3
              have x0 := cell0 HX.out; have x1 := cell1 HX.out; have x2 := cell2 HX.out; have x3 := cell3 HX.out
              have s0 : _ = some _ := HS.out.cell 0; have s1 : _ = some _ := HS.out.cell 1; have s3 : _ = some _ := HS.out.cell 3
              have hN0 : U ≤ U * (V + 1) := Nat.le_mul_of_pos_right _ (by omega)
              have hN : ¬ l.length < U := by omega
              have hd : decide (l.length < U) = false := decide_eq_false hN
              have hNl : U ≤ 1099511627776 := by omega
              obtain ⟨X, hX⟩ : ∃ X, U * (V + 1) = X := ⟨_, rfl⟩
              rw [hX] at h7 hN0
              have HIN := Lib.hid (show inB l.length b X = true from inB_iff.2 ⟨by omega, by omega, by omega⟩)
              have HMUL := Lib.hid (mul_wrap1 U V X hX (by omega))
              have HXX := Lib.hid hX
              clear hX
              have hmul := HMUL.out
              go_wp2_with fail
              clear hmul
              go_at_call 35
              refine (inside_spec A _ c b X _ (by omega)).mono ?_
              rw [HIN.out]
              rintro e w7 ⟨rfl, rfl⟩
              have hmul := HMUL.out
              have c0 : _ = some (Value.slice none 0 0) := HK.out.cell 0; have c1 : _ = some (Value.int .i64 0) := HK.out.cell 1; have c2 : _ = some (Value.int .i64 0) := HK.out.cell 2; have c3 : _ = some (Value.int .i64 0) := HK.out.cell 3; have c4 : _ = some (Value.int .i64 0) := HK.out.cell 4; have c5 : _ = some (Value.int .i64 0) := HK.out.cell 5; have c6 : _ = some (Value.int .i64 0) := HK.out.cell 6; have c7 : _ = some (Value.int .i64 0) := HK.out.cell 7; have c8 : _ = some (Value.int .i64 0) := HK.out.cell 8; have f0 := HK.out.frozen 0; have f1 := HK.out.frozen 1; have f2 := HK.out.frozen 2; have f3 := HK.out.frozen 3; have f4 := HK.out.frozen 4; have f5 := HK.out.frozen 5; have f6 := HK.out.frozen 6; have f7 := HK.out.frozen 7; have f8 := HK.out.frozen 8
              go_wp2
              refine bodyPost_ret (v := .tuple #[.agg #[.slice A l.length c, .int .i64 p, .int .i64 q, .int .i64 t, .int .i64 V, .int .i64 ((b : Int) - V), .int .i64 b, .int .i64 ((b : Int) + X), .int .i64 U], .int .i64 0]) (by simp [results, Tryz.results55, go_sem, c0, c1, c2, c3, c4, c5, c6, c7, c8]) rfl ?_
              rw [show (b : Int) - V = ((b - 1 * V : Nat) : Int) by omega, ← Int.natCast_add]
              exact lsw_yes HE.out (by rw [HB0.out, Int.toNat_natCast]) (by rw [HA.out, Int.toNat_natCast]; try omega) HLN.out (by rw [HLX.out, HXX.out]) (below_set9 _ HB.out (Nat.le_succ _) _ _ _ _ _ _ _ _ _)
        · rw [hA, hT, hT2] at e
          rw [hA, hT] at hcs
          injection e with e1 e; injection e with e2 e; injection e with e3 e; injection e with e4 e
          subst e1 e2 e3 e4
          have HC2 := Lib.hid hcs
          have HLX := Lib.hid (show lsX t V = V + 1 by unfold lsX; rw [hT]; rfl)
          have HA := Lib.hid hA
          clear hcs hA hT hT2
          unfold fnV at HS
          have s0 : _ = some _ := HS.out.cell 0; have s1 : _ = some _ := HS.out.cell 1; have s3 : _ = some _ := HS.out.cell 3
          have hfn := fn_some 93
          go_wp2_with fail
          go_at_call 16
          refine (target_spec A _ c p q t V l _ HL.out hc (by omega)).mono ?_
          rintro e w3 ⟨rfl, hb⟩
          clear s0 s1 s3
          replace HS := Lib.hid (HS.out.pure hb)
          clear x0 x1 x2 x3; replace HB := Lib.hid (pure_below HB.out hb); replace HX := Lib.hid (HX.out.pure hb); replace HK := Lib.hid (HK.out.pure hb); replace HL := Lib.hid (HL.out.pure hb); clear hb; have x0 := cell0 HX.out; have x1 := cell1 HX.out; have x2 := cell2 HX.out; have x3 := cell3 HX.out
          rcases HC2.out with ⟨h1, he⟩ | ⟨h1, hcs⟩
          · have hne : (tgtE l p q t V != 0) = true := by simpa using h1
            have HE := Lib.hid he
            have HN := Lib.hid h1
            clear h1 he HC2
            have c0 : _ = some (Value.slice none 0 0) := HK.out.cell 0; have c1 : _ = some (Value.int .i64 0) := HK.out.cell 1; have c2 : _ = some (Value.int .i64 0) := HK.out.cell 2; have c3 : _ = some (Value.int .i64 0) := HK.out.cell 3; have c4 : _ = some (Value.int .i64 0) := HK.out.cell 4; have c5 : _ = some (Value.int .i64 0) := HK.out.cell 5; have c6 : _ = some (Value.int .i64 0) := HK.out.cell 6; have c7 : _ = some (Value.int .i64 0) := HK.out.cell 7; have c8 : _ = some (Value.int .i64 0) := HK.out.cell 8; have f0 := HK.out.frozen 0; have f1 := HK.out.frozen 1; have f2 := HK.out.frozen 2; have f3 := HK.out.frozen 3; have f4 := HK.out.frozen 4; have f5 := HK.out.frozen 5; have f6 := HK.out.frozen 6; have f7 := HK.out.frozen 7; have f8 := HK.out.frozen 8
            go_wp2
            refine bodyPost_ret (v := .tuple #[.agg #[.slice none 0 0, .int .i64 0, .int .i64 0, .int .i64 0, .int .i64 0, .int .i64 0, .int .i64 0, .int .i64 0, .int .i64 0], .int .i64 (tgtE l p q t V)]) (by simp [results, Tryz.results55, go_sem, c0, c1, c2, c3, c4, c5, c6, c7, c8]) rfl ?_
            exact lsw_no HE.out HN.out (below_set9 _ HB.out (Nat.le_succ _) _ _ _ _ _ _ _ _ _)
          · have htr := tgt_rl h1
            rw [h1]
            obtain ⟨b, hb0⟩ : ∃ b : Nat, tgt l p q t V = b := ⟨(tgt l p q t V).toNat, by omega⟩
            rw [hb0, Int.toNat_natCast] at hcs
            have hbl : b ≤ l.length := by omega
            have HB0 := Lib.hid hb0
            rw [hb0]
            clear h1 hb0 htr HC2
            have s0 : _ = some _ := HS.out.cell 0; have s1 : _ = some _ := HS.out.cell 1; have s3 : _ = some _ := HS.out.cell 3
            rcases hcs with ⟨h5, he⟩ | ⟨h5, h6, he⟩ | ⟨h5, h6, h7, he⟩ | ⟨h5, h6, h7, he⟩
            · have hm2 : ((b : Int) % (V : Int) != 0) = true := by simpa using h5
              have HE := Lib.hid he
              have HN := Lib.hid (show (212 : Int) ≠ 0 by decide)
              clear h5 he
              have c0 : _ = some (Value.slice none 0 0) := HK.out.cell 0; have c1 : _ = some (Value.int .i64 0) := HK.out.cell 1; have c2 : _ = some (Value.int .i64 0) := HK.out.cell 2; have c3 : _ = some (Value.int .i64 0) := HK.out.cell 3; have c4 : _ = some (Value.int .i64 0) := HK.out.cell 4; have c5 : _ = some (Value.int .i64 0) := HK.out.cell 5; have c6 : _ = some (Value.int .i64 0) := HK.out.cell 6; have c7 : _ = some (Value.int .i64 0) := HK.out.cell 7; have c8 : _ = some (Value.int .i64 0) := HK.out.cell 8; have f0 := HK.out.frozen 0; have f1 := HK.out.frozen 1; have f2 := HK.out.frozen 2; have f3 := HK.out.frozen 3; have f4 := HK.out.frozen 4; have f5 := HK.out.frozen 5; have f6 := HK.out.frozen 6; have f7 := HK.out.frozen 7; have f8 := HK.out.frozen 8
              go_wp2
              refine bodyPost_ret (v := .tuple #[.agg #[.slice none 0 0, .int .i64 0, .int .i64 0, .int .i64 0, .int .i64 0, .int .i64 0, .int .i64 0, .int .i64 0, .int .i64 0], .int .i64 212]) (by simp [results, Tryz.results55, go_sem, c0, c1, c2, c3, c4, c5, c6, c7, c8]) rfl ?_
              exact lsw_no HE.out HN.out (below_set9 _ HB.out (Nat.le_succ _) _ _ _ _ _ _ _ _ _)
            · have hm2 : ((b : Int) % (V : Int) != 0) = false := by simpa using h5
              have HE := Lib.hid he
              have HN := Lib.hid (show (211 : Int) ≠ 0 by decide)
              clear h5 he
              first
                | (exfalso; omega)
                | skip
              all_goals
                have c0 : _ = some (Value.slice none 0 0) := HK.out.cell 0; have c1 : _ = some (Value.int .i64 0) := HK.out.cell 1; have c2 : _ = some (Value.int .i64 0) := HK.out.cell 2; have c3 : _ = some (Value.int .i64 0) := HK.out.cell 3; have c4 : _ = some (Value.int .i64 0) := HK.out.cell 4; have c5 : _ = some (Value.int .i64 0) := HK.out.cell 5; have c6 : _ = some (Value.int .i64 0) := HK.out.cell 6; have c7 : _ = some (Value.int .i64 0) := HK.out.cell 7; have c8 : _ = some (Value.int .i64 0) := HK.out.cell 8; have f0 := HK.out.frozen 0; have f1 := HK.out.frozen 1; have f2 := HK.out.frozen 2; have f3 := HK.out.frozen 3; have f4 := HK.out.frozen 4; have f5 := HK.out.frozen 5; have f6 := HK.out.frozen 6; have f7 := HK.out.frozen 7; have f8 := HK.out.frozen 8
                go_wp2
                refine bodyPost_ret (v := .tuple #[.agg #[.slice none 0 0, .int .i64 0, .int .i64 0, .int .i64 0, .int .i64 0, .int .i64 0, .int .i64 0, .int .i64 0, .int .i64 0], .int .i64 211]) (by simp [results, Tryz.results55, go_sem, c0, c1, c2, c3, c4, c5, c6, c7, c8]) rfl ?_
                exact lsw_no HE.out HN.out (below_set9 _ HB.out (Nat.le_succ _) _ _ _ _ _ _ _ _ _)
            · have hm2 : ((b : Int) % (V : Int) != 0) = false := by simpa using h5
              have HE := Lib.hid he
              have HN := Lib.hid (show (211 : Int) ≠ 0 by decide)
              clear h5 he
              go_wp2_with fail
              have hw9 := wrapv1 V (by omega)
              go_region_held3 (fun w' => (w'.cell? ⟨w.heap.size, 0, none⟩ = some (.int .i64 p) ∧ w'.cell? ⟨w.heap.size, 1, none⟩ = some (.int .i64 q) ∧ w'.cell? ⟨w.heap.size, 2, none⟩ = some (.int .i64 t) ∧ w'.cell? ⟨w.heap.size, 3, none⟩ = some (.int .i64 V)) ∧ w'.cell? ⟨g, 1, none⟩ = some (.func (.func 93) #[] #[]) ∧ w'.cell? ⟨g, 3, none⟩ = some (.int .i64 1)) (first | exact ⟨⟨x0, x1, x2, x3⟩, s1, s3⟩ | exact ⟨⟨cell_pure HB6.out x0, cell_pure HB6.out x1, cell_pure HB6.out x2, cell_pure HB6.out x3⟩, cell_pure HB6.out s1, cell_pure HB6.out s3⟩)
                (first | ((go_at_call 93; refine (length_is A _ c p q t V b U l _ (isl_drew HL.out) hc hn (by omega) hv8 (by rw [← HB0.out]; exact HNU.out)).mono ?_); rintro e w6 ⟨rfl, hb6⟩; have HB6 := Lib.hid hb6; clear hb6))
              have hb6 := HB6.out
              clear s0 s1 s3 hw9
              replace HS := Lib.hid (HS.out.drew.pure hb6)
              replace HB := Lib.hid (pure_below HB.out.drew hb6)
              replace HX := Lib.hid (HX.out.drew.pure hb6)
              replace HK := Lib.hid (HK.out.drew.pure hb6)
              replace HL := Lib.hid ((isl_drew HL.out).pure hb6)
              clear hb6 HB6 x0 x1 x2 x3
              have x0 := cell0 HX.out; have x1 := cell1 HX.out; have x2 := cell2 HX.out; have x3 := cell3 HX.out
              have s0 : _ = some _ := HS.out.cell 0; have s1 : _ = some _ := HS.out.cell 1; have s3 : _ = some _ := HS.out.cell 3
              by_cases hN : l.length < U
              · have hd : decide (l.length < U) = true := decide_eq_true hN
                have c0 : _ = some (Value.slice none 0 0) := HK.out.cell 0; have c1 : _ = some (Value.int .i64 0) := HK.out.cell 1; have c2 : _ = some (Value.int .i64 0) := HK.out.cell 2; have c3 : _ = some (Value.int .i64 0) := HK.out.cell 3; have c4 : _ = some (Value.int .i64 0) := HK.out.cell 4; have c5 : _ = some (Value.int .i64 0) := HK.out.cell 5; have c6 : _ = some (Value.int .i64 0) := HK.out.cell 6; have c7 : _ = some (Value.int .i64 0) := HK.out.cell 7; have c8 : _ = some (Value.int .i64 0) := HK.out.cell 8; have f0 := HK.out.frozen 0; have f1 := HK.out.frozen 1; have f2 := HK.out.frozen 2; have f3 := HK.out.frozen 3; have f4 := HK.out.frozen 4; have f5 := HK.out.frozen 5; have f6 := HK.out.frozen 6; have f7 := HK.out.frozen 7; have f8 := HK.out.frozen 8
                go_wp2
                refine bodyPost_ret (v := .tuple #[.agg #[.slice none 0 0, .int .i64 0, .int .i64 0, .int .i64 0, .int .i64 0, .int .i64 0, .int .i64 0, .int .i64 0, .int .i64 0], .int .i64 211]) (by simp [results, Tryz.results55, go_sem, c0, c1, c2, c3, c4, c5, c6, c7, c8]) rfl ?_
                exact lsw_no HE.out HN.out (below_set9 _ HB.out (Nat.le_succ _) _ _ _ _ _ _ _ _ _)
              · have hd : decide (l.length < U) = false := decide_eq_false hN
                have hNl : U ≤ 1099511627776 := by omega
                have hXB : U * (V + 1) ≤ 9895604649984 := Nat.le_trans (Nat.mul_le_mul (show U ≤ 1099511627776 by omega) (show V + 1 ≤ 9 by omega)) (by decide)
                obtain ⟨X, hX⟩ : ∃ X, U * (V + 1) = X := ⟨_, rfl⟩
                rw [hX] at h7 hXB
                have HIN := Lib.hid (show inB l.length b X = false from decide_eq_false (by omega))
                have HMUL := Lib.hid (mul_wrap1 U V X hX (by omega))
                clear h7 hX
                have hmul := HMUL.out
                go_wp2_with fail
                clear hmul
                go_at_call 35
                refine (inside_spec A _ c b X _ (by omega)).mono ?_
                rw [HIN.out]
                rintro e w7 ⟨rfl, rfl⟩
                have c0 : _ = some (Value.slice none 0 0) := HK.out.cell 0; have c1 : _ = some (Value.int .i64 0) := HK.out.cell 1; have c2 : _ = some (Value.int .i64 0) := HK.out.cell 2; have c3 : _ = some (Value.int .i64 0) := HK.out.cell 3; have c4 : _ = some (Value.int .i64 0) := HK.out.cell 4; have c5 : _ = some (Value.int .i64 0) := HK.out.cell 5; have c6 : _ = some (Value.int .i64 0) := HK.out.cell 6; have c7 : _ = some (Value.int .i64 0) := HK.out.cell 7; have c8 : _ = some (Value.int .i64 0) := HK.out.cell 8; have f0 := HK.out.frozen 0; have f1 := HK.out.frozen 1; have f2 := HK.out.frozen 2; have f3 := HK.out.frozen 3; have f4 := HK.out.frozen 4; have f5 := HK.out.frozen 5; have f6 := HK.out.frozen 6; have f7 := HK.out.frozen 7; have f8 := HK.out.frozen 8
                go_wp2
                refine bodyPost_ret (v := .tuple #[.agg #[.slice none 0 0, .int .i64 0, .int .i64 0, .int .i64 0, .int .i64 0, .int .i64 0, .int .i64 0, .int .i64 0, .int .i64 0], .int .i64 211]) (by simp [results, Tryz.results55, go_sem, c0, c1, c2, c3, c4, c5, c6, c7, c8]) rfl ?_
                exact lsw_no HE.out HN.out (below_set9 _ HB.out (Nat.le_succ _) _ _ _ _ _ _ _ _ _)
            · have hm2 : ((b : Int) % (V : Int) != 0) = false := by simpa using h5
              have HE := Lib.hid he
              clear h5 he
              go_wp2_with fail
              have hw9 := wrapv1 V (by omega)
              go_region_held3 (fun w' => (w'.cell? ⟨w.heap.size, 0, none⟩ = some (.int .i64 p) ∧ w'.cell? ⟨w.heap.size, 1, none⟩ = some (.int .i64 q) ∧ w'.cell? ⟨w.heap.size, 2, none⟩ = some (.int .i64 t) ∧ w'.cell? ⟨w.heap.size, 3, none⟩ = some (.int .i64 V)) ∧ w'.cell? ⟨g, 1, none⟩ = some (.func (.func 93) #[] #[]) ∧ w'.cell? ⟨g, 3, none⟩ = some (.int .i64 1)) (first | exact ⟨⟨x0, x1, x2, x3⟩, s1, s3⟩ | exact ⟨⟨cell_pure HB6.out x0, cell_pure HB6.out x1, cell_pure HB6.out x2, cell_pure HB6.out x3⟩, cell_pure HB6.out s1, cell_pure HB6.out s3⟩)
                (first | ((go_at_call 93; refine (length_is A _ c p q t V b U l _ (isl_drew HL.out) hc hn (by omega) hv8 (by rw [← HB0.out]; exact HNU.out)).mono ?_); rintro e w6 ⟨rfl, hb6⟩; have HB6 := Lib.hid hb6; clear hb6))
              have hb6 := HB6.out
              clear s0 s1 s3 hw9
              replace HS := Lib.hid (HS.out.drew.pure hb6)
              replace HB := Lib.hid (pure_below HB.out.drew hb6)
              replace HX := Lib.hid (HX.out.drew.pure hb6)
              replace HK := Lib.hid (HK.out.drew.pure hb6)
              replace HL := Lib.hid ((isl_drew HL.out).pure hb6)
              clear hb6 HB6 x0 x1 x2 x3
              have x0 := cell0 HX.out; have x1 := cell1 HX.out; have x2 := cell2 HX.out; have x3 := cell3 HX.out
              have s0 : _ = some _ := HS.out.cell 0; have s1 : _ = some _ := HS.out.cell 1; have s3 : _ = some _ := HS.out.cell 3
              have hN0 : U ≤ U * (V + 1) := Nat.le_mul_of_pos_right _ (by omega)
              have hN : ¬ l.length < U := by omega
              have hd : decide (l.length < U) = false := decide_eq_false hN
              have hNl : U ≤ 1099511627776 := by omega
              obtain ⟨X, hX⟩ : ∃ X, U * (V + 1) = X := ⟨_, rfl⟩
              rw [hX] at h7 hN0
              have HIN := Lib.hid (show inB l.length b X = true from inB_iff.2 ⟨by omega, by omega, by omega⟩)
              have HMUL := Lib.hid (mul_wrap1 U V X hX (by omega))
              have HXX := Lib.hid hX
              clear hX
              have hmul := HMUL.out
              go_wp2_with fail
              clear hmul
              go_at_call 35
              refine (inside_spec A _ c b X _ (by omega)).mono ?_
              rw [HIN.out]
              rintro e w7 ⟨rfl, rfl⟩
              have hmul := HMUL.out
              have c0 : _ = some (Value.slice none 0 0) := HK.out.cell 0; have c1 : _ = some (Value.int .i64 0) := HK.out.cell 1; have c2 : _ = some (Value.int .i64 0) := HK.out.cell 2; have c3 : _ = some (Value.int .i64 0) := HK.out.cell 3; have c4 : _ = some (Value.int .i64 0) := HK.out.cell 4; have c5 : _ = some (Value.int .i64 0) := HK.out.cell 5; have c6 : _ = some (Value.int .i64 0) := HK.out.cell 6; have c7 : _ = some (Value.int .i64 0) := HK.out.cell 7; have c8 : _ = some (Value.int .i64 0) := HK.out.cell 8; have f0 := HK.out.frozen 0; have f1 := HK.out.frozen 1; have f2 := HK.out.frozen 2; have f3 := HK.out.frozen 3; have f4 := HK.out.frozen 4; have f5 := HK.out.frozen 5; have f6 := HK.out.frozen 6; have f7 := HK.out.frozen 7; have f8 := HK.out.frozen 8
              go_wp2
              refine bodyPost_ret (v := .tuple #[.agg #[.slice A l.length c, .int .i64 p, .int .i64 q, .int .i64 t, .int .i64 V, .int .i64 ((b : Int) - 3 * V), .int .i64 b, .int .i64 ((b : Int) + X), .int .i64 U], .int .i64 0]) (by simp [results, Tryz.results55, go_sem, c0, c1, c2, c3, c4, c5, c6, c7, c8]) rfl ?_
              rw [show (b : Int) - 3 * V = ((b - 3 * V : Nat) : Int) by omega, ← Int.natCast_add]
              exact lsw_yes HE.out (by rw [HB0.out, Int.toNat_natCast]) (by rw [HA.out, Int.toNat_natCast]; try omega) HLN.out (by rw [HLX.out, HXX.out]) (below_set9 _ HB.out (Nat.le_succ _) _ _ _ _ _ _ _ _ _)
end Go.Proofs.YtfoifdoaleaekaaGreat
