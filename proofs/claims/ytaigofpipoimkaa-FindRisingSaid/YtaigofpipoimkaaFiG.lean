/-
  Package find: Find.
-/
import Derived.Test.YtaigofpipoimkaaFiE
namespace Go.Proofs.Ytaigofpipoimkaa
open Go.RowKit Go.Acc
def opN (l : List UInt8) (p q t v : Int) : Nat := lsLen l (kyP l p q t v) (kyQ l p q t v) (kyT l p q t v) (kyV l p q t v)
/-- The search: its error, its index. -/
def fdX (l k : List UInt8) (p q t v : Int) : Int × Nat := bsr (fiF l k (kyP l p q t v) (kyQ l p q t v) (kyT l p q t v) (kyV l p q t v)) (opN l p q t v) 0 (opN l p q t v)
/-- The key is there. -/
def fdGo (l k : List UInt8) (p q t v : Int) : Bool :=
  decide (opE l p q t v = 0 ∧ (fdX l k p q t v).1 = 0 ∧ (fdX l k p q t v).2 ≠ opN l p q t v ∧ rkE l (kyP l p q t v) (kyQ l p q t v) (kyT l p q t v) (kyV l p q t v) (fdX l k p q t v).2 = 0 ∧ rkS l (kyP l p q t v) (kyQ l p q t v) (kyT l p q t v) (kyV l p q t v) (fdX l k p q t v).2 = k)
def fdE (l k : List UInt8) (p q t v : Int) : Int :=
  if fdGo l k p q t v = true then atE l p q t v (fdX l k p q t v).2 else if opE l p q t v ≠ 0 then opE l p q t v else if (fdX l k p q t v).1 ≠ 0 then (fdX l k p q t v).1 else if (fdX l k p q t v).2 = opN l p q t v then 0 else rkE l (kyP l p q t v) (kyQ l p q t v) (kyT l p q t v) (kyV l p q t v) (fdX l k p q t v).2
def fdB (l k : List UInt8) (p q t v : Int) : Bool := fdGo l k p q t v && (atE l p q t v (fdX l k p q t v).2 == 0)
def fdP (l k : List UInt8) (p q t v : Int) : Int := if fdGo l k p q t v = true then atP l p q t v (fdX l k p q t v).2 else 0
def fdQ (l k : List UInt8) (p q t v : Int) : Int := if fdGo l k p q t v = true then atQ l p q t v (fdX l k p q t v).2 else 0
def fdT (l k : List UInt8) (p q t v : Int) : Int := if fdGo l k p q t v = true then atT l p q t v (fdX l k p q t v).2 else 0
def fdV (l k : List UInt8) (p q t v : Int) : Int := if fdGo l k p q t v = true then atV l p q t v (fdX l k p q t v).2 else 0
theorem fd_cases (l k : List UInt8) (p q t v : Int) : (opE l p q t v ≠ 0 ∧ fdGo l k p q t v = false ∧ fdE l k p q t v = opE l p q t v) ∨ (opE l p q t v = 0 ∧ (((fdX l k p q t v).1 ≠ 0 ∧ fdGo l k p q t v = false ∧ fdE l k p q t v = (fdX l k p q t v).1) ∨ ((fdX l k p q t v).1 = 0 ∧
    (((fdX l k p q t v).2 = opN l p q t v ∧ fdGo l k p q t v = false ∧ fdE l k p q t v = 0) ∨ ((fdX l k p q t v).2 ≠ opN l p q t v ∧ ((rkE l (kyP l p q t v) (kyQ l p q t v) (kyT l p q t v) (kyV l p q t v) (fdX l k p q t v).2 ≠ 0 ∧ fdGo l k p q t v = false ∧ fdE l k p q t v = rkE l (kyP l p q t v) (kyQ l p q t v) (kyT l p q t v) (kyV l p q t v) (fdX l k p q t v).2) ∨
      (rkE l (kyP l p q t v) (kyQ l p q t v) (kyT l p q t v) (kyV l p q t v) (fdX l k p q t v).2 = 0 ∧ ((rkS l (kyP l p q t v) (kyQ l p q t v) (kyT l p q t v) (kyV l p q t v) (fdX l k p q t v).2 ≠ k ∧ fdGo l k p q t v = false ∧ fdE l k p q t v = 0) ∨ (rkS l (kyP l p q t v) (kyQ l p q t v) (kyT l p q t v) (kyV l p q t v) (fdX l k p q t v).2 = k ∧ fdGo l k p q t v = true ∧ fdE l k p q t v = atE l p q t v (fdX l k p q t v).2))))))))) := by
  unfold fdE
  by_cases h1 : opE l p q t v = 0
  · refine .inr ⟨h1, ?_⟩
    by_cases h2 : (fdX l k p q t v).1 = 0
    · refine .inr ⟨h2, ?_⟩
      by_cases h3 : (fdX l k p q t v).2 = opN l p q t v
      · have hg : fdGo l k p q t v = false := decide_eq_false (fun h => h.2.2.1 h3)
        refine .inl ⟨h3, hg, ?_⟩
        rw [if_neg (by rw [hg]; decide), if_neg (by rw [h1]; decide), if_neg (by rw [h2]; decide), if_pos h3]
      · refine .inr ⟨h3, ?_⟩
        by_cases h4 : rkE l (kyP l p q t v) (kyQ l p q t v) (kyT l p q t v) (kyV l p q t v) (fdX l k p q t v).2 = 0
        · refine .inr ⟨h4, ?_⟩
          by_cases h5 : rkS l (kyP l p q t v) (kyQ l p q t v) (kyT l p q t v) (kyV l p q t v) (fdX l k p q t v).2 = k
          · have hg : fdGo l k p q t v = true := decide_eq_true ⟨h1, h2, h3, h4, h5⟩
            exact .inr ⟨h5, hg, by rw [if_pos hg]⟩
          · have hg : fdGo l k p q t v = false := decide_eq_false (fun h => h5 h.2.2.2.2)
            refine .inl ⟨h5, hg, ?_⟩
            rw [if_neg (by rw [hg]; decide), if_neg (by rw [h1]; decide), if_neg (by rw [h2]; decide), if_neg h3, h4]
        · have hg : fdGo l k p q t v = false := decide_eq_false (fun h => h4 h.2.2.2.1)
          refine .inl ⟨h4, hg, ?_⟩
          rw [if_neg (by rw [hg]; decide), if_neg (by rw [h1]; decide), if_neg (by rw [h2]; decide), if_neg h3]
    · have hg : fdGo l k p q t v = false := decide_eq_false (fun h => h2 h.2.1)
      refine .inl ⟨h2, hg, ?_⟩
      rw [if_neg (by rw [hg]; decide), if_neg (by rw [h1]; decide), if_pos h2]
  · have hg : fdGo l k p q t v = false := decide_eq_false (fun h => h1 h.1)
    refine .inl ⟨h1, hg, ?_⟩
    rw [if_neg (by rw [hg]; decide), if_pos h1]
theorem halves_is (A : Option Addr) (n c g1 g2 N : Nat) (p q t v : Int) (l k : List UInt8) (be : Int) (bi : Nat) (w : World) (h : IsB w A n l) (hc : n ≤ c) (hn : n ≤ 1099511627776) (hN : N ≤ 1099511627776) (h1 : Blk w g1 114 #[(.slice A n c), .int .i64 p, .int .i64 q, .int .i64 t, .int .i64 v, .int .i64 N]) (h2 : Blk w g2 9 #[.string ⟨k.toArray⟩]) (hB : bsr (fiF l k p q t v) N 0 N = (be, bi)) :
    Calls Try.prog 103 #[.int .i64 N, .func (.func 104) #[] #[.pointer (some ⟨g1, 0, none⟩), .pointer (some ⟨g2, 0, none⟩)]] w fun e w' => e = .returned (.tuple #[.int .i64 (bi : Int), .int .i64 be]) ∧ Below w.heap.size w w' := by
  have := halves_spec A n c g1 g2 N p q t v l k w h hc hn hN h1 h2
  rw [hB] at this
  exact this
def FdW (w : World) (l k : List UInt8) (p q t v : Int) (e : Ending) (w' : World) : Prop :=
  e = .returned (.tuple #[.agg #[.int .i64 (fdP l k p q t v), .int .i64 (fdQ l k p q t v), .int .i64 (fdT l k p q t v), .int .i64 (fdV l k p q t v)], .bool (fdB l k p q t v), .int .i64 (fdE l k p q t v)]) ∧ Below w.heap.size w w'
theorem fdw_no {w w' : World} {l k : List UInt8} {p q t v er : Int} (hg : fdGo l k p q t v = false) (h : fdE l k p q t v = er) (hb : Below w.heap.size w w') :
    FdW w l k p q t v (.returned (.tuple #[.agg #[.int .i64 0, .int .i64 0, .int .i64 0, .int .i64 0], .bool false, .int .i64 er])) w' := by
  unfold FdW fdB fdP fdQ fdT fdV
  rw [h, hg]
  exact ⟨rfl, hb⟩
theorem fdw_yes {w w' : World} {l k : List UInt8} {p q t v a b d g er : Int} {i : Nat} (hg : fdGo l k p q t v = true) (h : fdE l k p q t v = atE l p q t v (fdX l k p q t v).2) (hi : (fdX l k p q t v).2 = i)
    (h1 : atP l p q t v i = a) (h2 : atQ l p q t v i = b) (h3 : atT l p q t v i = d) (h4 : atV l p q t v i = g) (h5 : atE l p q t v i = er) (hb : Below w.heap.size w w') :
    FdW w l k p q t v (.returned (.tuple #[.agg #[.int .i64 a, .int .i64 b, .int .i64 d, .int .i64 g], .bool (er == 0), .int .i64 er])) w' := by
  unfold FdW fdB fdP fdQ fdT fdV
  rw [h, hg, hi, h1, h2, h3, h4, h5]
  exact ⟨rfl, hb⟩
set_option maxRecDepth 100000 in
set_option maxHeartbeats 2000000 in
theorem ffind_spec (A : Option Addr) (n c : Nat) (p q t v : Int) (l k : List UInt8) (w : World) (h : IsB w A n l) (hc : n ≤ c) (hn : n ≤ 1099511627776) :
    Calls Try.prog 53 #[.slice A n c, .agg #[.int .i64 p, .int .i64 q, .int .i64 t, .int .i64 v], .string ⟨k.toArray⟩] w (FdW w l k p q t v) := by
  have HL := Lib.hid (((h.alloc (.cells #[.int .i64 p, .int .i64 q, .int .i64 t, .int .i64 v] 23)).alloc (.cells #[.string ⟨k.toArray⟩] 9)).alloc (.cells #[.int .i64 0, .int .i64 0, .int .i64 0, .int .i64 0] 23))
  have HB := Lib.hid ((((Below.refl w.heap.size w).alloc (Nat.le_refl _) (.cells #[.int .i64 p, .int .i64 q, .int .i64 t, .int .i64 v] 23)).alloc (by simp) (.cells #[.string ⟨k.toArray⟩] 9)).alloc (by simp; omega) (.cells #[.int .i64 0, .int .i64 0, .int .i64 0, .int .i64 0] 23))
  have HX := Lib.hid (((Blk.new w 23 #[.int .i64 p, .int .i64 q, .int .i64 t, .int .i64 v]).alloc (.cells #[.string ⟨k.toArray⟩] 9)).alloc (.cells #[.int .i64 0, .int .i64 0, .int .i64 0, .int .i64 0] 23))
  have HS := Lib.hid ((Blk.new_ (w := w.alloc (.cells #[.int .i64 p, .int .i64 q, .int .i64 t, .int .i64 v] 23)) (g := w.heap.size + 1) (by simp) 9 #[.string ⟨k.toArray⟩]).alloc (.cells #[.int .i64 0, .int .i64 0, .int .i64 0, .int .i64 0] 23))
  have HR := Lib.hid (Blk.new_ (w := (w.alloc (.cells #[.int .i64 p, .int .i64 q, .int .i64 t, .int .i64 v] 23)).alloc (.cells #[.string ⟨k.toArray⟩] 9)) (g := w.heap.size + 1 + 1) (by simp) 23 #[.int .i64 0, .int .i64 0, .int .i64 0, .int .i64 0])
  have hcs := fd_cases l k p q t v
  have hNl : opN l p q t v ≤ n := by rw [← h.1]; exact lslen_le _ _ _ _ _
  obtain ⟨er, her⟩ : ∃ x, opE l p q t v = x := ⟨_, rfl⟩
  rw [her] at hcs
  have H5 := Lib.hid her
  have HCS := Lib.hid hcs
  clear h her hcs
  go_enter Try.func53, Try.ntmps53
  go_wp2_with fail
  go_at_call 98
  refine (fopen_spec A n c p q t v l _ HL.out hc hn).mono ?_
  generalize ((w.alloc (.cells #[.int .i64 p, .int .i64 q, .int .i64 t, .int .i64 v] 23)).alloc (.cells #[.string ⟨k.toArray⟩] 9)).alloc (.cells #[.int .i64 0, .int .i64 0, .int .i64 0, .int .i64 0] 23) = wB at HL HB HX HR HS ⊢
  intro e w1 hpost
  obtain ⟨S, a0, a1, a2, a3, a4, rfl, hS, heq, hb⟩ := opw_open hpost
  rw [H5.out] at heq ⊢
  replace HB := Lib.hid (pure_below HB.out hb); replace HX := Lib.hid (HX.out.pure hb); replace HS := Lib.hid (HS.out.pure hb); replace HR := Lib.hid (HR.out.pure hb); replace HL := Lib.hid (HL.out.pure hb)
  clear hb hpost
  rcases HCS.out with ⟨hm, hg, he⟩ | ⟨rfl, hcs⟩
  · have HE := Lib.hid he
    have HG := Lib.hid hg
    have hne : (er != 0) = true := by simpa using hm
    have hstS := fun (W : World) (p : Addr) => run_store Try.prog W p S .plain hS
    replace HB := Lib.hid (HB.out.alloc HB.out.size (.cells #[S, .int .i64 a0, .int .i64 a1, .int .i64 a2, .int .i64 a3, .int .i64 a4] 114))
    replace HR := Lib.hid (HR.out.alloc (.cells #[S, .int .i64 a0, .int .i64 a1, .int .i64 a2, .int .i64 a3, .int .i64 a4] 114))
    clear he hg hm HCS heq hS
    have r0 := cell0 HR.out; have r1 := cell1 HR.out; have r2 := cell2 HR.out; have r3 := cell3 HR.out; have f0 := HR.out.frozen 0; have f1 := HR.out.frozen 1; have f2 := HR.out.frozen 2; have f3 := HR.out.frozen 3
    go_wp2
    refine bodyPost_ret (v := .tuple #[.agg #[.int .i64 0, .int .i64 0, .int .i64 0, .int .i64 0], .bool false, .int .i64 er]) (by simp [results, Try.results53, go_sem, r0, r1, r2, r3]) rfl ?_
    exact fdw_no HG.out HE.out (below_set4 _ HB.out (by omega) _ _ _ _)
  · obtain ⟨rfl, h0, h1, h2, h3, h4⟩ := heq rfl
    obtain ⟨N, hN⟩ : ∃ N, opN l p q t v = N := ⟨_, rfl⟩
    replace h4 : a4 = (N : Int) := by rw [h4, ← hN]; rfl
    subst h4
    have hX : fdX l k p q t v = bsr (fiF l k a0 a1 a2 a3) N 0 N := by unfold fdX; rw [hN, h0, h1, h2, h3]
    obtain ⟨B, hBX⟩ : ∃ B, bsr (fiF l k a0 a1 a2 a3) N 0 N = B := ⟨_, rfl⟩
    obtain ⟨be, bi⟩ := B
    rw [hX, hBX, ← h0, ← h1, ← h2, ← h3, hN] at hcs
    simp only at hcs
    rw [hN] at hNl
    have HBX := Lib.hid hBX
    have HFX := Lib.hid (hX.trans hBX)
    have HC1 := Lib.hid hcs
    have HK := Lib.hid (Blk.new w1 114 #[(.slice A n c), .int .i64 a0, .int .i64 a1, .int .i64 a2, .int .i64 a3, .int .i64 N])
    have hwb : w.heap.size + 1 + 1 < w1.heap.size := HR.out.lt
    clear hcs hX hBX hN heq h0 h1 h2 h3 hS HCS
    replace HB := Lib.hid (HB.out.alloc HB.out.size (.cells #[(.slice A n c), .int .i64 a0, .int .i64 a1, .int .i64 a2, .int .i64 a3, .int .i64 N] 114))
    replace HX := Lib.hid (HX.out.alloc (.cells #[(.slice A n c), .int .i64 a0, .int .i64 a1, .int .i64 a2, .int .i64 a3, .int .i64 N] 114))
    replace HS := Lib.hid (HS.out.alloc (.cells #[(.slice A n c), .int .i64 a0, .int .i64 a1, .int .i64 a2, .int .i64 a3, .int .i64 N] 114))
    replace HR := Lib.hid (HR.out.alloc (.cells #[(.slice A n c), .int .i64 a0, .int .i64 a1, .int .i64 a2, .int .i64 a3, .int .i64 N] 114))
    replace HL := Lib.hid (HL.out.alloc (.cells #[(.slice A n c), .int .i64 a0, .int .i64 a1, .int .i64 a2, .int .i64 a3, .int .i64 N] 114))
    have k0 : _ = some (Value.slice A n c) := HK.out.cell 0; have k1 : _ = some (Value.int .i64 a0) := HK.out.cell 1; have k2 : _ = some (Value.int .i64 a1) := HK.out.cell 2; have k3 : _ = some (Value.int .i64 a2) := HK.out.cell 3; have k4 : _ = some (Value.int .i64 a3) := HK.out.cell 4; have k5 : _ = some (Value.int .i64 N) := HK.out.cell 5
    go_wp2_with fail
    go_at_call 103
    refine (halves_is A n c w1.heap.size (w.heap.size + 1) N a0 a1 a2 a3 l k be bi _ HL.out hc hn (by omega) HK.out HS.out HBX.out).mono ?_
    rintro e w2 ⟨rfl, hb⟩
    clear k0 k1 k2 k3 k4 k5
    replace HB := Lib.hid (pure_below HB.out hb); replace HX := Lib.hid (HX.out.pure hb); replace HS := Lib.hid (HS.out.pure hb); replace HR := Lib.hid (HR.out.pure hb); replace HL := Lib.hid (HL.out.pure hb)
    replace HK := Lib.hid (HK.out.pure hb)
    clear hb
    rcases HC1.out with ⟨hm, hg, he⟩ | ⟨rfl, hcs⟩
    · have HE := Lib.hid he
      have HG := Lib.hid hg
      have hne : (be != 0) = true := by simpa using hm
      clear he hg hm HC1
      have r0 := cell0 HR.out; have r1 := cell1 HR.out; have r2 := cell2 HR.out; have r3 := cell3 HR.out; have f0 := HR.out.frozen 0; have f1 := HR.out.frozen 1; have f2 := HR.out.frozen 2; have f3 := HR.out.frozen 3
      go_wp2
      refine bodyPost_ret (v := .tuple #[.agg #[.int .i64 0, .int .i64 0, .int .i64 0, .int .i64 0], .bool false, .int .i64 be]) (by simp [results, Try.results53, go_sem, r0, r1, r2, r3]) rfl ?_
      exact fdw_no HG.out HE.out (below_set4 _ HB.out (by omega) _ _ _ _)
    · rcases hcs with ⟨hbn, hg, he⟩ | ⟨hbi, hcs⟩
      · obtain rfl : N = bi := hbn.symm
        have HE := Lib.hid he
        have HG := Lib.hid hg
        clear he hg HC1
        have k0 : _ = some (Value.slice A n c) := HK.out.cell 0; have k1 : _ = some (Value.int .i64 a0) := HK.out.cell 1; have k2 : _ = some (Value.int .i64 a1) := HK.out.cell 2; have k3 : _ = some (Value.int .i64 a2) := HK.out.cell 3; have k4 : _ = some (Value.int .i64 a3) := HK.out.cell 4; have k5 : _ = some (Value.int .i64 N) := HK.out.cell 5
        have r0 := cell0 HR.out; have r1 := cell1 HR.out; have r2 := cell2 HR.out; have r3 := cell3 HR.out; have f0 := HR.out.frozen 0; have f1 := HR.out.frozen 1; have f2 := HR.out.frozen 2; have f3 := HR.out.frozen 3
        go_wp2
        refine bodyPost_ret (v := .tuple #[.agg #[.int .i64 0, .int .i64 0, .int .i64 0, .int .i64 0], .bool false, .int .i64 0]) (by simp [results, Try.results53, go_sem, r0, r1, r2, r3]) rfl ?_
        exact fdw_no HG.out HE.out (below_set4 _ HB.out (by omega) _ _ _ _)
      · have hbn : ((bi : Int) == (N : Int)) = false := beq_eq_false_iff_ne.mpr (by omega)
        obtain ⟨s, hs⟩ : ∃ x, rkS l a0 a1 a2 a3 bi = x := ⟨_, rfl⟩
        obtain ⟨ee, hee⟩ : ∃ x, rkE l a0 a1 a2 a3 bi = x := ⟨_, rfl⟩
        rw [hs, hee] at hcs
        have HSS := Lib.hid hs
        have HEE := Lib.hid hee
        have HC2 := Lib.hid hcs
        clear hcs hs hee hbi HC1
        have k0 : _ = some (Value.slice A n c) := HK.out.cell 0; have k1 : _ = some (Value.int .i64 a0) := HK.out.cell 1; have k2 : _ = some (Value.int .i64 a1) := HK.out.cell 2; have k3 : _ = some (Value.int .i64 a2) := HK.out.cell 3; have k4 : _ = some (Value.int .i64 a3) := HK.out.cell 4; have k5 : _ = some (Value.int .i64 N) := HK.out.cell 5
        go_wp2_with fail
        go_at_call 99
        refine (ftat_spec A n c a0 a1 a2 a3 N bi l _ HL.out hc hn).mono ?_
        unfold SkW
        rw [HSS.out, HEE.out]
        rintro e w3 ⟨rfl, hb⟩
        clear k0 k1 k2 k3 k4 k5
        replace HB := Lib.hid (pure_below HB.out hb); replace HX := Lib.hid (HX.out.pure hb); replace HS := Lib.hid (HS.out.pure hb); replace HR := Lib.hid (HR.out.pure hb); replace HL := Lib.hid (HL.out.pure hb)
        replace HK := Lib.hid (HK.out.pure hb)
        clear hb
        rcases HC2.out with ⟨hm, hg, he⟩ | ⟨rfl, hcs⟩
        · have HE := Lib.hid he
          have HG := Lib.hid hg
          have hne : (ee != 0) = true := by simpa using hm
          clear he hg hm HC2
          have r0 := cell0 HR.out; have r1 := cell1 HR.out; have r2 := cell2 HR.out; have r3 := cell3 HR.out; have f0 := HR.out.frozen 0; have f1 := HR.out.frozen 1; have f2 := HR.out.frozen 2; have f3 := HR.out.frozen 3
          go_wp2
          refine bodyPost_ret (v := .tuple #[.agg #[.int .i64 0, .int .i64 0, .int .i64 0, .int .i64 0], .bool false, .int .i64 ee]) (by simp [results, Try.results53, go_sem, r0, r1, r2, r3]) rfl ?_
          exact fdw_no HG.out HE.out (below_set4 _ HB.out (by omega) _ _ _ _)
        · rcases hcs with ⟨hsk, hg, he⟩ | ⟨hsk, hg, he⟩
          · have HE := Lib.hid he
            have HG := Lib.hid hg
            have hst : (s == k) = false := by simpa using hsk
            clear he hg hsk HC2
            have x0 := cell0 HX.out; have x1 := cell1 HX.out; have x2 := cell2 HX.out; have x3 := cell3 HX.out; have s0 : _ = some (Value.string ⟨k.toArray⟩) := HS.out.cell 0
            have r0 := cell0 HR.out; have r1 := cell1 HR.out; have r2 := cell2 HR.out; have r3 := cell3 HR.out; have f0 := HR.out.frozen 0; have f1 := HR.out.frozen 1; have f2 := HR.out.frozen 2; have f3 := HR.out.frozen 3
            go_wp2
            refine bodyPost_ret (v := .tuple #[.agg #[.int .i64 0, .int .i64 0, .int .i64 0, .int .i64 0], .bool false, .int .i64 0]) (by simp [results, Try.results53, go_sem, r0, r1, r2, r3]) rfl ?_
            exact fdw_no HG.out HE.out (below_set4 _ HB.out (by omega) _ _ _ _)
          · obtain rfl : k = s := hsk.symm
            have HE := Lib.hid he
            have HG := Lib.hid hg
            clear he hg HC2
            obtain ⟨a, ha⟩ : ∃ x, atP l p q t v bi = x := ⟨_, rfl⟩
            obtain ⟨b, hb⟩ : ∃ x, atQ l p q t v bi = x := ⟨_, rfl⟩
            obtain ⟨d, hd⟩ : ∃ x, atT l p q t v bi = x := ⟨_, rfl⟩
            obtain ⟨g, hg⟩ : ∃ x, atV l p q t v bi = x := ⟨_, rfl⟩
            obtain ⟨er, her⟩ : ∃ x, atE l p q t v bi = x := ⟨_, rfl⟩
            have J1 := Lib.hid ha
            have J2 := Lib.hid hb
            have J3 := Lib.hid hd
            have J4 := Lib.hid hg
            have J5 := Lib.hid her
            clear ha hb hd hg her
            have x0 := cell0 HX.out; have x1 := cell1 HX.out; have x2 := cell2 HX.out; have x3 := cell3 HX.out; have s0 : _ = some (Value.string ⟨k.toArray⟩) := HS.out.cell 0
            go_wp2_with fail
            go_at_call 37
            refine (lat_is A n c p q t v bi a b d g er l _ HL.out hc hn J1.out J2.out J3.out J4.out J5.out).mono ?_
            rintro e w4 ⟨rfl, hb⟩
            clear x0 x1 x2 x3 s0
            replace HB := Lib.hid (pure_below HB.out hb); replace HX := Lib.hid (HX.out.pure hb); replace HS := Lib.hid (HS.out.pure hb); replace HR := Lib.hid (HR.out.pure hb); replace HL := Lib.hid (HL.out.pure hb)
            clear hb
            have r0 := cell0 HR.out; have r1 := cell1 HR.out; have r2 := cell2 HR.out; have r3 := cell3 HR.out; have f0 := HR.out.frozen 0; have f1 := HR.out.frozen 1; have f2 := HR.out.frozen 2; have f3 := HR.out.frozen 3
            go_upto_region 11 with fail
            have HR2 : Hid (Blk ((((w4.setCell ⟨w.heap.size + 1 + 1, 0, none⟩ (.int .i64 a)).setCell ⟨w.heap.size + 1 + 1, 1, none⟩ (.int .i64 b)).setCell ⟨w.heap.size + 1 + 1, 2, none⟩ (.int .i64 d)).setCell ⟨w.heap.size + 1 + 1, 3, none⟩ (.int .i64 g)) (w.heap.size + 1 + 1) 23 #[.int .i64 a, .int .i64 b, .int .i64 d, .int .i64 g]) := Lib.hid ((((HR.out.set_ 0 _).set_ 1 _).set_ 2 _).set_ 3 _)
            replace HB := Lib.hid (below_set4 (w.heap.size + 1 + 1) HB.out (by omega) (.int .i64 a) (.int .i64 b) (.int .i64 d) (.int .i64 g))
            clear r0 r1 r2 r3 f0 f1 f2 f3 HX HS HL HR
            generalize (((w4.setCell ⟨w.heap.size + 1 + 1, 0, none⟩ (.int .i64 a)).setCell ⟨w.heap.size + 1 + 1, 1, none⟩ (.int .i64 b)).setCell ⟨w.heap.size + 1 + 1, 2, none⟩ (.int .i64 d)).setCell ⟨w.heap.size + 1 + 1, 3, none⟩ (.int .i64 g) = w5 at HR2 HB ⊢
            have HR := HR2
            have r0 := cell0 HR.out; have r1 := cell1 HR.out; have r2 := cell2 HR.out; have r3 := cell3 HR.out; have f0 := HR.out.frozen 0; have f1 := HR.out.frozen 1; have f2 := HR.out.frozen 2; have f3 := HR.out.frozen 3
            go_wp2
            refine bodyPost_ret (v := .tuple #[.agg #[.int .i64 a, .int .i64 b, .int .i64 d, .int .i64 g], .bool (er == 0), .int .i64 er]) (by simp [results, Try.results53, go_sem, r0, r1, r2, r3]) rfl ?_
            exact fdw_yes HG.out (by rw [HFX.out]; exact HE.out) (by rw [HFX.out]) J1.out J2.out J3.out J4.out J5.out (below_set4 _ HB.out (by omega) _ _ _ _)
end Go.Proofs.Ytaigofpipoimkaa

/-
  Package find's reference: Find.
-/
namespace Go.Proofs.Ytaigofpipoimkaa
open Go.RowKit Go.Acc
theorem fndL_len (l : List UInt8) (p q t v : Int) (ts : List Nat) : (fndL l p q t v ts).length ≤ l.length := by
  unfold fndL keyL cntL
  split
  · split <;> (rw [List.length_take, List.length_drop]; omega)
  · exact Nat.zero_le _
theorem rkS_len (l : List UInt8) (p q t v i : Int) : (rkS l p q t v i).length ≤ l.length := by
  unfold rkS
  split
  · exact Nat.zero_le _
  · exact fndL_len _ _ _ _ _ _
theorem rkeyat_is (A : Option Addr) (n c : Nat) (p q t v i a0 a1 a2 a3 j : Int) (er : Int) (s : List UInt8) (l : List UInt8) (w : World) (h : IsB w A n l) (hc : n ≤ c) (hn : n ≤ 1099511627776) (ho : opE l p q t v = 0) (h0 : kyP l p q t v = a0) (h1 : kyQ l p q t v = a1) (h2 : kyT l p q t v = a2) (h3 : kyV l p q t v = a3) (hj : i = j) (he : rkE l a0 a1 a2 a3 j = er) (hs : rkS l a0 a1 a2 a3 j = s) :
    Calls Try.prog 50 #[.slice A n c, .agg #[.int .i64 p, .int .i64 q, .int .i64 t, .int .i64 v], .int .i64 i] w fun e w' => e = .returned (.tuple #[.string ⟨s.toArray⟩, .int .i64 er]) ∧ Below w.heap.size w w' := by
  have := rkeyat_spec A n c p q t v i l w h hc hn
  subst h0 h1 h2 h3 hj he hs
  have e1 : kaE l p q t v i = rkE l (kyP l p q t v) (kyQ l p q t v) (kyT l p q t v) (kyV l p q t v) i := by unfold kaE; rw [ho]; rfl
  have e2 : kaS l p q t v i = rkS l (kyP l p q t v) (kyQ l p q t v) (kyT l p q t v) (kyV l p q t v) i := by unfold kaS; rw [ho]; rfl
  rw [e1, e2] at this
  exact this
set_option maxRecDepth 100000 in
set_option maxHeartbeats 2000000 in
theorem rfind_spec (A : Option Addr) (n c : Nat) (p q t v : Int) (l k : List UInt8) (w : World) (h : IsB w A n l) (hc : n ≤ c) (hn : n ≤ 1099511627776) (hk : k.length ≤ 9223372036854775807) :
    Calls Try.prog 54 #[.slice A n c, .agg #[.int .i64 p, .int .i64 q, .int .i64 t, .int .i64 v], .string ⟨k.toArray⟩] w (FdW w l k p q t v) := by
  have HL := Lib.hid ((h.alloc (.cells #[.int .i64 p, .int .i64 q, .int .i64 t, .int .i64 v] 23)).alloc (.cells #[.int .i64 0, .int .i64 0, .int .i64 0, .int .i64 0] 23))
  have HB := Lib.hid (((Below.refl w.heap.size w).alloc (Nat.le_refl _) (.cells #[.int .i64 p, .int .i64 q, .int .i64 t, .int .i64 v] 23)).alloc (by simp) (.cells #[.int .i64 0, .int .i64 0, .int .i64 0, .int .i64 0] 23))
  have HX := Lib.hid ((Blk.new w 23 #[.int .i64 p, .int .i64 q, .int .i64 t, .int .i64 v]).alloc (.cells #[.int .i64 0, .int .i64 0, .int .i64 0, .int .i64 0] 23))
  have HR := Lib.hid (Blk.new_ (w := w.alloc (.cells #[.int .i64 p, .int .i64 q, .int .i64 t, .int .i64 v] 23)) (g := w.heap.size + 1) (by simp) 23 #[.int .i64 0, .int .i64 0, .int .i64 0, .int .i64 0])
  have hcs := fd_cases l k p q t v
  have hNl : opN l p q t v ≤ n := by rw [← h.1]; exact lslen_le _ _ _ _ _
  have hln := h.1
  obtain ⟨er, her⟩ : ∃ x, opE l p q t v = x := ⟨_, rfl⟩
  rw [her] at hcs
  have H5 := Lib.hid her
  have HCS := Lib.hid hcs
  have HKL := Lib.hid hk
  have HLN := Lib.hid hln
  clear h her hcs hk hln
  go_enter Try.func54, Try.ntmps54
  go_wp2_with fail
  go_at_call 100
  refine (rmany_spec A n c p q t v l _ HL.out hn).mono ?_
  generalize (w.alloc (.cells #[.int .i64 p, .int .i64 q, .int .i64 t, .int .i64 v] 23)).alloc (.cells #[.int .i64 0, .int .i64 0, .int .i64 0, .int .i64 0] 23) = wB at HL HB HX HR ⊢
  intro e w1 hpost
  obtain ⟨a0, a1, a2, a3, a4, rfl, heq, hb⟩ := omw_open hpost
  rw [H5.out] at heq ⊢
  replace HB := Lib.hid (pure_below HB.out hb); replace HX := Lib.hid (HX.out.pure hb); replace HR := Lib.hid (HR.out.pure hb); replace HL := Lib.hid (HL.out.pure hb)
  clear hb hpost
  replace HB := Lib.hid (HB.out.alloc HB.out.size (.cells #[.int .i64 a0, .int .i64 a1, .int .i64 a2, .int .i64 a3] 23))
  replace HX := Lib.hid (HX.out.alloc (.cells #[.int .i64 a0, .int .i64 a1, .int .i64 a2, .int .i64 a3] 23))
  replace HR := Lib.hid (HR.out.alloc (.cells #[.int .i64 a0, .int .i64 a1, .int .i64 a2, .int .i64 a3] 23))
  replace HL := Lib.hid (HL.out.alloc (.cells #[.int .i64 a0, .int .i64 a1, .int .i64 a2, .int .i64 a3] 23))
  rcases HCS.out with ⟨hm, hg, he⟩ | ⟨rfl, hcs⟩
  · have HE := Lib.hid he
    have HG := Lib.hid hg
    have hne : (er != 0) = true := by simpa using hm
    clear he hg hm HCS heq
    have r0 := cell0 HR.out; have r1 := cell1 HR.out; have r2 := cell2 HR.out; have r3 := cell3 HR.out; have f0 := HR.out.frozen 0; have f1 := HR.out.frozen 1; have f2 := HR.out.frozen 2; have f3 := HR.out.frozen 3
    go_wp2
    refine bodyPost_ret (v := .tuple #[.agg #[.int .i64 0, .int .i64 0, .int .i64 0, .int .i64 0], .bool false, .int .i64 er]) (by simp [results, Try.results54, go_sem, r0, r1, r2, r3]) rfl ?_
    exact fdw_no HG.out HE.out (below_set4 _ HB.out (by omega) _ _ _ _)
  · obtain ⟨h0, h1, h2, h3, h4⟩ := heq rfl
    obtain ⟨N, hN⟩ : ∃ N, opN l p q t v = N := ⟨_, rfl⟩
    replace h4 : a4 = (N : Int) := by rw [h4, ← hN]; rfl
    subst h4
    have hX : fdX l k p q t v = bsr (fiF l k a0 a1 a2 a3) N 0 N := by unfold fdX; rw [hN, h0, h1, h2, h3]
    rw [← h0, ← h1, ← h2, ← h3, hN] at hcs
    rw [hN] at hNl
    have HFX := Lib.hid hX
    have HC1 := Lib.hid hcs
    have K0 := Lib.hid h0.symm
    have K1 := Lib.hid h1.symm
    have K2 := Lib.hid h2.symm
    have K3 := Lib.hid h3.symm
    clear hcs hX hN heq h0 h1 h2 h3 HCS
    go_wp2_with fail
    go_loopw [12, 13] (fun x y wr => ∃ lo hi : Nat, lo ≤ hi ∧ hi ≤ N ∧ x = .int .i64 lo ∧ y = .int .i64 hi ∧ (∃ fuel, hi - lo ≤ fuel ∧ bsr (fiF l k a0 a1 a2 a3) fuel lo hi = bsr (fiF l k a0 a1 a2 a3) N 0 N) ∧ Below w.heap.size w wr ∧ IsB wr A n l ∧ Blk wr w.heap.size 23 #[.int .i64 p, .int .i64 q, .int .i64 t, .int .i64 v] ∧ Blk wr (w.heap.size + 1) 23 #[.int .i64 0, .int .i64 0, .int .i64 0, .int .i64 0]) (fun x y _ => (intOf y - intOf x).toNat)
    case atStart => exact ⟨0, N, by omega, by omega, rfl, rfl, ⟨N, by omega, rfl⟩, HB.out, HL.out, HX.out, HR.out⟩
    case round =>
      obtain ⟨lo, hi, hlh, hhn, rfl, rfl, ⟨fuel, hfl, hq⟩, hB, hL, hX, hR⟩ := hrel
      clear HB HL HX HR
      have HB := Lib.hid hB
      have HL := Lib.hid hL
      have HX := Lib.hid hX
      have HR := Lib.hid hR
      have HQ := Lib.hid hq
      clear hB hL hX hR hq
      by_cases hz : lo = hi
      · obtain rfl : lo = hi := hz
        have hB0 : bsr (fiF l k a0 a1 a2 a3) N 0 N = (0, lo) := by rw [← HQ.out, bsr_end]
        have hX0 := HFX.out.trans hB0
        have hcs := HC1.out
        rw [hX0] at hcs
        simp only at hcs
        have HX0 := Lib.hid hX0
        clear hB0 hX0 HQ HC1 HFX hfl
        rcases hcs with ⟨hm, _⟩ | ⟨_, hcs⟩
        · exact absurd rfl hm
        · rcases hcs with ⟨hlN, hg, he⟩ | ⟨hlN, hcs⟩
          · obtain rfl : N = lo := hlN.symm
            have HE := Lib.hid he
            have HG := Lib.hid hg
            clear he hg
            have r0 := cell0 HR.out; have r1 := cell1 HR.out; have r2 := cell2 HR.out; have r3 := cell3 HR.out; have f0 := HR.out.frozen 0; have f1 := HR.out.frozen 1; have f2 := HR.out.frozen 2; have f3 := HR.out.frozen 3
            go_wp2
            refine bodyPost_ret (v := .tuple #[.agg #[.int .i64 0, .int .i64 0, .int .i64 0, .int .i64 0], .bool false, .int .i64 0]) (by simp [results, Try.results54, go_sem, r0, r1, r2, r3]) rfl ?_
            exact fdw_no HG.out HE.out (below_set4 _ HB.out (by omega) _ _ _ _)
          · have hlt : lo < N := by omega
            obtain ⟨s, hs⟩ : ∃ x, rkS l a0 a1 a2 a3 lo = x := ⟨_, rfl⟩
            obtain ⟨ee, hee⟩ : ∃ x, rkE l a0 a1 a2 a3 lo = x := ⟨_, rfl⟩
            rw [hs, hee] at hcs
            have HSS := Lib.hid hs
            have HEE := Lib.hid hee
            have HC2 := Lib.hid hcs
            clear hcs hs hee hlN
            have x0 := cell0 HX.out; have x1 := cell1 HX.out; have x2 := cell2 HX.out; have x3 := cell3 HX.out
            go_wp2_with fail
            go_at_call 50
            refine (rkeyat_is A n c p q t v lo a0 a1 a2 a3 lo ee s l _ HL.out hc hn H5.out K0.out K1.out K2.out K3.out rfl HEE.out HSS.out).mono ?_
            rintro e w3 ⟨rfl, hb⟩
            clear x0 x1 x2 x3
            replace HB := Lib.hid (pure_below HB.out hb); replace HX := Lib.hid (HX.out.pure hb); replace HR := Lib.hid (HR.out.pure hb); replace HL := Lib.hid (HL.out.pure hb)
            clear hb
            rcases HC2.out with ⟨hm, hg, he⟩ | ⟨rfl, hcs⟩
            · have HE := Lib.hid he
              have HG := Lib.hid hg
              have hne : (ee != 0) = true := by simpa using hm
              clear he hg hm HC2
              have r0 := cell0 HR.out; have r1 := cell1 HR.out; have r2 := cell2 HR.out; have r3 := cell3 HR.out; have f0 := HR.out.frozen 0; have f1 := HR.out.frozen 1; have f2 := HR.out.frozen 2; have f3 := HR.out.frozen 3
              go_wp2
              refine bodyPost_ret (v := .tuple #[.agg #[.int .i64 0, .int .i64 0, .int .i64 0, .int .i64 0], .bool false, .int .i64 ee]) (by simp [results, Try.results54, go_sem, r0, r1, r2, r3]) rfl ?_
              exact fdw_no HG.out HE.out (below_set4 _ HB.out (by omega) _ _ _ _)
            · rcases hcs with ⟨hsk, hg, he⟩ | ⟨hsk, hg, he⟩
              · have HE := Lib.hid he
                have HG := Lib.hid hg
                have hst : (s == k) = false := by simpa using hsk
                clear he hg hsk HC2
                have r0 := cell0 HR.out; have r1 := cell1 HR.out; have r2 := cell2 HR.out; have r3 := cell3 HR.out; have f0 := HR.out.frozen 0; have f1 := HR.out.frozen 1; have f2 := HR.out.frozen 2; have f3 := HR.out.frozen 3
                go_wp2
                refine bodyPost_ret (v := .tuple #[.agg #[.int .i64 0, .int .i64 0, .int .i64 0, .int .i64 0], .bool false, .int .i64 0]) (by simp [results, Try.results54, go_sem, r0, r1, r2, r3]) rfl ?_
                exact fdw_no HG.out HE.out (below_set4 _ HB.out (by omega) _ _ _ _)
              · obtain rfl : k = s := hsk.symm
                have HE := Lib.hid he
                have HG := Lib.hid hg
                clear he hg HC2
                obtain ⟨a, ha⟩ : ∃ x, atP l p q t v lo = x := ⟨_, rfl⟩
                obtain ⟨b, hb⟩ : ∃ x, atQ l p q t v lo = x := ⟨_, rfl⟩
                obtain ⟨d, hd⟩ : ∃ x, atT l p q t v lo = x := ⟨_, rfl⟩
                obtain ⟨g, hg⟩ : ∃ x, atV l p q t v lo = x := ⟨_, rfl⟩
                obtain ⟨er, her⟩ : ∃ x, atE l p q t v lo = x := ⟨_, rfl⟩
                have J1 := Lib.hid ha
                have J2 := Lib.hid hb
                have J3 := Lib.hid hd
                have J4 := Lib.hid hg
                have J5 := Lib.hid her
                clear ha hb hd hg her
                have x0 := cell0 HX.out; have x1 := cell1 HX.out; have x2 := cell2 HX.out; have x3 := cell3 HX.out
                go_wp2_with fail
                go_at_call 38
                refine (rat_is A n c p q t v lo a b d g er l _ HL.out hn J1.out J2.out J3.out J4.out J5.out).mono ?_
                rintro e w4 ⟨rfl, hb⟩
                clear x0 x1 x2 x3
                replace HB := Lib.hid (pure_below HB.out hb); replace HX := Lib.hid (HX.out.pure hb); replace HR := Lib.hid (HR.out.pure hb); replace HL := Lib.hid (HL.out.pure hb)
                have HK := Lib.hid (Blk.new w4 23 #[.int .i64 a, .int .i64 b, .int .i64 d, .int .i64 g])
                replace HB := Lib.hid (HB.out.alloc HB.out.size (.cells #[.int .i64 a, .int .i64 b, .int .i64 d, .int .i64 g] 23))
                replace HR := Lib.hid (HR.out.alloc (.cells #[.int .i64 a, .int .i64 b, .int .i64 d, .int .i64 g] 23))
                clear hb
                go_upto_region 19 with fail
                generalize w4.alloc (.cells #[.int .i64 a, .int .i64 b, .int .i64 d, .int .i64 g] 23) = w5 at HR HK HB ⊢
                have k0 := cell0 HK.out
                have k1 := cell1 HK.out
                have k2 := cell2 HK.out
                have k3 := cell3 HK.out
                have r0 := cell0 HR.out; have r1 := cell1 HR.out; have r2 := cell2 HR.out; have r3 := cell3 HR.out; have f0 := HR.out.frozen 0; have f1 := HR.out.frozen 1; have f2 := HR.out.frozen 2; have f3 := HR.out.frozen 3
                go_wp2
                refine bodyPost_ret (v := .tuple #[.agg #[.int .i64 a, .int .i64 b, .int .i64 d, .int .i64 g], .bool (er == 0), .int .i64 er]) (by simp [results, Try.results54, go_sem, r0, r1, r2, r3]) rfl ?_
                exact fdw_yes HG.out (by rw [HX0.out]; exact HE.out) (by rw [HX0.out]) J1.out J2.out J3.out J4.out J5.out (below_set4 _ HB.out (by omega) _ _ _ _)
      · have hlt : lo < hi := by omega
        obtain ⟨m, hm⟩ : ∃ m : Nat, lo + (hi - lo) / 2 = m := ⟨_, rfl⟩
        obtain ⟨s, hs⟩ : ∃ x, rkS l a0 a1 a2 a3 m = x := ⟨_, rfl⟩
        obtain ⟨fe, hf1⟩ : ∃ x, rkE l a0 a1 a2 a3 m = x := ⟨_, rfl⟩
        have hsl : s.length ≤ 9223372036854775807 := by
          have := rkS_len l a0 a1 a2 a3 m
          rw [hs, HLN.out] at this
          omega
        obtain ⟨fb, hf2⟩ : ∃ x, Op.bytesLess s k = x := ⟨_, rfl⟩
        have hG1 : (fiF l k a0 a1 a2 a3 m).1 = fe := hf1
        have hG2 : (fiF l k a0 a1 a2 a3 m).2 = fb := by show Op.bytesLess (rkS l a0 a1 a2 a3 m) k = fb; rw [hs]; exact hf2
        have HF5 := Lib.hid hG1
        have HF6 := Lib.hid hG2
        have HSS := Lib.hid hs
        have HEE := Lib.hid hf1
        have HLS := Lib.hid hf2
        have HSL := Lib.hid hsl
        clear hf1 hf2 hs hG1 hG2 hz hsl
        have hi40 : (hi : Int) ≤ 1099511627776 := by omega
        have hlo0 : (0 : Int) ≤ lo := by omega
        have hlti : (lo : Int) < hi := by omega
        have x0 := cell0 HX.out; have x1 := cell1 HX.out; have x2 := cell2 HX.out; have x3 := cell3 HX.out
        go_wp2_with fail
        go_at_call 50
        refine (rkeyat_is A n c p q t v ((lo : Int) + ((hi : Int) - (lo : Int)) / 2) a0 a1 a2 a3 m fe s l _ HL.out hc hn H5.out K0.out K1.out K2.out K3.out (by omega) HEE.out HSS.out).mono ?_
        rintro e w3 ⟨rfl, hb⟩
        clear x0 x1 x2 x3
        replace HB := Lib.hid (pure_below HB.out hb); replace HX := Lib.hid (HX.out.pure hb); replace HR := Lib.hid (HR.out.pure hb); replace HL := Lib.hid (HL.out.pure hb)
        clear hb
        by_cases he : fe = 0
        · subst he
          go_wp2_with fail
          go_at_call 105
          refine (rless_spec s k _ HSL.out HKL.out).mono ?_
          rw [HLS.out]
          rintro e w4 ⟨rfl, hb⟩
          replace HB := Lib.hid (pure_below HB.out hb); replace HX := Lib.hid (HX.out.pure hb); replace HR := Lib.hid (HR.out.pure hb); replace HL := Lib.hid (HL.out.pure hb)
          clear hb
          cases fb with
          | true =>
            have HZ := Lib.hid ((bsr_up (f := fiF l k a0 a1 a2 a3) hlt hfl hm HF5.out HF6.out).symm.trans HQ.out)
            go_wp2
            go_roundw
            case rel => exact ⟨m + 1, hi, by omega, by omega, by rw [← hm]; congr 1; omega, rfl, ⟨fuel - 1, by omega, HZ.out⟩, HB.out, HL.out, HX.out, HR.out⟩
            case measure => simp [intOf]; omega
          | false =>
            have HZ := Lib.hid ((bsr_down (f := fiF l k a0 a1 a2 a3) hlt hfl hm HF5.out HF6.out).symm.trans HQ.out)
            go_wp2
            go_roundw
            case rel => exact ⟨lo, m, by omega, by omega, rfl, by rw [← hm]; congr 1; omega, ⟨fuel - 1, by omega, HZ.out⟩, HB.out, HL.out, HX.out, HR.out⟩
            case measure => simp [intOf]; omega
        · have hne : (fe != 0) = true := by simpa using he
          have hX0 := HFX.out.trans (HQ.out.symm.trans (bsr_err (f := fiF l k a0 a1 a2 a3) hlt hfl hm (by rw [HF5.out]; exact he)))
          rw [HF5.out] at hX0
          have hcs := HC1.out
          rw [hX0] at hcs
          simp only at hcs
          rcases hcs with ⟨_, hg, hee⟩ | ⟨hee, _⟩
          · have HE := Lib.hid hee
            have HG := Lib.hid hg
            clear he hg hm HC1 hX0 hee
            have r0 := cell0 HR.out; have r1 := cell1 HR.out; have r2 := cell2 HR.out; have r3 := cell3 HR.out; have f0 := HR.out.frozen 0; have f1 := HR.out.frozen 1; have f2 := HR.out.frozen 2; have f3 := HR.out.frozen 3
            go_wp2
            refine bodyPost_ret (v := .tuple #[.agg #[.int .i64 0, .int .i64 0, .int .i64 0, .int .i64 0], .bool false, .int .i64 fe]) (by simp [results, Try.results54, go_sem, r0, r1, r2, r3]) rfl ?_
            exact fdw_no HG.out HE.out (below_set4 _ HB.out (by omega) _ _ _ _)
          · exact absurd hee he
end Go.Proofs.Ytaigofpipoimkaa
