/-
  The chapter's examples: works() is true.
-/
import Derived.Test.YtiambljlgmnhaaaStackB
namespace Go.Proofs.Ytiambljlgmnhaaa
open Go.RowKit Go.Acc

theorem isv_lit (W : World) (l : List V3) : IsV (W.alloc (.cells (l.flatMap vc).toArray 49)) (some ⟨W.heap.size, 0, none⟩) l.length l := by
  refine ⟨rfl, fun j u hu => ⟨_, _, rfl, ?_⟩⟩
  rw [Nat.zero_add, (Blk.new W _ _).cell j]
  simpa using hu

/-- The three local values of the examples, in blocks n, n + 1, n + 2. -/
def Loc (n : Nat) (W : World) : Prop := Blk W n 49 #[.int .i64 1, .int .i64 1, .int .u64 5] ∧ Blk W (n + 1) 49 #[.int .i64 5, .int .i64 2, .int .u64 7] ∧ Blk W (n + 2) 49 #[.int .i64 26, .int .i64 0, .int .u64 0]
theorem Loc.fr {n : Nat} {W W' : World} {S : Nat → Prop} (h : Loc n W) (hf : Fr S W W') (hs : ∀ k, k < n + 3 → ¬ S k) : Loc n W' :=
  ⟨h.1.fr hf (hs _ (by omega)), h.2.1.fr hf (hs _ (by omega)), h.2.2.fr hf (hs _ (by omega))⟩
theorem Loc.pure {n : Nat} {W W' : World} (h : Loc n W) (hf : Below W.heap.size W W') : Loc n W' := ⟨h.1.pure hf, h.2.1.pure hf, h.2.2.pure hf⟩
def va : V3 := (1, 1, 5)
def vb : V3 := (5, 2, 7)
def vz : V3 := (26, 0, 0)


/-- Where the examples stand: the locals, the stack (in block b, with the list l), and what was there before. -/
def St (w : World) (b : Nat) (l : List V3) (W : World) : Prop := Loc w.heap.size W ∧ (∃ g, Stk W (w.heap.size + 3) b g l) ∧ Below w.heap.size w W
theorem St.size {w W : World} {b : Nat} {l : List V3} (h : St w b l W) : w.heap.size + 3 ≤ b ∧ b < W.heap.size := by
  obtain ⟨g, hg⟩ := h.2.1
  exact ⟨hg.ge.1, hg.ge.2.1⟩
theorem St.pure {w W W' : World} {b : Nat} {l : List V3} (h : St w b l W) (hb : Below W.heap.size W W') : St w b l W' :=
  ⟨h.1.pure hb, h.2.1.imp fun _ hg => hg.pure hb, h.2.2.trans (hb.mono h.2.2.size)⟩
theorem St.fr {w W W' : World} {b : Nat} {l l' : List V3} {g g' : Option Nat} (h : St w b l W) (hg : Stk W (w.heap.size + 3) b g l) (hf : Fr (fun k => k = b ∨ some k = g) W W') (hS : Stk W' (w.heap.size + 3) b g' l') : St w b l' W' := by
  have h1 := h.size
  have hk : ∀ k, k < w.heap.size + 3 → ¬ (k = b ∨ some k = g) := by
    rintro k hk (rfl | e)
    · omega
    · have := (hg.ge.2.2 k e.symm).1; omega
  exact ⟨h.1.fr hf hk, ⟨g', hS⟩, h.2.2.trans (hf.belowB (fun k hk' => hk k (by omega)) h.2.2.size)⟩
theorem st_push {w W : World} {b : Nat} {l m : List V3} (l' : List V3) {A2 : Option Addr} {n2 c2 : Nat} (h : St w b l W) (hm : IsV W A2 n2 m) (hl : l ++ m = l') (hlm : l'.length ≤ 65536) :
    Calls Try.prog 17 #[.pointer (some ⟨b, 0, none⟩), .slice A2 n2 c2] W fun e W' => e = .returned (.int .i64 0) ∧ St w b l' W' := by
  subst hl
  obtain ⟨g, hg⟩ := h.2.1
  refine (push_spec _ b g l m A2 n2 c2 W hg hm (by rwa [List.length_append] at hlm) (by have := h.size; omega)).mono ?_
  rintro e W' ⟨rfl, g', hS, _, hf⟩
  exact ⟨rfl, h.fr hg hf hS⟩
theorem st_pop {w W : World} {b : Nat} {l : List V3} (s : Int) (m l' : List V3) (er : Int) (h : St w b l W) (e1 : popL l s = m) (e2 : popR l s = l') (e3 : popE l s = er) (hs : -9223372036854775808 ≤ s) (hs2 : s ≤ 9223372036854775807) :
    Calls Try.prog 12 #[.pointer (some ⟨b, 0, none⟩), .int .i64 s] W fun e W' => ∃ A n c, e = .returned (.tuple #[.slice A n c, .int .i64 er]) ∧ OwnV W' (b + 1) A n c m ∧ St w b l' W' ∧ Fr (fun k => k = b) W W' := by
  subst e1 e2 e3
  obtain ⟨g, hg⟩ := h.2.1
  refine (pop_spec _ b g l s W hg hs hs2).mono ?_
  rintro e W' ⟨A, n, c, rfl, ho, hS, hf⟩
  exact ⟨A, n, c, rfl, ho.rebase (by have := h.size; omega), h.fr hg (hf.mono fun _ _ e => .inl e) hS, hf⟩
theorem st_from {w W : World} {b : Nat} {l : List V3} (s : Int) (m : List V3) (er : Int) (h : St w b l W) (e1 : fromL l s = m) (e3 : fromE l s = er) :
    Calls Try.prog 14 #[.pointer (some ⟨b, 0, none⟩), .int .i64 s] W fun e W' => ∃ A n c, e = .returned (.tuple #[.slice A n c, .int .i64 er]) ∧ OwnV W' (b + 1) A n c m ∧ St w b l W' ∧ Below W.heap.size W W' := by
  subst e1 e3
  obtain ⟨g, hg⟩ := h.2.1
  refine (from_spec _ b g l s W hg).mono ?_
  rintro e W' ⟨A, n, c, rfl, ho, hb⟩
  exact ⟨A, n, c, rfl, ho.rebase (by have := h.size; omega), h.pure hb, hb⟩
/-- A result of an earlier call, behind a pop. -/
theorem kept {W W' : World} {A : Option Addr} {b n c : Nat} {l : List V3} (h : OwnV W (b + 1) A n c l) (hf : Fr (fun k => k = b) W W') : OwnV W' (b + 1) A n c l :=
  h.fr hf (by rintro ad rfl rfl; have := (h.addr ad rfl).2.1; omega)
theorem st_len {w W : World} {b : Nat} {l : List V3} (h : St w b l W) :
    Calls Try.prog 21 #[.pointer (some ⟨b, 0, none⟩)] W fun e W' => e = .returned (.int .i64 l.length) ∧ W = W' := by
  obtain ⟨g, hg⟩ := h.2.1
  exact len_spec _ b g l W hg
theorem Loc.cells {n : Nat} {W : World} (h : Loc n W) :
    (W.cell? ⟨n, 0, none⟩ = some (.int .i64 1) ∧ W.cell? ⟨n, 1, none⟩ = some (.int .i64 1) ∧ W.cell? ⟨n, 2, none⟩ = some (.int .u64 5)) ∧
    (W.cell? ⟨n + 1, 0, none⟩ = some (.int .i64 5) ∧ W.cell? ⟨n + 1, 1, none⟩ = some (.int .i64 2) ∧ W.cell? ⟨n + 1, 2, none⟩ = some (.int .u64 7)) ∧
    W.cell? ⟨n + 1 + 1, 0, none⟩ = some (.int .i64 26) ∧ W.cell? ⟨n + 1 + 1, 1, none⟩ = some (.int .i64 0) ∧ W.cell? ⟨n + 1 + 1, 2, none⟩ = some (.int .u64 0) :=
  ⟨⟨h.1.cell 0, h.1.cell 1, h.1.cell 2⟩, ⟨h.2.1.cell 0, h.2.1.cell 1, h.2.1.cell 2⟩, h.2.2.cell 0, h.2.2.cell 1, h.2.2.cell 2⟩
theorem are_yes {A B : Option Addr} {n n' c d : Nat} {l : List V3} {e1 : Int} {w : World} (ha : IsV w A n l) (hb : IsV w B n' l) (hl : l.length ≤ 100) :
    Calls Try.prog 23 #[.slice A n c, .int .i64 e1, .int .i64 e1, .slice B n' d] w fun e w' => e = .returned (.bool true) ∧ Below w.heap.size w w' := by
  have h1 := ha.1
  have h2 := hb.1
  refine (are_spec A B n n' c d l l e1 e1 w ha hb (by omega) (by omega)).mono ?_
  rintro e w' ⟨rfl, h⟩
  exact ⟨ret_bool (areB_iff.2 ⟨rfl, rfl⟩), h⟩

set_option maxHeartbeats 4000000 in
theorem works_spec (w : World) : Calls Try.prog 22 #[] w fun e w' => e = .returned (.bool true) ∧ Below w.heap.size w w' := by
  go_enter Try.func22, Try.ntmps22
  go_wp2_with fail
  refine (new_spec _).mono ?_
  rintro e w1 ⟨b, rfl, hS, hb⟩
  have h1 : St w b [] w1 := by
    refine ⟨Loc.pure ⟨?_, ?_, ?_⟩ hb, ⟨none, hS.rebase (by simp)⟩, ?_⟩
    · exact ((Blk.new w _ _).alloc _).alloc _
    · have := (Blk.new (w.alloc (.cells #[.int .i64 1, .int .i64 1, .int .u64 5] 49)) 49 #[.int .i64 5, .int .i64 2, .int .u64 7]).alloc (.cells #[.int .i64 26, .int .i64 0, .int .u64 0] 49); simpa using this
    · have := Blk.new ((w.alloc (.cells #[.int .i64 1, .int .i64 1, .int .u64 5] 49)).alloc (.cells #[.int .i64 5, .int .i64 2, .int .u64 7] 49)) 49 #[.int .i64 26, .int .i64 0, .int .u64 0]; simpa using this
    · exact ((((Below.refl _ _).alloc (Nat.le_refl _) _).alloc (by simp) _).alloc (by simp; omega) _).trans (hb.mono (by simp; omega))
  have H1 := Lib.hid h1
  obtain ⟨⟨a1, a2, a3⟩, ⟨b1, b2, b3⟩, z1, z2, z3⟩ := h1.1.cells
  clear hS hb h1
  go_wp2_with fail
  refine (st_push [va, vb] (H1.out.pure ((Below.refl _ _).alloc (Nat.le_refl _) _)) (isv_lit _ [va, vb]) rfl (by decide)).mono ?_
  rintro e w2 ⟨rfl, h2⟩
  have H2 := Lib.hid h2
  clear a1 a2 a3 b1 b2 b3 z1 z2 z3
  obtain ⟨⟨a1, a2, a3⟩, ⟨b1, b2, b3⟩, z1, z2, z3⟩ := h2.1.cells
  clear h2
  go_wp2_with fail
  refine (st_push [va, vb, vz] (H2.out.pure ((Below.refl _ _).alloc (Nat.le_refl _) _)) (isv_lit _ [vz]) rfl (by decide)).mono ?_
  rintro e w3 ⟨rfl, h3⟩
  have H3 := Lib.hid h3
  clear a1 a2 a3 b1 b2 b3 z1 z2 z3
  clear h3
  go_wp2_with fail
  refine (st_len H3.out).mono ?_
  rintro e w' ⟨rfl, rfl⟩
  go_wp2_with fail
  refine (st_from 1 [vb, vz] 0 H3.out rfl rfl).mono ?_
  rintro e w4 ⟨xA, xn, xc, rfl, hx, h4, _⟩
  have H4 := Lib.hid h4
  have HX := Lib.hid hx
  clear h4 hx
  go_wp2_with fail
  refine (st_pop 2 [vb, vz] [va] 0 H4.out rfl rfl rfl (by omega) (by omega)).mono ?_
  rintro e w5 ⟨yA, yn, yc, rfl, hy, h5, hf⟩
  have HX5 := Lib.hid (kept HX.out hf)
  have H5 := Lib.hid h5
  have HY := Lib.hid hy
  clear h5 hy hf
  go_wp2_with fail
  refine (st_pop 2 [] [va] 140 H5.out rfl rfl rfl (by omega) (by omega)).mono ?_
  rintro e w6 ⟨zA, zn, zc, rfl, hz, h6, hf⟩
  have HX6 := Lib.hid (kept HX5.out hf)
  have HY6 := Lib.hid (kept HY.out hf)
  have H6 := Lib.hid h6
  have HZ := Lib.hid hz
  obtain ⟨⟨a1, a2, a3⟩, ⟨b1, b2, b3⟩, z1, z2, z3⟩ := h6.1.cells
  clear h6 hz hf
  go_wp2_with fail
  refine (are_yes (HX6.out.is.alloc _) (isv_lit _ [vb, vz]) (by decide)).mono ?_
  rintro e w7 ⟨rfl, hb7⟩
  have HB7 := Lib.hid (pure_trans ((Below.refl _ _).alloc (Nat.le_refl _) _) hb7)
  have h7 := H6.out.pure HB7.out
  have H7 := Lib.hid h7
  clear a1 a2 a3 b1 b2 b3 z1 z2 z3
  obtain ⟨⟨a1, a2, a3⟩, ⟨b1, b2, b3⟩, z1, z2, z3⟩ := h7.1.cells
  clear hb7 h7
  go_wp2_with fail
  refine (are_yes ((HY6.out.is.pure HB7.out).alloc _) (isv_lit _ [vb, vz]) (by decide)).mono ?_
  rintro e w8 ⟨rfl, hb8⟩
  have HB8 := Lib.hid (pure_trans ((Below.refl _ _).alloc (Nat.le_refl _) _) hb8)
  have H8 := Lib.hid (H7.out.pure HB8.out)
  clear a1 a2 a3 b1 b2 b3 z1 z2 z3
  clear hb8
  go_wp2_with fail
  refine (are_yes ((HZ.out.is.pure HB7.out).pure HB8.out) (Is.nil _ none) (by decide)).mono ?_
  rintro e w9 ⟨rfl, hb9⟩
  have H9 := Lib.hid (H8.out.pure hb9)
  clear hb9
  go_wp2_with fail
  refine (st_len H9.out).mono ?_
  rintro e w' ⟨rfl, rfl⟩
  go_wp2_with fail
  refine (st_from 2 [] 140 H9.out rfl rfl).mono ?_
  rintro e w10 ⟨xA, xn, xc, rfl, hx, h10, _⟩
  have H10 := Lib.hid h10
  have HX := Lib.hid hx.is
  clear h10 hx
  go_wp2_with fail
  refine (st_from 1 [] 0 H10.out rfl rfl).mono ?_
  rintro e w11 ⟨yA, yn, yc, rfl, hy, h11, hb11⟩
  have HX11 := Lib.hid (HX.out.pure hb11)
  have H11 := Lib.hid h11
  have HY := Lib.hid hy.is
  clear h11 hy hb11
  go_wp2_with fail
  refine (are_yes HX11.out (Is.nil _ none) (by decide)).mono ?_
  rintro e w12 ⟨rfl, hb12⟩
  have H12 := Lib.hid (H11.out.pure hb12)
  have HY12 := Lib.hid (HY.out.pure hb12)
  clear hb12
  go_wp2_with fail
  refine (are_yes HY12.out (Is.nil _ none) (by decide)).mono ?_
  rintro e w13 ⟨rfl, hb13⟩
  have H13 := Lib.hid (H12.out.pure hb13)
  clear hb13
  go_wp2_with fail
  refine (st_push [va] H13.out (Is.nil _ none) rfl (by decide)).mono ?_
  rintro e w14 ⟨rfl, h14⟩
  have H14 := Lib.hid h14
  clear h14
  go_wp2_with fail
  refine (st_pop 0 [] [va] 0 H14.out rfl rfl rfl (by omega) (by omega)).mono ?_
  rintro e w15 ⟨xA, xn, xc, rfl, hx, h15, _⟩
  have HX15 := Lib.hid hx
  have H15 := Lib.hid h15
  clear h15 hx
  go_wp2_with fail
  refine (st_pop (-1) [] [va] 140 H15.out rfl rfl rfl (by omega) (by omega)).mono ?_
  rintro e w16 ⟨yA, yn, yc, rfl, hy, h16, hf⟩
  have HX16 := Lib.hid (kept HX15.out hf)
  have HY16 := Lib.hid hy
  have H16 := Lib.hid h16
  clear h16 hy hf
  go_wp2_with fail
  refine (st_pop 1 [va] [] 0 H16.out rfl rfl rfl (by omega) (by omega)).mono ?_
  rintro e w17 ⟨zA, zn, zc, rfl, hz, h17, hf⟩
  have HX17 := Lib.hid (kept HX16.out hf).is
  have HY17 := Lib.hid (kept HY16.out hf).is
  have HZ17 := Lib.hid hz.is
  have H17 := Lib.hid h17
  clear h17 hz hf
  go_wp2_with fail
  refine (are_yes HX17.out (Is.nil _ none) (by decide)).mono ?_
  rintro e w18 ⟨rfl, hb18⟩
  have H18 := Lib.hid (H17.out.pure hb18)
  have HY18 := Lib.hid (HY17.out.pure hb18)
  have HZ18 := Lib.hid (HZ17.out.pure hb18)
  clear hb18
  go_wp2_with fail
  refine (are_yes HY18.out (Is.nil _ none) (by decide)).mono ?_
  rintro e w19 ⟨rfl, hb19⟩
  have h19 := H18.out.pure hb19
  have HZ19 := Lib.hid (HZ18.out.pure hb19)
  have H19 := Lib.hid h19
  obtain ⟨⟨a1, a2, a3⟩, ⟨b1, b2, b3⟩, z1, z2, z3⟩ := h19.1.cells
  clear hb19 h19
  go_wp2_with fail
  refine (are_yes (HZ19.out.alloc _) (isv_lit _ [va]) (by decide)).mono ?_
  rintro e w20 ⟨rfl, hb20⟩
  have H20 := Lib.hid (H19.out.pure (pure_trans ((Below.refl _ _).alloc (Nat.le_refl _) _) hb20))
  clear hb20
  clear a1 a2 a3 b1 b2 b3 z1 z2 z3
  go_wp2_with fail
  refine (st_len H20.out).mono ?_
  rintro e w' ⟨rfl, rfl⟩
  go_wp2_with fail
  go_ret
  exact ⟨rfl, H20.out.2.2⟩

end Go.Proofs.Ytiambljlgmnhaaa
