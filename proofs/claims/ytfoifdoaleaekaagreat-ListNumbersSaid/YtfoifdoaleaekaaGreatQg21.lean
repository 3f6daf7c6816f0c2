/-
  Trees that own their memory; slices.Clone of strings; tree.Copy.
  A row of nodes: one of them is stored anew. What stands while the children of a node are sorted, one after another.
-/
import Derived.Test.YtfoifdoaleaekaaGreatQg20
namespace Go.Proofs.YtfoifdoaleaekaaGreat
open Go.RowKit Go.Acc
theorem own_by {W W' : World} {base e size n : Nat} {v : Value} {xs : List Value} (h : W.ownsRow base e size v n xs) (hk : ∀ g, v.ownBlock = some g → W'.heap[g]? = W.heap[g]?) : W'.ownsRow base e size v n xs := by
  refine ⟨h.1, ?_⟩
  rcases h.2 with hn | ⟨g, cap, cur, rfl, hbg, hg, rest⟩
  · exact .inl hn
  · exact .inr ⟨g, cap, cur, rfl, hbg, by rw [hk g rfl]; exact hg, rest⟩
theorem ownt_by {W W' : World} {A : Option Addr} {B n c : Nat} {l : List Nv} (h : OwnT W B A n c l) (hk : ∀ ad, A = some ad → W'.heap[ad.block]? = W.heap[ad.block]?) : OwnT W' B A n c l := by
  refine ⟨h.1, own_by h.2 fun g e => ?_⟩
  cases A with
  | none => simp [Value.ownBlock] at e
  | some ad => simp [Value.ownBlock] at e; subst e; exact hk ad rfl
inductive NodeX (w : World) : (Nat → Prop) → Nv → Tr → Prop
  | mk {p : Nat → Prop} {x : Nv} {ks : List (List UInt8)} {l : List Tr} {vs : List Nv} (q : Nat → Nat → Prop) (h1 : IsS w x.A x.an ks) (ha : ∀ ad, x.A = some ad → p ad.block ∧ ∀ i, ¬ q i ad.block) (hac : x.an ≤ x.ac) (hx : x.an ≤ 1099511627776)
      (h2 : OwnT w 0 x.B x.bn x.bc vs) (hb : ∀ ad, x.B = some ad → p ad.block ∧ ∀ i, ¬ q i ad.block) (hy : x.bn ≤ 1099511627776) (hab : ∀ a b, x.A = some a → x.B = some b → a.block ≠ b.block)
      (hq : ∀ i k, q i k → p k) (hd : ∀ i j k, i ≠ j → q i k → ¬ q j k) (hl : vs.length = l.length)
      (hc : ∀ (i : Nat) v t, vs[i]? = some v → l[i]? = some t → NodeX w (q i) v t) : NodeX w p x (.mk x.k x.n x.u x.s ks l)
theorem NodeX.keep {w w' : World} {p : Nat → Prop} {x : Nv} {t : Tr} (h : NodeX w p x t) : (∀ b, p b → w'.heap[b]? = w.heap[b]?) → NodeX w' p x t := by
  induction h with
  | mk q h1 ha hac hx h2 hb hy hab hq hd hl hc ih =>
    intro hk
    refine .mk q ⟨h1.1, rd_by h1.2 (fun ad e => (ha ad e).1) fun a u hc hpa => ?_⟩ ha hac hx (ownt_by h2 fun ad e => hk _ (hb ad e).1) hb hy hab hq hd hl (fun i v t hv ht => ih i v t hv ht fun b hb => hk b (hq i b hb))
    rw [World.cell?_of_block (hk _ hpa)]
    exact hc
theorem NodeX.pure {w w' : World} {p : Nat → Prop} {x : Nv} {t : Tr} (h : NodeX w p x t) (hp : ∀ b, p b → b < w.heap.size) (hb : Below w.heap.size w w') : NodeX w' p x t := h.keep fun b hpb => hb.block b (hp b hpb)
theorem info_nd : (Tryz.prog.info? 26).map (fun i => (i.zero, i.size, i.bytes)) = some (some (.agg #[.int .i64 0, .int .i64 0, .int .u64 0, .string ⟨#[]⟩, .slice none 0 0, .slice none 0 0]), 6, 88) := by kernel_rfl
theorem nv_one (W : World) (x : Nv) : IsN (W.alloc (.cells #[.int .i64 x.k, .int .i64 x.n, .int .u64 (x.u : Int), .string ⟨x.s.toArray⟩, .slice x.A x.an x.ac, .slice x.B x.bn x.bc] 26)) (some ⟨W.heap.size, 0, none⟩) 1 [x] := by
  refine ⟨rfl, fun j y hy => ⟨_, _, rfl, ?_⟩⟩
  rw [Nat.zero_add, (Blk.new W 26 _).cell j]
  have e : [x].flatMap nvc = nvc x := by simp
  rw [e] at hy
  rw [← hy]
  simp [nvc]
def CopiedS (w : World) (m : List (List UInt8)) (e : Ending) (w' : World) : Prop :=
  ∃ A n c, e = .returned (.slice A n c) ∧ OwnS w' w.heap.size A n c m ∧ Below w.heap.size w w'
theorem copieds_post {w w1 w' : World} {A : Option Addr} {n c : Nat} {l m : List (List UInt8)} (h : OwnS w' w.heap.size A n c l) (hl : l = m) (h1 : Below w.heap.size w w1) {S : Nat → Prop} (hg : Fr S w1 w') (hS : ∀ k, k < w.heap.size → ¬ S k) : CopiedS w m (.returned (.slice A n c)) w' := by
  subst hl
  exact ⟨A, n, c, rfl, h, h1.trans (hg.belowB hS h1.size)⟩
set_option maxHeartbeats 400000 in
theorem clones_spec (A : Option Addr) (n c : Nat) (l : List (List UInt8)) (w : World) (h : IsS w A n l) (hl : n ≤ 1099511627776) :
    Calls Tryz.prog 89 #[.slice A n c] w (CopiedS w l) := by
  have hnil := fun (w : World) (A : Option Addr) (n c : Nat) => Lib.run_eql_slice_nil (P := Tryz.prog) w 23 9 A n c 0 0 Tryz.underlying23
  rcases A with _ | a
  · obtain ⟨rfl, rfl⟩ := h.none_ stc_len (by omega)
    clear h hl
    go_enter Tryz.func89, Tryz.ntmps89
    go_wp2_with fail
    go_ret
    exact ⟨none, 0, 0, rfl, Own.nil _ _, Below.refl _ _⟩
  · have hr : IsS (w.alloc (.cells #[] 9)) (some a) n l := h.alloc _
    have ho : OwnS (w.alloc (.cells #[] 9)) w.heap.size (some ⟨w.heap.size, 0, none⟩) 0 0 [] := ⟨rfl, World.ownsRow_lit w #[] 0 (Nat.le_refl _) (Nat.zero_le _) rfl⟩
    have HR := Lib.hid hr
    clear h hr
    go_enter Tryz.func89, Tryz.ntmps89
    go_wp2_with (at_builtin; refine wpl_app _ rfl (.tmp 5) (.tmp 6) _ rfl 9 _ 1 16 Tryz.underlying23 info_st rfl (by omega) stc_len stc_one _ _ _ _ _ rfl ho _ _ _ _ rfl HR.out (by omega) (by simp) ?_; intro A1 c1 w1 hown1 hfr1 hat1)
    go_ret
    exact copieds_post (by simpa using hown1) rfl ((Below.refl _ _).alloc (Nat.le_refl _) _) hfr1 (by rintro k hk ⟨ad, h, h'⟩; injection h with h; subst h; simp at h'; omega)
structure CpR (w : World) (B : Nat) (k : Nat) (ts : List Tr) (A : Option Addr) (c : Nat) (vs : List Nv) (q : Nat → Nat → Prop) : Prop where
  own : OwnT w B A k c vs
  lt : ∀ i b, q i b → B ≤ b ∧ b < w.heap.size ∧ i < k
  off : ∀ ad, A = some ad → ∀ i, ¬ q i ad.block
  apart : ∀ i j b, i ≠ j → q i b → ¬ q j b
  kids : ∀ (i : Nat) v t, vs[i]? = some v → ts[i]? = some t → NodeX w (q i) v t
theorem CpR.pure {w w' : World} {B k : Nat} {ts : List Tr} {A : Option Addr} {c : Nat} {vs : List Nv} {q : Nat → Nat → Prop} (h : CpR w B k ts A c vs q) (hb : Below w.heap.size w w') : CpR w' B k ts A c vs q :=
  ⟨h.own.pure hb, fun i b e => ⟨(h.lt i b e).1, Nat.lt_of_lt_of_le (h.lt i b e).2.1 hb.size, (h.lt i b e).2.2⟩, h.off, h.apart, fun i v t hv ht => (h.kids i v t hv ht).pure (fun b e => (h.lt i b e).2.1) hb⟩
theorem CpR.step {w W W' : World} {B k : Nat} {ts : List Tr} {A A1 : Option Addr} {c c1 : Nat} {vs : List Nv} {q : Nat → Nat → Prop} {x : Nv} {t : Tr} {a : Nat} (h : CpR W B k ts A c vs q) (ht : ts[k]? = some t) (hB : B ≤ a) (hqa : ∀ i b, q i b → b < a) (hA : ∀ ad, A = some ad → ad.block < a)
    (hx : NodeX W (fun b => a ≤ b ∧ b < w.heap.size) x t) (hw : w.heap.size ≤ W.heap.size) (ho : OwnT W' B A1 (k + 1) c1 (vs ++ [x])) (hf : Fr (fun b => ∃ ad, A = some ad ∧ b = ad.block) W W')
    (hat : A1.map (·.block) = A.map (·.block) ∨ A1.map (·.block) = some W.heap.size) : CpR W' B (k + 1) ts A1 c1 (vs ++ [x]) (fun i b => q i b ∨ (i = k ∧ a ≤ b ∧ b < w.heap.size)) := by
  have hl : vs.length = k := h.own.1
  have hlt := h.lt
  refine ⟨ho, ?_, ?_, ?_, ?_⟩
  · rintro i b (e | ⟨rfl, e1, e2⟩)
    · obtain ⟨e1, e2, e3⟩ := h.lt i b e
      exact ⟨e1, Nat.lt_of_lt_of_le e2 hf.size, by omega⟩
    · exact ⟨by omega, Nat.lt_of_lt_of_le e2 (Nat.le_trans hw hf.size), by omega⟩
  · intro ad e i hi
    subst e
    rcases hat with e | e
    · cases A with
      | none => simp at e
      | some ad0 =>
        simp at e
        rw [e] at hi
        rcases hi with hi | ⟨_, h1, _⟩
        · exact h.off _ rfl i hi
        · have := hA _ rfl
          omega
    · simp at e
      rw [e] at hi
      rcases hi with hi | ⟨_, _, h2⟩
      · have := (h.lt i _ hi).2.1
        omega
      · omega
  · rintro i j b hij (e | ⟨rfl, e1, e2⟩) (e' | ⟨rfl, e3, e4⟩)
    · exact h.apart i j b hij e e'
    · have := hqa i b e
      omega
    · have := hqa j b e'
      omega
    · exact hij rfl
  · intro i v t' hv ht'
    by_cases hi : i < k
    · rw [List.getElem?_append_left (by omega)] at hv
      have h1 := (h.kids i v t' hv ht').keep (w' := W') fun b hb => hf.block b (h.lt i b hb).2.1 (by rintro ⟨ad, e, rfl⟩; exact h.off ad e i hb)
      have e : (fun b => q i b ∨ (i = k ∧ a ≤ b ∧ b < w.heap.size)) = q i := by
        funext b
        exact propext ⟨fun hh => hh.elim (fun x => x) (fun x => absurd x.1 (by omega)), .inl⟩
      rw [e]
      exact h1
    · rw [List.getElem?_append_right (by omega)] at hv
      have hi2 : i = k := by
        have := (List.getElem?_eq_some_iff.1 hv).1
        simp at this
        omega
      subst hi2
      rw [hl, Nat.sub_self] at hv
      simp at hv
      subst hv
      rw [ht] at ht'
      injection ht' with ht'
      subst ht'
      have h1 := hx.keep (w' := W') fun b hb => hf.block b (Nat.lt_of_lt_of_le hb.2 hw) (by rintro ⟨ad, e, rfl⟩; have := hA ad e; omega)
      have e : (fun b => q i b ∨ (i = i ∧ a ≤ b ∧ b < w.heap.size)) = (fun b => a ≤ b ∧ b < w.heap.size) := by
        funext b
        exact propext ⟨fun hh => hh.elim (fun x => absurd (h.lt i b x).2.2 (by omega)) (fun x => x.2), fun hh => .inr ⟨rfl, hh⟩⟩
      rw [e]
      exact h1
theorem fr_set6 (w : World) (g : Nat) (v0 v1 v2 v3 v4 v5 : Value) :
    Fr (fun j => j = g) w ((((((w.setCell ⟨g, 0, none⟩ v0).setCell ⟨g, 1, none⟩ v1).setCell ⟨g, 2, none⟩ v2).setCell ⟨g, 3, none⟩ v3).setCell ⟨g, 4, none⟩ v4).setCell ⟨g, 5, none⟩ v5) :=
  ((((((Fr.refl (fun j => j = g) w).setCell (p := ⟨g, 0, none⟩) (fun _ => rfl) v0).setCell (p := ⟨g, 1, none⟩) (fun _ => rfl) v1).setCell (p := ⟨g, 2, none⟩) (fun _ => rfl) v2).setCell (p := ⟨g, 3, none⟩) (fun _ => rfl) v3).setCell (p := ⟨g, 4, none⟩) (fun _ => rfl) v4).setCell (p := ⟨g, 5, none⟩) (fun _ => rfl) v5
def CopW (w : World) (t : Tr) (e : Ending) (w' : World) : Prop :=
  ∃ x : Nv, e = .returned (.agg #[.int .i64 x.k, .int .i64 x.n, .int .u64 (x.u : Int), .string ⟨x.s.toArray⟩, .slice x.A x.an x.ac, .slice x.B x.bn x.bc]) ∧ NodeX w' (fun b => w.heap.size ≤ b ∧ b < w'.heap.size) x t ∧ Below w.heap.size w w'
set_option maxRecDepth 100000 in
set_option maxHeartbeats 4000000 in
theorem copy_spec {w0 : World} {p : Nat → Prop} {x : Nv} {t : Tr} (h : NodeR w0 p x t) : ∀ W, Below w0.heap.size w0 W → Calls Tryz.prog 53 #[.agg #[.int .i64 x.k, .int .i64 x.n, .int .u64 (x.u : Int), .string ⟨x.s.toArray⟩, .slice x.A x.an x.ac, .slice x.B x.bn x.bc]] W (CopW W t) := by
  induction h with
  | @mk x ks l vs h1 ha hac hx h2 hb hbc hy hl hc ih =>
    intro W hW
    have HW := Lib.hid hW
    have HIH := Lib.hid ih
    have HI := Lib.hid (show IsN W x.B x.bn vs from h2.pure hW)
    have HK := Lib.hid (show IsS W x.A x.an ks from h1.pure hW)
    have HVL := Lib.hid hl
    have HBN := Lib.hid (show vs.length = x.bn from h2.1)
    have HB0 := Lib.hid (below_two W (.cells #[.int .i64 x.k, .int .i64 x.n, .int .u64 (x.u : Int), .string ⟨x.s.toArray⟩, .slice x.A x.an x.ac, .slice x.B x.bn x.bc] 26) (.cells #[.int .i64 0, .int .i64 0, .int .u64 0, .string ⟨#[]⟩, .slice none 0 0, .slice none 0 0] 26))
    have HX0 := Lib.hid ((Blk.new W 26 #[.int .i64 x.k, .int .i64 x.n, .int .u64 (x.u : Int), .string ⟨x.s.toArray⟩, .slice x.A x.an x.ac, .slice x.B x.bn x.bc]).alloc (.cells #[.int .i64 0, .int .i64 0, .int .u64 0, .string ⟨#[]⟩, .slice none 0 0, .slice none 0 0] 26))
    have HR0 := Lib.hid (Blk.new_ (w := W.alloc (.cells #[.int .i64 x.k, .int .i64 x.n, .int .u64 (x.u : Int), .string ⟨x.s.toArray⟩, .slice x.A x.an x.ac, .slice x.B x.bn x.bc] 26)) (g := W.heap.size + 1) (by simp) 26 #[.int .i64 0, .int .i64 0, .int .u64 0, .string ⟨#[]⟩, .slice none 0 0, .slice none 0 0])
    have HSZ := Lib.hid (show ((W.alloc (.cells #[.int .i64 x.k, .int .i64 x.n, .int .u64 (x.u : Int), .string ⟨x.s.toArray⟩, .slice x.A x.an x.ac, .slice x.B x.bn x.bc] 26)).alloc (.cells #[.int .i64 0, .int .i64 0, .int .u64 0, .string ⟨#[]⟩, .slice none 0 0, .slice none 0 0] 26)).heap.size = W.heap.size + 2 by simp)
    have hxa : x.an ≤ 1099511627776 := by omega
    have hxb : x.bn ≤ 1099511627776 := by omega
    obtain ⟨xk, xn, xu, xs, XA, xan, xac, XB, xbn, xbc⟩ := x
    have hxa : xan ≤ 1099511627776 := hxa
    have hxb : xbn ≤ 1099511627776 := hxb
    have HBN := Lib.hid (show vs.length = xbn from HBN.out)
    have HKL := Lib.hid (show ks.length = xan from h1.1)
    clear ih h1 ha h2 hb hbc hl hc hW hac hx hy
    go_enter Tryz.func53, Tryz.ntmps53
    go_upto_region 1 with fail
    generalize (W.alloc (.cells #[.int .i64 xk, .int .i64 xn, .int .u64 (xu : Int), .string ⟨xs.toArray⟩, .slice XA xan xac, .slice XB xbn xbc] 26)).alloc (.cells #[.int .i64 0, .int .i64 0, .int .u64 0, .string ⟨#[]⟩, .slice none 0 0, .slice none 0 0] 26) = w1 at HB0 HX0 HR0 HSZ ⊢
    generalize hbt : W.heap.size = bt at HX0 HR0 HSZ ⊢
    generalize hbr : bt + 1 = br at HR0 ⊢
    have HT := Lib.hid (And.intro hbt hbr)
    clear hbt hbr
    have c4 : w1.cell? ⟨bt, 4, none⟩ = some (.slice XA xan xac) := HX0.out.cell 4
    go_wp2_with fail
    go_at_call 89
    refine (clones_spec XA xan xac ks _ (HK.out.pure HB0.out) hxa).mono ?_
    rintro e w2 ⟨A1, n1, c1, rfl, hO1, hB1⟩
    obtain rfl : xan = n1 := by rw [← hO1.1]; exact HKL.out.symm
    have HO1 := Lib.hid hO1
    have HB1 := Lib.hid (pure_below HB0.out hB1)
    have HX1 := Lib.hid (HX0.out.pure hB1)
    have HR1 := Lib.hid (HR0.out.pure hB1)
    have HS1 := Lib.hid (show br < w1.heap.size ∧ w1.heap.size ≤ w2.heap.size from ⟨HR0.out.lt, hB1.size⟩)
    clear c4 hO1 hB1
    have c4 : w2.cell? ⟨bt, 4, none⟩ = some (.slice XA xan xac) := HX1.out.cell 4
    have f4 : w2.frozen? ⟨bt, 4, none⟩ = false := HX1.out.frozen 4
    go_upto_region 2 with fail
    have HF2 := Lib.hid (Fr.setCell (S := fun j => j = bt) (Fr.refl _ w2) (p := ⟨bt, 4, none⟩) (fun _ => rfl) (.slice A1 xan c1))
    have HX2 := Lib.hid (show Blk (w2.setCell ⟨bt, 4, none⟩ (.slice A1 xan c1)) bt 26 #[.int .i64 xk, .int .i64 xn, .int .u64 (xu : Int), .string ⟨xs.toArray⟩, .slice A1 xan c1, .slice XB xbn xbc] from HX1.out.set_ 4 _)
    generalize w2.setCell ⟨bt, 4, none⟩ (.slice A1 xan c1) = w3 at HF2 HX2 ⊢
    have hne : bt ≠ br := by have := HT.out.2; omega
    have HR2 := Lib.hid (HR1.out.fr HF2.out (by omega))
    have HKS := Lib.hid (show IsS w3 A1 xan ks ∧ ∀ ad, A1 = some ad → W.heap.size ≤ ad.block ∧ ad.block < w3.heap.size ∧ ad.block ≠ bt ∧ ad.block ≠ br by
      have hA : ∀ ad, A1 = some ad → w1.heap.size ≤ ad.block ∧ ad.block < w2.heap.size := fun ad e => (HO1.out.addr ad e).2
      have hbt : bt < w1.heap.size := by have h1 := HS1.out.1; have h2 := HT.out.2; omega
      refine ⟨HO1.out.is.fr HF2.out (fun ad e => by have := hA ad e; omega), fun ad e => ?_⟩
      have h3 := hA ad e
      have h4 := HB0.out.size
      have h5 := HF2.out.size
      have h6 := HS1.out.1
      have h7 := HT.out
      omega)
    have HB2 := Lib.hid (below_fr HB1.out HF2.out (by rintro j rfl; exact Nat.le_of_eq HT.out.1))
    have HCAP := Lib.hid (show xan ≤ c1 from HO1.out.cap.1)
    have HS2 := Lib.hid (show br < w3.heap.size by have h1 := HS1.out; have h2 := HF2.out.size; omega)
    clear c4 f4 hne HX1 HR1 HX0 HR0 HF2 HO1 HB0 HB1 HSZ HK
    have c5 : w3.cell? ⟨bt, 5, none⟩ = some (.slice XB xbn xbc) := HX2.out.cell 5
    go_wp2_with fail
    go_loopw [3, 13] (fun s u wr => ∃ k : Nat, k ≤ xbn ∧ u = .int .i64 k ∧ ∃ A c us q, s = .slice A k c ∧ CpR wr w3.heap.size k l A c us q ∧ Below W.heap.size W wr ∧ Blk wr bt 26 #[.int .i64 xk, .int .i64 xn, .int .u64 (xu : Int), .string ⟨xs.toArray⟩, .slice A1 xan c1, .slice XB xbn xbc] ∧ Blk wr br 26 #[.int .i64 0, .int .i64 0, .int .u64 0, .string ⟨#[]⟩, .slice none 0 0, .slice none 0 0] ∧ IsS wr A1 xan ks ∧ w3.heap.size ≤ wr.heap.size) (fun _ u _ => xbn - (intOf u).toNat)
    case atStart => exact ⟨0, Nat.zero_le _, rfl, none, 0, [], fun _ _ => False, rfl, ⟨Own.nil _ _, fun _ _ h => h.elim, fun _ h => (by cases h), fun _ _ _ _ h => h.elim, fun i v t hv _ => by simp at hv⟩, HB2.out, HX2.out, HR2.out, HKS.out.1, Nat.le_refl _⟩
    case round =>
      obtain ⟨k, hk, rfl, A, c, us, q, rfl, hC, hbr, hx, hr, hks, hsz⟩ := hrel
      have HC := Lib.hid hC
      have HBR := Lib.hid hbr
      have HXR := Lib.hid hx
      have HRR := Lib.hid hr
      have HKR := Lib.hid hks
      have HSR := Lib.hid hsz
      clear hC hbr hx hr hks hsz c5
      by_cases hlt : k < xbn
      · obtain ⟨v, hv⟩ : ∃ v, vs[k]? = some v := ⟨_, List.getElem?_eq_getElem (by have := HBN.out; omega)⟩
        obtain ⟨t', ht'⟩ : ∃ t', l[k]? = some t' := ⟨_, List.getElem?_eq_getElem (by have := HBN.out; have := HVL.out; omega)⟩
        have hIr := HI.out.pure HBR.out
        obtain ⟨g, off, e, v0, v1, v2, v3, v4, v5⟩ := isn_at hIr hv
        have hal := (Below.refl wr.heap.size wr).alloc (Nat.le_refl _) (.cells #[.int .i64 v.k, .int .i64 v.n, .int .u64 (v.u : Int), .string ⟨v.s.toArray⟩, .slice v.A v.an v.ac, .slice v.B v.bn v.bc] 26)
        have HCD := Lib.hid (HIH.out k v t' hv ht' (wr.alloc (.cells #[.int .i64 v.k, .int .i64 v.n, .int .u64 (v.u : Int), .string ⟨v.s.toArray⟩, .slice v.A v.an v.ac, .slice v.B v.bn v.bc] 26)) (pure_below HW.out (pure_below HBR.out hal)))
        have HAL := Lib.hid hal
        have HT' := Lib.hid ht'
        have hk0 : (0 : Int) ≤ (k : Int) := by omega
        have hkn : (k : Int) < (xbn : Int) := by omega
        have e : XB = some ⟨g, off, none⟩ := e
        rw [e]
        have HEE := Lib.hid e
        clear hIr hv ht' hal e
        go_wp2_with fail
        go_at_call 53
        refine HCD.out.mono ?_
        rintro e w5 ⟨y, rfl, hX5, hB5⟩
        have hB6 := (Below.refl w5.heap.size w5).alloc (Nat.le_refl _) (.cells #[.int .i64 y.k, .int .i64 y.n, .int .u64 (y.u : Int), .string ⟨y.s.toArray⟩, .slice y.A y.an y.ac, .slice y.B y.bn y.bc] 26)
        have HB56 := Lib.hid (pure_trans (pure_trans HAL.out hB5) hB6)
        have HO6 := Lib.hid (HC.out.own.pure HB56.out)
        have HI6 := Lib.hid (nv_one w5 y)
        have HX5 := Lib.hid hX5
        have HS5 := Lib.hid (show w3.heap.size ≤ (w5.alloc (.cells #[.int .i64 y.k, .int .i64 y.n, .int .u64 (y.u : Int), .string ⟨y.s.toArray⟩, .slice y.A y.an y.ac, .slice y.B y.bn y.bc] 26)).heap.size from Nat.le_trans HSR.out HB56.out.size)
        have HSS := Lib.hid (show (wr.alloc (.cells #[.int .i64 v.k, .int .i64 v.n, .int .u64 (v.u : Int), .string ⟨v.s.toArray⟩, .slice v.A v.an v.ac, .slice v.B v.bn v.bc] 26)).heap.size ≤ w5.heap.size from hB5.size)
        clear hX5 hB5 hB6 v0 v1 v2 v3 v4 v5
        go_wp2_with (at_builtin; refine wpl_app _ rfl (.tmp 17) (.tmp 20) _ rfl 26 _ 6 88 Tryz.underlying24 info_nd rfl (by omega) nvc_len nvc_one _ _ _ _ _ rfl HO6.out _ _ _ _ rfl HI6.out (by omega) HS5.out ?_; intro A2 c2 w6 hown hfr hat)
        have hA6 : ∀ ad, A = some ad → w3.heap.size ≤ ad.block ∧ ad.block < wr.heap.size := fun ad e => (HC.out.own.addr ad e).2
        have hlr : wr.heap.size < (wr.alloc (.cells #[.int .i64 v.k, .int .i64 v.n, .int .u64 (v.u : Int), .string ⟨v.s.toArray⟩, .slice v.A v.an v.ac, .slice v.B v.bn v.bc] 26)).heap.size := by simp
        have hst := (HC.out.pure HB56.out).step (w := w5) (a := (wr.alloc (.cells #[.int .i64 v.k, .int .i64 v.n, .int .u64 (v.u : Int), .string ⟨v.s.toArray⟩, .slice v.A v.an v.ac, .slice v.B v.bn v.bc] 26)).heap.size) HT'.out (by have := HSR.out; omega) (fun i b hb => by have := (HC.out.lt i b hb).2.1; omega) (fun ad e => by have := hA6 ad e; omega)
          (HX5.out.pure (fun b hb => hb.2) ((Below.refl w5.heap.size w5).alloc (Nat.le_refl _) (.cells #[.int .i64 y.k, .int .i64 y.n, .int .u64 (y.u : Int), .string ⟨y.s.toArray⟩, .slice y.A y.an y.ac, .slice y.B y.bn y.bc] 26))) (by simp) hown hfr hat
        have HST := Lib.hid hst
        have hnb : ∀ b, b < w3.heap.size → ¬ (∃ ad, A = some ad ∧ b = ad.block) := by
          rintro b hb ⟨ad, e, rfl⟩
          have := hA6 ad e
          omega
        have HB7 := Lib.hid (below_fr (pure_below HBR.out HB56.out) hfr (by rintro j ⟨ad, e, rfl⟩; have h1 := hA6 ad e; have h2 := HB2.out.size; omega))
        have HX7 := Lib.hid ((HXR.out.pure HB56.out).fr hfr (hnb _ HX2.out.lt))
        have HR7 := Lib.hid ((HRR.out.pure HB56.out).fr hfr (hnb _ HR2.out.lt))
        have HK7 := Lib.hid ((HKR.out.pure HB56.out).fr hfr (fun ad e => hnb _ (HKS.out.2 ad e).2.1))
        have HS7 := Lib.hid (Nat.le_trans HS5.out hfr.size)
        clear hown hfr hat hst hnb hA6 hlr
        go_wp2_with fail
        go_roundw
        case rel => exact ⟨k + 1, by omega, by go_num, A2, c2, _, _, rfl, HST.out, HB7.out, by rw [HEE.out] at *; exact HX7.out, HR7.out, HK7.out, HS7.out⟩
        case measure => simp [intOf]; omega
      · obtain rfl : k = xbn := by omega
        have c5 : wr.cell? ⟨bt, 5, none⟩ = some (.slice XB k xbc) := HXR.out.cell 5
        have f5 : wr.frozen? ⟨bt, 5, none⟩ = false := HXR.out.frozen 5
        go_upto_region 9 with fail
        have HF8 := Lib.hid (Fr.setCell (S := fun j => j = bt) (Fr.refl _ wr) (p := ⟨bt, 5, none⟩) (fun _ => rfl) (.slice A k c))
        have HX8 := Lib.hid (show Blk (wr.setCell ⟨bt, 5, none⟩ (.slice A k c)) bt 26 #[.int .i64 xk, .int .i64 xn, .int .u64 (xu : Int), .string ⟨xs.toArray⟩, .slice A1 xan c1, .slice A k c] from HXR.out.set_ 5 _)
        generalize wr.setCell ⟨bt, 5, none⟩ (.slice A k c) = w8 at HF8 HX8 ⊢
        have HR8 := Lib.hid (HRR.out.fr HF8.out (by have := HT.out.2; omega))
        have HS8 := Lib.hid (show wr.heap.size ≤ w8.heap.size from HF8.out.size)
        have HB8 := Lib.hid (below_fr HBR.out HF8.out (by rintro j rfl; exact Nat.le_of_eq HT.out.1))
        clear c5 f5
        have c0 : w8.cell? ⟨bt, 0, none⟩ = some (.int .i64 xk) := HX8.out.cell 0
        have c1' : w8.cell? ⟨bt, 1, none⟩ = some (.int .i64 xn) := HX8.out.cell 1
        have c2 : w8.cell? ⟨bt, 2, none⟩ = some (.int .u64 (xu : Int)) := HX8.out.cell 2
        have c3 : w8.cell? ⟨bt, 3, none⟩ = some (.string ⟨xs.toArray⟩) := HX8.out.cell 3
        have c4 : w8.cell? ⟨bt, 4, none⟩ = some (.slice A1 xan c1) := HX8.out.cell 4
        have c5 : w8.cell? ⟨bt, 5, none⟩ = some (.slice A k c) := HX8.out.cell 5
        have r0 : w8.cell? ⟨br, 0, none⟩ = some (.int .i64 0) := HR8.out.cell 0
        have r1 : w8.cell? ⟨br, 1, none⟩ = some (.int .i64 0) := HR8.out.cell 1
        have r2 : w8.cell? ⟨br, 2, none⟩ = some (.int .u64 0) := HR8.out.cell 2
        have r3 : w8.cell? ⟨br, 3, none⟩ = some (.string ⟨#[]⟩) := HR8.out.cell 3
        have r4 : w8.cell? ⟨br, 4, none⟩ = some (.slice none 0 0) := HR8.out.cell 4
        have r5 : w8.cell? ⟨br, 5, none⟩ = some (.slice none 0 0) := HR8.out.cell 5
        have hfz : ∀ j, w8.frozen? ⟨br, j, none⟩ = false := fun j => HR8.out.frozen j
        have f0 := hfz 0
        have f1 := hfz 1
        have f2 := hfz 2
        have f3 := hfz 3
        have f4 := hfz 4
        have f5 := hfz 5
        clear hfz
        go_wp2_with fail
        refine bodyPost_ret (v := .agg #[.int .i64 xk, .int .i64 xn, .int .u64 (xu : Int), .string ⟨xs.toArray⟩, .slice A1 xan c1, .slice A k c]) (by simp [results, Tryz.results53, go_sem, r0, r1, r2, r3, r4, r5]) rfl ?_
        have hF9 := fr_set6 w8 br (.int .i64 xk) (.int .i64 xn) (.int .u64 (xu : Int)) (.string ⟨xs.toArray⟩) (.slice A1 xan c1) (.slice A k c)
        generalize (((((w8.setCell ⟨br, 0, none⟩ (.int .i64 xk)).setCell ⟨br, 1, none⟩ (.int .i64 xn)).setCell ⟨br, 2, none⟩ (.int .u64 (xu : Int))).setCell ⟨br, 3, none⟩ (.string ⟨xs.toArray⟩)).setCell ⟨br, 4, none⟩ (.slice A1 xan c1)).setCell ⟨br, 5, none⟩ (.slice A k c) = w9 at hF9 ⊢
        have hC8 := HC.out
        have hS := HKS.out
        have hb1 := HT.out
        have hs1 := HS1.out
        have hs2 := HS2.out
        have hs8 := HF8.out.size
        have hs9 := hF9.size
        have hsr := HSR.out
        have hbw := HB2.out.size
        have hAl : ∀ ad, A = some ad → w3.heap.size ≤ ad.block ∧ ad.block < wr.heap.size := fun ad e => (hC8.own.addr ad e).2
        have hnb : ∀ b, b < wr.heap.size → b ≠ bt → b ≠ br → w9.heap[b]? = wr.heap[b]? := fun b h1 h2 h3 => (hF9.block b (by omega) (by omega)).trans (HF8.out.block b h1 (by omega))
        have hlv : us.length = k := hC8.own.1
        refine ⟨⟨xk, xn, xu, xs, A1, xan, c1, A, k, c⟩, rfl, NodeX.mk (x := ⟨xk, xn, xu, xs, A1, xan, c1, A, k, c⟩) q ⟨HKR.out.1, ?_⟩ (fun ad e => ⟨?_, fun i hi => ?_⟩) HCAP.out hxa (ownt_by (hC8.own.rebase (Nat.zero_le _)) fun ad e => ?_) (fun ad e => ⟨?_, hC8.off ad e⟩) hxb (fun a b ea eb => ?_) (fun i b hb => ?_) hC8.apart (by rw [hlv, ← HBN.out]; exact HVL.out) (fun i v t hv ht => (hC8.kids i v t hv ht).keep fun b hb => ?_), below_fr HB8.out hF9 (by rintro j rfl; omega)⟩
        · exact (HKR.out.2.fr HF8.out (fun ad e => by have := hS.2 ad e; omega)).fr hF9 (fun ad e => by have := hS.2 ad e; omega)
        · have := hS.2 ad e
          omega
        · have := hS.2 ad e
          have := hC8.lt i _ hi
          omega
        · have := hAl ad e
          exact hnb _ (by omega) (by omega) (by omega)
        · have := hAl ad e
          omega
        · have := hS.2 a ea
          have := hAl b eb
          omega
        · have := hC8.lt i b hb
          omega
        · have := hC8.lt i b hb
          exact hnb _ (by omega) (by omega) (by omega)
end Go.Proofs.YtfoifdoaleaekaaGreat

namespace Go.Proofs.YtfoifdoaleaekaaGreat
open Go.RowKit Go.Acc
theorem own_segk {α : Type} {f : α → List Value} {sz : Nat} {e : TypeId} (hf : ∀ x, (f x).length = sz) {w : World} {B g n c : Nat} {l : List α} (h : Go.Acc.Own f sz e w B (some ⟨g, 0, none⟩) n c l) : ∃ cur, Blk w g e cur ∧ n * sz ≤ cur.size ∧
    (∀ (w' : World) (cur' : Array Value) (off k : Nat) (m : List α), Blk w' g e cur' → Seg cur (off * sz) (m.flatMap f) (k * sz) cur' → m.length = k → off + k ≤ n → Go.Acc.Own f sz e w' B (some ⟨g, 0, none⟩) n c (l.take off ++ m ++ l.drop (off + k))) := by
  obtain ⟨hl, h1, h2⟩ := h
  rcases h2 with ⟨hv, _⟩ | ⟨g', cap, cur, hv, hb, hg, hnc, hcm, hcs, htake⟩
  · cases hv
  · injection hv with e1 _ e3
    injection e1 with e1
    injection e1 with e1
    subst e1 e3
    have hns : n * sz ≤ cur.size := by
      rw [hcs]
      exact Nat.mul_le_mul_right sz hnc
    refine ⟨cur, hg, hns, ?_⟩
    intro w' cur' off k m hB hS hm hk
    have hle : off * sz + k * sz ≤ n * sz := by rw [← Nat.add_mul]; exact Nat.mul_le_mul_right sz hk
    refine ⟨by simp; omega, ?_, .inr ⟨g, c, cur', rfl, hb, hB, hnc, hcm, by rw [hS.1]; exact hcs, ?_⟩⟩
    · rw [fm_length hf]; simp; rw [hm, hl]; congr 1; omega
    · rw [hS.take (by rw [fm_length hf, hm]) hle hns, htake, List.flatMap_append, List.flatMap_append, fm_take hf, fm_drop hf, Nat.add_mul]
theorem seg_six (cur : Array Value) (i : Nat) (x : Nv) (h : i + 6 ≤ cur.size) : Seg cur i (nvc x) 6 ((((((cur.setIfInBounds i (.int .i64 x.k)).setIfInBounds (i + 1) (.int .i64 x.n)).setIfInBounds (i + 2) (.int .u64 (x.u : Int))).setIfInBounds (i + 3) (.string ⟨x.s.toArray⟩)).setIfInBounds (i + 4) (.slice x.A x.an x.ac)).setIfInBounds (i + 5) (.slice x.B x.bn x.bc)) := by
  refine ⟨by simp, fun j => ?_⟩
  by_cases hj : i ≤ j ∧ j < i + 6
  · rw [if_pos hj]
    have hc : j = i ∨ j = i + 1 ∨ j = i + 2 ∨ j = i + 3 ∨ j = i + 4 ∨ j = i + 5 := by omega
    rcases hc with rfl | rfl | rfl | rfl | rfl | rfl
    · simp [Array.getElem?_setIfInBounds, nvc]; omega
    · simp [Array.getElem?_setIfInBounds, nvc]; omega
    · simp [Array.getElem?_setIfInBounds, nvc]; omega
    · simp [Array.getElem?_setIfInBounds, nvc]; omega
    · simp [Array.getElem?_setIfInBounds, nvc]; omega
    · simp [Array.getElem?_setIfInBounds, nvc]; omega
  · rw [if_neg hj]
    simp only [Array.getElem?_setIfInBounds]
    rw [if_neg (by omega), if_neg (by omega), if_neg (by omega), if_neg (by omega), if_neg (by omega), if_neg (by omega)]
theorem own_store6 {w : World} {B g n c i : Nat} {l : List Nv} (h : OwnT w B (some ⟨g, 0, none⟩) n c l) (hi : i < n) (x : Nv) :
    (∀ j, j < 6 → ∃ u, w.cell? ⟨g, i * 6 + j, none⟩ = some u) ∧ (∀ j, w.frozen? ⟨g, j, none⟩ = false) ∧ OwnT (((((((w).setCell ⟨g, i * 6, none⟩ (.int .i64 (x).k)).setCell ⟨g, i * 6 + 1, none⟩ (.int .i64 (x).n)).setCell ⟨g, i * 6 + 2, none⟩ (.int .u64 ((x).u : Int))).setCell ⟨g, i * 6 + 3, none⟩ (.string ⟨(x).s.toArray⟩)).setCell ⟨g, i * 6 + 4, none⟩ (.slice (x).A (x).an (x).ac)).setCell ⟨g, i * 6 + 5, none⟩ (.slice (x).B (x).bn (x).bc)) B (some ⟨g, 0, none⟩) n c (l.set i x) := by
  obtain ⟨cur, hK, hsz, hback⟩ := own_segk nvc_len h
  refine ⟨fun j hj => ⟨cur[i * 6 + j]'(by omega), by rw [hK.cell, Array.getElem?_eq_getElem (by omega)]⟩, fun j => hK.frozen j, ?_⟩
  have hb := hback _ _ i 1 [x] ((((((hK.set_ (i * 6) (.int .i64 x.k)).set_ (i * 6 + 1) (.int .i64 x.n)).set_ (i * 6 + 2) (.int .u64 (x.u : Int))).set_ (i * 6 + 3) (.string ⟨x.s.toArray⟩)).set_ (i * 6 + 4) (.slice x.A x.an x.ac)).set_ (i * 6 + 5) (.slice x.B x.bn x.bc)) (by simpa using seg_six cur (i * 6) x (by omega)) rfl (by omega)
  have hl : l.length = n := h.1
  have e : l.take i ++ [x] ++ l.drop (i + 1) = l.set i x := by
    rw [List.set_eq_take_append_cons_drop, if_pos (by omega)]
    simp
  rw [e] at hb
  exact hb
theorem fr_at6 (w : World) (g o : Nat) (x : Nv) : Fr (fun j => j = g) w (((((((w).setCell ⟨g, o, none⟩ (.int .i64 (x).k)).setCell ⟨g, o + 1, none⟩ (.int .i64 (x).n)).setCell ⟨g, o + 2, none⟩ (.int .u64 ((x).u : Int))).setCell ⟨g, o + 3, none⟩ (.string ⟨(x).s.toArray⟩)).setCell ⟨g, o + 4, none⟩ (.slice (x).A (x).an (x).ac)).setCell ⟨g, o + 5, none⟩ (.slice (x).B (x).bn (x).bc)) :=
  ((((((Fr.refl (fun j => j = g) w).setCell (p := ⟨g, o, none⟩) (fun _ => rfl) _).setCell (p := ⟨g, o + 1, none⟩) (fun _ => rfl) _).setCell (p := ⟨g, o + 2, none⟩) (fun _ => rfl) _).setCell (p := ⟨g, o + 3, none⟩) (fun _ => rfl) _).setCell (p := ⟨g, o + 4, none⟩) (fun _ => rfl) _).setCell (p := ⟨g, o + 5, none⟩) (fun _ => rfl) _
structure SrR (W0 wr : World) (q : Nat → Nat → Prop) (A : Option Addr) (n c k : Nat) (vs : List Nv) (ts : List Tr) (us : List Nv) : Prop where
  own : OwnT wr 0 A n c us
  rest : ∀ i, k ≤ i → us[i]? = vs[i]?
  done : ∀ (i : Nat) v t, i < k → us[i]? = some v → ts[i]? = some t → NodeR wr (fun b => q i b ∨ (W0.heap.size ≤ b ∧ b < wr.heap.size)) v (sortT t)
  fr : Fr (fun b => (∃ i, q i b) ∨ ∃ ad, A = some ad ∧ b = ad.block) W0 wr
  same : ∀ i b, k ≤ i → q i b → wr.heap[b]? = W0.heap[b]?
theorem SrR.step {W0 wr W5 W6 : World} {q : Nat → Nat → Prop} {g n c k : Nat} {vs : List Nv} {ts : List Tr} {us : List Nv} {y : Nv} {t : Tr} (h : SrR W0 wr q (some ⟨g, 0, none⟩) n c k vs ts us) (hk : k < n) (ht : ts[k]? = some t)
    (hq : ∀ i b, q i b → b < W0.heap.size ∧ b ≠ g) (hg : g < W0.heap.size) (hd : ∀ i j b, i ≠ j → q i b → ¬ q j b) (hb : Below wr.heap.size wr W5)
    (hy : NodeR W6 (fun b => q k b ∨ (W5.heap.size ≤ b ∧ b < W6.heap.size)) y (sortT t)) (hf : Fr (q k) W5 W6) :
    SrR W0 (((((((W6).setCell ⟨g, k * 6, none⟩ (.int .i64 (y).k)).setCell ⟨g, k * 6 + 1, none⟩ (.int .i64 (y).n)).setCell ⟨g, k * 6 + 2, none⟩ (.int .u64 ((y).u : Int))).setCell ⟨g, k * 6 + 3, none⟩ (.string ⟨(y).s.toArray⟩)).setCell ⟨g, k * 6 + 4, none⟩ (.slice (y).A (y).an (y).ac)).setCell ⟨g, k * 6 + 5, none⟩ (.slice (y).B (y).bn (y).bc)) q (some ⟨g, 0, none⟩) n c (k + 1) vs ts (us.set k y) := by
  have hs : W0.heap.size ≤ wr.heap.size := h.fr.size
  have hs5 := hb.size
  have hs6 := hf.size
  have hO6 : OwnT W6 0 (some ⟨g, 0, none⟩) n c us := (h.own.pure hb).fr hf (fun ad e => by injection e with e; subst e; intro hh; exact (hq k g hh).2 rfl)
  have hF7 := fr_at6 W6 g (k * 6) y
  have hO7 := (own_store6 hO6 hk y).2.2
  have hl : us.length = n := h.own.1
  clear hO6
  generalize (((((((W6).setCell ⟨g, k * 6, none⟩ (.int .i64 (y).k)).setCell ⟨g, k * 6 + 1, none⟩ (.int .i64 (y).n)).setCell ⟨g, k * 6 + 2, none⟩ (.int .u64 ((y).u : Int))).setCell ⟨g, k * 6 + 3, none⟩ (.string ⟨(y).s.toArray⟩)).setCell ⟨g, k * 6 + 4, none⟩ (.slice (y).A (y).an (y).ac)).setCell ⟨g, k * 6 + 5, none⟩ (.slice (y).B (y).bn (y).bc)) = W7 at hF7 hO7 ⊢
  refine ⟨hO7, fun i hi => ?_, fun i v t' hi hv ht' => ?_, ?_, fun i b hi hqi => ?_⟩
  · rw [List.getElem?_set_ne (by omega)]
    exact h.rest i (by omega)
  · by_cases e : i = k
    · subst e
      rw [List.getElem?_set_self (by omega)] at hv
      injection hv with hv
      subst hv
      rw [ht] at ht'
      injection ht' with ht'
      subst ht'
      refine (hy.keep fun a u hc hp => cell_fr hF7 hc ?_).mono fun b hb => ?_
      · rcases hp with hp | hp
        · exact (hq _ _ hp).2
        · omega
      · have := hF7.size
        rcases hb with hb | hb
        · exact .inl hb
        · exact .inr ⟨by omega, by omega⟩
    · rw [List.getElem?_set_ne (by omega)] at hv
      refine ((h.done i v t' (by omega) hv ht').keep fun a u hc hp => cell_fr hF7 (cell_fr hf (cell_pure hb hc) ?_) ?_).mono fun b hb => ?_
      · intro hqk
        rcases hp with hp | hp
        · exact hd i k _ e hp hqk
        · have := (hq _ _ hqk).1
          omega
      · rcases hp with hp | hp
        · exact (hq _ _ hp).2
        · omega
      · have := hF7.size
        rcases hb with hb | hb
        · exact .inl hb
        · exact .inr ⟨hb.1, by omega⟩
  · refine ((h.fr.trans (Fr.of_below hb (fun _ => False)) (fun _ _ h => h.elim)).trans hf (fun i _ hh => .inl ⟨k, hh⟩)).trans hF7 (fun i _ hh => .inr ⟨_, rfl, hh⟩)
  · obtain ⟨h1, h2⟩ := hq i b hqi
    rw [hF7.block b (by omega) h2, hf.block b (by omega) (fun hk => hd i k b (by omega) hqi hk), hb.block b (by omega)]
    exact h.same i b (by omega) hqi
theorem cell_set6 {w : World} {a : Addr} {u : Value} {g o : Nat} {x : Nv} (h : w.cell? a = some u) (hne : a.block ≠ g) : World.cell? (((((((w).setCell ⟨g, o, none⟩ (.int .i64 (x).k)).setCell ⟨g, o + 1, none⟩ (.int .i64 (x).n)).setCell ⟨g, o + 2, none⟩ (.int .u64 ((x).u : Int))).setCell ⟨g, o + 3, none⟩ (.string ⟨(x).s.toArray⟩)).setCell ⟨g, o + 4, none⟩ (.slice (x).A (x).an (x).ac)).setCell ⟨g, o + 5, none⟩ (.slice (x).B (x).bn (x).bc)) a = some u := cell_fr (fr_at6 w g o x) h hne
def SrtW (w : World) (p : Nat → Prop) (t : Tr) (e : Ending) (w' : World) : Prop :=
  ∃ x : Nv, e = .returned (.agg #[.int .i64 x.k, .int .i64 x.n, .int .u64 (x.u : Int), .string ⟨x.s.toArray⟩, .slice x.A x.an x.ac, .slice x.B x.bn x.bc]) ∧ NodeR w' (fun b => p b ∨ (w.heap.size ≤ b ∧ b < w'.heap.size)) x (sortT t) ∧ Fr p w w'
end Go.Proofs.YtfoifdoaleaekaaGreat
