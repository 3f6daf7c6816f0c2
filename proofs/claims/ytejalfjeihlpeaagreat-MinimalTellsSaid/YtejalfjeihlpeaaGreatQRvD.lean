/-
  Package accordionref28: data visited before are found, new ones recorded.
-/
import Derived.Test.YtejalfjeihlpeaaGreatQRvB
namespace Go.Proofs.YtejalfjeihlpeaaGreat
open Go.RowKit Go.Acc
theorem eql_refh (a b c a' b' c' : Int) (q : Bool) (h : decide ((a', b', c') = (a, b, c)) = q) : ∀ W : World, (binOp .eql 48 (.agg #[.int .i64 a', .int .i64 0, .int .i64 b', .int .i64 c']) (.agg #[.int .i64 a, .int .i64 0, .int .i64 b, .int .i64 c])).run Tryz.prog W = .ok (.bool q) W := by
  intro W
  subst h
  by_cases h1 : a' = a <;> by_cases h2 : b' = b <;> by_cases h3 : c' = c <;> go_simp
theorem ish_at {w : World} {A : Option Addr} {n k : Nat} {L : List P3} (h : IsH w A n L) (hk : k < n) : ∃ b off, A = some ⟨b, off, none⟩ ∧ ∀ x y z, L[k]? = some (x, y, z) → w.cell? ⟨b, off + k * 4, none⟩ = some (.int .i64 x) ∧ w.cell? ⟨b, off + k * 4 + 1, none⟩ = some (.int .i64 0) ∧ w.cell? ⟨b, off + k * 4 + 2, none⟩ = some (.int .i64 y) ∧ w.cell? ⟨b, off + k * 4 + 3, none⟩ = some (.int .i64 z) := by
  obtain ⟨b, off, e1, hk', h1⟩ := h.at_ hcl_len (by omega) hk
  refine ⟨b, off, e1, fun x y z hx => ?_⟩
  rw [List.getElem?_eq_getElem hk'] at hx
  injection hx with hx
  rw [hx] at h1
  exact ⟨h1 0 (by omega), h1 1 (by omega), h1 2 (by omega), h1 3 (by omega)⟩
theorem own_open_blk {α : Type} {f : α → List Value} {sz : Nat} {e : TypeId} {w : World} {B n c : Nat} {A : Option Addr} {l : List α} {ad : Addr} (h : Go.Acc.Own f sz e w B A n c l) (hA : A = some ad) : ∃ cur, Blk w ad.block e cur := by
  subst hA
  rcases h.2.2 with ⟨hv, _⟩ | ⟨g', cap, cur, hv, hb, hg, _⟩
  · cases hv
  · injection hv with h1
    injection h1 with h1
    subst h1
    exact ⟨cur, hg⟩
theorem step_appH {ops : Array Oper} {o : Oper} {a : Act} {w : World} {K : Act → World → Prop} {Q : Exit → Act → World → Prop} {E : Prop} (hgd : o.guard = none) (s x : Operand)
    (ho : o.op = .call { callee := .builtin .append, args := #[s, x], argTypes := #[63, 63] })
    (B : Nat) (A : Option Addr) (n c : Nat) (l : List P3) (hs : a.eval s = .slice A n c) (hown : OwnH w B A n c l)
    (A2 : Option Addr) (m d : Nat) (l2 : List P3) (hx : a.eval x = .slice A2 m d) (hr : IsH w A2 m l2)
    (hbytes : n + m ≤ 1099511627776) (hbase : B ≤ w.heap.size)
    (h : ∀ A' c' w', OwnH w' B A' (n + m) c' (l ++ l2) → Fr (fun k => ∃ ad, A = some ad ∧ k = ad.block) w w' → (A'.map (·.block) = A.map (·.block) ∨ A'.map (·.block) = some w.heap.size) → K (a.put o.dst (.slice A' (n + m) c')) w') :
    if Region.wanted o (yielded ops a.tmps) = true then Oper.wp Tryz.prog o a w K Q else E := by
  have hw : Region.wanted o (yielded ops a.tmps) = true := by simp [Region.wanted, hgd]
  rw [if_pos hw]
  obtain ⟨i, hi', hz, hsize, hby⟩ := info_parts info_h
  have e2 : n + m ≤ maxLen := by simp only [maxLen]; omega
  obtain ⟨v', w', hrun, h2, h3, h4⟩ := run_append_rd (P := Tryz.prog) w B 63 o.type 48 i _ 4 32 Tryz.underlying63 hi' hz hsize hby rfl (by omega) (.slice A n c) n (l.flatMap hcl) hown.2 A2 m d (l2.flatMap hcl) (by rw [fm_length hcl_len, hr.1]) hr.2 (fm_one hcl_one l2) e2 (by omega) hbase
  obtain ⟨A', c', rfl, ho'⟩ := Own.mk hcl_len (by omega) (l := l ++ l2) h2 List.flatMap_append.symm
  have hk := h A' c' w' ho' ((Fr.of_grown h3).mono fun i _ hi => by
    cases A with
    | none => simp [Value.ownBlock] at hi
    | some ad => simp [Value.ownBlock] at hi; exact ⟨ad, rfl, hi⟩) (by cases A <;> cases A' <;> simp only [Value.ownBlock, Option.map] at h4 ⊢ <;> exact h4)
  clear h ho' h2 h3 h4
  unfold Oper.wp
  simp only [execOp, ho, resolve, invoke, builtin, Sem.run_bind, Sem.run_pure, Result.andThen_ok, List.map_toArray, List.map_cons, List.map_nil, hs, hx, hrun]
  exact hk
theorem rsee_done {E : RvE} {g0 g : Rows2} {s : CvS} {x : P3} {w wv w4 : World} {A4 Ah : Option Addr} {n4 c4 nh ch nl cl : Nat} {Al : Option Addr}
    (h : RvW E g s wv) (ht : RvTo E g0 g w wv) (h1 : Blk wv E.bw 65 #[.slice E.A E.n E.c, .int .i64 s.left, .slice Ah nh ch, .slice Al nl cl]) (h2 : OwnH wv E.B2 Ah nh ch s.had) (h3 : OwnP wv E.B2 Al nl cl (cvSort s.out)) (h4 : Ah.map (·.block) = g.1) (h5 : Al.map (·.block) = g.2)
    (hf : Fr (fun k => ∃ ad, Ah = some ad ∧ k = ad.block) wv w4) (hat : A4.map (·.block) = Ah.map (·.block) ∨ ∃ k, A4.map (·.block) = some k ∧ wv.heap.size ≤ k) (ho : OwnH w4 E.B2 A4 n4 c4 (s.had ++ [x])) :
    RvDone E g0 (s.see x) w (w4.setCell ⟨E.bw, 2, none⟩ (.slice A4 n4 c4)) := by
  have ok := h.ok
  have hsz := h.sz
  have hw2 := ok.w2
  have hw0 := ok.w0
  have hf4 : Fr (fun k => k = E.bw) w4 (w4.setCell ⟨E.bw, 2, none⟩ (.slice A4 n4 c4)) := Fr.setCell (S := fun k => k = E.bw) (Fr.refl _ _) (fun _ => rfl) _
  have hA : ∀ ad, Ah = some ad → E.B2 ≤ ad.block := fun ad had => (h2.addr ad had).2.1
  have hA4 : ∀ ad, A4 = some ad → E.B2 ≤ ad.block := fun ad had => (ho.addr ad had).2.1
  have hlow : ∀ k, k < E.B2 → ¬ ∃ ad, Ah = some ad ∧ k = ad.block := by
    rintro k hk ⟨ad, e, rfl⟩
    have := hA ad e
    omega
  have hne : ∀ ad bd, Al = some ad → Ah = some bd → ad.block ≠ bd.block := by
    intro ad bd e1 e2 e3
    have hb1 := own_open_blk h3 e1
    have hb2 := own_open_blk h2 e2
    rw [e3] at hb1
    obtain ⟨c1, k1⟩ := hb1
    obtain ⟨c2, k2⟩ := hb2
    exact Blk.ne_ k1 k2 (by decide) rfl
  refine ⟨(A4.map (·.block), g.2), ⟨ok, ?_, ⟨A4, n4, c4, Al, nl, cl, ?_, ?_, ?_, rfl, h5⟩, ?_⟩, ht.trans ⟨?_, ?_⟩⟩
  · refine (h.b.fr hf (fun ad had => hlow _ ?_)).fr hf4 (fun ad had e => ?_)
    · have := ok.hA ad had; omega
    · have := ok.hA ad had
      have e : ad.block = E.bw := e
      omega
  · exact (h1.fr hf (hlow _ hw2)).set_ 2 _
  · refine ho.fr hf4 (fun ad had e => ?_)
    have h8 := hA4 ad had
    have e : ad.block = E.bw := e
    omega
  · refine (h3.fr hf (fun ad had e => ?_)).fr hf4 (fun ad had e => ?_)
    · obtain ⟨bd, e1, e2⟩ := e
      exact hne ad bd had e1 e2
    · have h8 := (h3.addr ad had).2.1
      have e : ad.block = E.bw := e
      omega
  · exact Nat.le_trans hsz (Nat.le_trans hf.size hf4.size)
  · refine (hf.mono (T := fun k => ¬ E.Free g k) ?_).trans hf4 (fun k _ e hF => hF.1 e)
    rintro k _ ⟨ad, e, rfl⟩ hF
    apply hF.2.1
    rw [← h4, e]
    rfl
  · intro k hk hF
    refine ⟨hF.1, fun e => ?_, hF.2.2⟩
    rcases hat with h8 | ⟨j, h8, h9⟩
    · have e : A4.map (·.block) = some k := e
      rw [h8, h4] at e
      exact hF.2.1 e
    · have e : A4.map (·.block) = some k := e
      rw [h8] at e
      injection e with e
      omega
set_option maxRecDepth 100000 in
set_option maxHeartbeats 2000000 in
theorem rwas_is (E : RvE) (g : Rows2) (s : CvS) (s' : CvS) (r0 : Bool) (p q t v a : Int) (w : World) (h : RvW E g s w) (hs : s.had.length ≤ 1073741824) (hr0 : decide ((a, t, v) ∈ s.had) = r0) (hs' : (if (a, t, v) ∈ s.had then s else s.see (a, t, v)) = s') :
    Calls Tryz.prog 66 #[.pointer (some ⟨E.bw, 0, none⟩), .agg #[.int .i64 p, .int .i64 q, .int .i64 t, .int .i64 v], .int .i64 a] w fun e w' => e = .returned (.bool r0) ∧ RvDone E g s' w w' := by
  have HY := Lib.hid (Blk.new w 48 #[.int .i64 p, .int .i64 q, .int .i64 t, .int .i64 v])
  have HW := Lib.hid ((h.alloc (.cells #[.int .i64 p, .int .i64 q, .int .i64 t, .int .i64 v] 48)).alloc (.cells #[.int .i64 a, .int .i64 0, .int .i64 t, .int .i64 v] 48))
  have HX := Lib.hid (show RLone E g ((w.alloc (.cells #[.int .i64 p, .int .i64 q, .int .i64 t, .int .i64 v] 48)).alloc (.cells #[.int .i64 a, .int .i64 0, .int .i64 t, .int .i64 v] 48)) (w.heap.size + 1) 48 #[.int .i64 a, .int .i64 0, .int .i64 t, .int .i64 v] from by
    have := (h.alloc (.cells #[.int .i64 p, .int .i64 q, .int .i64 t, .int .i64 v] 48)).lone 48 #[.int .i64 a, .int .i64 0, .int .i64 t, .int .i64 v]
    simpa using this)
  have HT := Lib.hid (((RvTo.refl E g w).alloc (.cells #[.int .i64 p, .int .i64 q, .int .i64 t, .int .i64 v] 48)).alloc (.cells #[.int .i64 a, .int .i64 0, .int .i64 t, .int .i64 v] 48))
  have y2 : (w.alloc (.cells #[.int .i64 p, .int .i64 q, .int .i64 t, .int .i64 v] 48)).cell? ⟨w.heap.size, 2, none⟩ = some (.int .i64 t) := HY.out.cell 2
  have y3 : (w.alloc (.cells #[.int .i64 p, .int .i64 q, .int .i64 t, .int .i64 v] 48)).cell? ⟨w.heap.size, 3, none⟩ = some (.int .i64 v) := HY.out.cell 3
  obtain ⟨L, hL⟩ : ∃ L, s.had = L := ⟨_, rfl⟩
  obtain ⟨Ah, nh, ch, Al, nl, cl, h1, h2, h3, h4, h5⟩ := HW.out.R
  rw [hL] at h2 hs
  have HBk := Lib.hid h1
  have HH := Lib.hid h2
  have HL := Lib.hid h3
  have HG := Lib.hid (And.intro h4 h5)
  have hnl : L.length = nh := h2.1
  have HLE := Lib.hid hL
  have HR0 := Lib.hid hr0
  have HSS := Lib.hid hs'
  have HLN := Lib.hid hnl
  have hnb : nh ≤ 1073741824 := by omega
  clear h h1 h2 h3 h4 h5 hL hnl hr0 hs'
  go_enter Tryz.func66, Tryz.ntmps66
  go_upto_region 2 with fail
  generalize (w.alloc (.cells #[.int .i64 p, .int .i64 q, .int .i64 t, .int .i64 v] 48)).alloc (.cells #[.int .i64 a, .int .i64 0, .int .i64 t, .int .i64 v] 48) = w1 at HW HX HT HBk HH HL ⊢
  generalize w.heap.size + 1 = bx at HX ⊢
  clear y2 y3 HY
  go_wp2_with fail
  go_loopw [8] (fun i wr => ∃ k : Nat, k ≤ nh ∧ i = .int .i64 k ∧ Below w1.heap.size w1 wr ∧ ∀ j y, j < k → L[j]? = some y → y ≠ (a, t, v)) (fun i _ => nh - (intOf i).toNat)
  case atStart => exact ⟨0, by omega, rfl, Below.refl _ _, fun j y hj => absurd hj (Nat.not_lt_zero _)⟩
  case round =>
    obtain ⟨k, hk, rfl, hb, hall⟩ := hrel
    replace HW := Lib.hid (HW.out.pure hb)
    replace HX := Lib.hid (HX.out.pure hb)
    replace HT := Lib.hid (HT.out.below hb)
    replace HBk := Lib.hid (HBk.out.pure hb)
    replace HH := Lib.hid (HH.out.pure hb)
    replace HL := Lib.hid (HL.out.pure hb)
    have HB := Lib.hid hb
    have HALL := Lib.hid hall
    clear hb hall
    by_cases hkn : k < nh
    · obtain ⟨b2, o2, e2, h2⟩ := ish_at HH.out.is hkn
      subst e2
      obtain ⟨⟨x, y, z⟩, hx⟩ : ∃ x, L[k]? = some x := ⟨_, List.getElem?_eq_getElem (by rw [HLN.out]; exact hkn)⟩
      obtain ⟨a0, a1, a2, a3⟩ := h2 x y z hx
      obtain ⟨r, hr⟩ : ∃ q, decide ((x, y, z) = (a, t, v)) = q := ⟨_, rfl⟩
      have heq := eql_refh a t v x y z r hr
      have HQ := Lib.hid hr
      have HXX := Lib.hid hx
      have hk0 : (0 : Int) ≤ k := by omega
      have hkI : (k : Int) < nh := by omega
      have hwk : IntKind.i64.wrap ((k : Int) + 1) = (k : Int) + 1 := IntWalk.i64_in _ (by omega)
      have c2 : _ = some (Value.slice (some ⟨b2, o2, none⟩) nh ch) := HBk.out.cell 2
      have x0 : _ = some (Value.int .i64 a) := HX.out.1.cell 0
      have x1 : _ = some (Value.int .i64 0) := HX.out.1.cell 1
      have x2 : _ = some (Value.int .i64 t) := HX.out.1.cell 2
      have x3 : _ = some (Value.int .i64 v) := HX.out.1.cell 3
      clear h2 hx hr
      obtain ⟨wz, rfl⟩ : ∃ wo : World, wo = wr := ⟨_, rfl⟩
      go_wp2_with fail
      go_quiet (fail)
      cases r with
      | true =>
        have hmem : (a, t, v) ∈ s.had := by
          rw [HLE.out, ← of_decide_eq_true HQ.out]
          exact List.mem_of_getElem? HXX.out
        have HM := Lib.hid hmem
        have HD := Lib.hid (below_drewN (Below.refl wz.heap.size wz) nq)
        clear hmem
        go_wp2_with fail
        go_ret
        obtain rfl : r0 = true := by rw [← HR0.out]; exact decide_eq_true HM.out
        rw [← HSS.out, if_pos HM.out]
        exact ⟨rfl, g, HW.out.pure HD.out, HT.out.below HD.out⟩
      | false =>
        clear c2 x0 x1 x2 x3 a0 a1 a2 a3
        go_wp2_with fail
        go_roundw
        case rel =>
          refine ⟨k + 1, by omega, by go_num, below_drewN HB.out _, fun j y' hj hy => ?_⟩
          by_cases e : j = k
          · subst e
            rw [HXX.out] at hy
            injection hy with hy
            subst hy
            exact of_decide_eq_false HQ.out
          · exact HALL.out j y' (by omega) hy
        case measure => simp [intOf]; omega
    · have hkk : k = nh := by omega
      have hno : (a, t, v) ∉ s.had := by
        rw [HLE.out]
        intro hm
        obtain ⟨j, hj, e⟩ := List.mem_iff_getElem.1 hm
        have := HLN.out
        exact HALL.out j _ (by omega) (by rw [List.getElem?_eq_getElem hj, e]) rfl
      have hg0 : decide (k < nh) = false := decide_eq_false (by omega)
      have HNO := Lib.hid hno
      clear hno hkn HB HALL
      have c2 : _ = some (Value.slice Ah nh ch) := HBk.out.cell 2
      have x0 : _ = some (Value.int .i64 a) := HX.out.1.cell 0
      have x1 : _ = some (Value.int .i64 0) := HX.out.1.cell 1
      have x2 : _ = some (Value.int .i64 t) := HX.out.1.cell 2
      have x3 : _ = some (Value.int .i64 v) := HX.out.1.cell 3
      obtain ⟨wu, rfl⟩ : ∃ wo : World, wo = wr := ⟨_, rfl⟩
      go_wp2_with fail
      have HBD := Lib.hid (below_drew wu)
      have HO1 := Lib.hid ((HH.out.pure HBD.out).pure ((Below.refl _ _).alloc (Nat.le_refl _) (.cells #[.int .i64 a, .int .i64 0, .int .i64 t, .int .i64 v] 48)))
      have HN1 := Lib.hid (show IsH (wu.drew.alloc (.cells #[.int .i64 a, .int .i64 0, .int .i64 t, .int .i64 v] 48)) (some ⟨wu.drew.heap.size, 0, none⟩) 1 [(a, t, v)] from ⟨rfl, fun j u hu => ⟨_, _, rfl, by
        rw [Nat.zero_add, (Blk.new wu.drew _ _).cell j]
        simpa [hcl] using hu⟩⟩)
      have HB1 := Lib.hid (HBD.out.alloc HBD.out.size (.cells #[.int .i64 a, .int .i64 0, .int .i64 t, .int .i64 v] 48))
      have k2 := fun o => lalloc o c2
      have hnw : ¬ ∃ ad, Ah = some ad ∧ E.bw = ad.block := by
        rintro ⟨ad, e, e2⟩
        have := (HH.out.addr ad e).2.1
        have := HW.out.ok.w2
        omega
      have HNW := Lib.hid hnw
      clear hnw
      go_region_law (first
        | (refine step_appH rfl (.tmp 37) (.tmp 39) rfl E.B2 Ah nh ch L rfl HO1.out (some ⟨wu.heap.size, 0, none⟩) 1 1 [(a, t, v)] rfl HN1.out (by omega) (Nat.le_trans HW.out.sz HB1.out.size) ?_; intro A3 c3' w3 hown hfr hat; have HP3 := Lib.hid hown; have HF3 := Lib.hid hfr; have HAT := Lib.hid hat; have HBK3 := Lib.hid ((HBk.out.pure HB1.out).fr hfr HNW.out); have c2_3 : _ = some (Value.slice Ah nh ch) := HBK3.out.cell 2; have f2_3 := HBK3.out.frozen 2; clear hown hfr hat))
      all_goals
        go_wp2_with fail
        go_ret
        obtain rfl : r0 = false := by rw [← HR0.out]; exact decide_eq_false HNO.out
        rw [← HSS.out, if_neg HNO.out]
        refine ⟨rfl, rsee_done (HW.out.pure HB1.out) (HT.out.below HB1.out) (HBk.out.pure HB1.out) (HLE.out ▸ HH.out.pure HB1.out) (HL.out.pure HB1.out) HG.out.1 HG.out.2 HF3.out ?_ (HLE.out ▸ HP3.out)⟩
        rcases HAT.out with h | h
        · exact .inl h
        · exact .inr ⟨_, h, Nat.le_refl _⟩
end Go.Proofs.YtejalfjeihlpeaaGreat
