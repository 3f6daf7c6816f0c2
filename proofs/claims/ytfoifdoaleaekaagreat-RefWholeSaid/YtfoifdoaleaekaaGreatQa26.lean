/-
  Package pool: the place of a string.
  Rows of one-cell elements: append and copy as steps of a region.
  Package pool: a string is laid in: the two rows, what the appends leave.
-/
import Derived.Test.YtfoifdoaleaekaaGreatQa09
import Derived.Deep.RegionLaw
import Derived.Laws.CopyOwn
namespace Go.Proofs.YtfoifdoaleaekaaGreat
open Go.RowKit Go.Acc
theorem kless_spec (s k : List UInt8) (r : Bool) (w : World) (hr : Op.bytesLess s k = r) : Calls Tryz.prog 67 #[.string ⟨s.toArray⟩, .string ⟨k.toArray⟩] w fun e w' => e = .returned (.bool r) ∧ w = w' := by
  have hr' : Op.bytesLess (⟨s.toArray⟩ : ByteArray).data.toList (⟨k.toArray⟩ : ByteArray).data.toList = r := hr
  clear hr
  go_enter Tryz.func67, Tryz.ntmps67
  go_wp2
  go_ret
  exact ⟨by simp, rfl⟩
theorem kl_trans : ∀ (x y z : List UInt8), Op.bytesLess x y = true → Op.bytesLess y z = true → Op.bytesLess x z = true
  | [], [], _, h, _ => by cases h
  | [], _ :: _, [], _, h => by cases h
  | [], _ :: _, _ :: _, _, _ => rfl
  | _ :: _, [], _, h, _ => by cases h
  | _ :: _, _ :: _, [], _, h => by cases h
  | a :: x, b :: y, c :: z, h1, h2 => by
    have g1 : (decide (a < b) || (a == b && Op.bytesLess x y)) = true := h1
    have g2 : (decide (b < c) || (b == c && Op.bytesLess y z)) = true := h2
    show (decide (a < c) || (a == c && Op.bytesLess x z)) = true
    rw [Bool.or_eq_true, Bool.and_eq_true, decide_eq_true_eq, beq_iff_eq] at g1 g2 ⊢
    rcases g1 with k1 | ⟨e1, k1⟩
    · rcases g2 with k2 | ⟨e2, k2⟩
      · exact .inl (UInt8.lt_trans k1 k2)
      · exact .inl (by rw [← e2]; exact k1)
    · rcases g2 with k2 | ⟨e2, k2⟩
      · exact .inl (by rw [e1]; exact k2)
      · exact .inr ⟨e1.trans e2, kl_trans x y z k1 k2⟩
/-- i is the place of k among the keys: the ones ahead of it are less, the others are not. -/
structure PlaceI (ks : List (List UInt8)) (k : List UInt8) (i : Nat) : Prop where
  le : i ≤ ks.length
  lo : ∀ j x, j < i → ks[j]? = some x → Op.bytesLess x k = true
  hi : ∀ j x, i ≤ j → ks[j]? = some x → Op.bytesLess x k = false
set_option maxRecDepth 100000 in
set_option maxHeartbeats 1000000 in
theorem pplace_spec (p n c : Nat) (A : Option Addr) (ks : List (List UInt8)) (k : List UInt8) (w : World) (hs : w.cell? ⟨p, 0, none⟩ = some (.slice A n c)) (h : IsS w A n ks) (hn : n ≤ 1048576) (hsort : ks.Pairwise (fun x y => Op.bytesLess x y = true)) :
    Calls Tryz.prog 247 #[.pointer (some ⟨p, 0, none⟩), .string ⟨k.toArray⟩] w fun e w' => ∃ i, PlaceI ks k i ∧ e = .returned (.tuple #[.int .i64 (i : Int), .bool (decide (ks[i]? = some k))]) ∧ Below w.heap.size w w' := by
  have H := Lib.hid h
  have hlen : ks.length = n := h.1
  have HS := Lib.hid hsort
  clear h hsort
  go_enter Tryz.func247, Tryz.ntmps247
  go_wp2_with fail
  go_quiet (fail)
  go_wp2_with fail
  go_loopw [6, 7] (fun u v wr => ∃ lo hi : Nat, u = .int .i64 lo ∧ v = .int .i64 hi ∧ lo ≤ hi ∧ hi ≤ n ∧ (∀ j x, j < lo → ks[j]? = some x → Op.bytesLess x k = true) ∧ (∀ j x, hi ≤ j → ks[j]? = some x → Op.bytesLess x k = false) ∧ Below w.heap.size w wr) (fun u v _ => (intOf v).toNat - (intOf u).toNat)
  case atStart => exact ⟨0, n, rfl, rfl, Nat.zero_le _, Nat.le_refl _, fun j x h => by omega, fun j x h h' => absurd (List.getElem?_eq_some_iff.1 h').1 (by omega), below_drewN (Below.refl _ _) _⟩
  case round =>
    obtain ⟨lo, hi, rfl, rfl, h1, h2, h3, h4, hb⟩ := hrel
    have H3 := Lib.hid h3
    have H4 := Lib.hid h4
    have HB := Lib.hid hb
    have HI := Lib.hid (H.out.pure hb)
    have hs' := cell_pure hb hs
    clear h3 h4 hb hs
    by_cases hlt : lo < hi
    · obtain ⟨mid, hmid⟩ : ∃ mid, lo + (hi - lo) / 2 = mid := ⟨_, rfl⟩
      have hm1 : lo ≤ mid := by omega
      have hm2 : mid < hi := by omega
      have ht : ((hi : Int) - (lo : Int)).tdiv 2 = ((hi - lo) / 2 : Nat) := by
        rw [show (hi : Int) - (lo : Int) = ((hi - lo : Nat) : Int) by omega, Int.tdiv_eq_ediv_of_nonneg (by omega)]; rfl
      obtain ⟨q, hq⟩ : ∃ q, (hi - lo) / 2 = q := ⟨_, rfl⟩
      rw [hq] at ht hmid
      have hq2 : q ≤ 1048576 := by omega
      have e1 : (lo : Int) + (q : Int) = (mid : Int) := by omega
      obtain ⟨g, off, rfl, hk', hc⟩ := iss_at HI.out (k := mid) (by omega)
      obtain ⟨x, hx⟩ : ∃ x, ks[mid] = x := ⟨_, rfl⟩
      rw [hx] at hc
      have hmx : ks[mid]? = some x := by rw [List.getElem?_eq_getElem hk', hx]
      have HMX := Lib.hid hmx
      obtain ⟨r, hr⟩ : ∃ r, Op.bytesLess x k = r := ⟨_, rfl⟩
      have HR := Lib.hid hr
      have hmn : (mid : Int) < (n : Int) := by omega
      have hm0 : (0 : Int) ≤ (mid : Int) := by omega
      have HSR := Lib.hid (show ∀ i j a b, i < j → ks[i]? = some a → ks[j]? = some b → Op.bytesLess a b = true from by
        intro i j a b hij ha hb
        obtain ⟨ha1, ha2⟩ := List.getElem?_eq_some_iff.1 ha
        obtain ⟨hb1, hb2⟩ := List.getElem?_eq_some_iff.1 hb
        rw [← ha2, ← hb2]
        exact List.pairwise_iff_getElem.1 HS.out i j ha1 hb1 hij)
      have hmlt := Lib.hid (And.intro hm1 hm2)
      clear hx hmx hr hq hmid hk' hm1 hm2
      cases r with
      | true =>
        have e2 : IntKind.i64.wrap ((mid : Int) + 1) = (mid : Int) + 1 := IntWalk.i64_in _ (by omega)
        go_wp2_with (go_at_call 67; (refine (kless_spec x k true _ HR.out).mono ?_); rintro e w' ⟨rfl, rfl⟩)
        go_roundw
        case rel =>
          refine ⟨mid + 1, hi, by go_num, rfl, by have := hmlt.out; omega, h2, fun j y hj hy => ?_, H4.out, HB.out⟩
          rcases Nat.lt_or_ge j mid with h | h
          · exact kl_trans y x k (HSR.out j mid y x h hy HMX.out) HR.out
          · obtain rfl : j = mid := by omega
            rw [HMX.out] at hy
            injection hy with hy
            rw [← hy]
            exact HR.out
        case measure => have := hmlt.out; simp [intOf]; omega
      | false =>
        go_wp2_with (go_at_call 67; (refine (kless_spec x k false _ HR.out).mono ?_); rintro e w' ⟨rfl, rfl⟩)
        go_roundw
        case rel =>
          refine ⟨lo, mid, rfl, rfl, hmlt.out.1, by have := hmlt.out; omega, H3.out, fun j y hj hy => ?_, HB.out⟩
          rcases Nat.lt_or_ge mid j with h | h
          · cases hyk : Op.bytesLess y k with
            | false => rfl
            | true => exact absurd (kl_trans x y k (HSR.out mid j x y h HMX.out hy) hyk) (by rw [HR.out]; decide)
          · obtain rfl : j = mid := by omega
            rw [HMX.out] at hy
            injection hy with hy
            rw [← hy]
            exact HR.out
        case measure => have := hmlt.out; simp [intOf]; omega
    · have hd : decide ((lo : Int) < (hi : Int)) = false := decide_eq_false (by omega)
      have hd2 : decide (lo < hi) = false := decide_eq_false (by omega)
      obtain rfl : lo = hi := by omega
      have HPI := Lib.hid (PlaceI.mk (by omega) H3.out H4.out : PlaceI ks k lo)
      clear H3 H4 h1 hlt
      by_cases hln : lo < n
      · obtain ⟨g, off, rfl, hk', hc⟩ := iss_at HI.out (k := lo) hln
        obtain ⟨x, hx⟩ : ∃ x, ks[lo] = x := ⟨_, rfl⟩
        rw [hx] at hc
        obtain ⟨r, hr⟩ : ∃ r, (x == k) = r := ⟨_, rfl⟩
        have HD := Lib.hid (show decide (ks[lo]? = some k) = r by
          rw [List.getElem?_eq_getElem hk', hx, ← hr]
          rw [Bool.eq_iff_iff]
          simp)
        have hd3 : decide ((lo : Int) < (n : Int)) = true := decide_eq_true (by omega)
        have hmn : (lo : Int) < (n : Int) := by omega
        have hm0 : (0 : Int) ≤ (lo : Int) := by omega
        clear hx hk'
        cases r with
        | true =>
          go_wp2_with fail
          go_quiet (fail)
          go_wp2_with fail
          go_ret2
          exact ⟨lo, HPI.out, by rw [HD.out]; rfl, below_drewN HB.out _⟩
        | false =>
          go_wp2_with fail
          go_quiet (fail)
          go_wp2_with fail
          go_ret2
          exact ⟨lo, HPI.out, by rw [HD.out]; rfl, below_drewN HB.out _⟩
      · have HD := Lib.hid (show decide (ks[lo]? = some k) = false by
          rw [List.getElem?_eq_none (by omega)]; simp)
        have hd3 : decide ((lo : Int) < (n : Int)) = false := decide_eq_false (by omega)
        have hd4 : decide (lo < n) = false := decide_eq_false (by omega)
        go_wp2_with fail
        go_quiet (fail)
        go_wp2_with fail
        go_ret2
        exact ⟨lo, HPI.out, by rw [HD.out]; rfl, below_drewN HB.out _⟩
end Go.Proofs.YtfoifdoaleaekaaGreat

namespace Go.Proofs.YtfoifdoaleaekaaGreat
open Go.RowKit Go.Acc
section
variable {α : Type} {f : α → List Value} {e : TypeId}
/-- A stretch of an owned row is replaced. -/
theorem own_seg1 (hf : ∀ x, (f x).length = 1) {w : World} {B g n c : Nat} {l : List α} (h : Go.Acc.Own f 1 e w B (some ⟨g, 0, none⟩) n c l) : ∃ cur, Blk w g e cur ∧ n ≤ cur.size ∧
    (∀ (w' : World) (cur' : Array Value) (off k : Nat) (m : List α), Blk w' g e cur' → Seg cur off (m.flatMap f) k cur' → m.length = k → off + k ≤ n → Go.Acc.Own f 1 e w' B (some ⟨g, 0, none⟩) n c (l.take off ++ m ++ l.drop (off + k))) := by
  obtain ⟨hl, h1, h2⟩ := h
  rcases h2 with ⟨hv, _⟩ | ⟨g', cap, cur, hv, hb, hg, hnc, hcm, hcs, htake⟩
  · cases hv
  · injection hv with e1 _ e3
    injection e1 with e1
    injection e1 with e1
    subst e1 e3
    simp only [Nat.mul_one] at hcs htake h1
    refine ⟨cur, hg, by omega, ?_⟩
    intro w' cur' off k m hB hS hm hk
    refine ⟨by simp; omega, ?_, .inr ⟨g, c, cur', rfl, hb, hB, hnc, hcm, by rw [hS.1, Nat.mul_one]; exact hcs, ?_⟩⟩
    · rw [fm_length hf]; simp; omega
    · rw [Nat.mul_one, hS.take (by rw [fm_length hf]; omega) hk (by omega), htake, List.flatMap_append, List.flatMap_append, fm_take hf, fm_drop hf, Nat.mul_one, Nat.mul_one]
theorem pl_splice (cur : Array Value) (off : Nat) (vs : List Value) (h : off + vs.length ≤ cur.size) : Seg cur off vs vs.length (cur.toList.take off ++ vs ++ cur.toList.drop (off + vs.length)).toArray := by
  refine ⟨by simp; omega, fun j => ?_⟩
  rw [List.getElem?_toArray]
  by_cases c1 : j < off
  · rw [if_neg (by omega), List.append_assoc, List.getElem?_append_left (by simp; omega), List.getElem?_take, if_pos c1, Array.getElem?_toList]
  · by_cases c2 : j < off + vs.length
    · rw [if_pos (by omega), List.append_assoc, List.getElem?_append_right (by simp; omega), List.getElem?_append_left (by simp; omega)]
      congr 1
      simp; omega
    · rw [if_neg (by omega), List.getElem?_append_right (by simp; omega), List.getElem?_drop, Array.getElem?_toList]
      congr 1
      simp; omega
/-- append, as one step of a region. -/
theorem step_app1 {ops : Array Oper} {o : Oper} {a : Act} {w : World} {K : Act → World → Prop} {Q : Exit → Act → World → Prop} {E : Prop} (hgd : o.guard = none) (s x : Operand) (t : TypeId)
    (ho : o.op = .call { callee := .builtin .append, args := #[s, x], argTypes := #[t, t] })
    (z : Value) (bytes : Nat) (ht : Tryz.prog.underlying t = some (.slice e)) (hi : (Tryz.prog.info? e).map (fun i => (i.zero, i.size, i.bytes)) = some (some z, 1, bytes)) (hzs : z.cells.size = 1) (hb16 : bytes ≤ 16)
    (hf : ∀ x, (f x).length = 1) (h1 : ∀ x, ∀ u ∈ f x, u.oneCell' = true)
    (B : Nat) (A : Option Addr) (n c : Nat) (l : List α) (hs : a.eval s = .slice A n c) (hown : Go.Acc.Own f 1 e w B A n c l)
    (A2 : Option Addr) (m d : Nat) (l2 : List α) (hx : a.eval x = .slice A2 m d) (hr : Is f w A2 m l2)
    (hbytes : n + m ≤ 1099511627776) (hbase : B ≤ w.heap.size)
    (h : ∀ A' c' w', Go.Acc.Own f 1 e w' B A' (n + m) c' (l ++ l2) → Fr (fun k => ∃ ad, A = some ad ∧ k = ad.block) w w' → (A'.map (·.block) = A.map (·.block) ∨ A'.map (·.block) = some w.heap.size) → K (a.put o.dst (.slice A' (n + m) c')) w') :
    if Region.wanted o (yielded ops a.tmps) = true then Oper.wp Tryz.prog o a w K Q else E := by
  have hw : Region.wanted o (yielded ops a.tmps) = true := by simp [Region.wanted, hgd]
  rw [if_pos hw]
  obtain ⟨i, hi', hz, hsize, hby⟩ := info_parts hi
  have e2 : n + m ≤ maxLen := by simp only [maxLen]; omega
  have e3 : (n + m) * bytes ≤ 140737488355328 := Nat.le_trans (Nat.mul_le_mul hbytes hb16) (by decide)
  obtain ⟨v', w', hrun, h2, h3, h4⟩ := run_append_rd (P := Tryz.prog) w B t o.type e i z 1 bytes ht hi' hz hsize hby hzs (by omega) (.slice A n c) n (l.flatMap f) hown.2 A2 m d (l2.flatMap f) (by rw [fm_length hf, hr.1]) hr.2 (fm_one h1 l2) e2 e3 hbase
  obtain ⟨A', c', rfl, ho'⟩ := Own.mk hf (by omega) (l := l ++ l2) h2 List.flatMap_append.symm
  have hk := h A' c' w' ho' ((Fr.of_grown h3).mono fun i _ hi => by
    cases A with
    | none => simp [Value.ownBlock] at hi
    | some ad => simp [Value.ownBlock] at hi; exact ⟨ad, rfl, hi⟩) (by
    cases A <;> cases A' <;> simp only [Value.ownBlock, Option.map] at h4 ⊢ <;> exact h4)
  clear h ho' h2 h3 h4
  unfold Oper.wp
  simp only [execOp, ho, resolve, invoke, builtin, Sem.run_bind, Sem.run_pure, Result.andThen_ok, List.map_toArray, List.map_cons, List.map_nil, hs, hx, hrun]
  exact hk
/-- copy, as one step of a region: kd elements, into the row's own stretch from off on. -/
theorem step_copy1 {ops : Array Oper} {o : Oper} {a : Act} {w : World} {K : Act → World → Prop} {Q : Exit → Act → World → Prop} {E : Prop} (hgd : o.guard = none) (d s : Operand) (t : TypeId)
    (ho : o.op = .call { callee := .builtin .copy, args := #[d, s], argTypes := #[t, t] })
    (ht : Tryz.prog.underlying t = some (.slice e)) (hi : (Tryz.prog.info? e).map (·.size) = some 1) (hf : ∀ x, (f x).length = 1) (h1 : ∀ x, ∀ u ∈ f x, u.oneCell' = true)
    (X Y : Option Addr) (kd ks cd cs : Nat) (hd : a.eval d = .slice X kd cd) (hs : a.eval s = .slice Y ks cs) (hk : kd ≤ ks)
    (B : Nat) (A : Option Addr) (n c off : Nat) (m src : List α) (hown : Go.Acc.Own f 1 e w B A n c m) (hX : 0 < kd → X = A.map (·.add off)) (hoff : off + kd ≤ n) (hsrc : Is f w Y kd src)
    (h : ∀ w', Go.Acc.Own f 1 e w' B A n c (m.take off ++ src ++ m.drop (off + kd)) → Fr (fun j => ∃ ad, A = some ad ∧ j = ad.block) w w' → K (a.put o.dst (.int .i64 kd)) w') :
    if Region.wanted o (yielded ops a.tmps) = true then Oper.wp Tryz.prog o a w K Q else E := by
  have hw : Region.wanted o (yielded ops a.tmps) = true := by simp [Region.wanted, hgd]
  rw [if_pos hw]
  have hlen := hsrc.1
  by_cases h0 : kd = 0
  · subst h0
    have hrun := run_copy_none (P := Tryz.prog) w t t o.type e X Y 0 cd ks cs ht hi (by simp)
    obtain rfl : src = [] := List.eq_nil_of_length_eq_zero hlen
    have hk := h w (by simpa using hown) (Fr.refl _ _)
    clear h
    unfold Oper.wp
    simp [execOp, ho, resolve, invoke, builtin, hd, hs, hrun, Result.andThen]
    exact hk
  · have hX := hX (by omega)
    obtain ⟨sb, so, rfl, _⟩ := hsrc.some_ hf (by omega) (by omega)
    cases A with
    | none =>
      have := hown.is.none_ hf (by omega)
      omega
    | some ad =>
      obtain ⟨had, hge, hlt⟩ := hown.addr ad rfl
      obtain ⟨g, rfl⟩ : ∃ g, ad = ⟨g, 0, none⟩ := ⟨_, had⟩
      obtain ⟨cur, hK, hsz, hback⟩ := own_seg1 hf hown
      obtain rfl : X = some ⟨g, off, none⟩ := by rw [hX]; simp [add_none]
      have hl : (src.flatMap f).length = kd := by rw [fm_length hf, hlen, Nat.mul_one]
      have hrun := run_copy_row (P := Tryz.prog) w t t o.type e g off kd cd ⟨sb, so, none⟩ ks cs cur e (src.flatMap f) ht hi hK (by rw [hl]; exact (Nat.min_eq_right hk).symm) hsrc.2.cells (by rw [hl]; omega) (fm_one h1 src)
      rw [hl] at hrun
      have hS := pl_splice cur off (src.flatMap f) (by rw [hl]; omega)
      rw [hl] at hS
      have hO := hback (w.setRow g (cur.toList.take off ++ src.flatMap f ++ cur.toList.drop (off + kd)).toArray) _ off kd src (setRow_heap w g cur _ _ _ hK) hS hlen hoff
      have hk := h _ hO ⟨rfl, rfl, rfl, by simp [World.setRow], fun i _ hi => setRow_other w g i _ (by rintro rfl; exact hi ⟨_, rfl, rfl⟩)⟩
      clear h hback hO hS
      unfold Oper.wp
      simp only [execOp, ho, resolve, invoke, builtin, Sem.run_bind, Sem.run_pure, Result.andThen_ok, List.map_toArray, List.map_cons, List.map_nil, hd, hs, hrun]
      exact hk
end
end Go.Proofs.YtfoifdoaleaekaaGreat

namespace Go.Proofs.YtfoifdoaleaekaaGreat
open Go.RowKit Go.Acc
theorem cut1_x {α : Type} {f : α → List Value} {g n c lo : Nat} (h1 : lo ≤ n) (hc : n ≤ c) (hf : ∀ x, (f x).length = 1) : (0 < n - lo → (if c = lo then some (⟨g, 0, none⟩ : Addr) else some ⟨g, lo, none⟩) = (some (⟨g, 0, none⟩ : Addr)).map (·.add lo)) ∧
    ∀ (w : World) (l : List α), Is f w (some ⟨g, 0, none⟩) n l → Is f w (if c = lo then some (⟨g, 0, none⟩ : Addr) else some ⟨g, lo, none⟩) (n - lo) (l.drop lo) := by
  refine ⟨fun h => ?_, fun w l h => ?_⟩
  · rw [if_neg (by omega)]
    simp [add_none]
  · split
    · rename_i e
      exact h.cut0 e hc
    · have := h.cut1 (k := lo) hf
      simpa [add_none] using this
theorem below_dr (w : World) : Below w.heap.size w w.drew := (Below.refl _ _).drew
theorem cell_al {w : World} {p : Addr} {u : Value} (o : Obj) (h : w.cell? p = some u) : (w.alloc o).cell? p = some u := cell_pure ((Below.refl _ _).alloc (Nat.le_refl _) o) h
/-- The two rows of a pool under way: they lie apart from each other and from the pool's own block. -/
structure Lay2 (w0 : World) (p : Nat) (A10 A20 : Option Addr) (A1 : Option Addr) (n1 c1 : Nat) (ks : List (List UInt8)) (A2 : Option Addr) (n2 c2 : Nat) (ns : List Nat) (x0 x1 : Value) (w : World) : Prop where
  blk : Blk w p 216 #[x0, x1, .bool true]
  o1 : OwnS w 0 A1 n1 c1 ks
  o2 : OwnN w 0 A2 n2 c2 ns
  d1 : ∀ a, A1 = some a → a.block ≠ p
  d2 : ∀ a, A2 = some a → a.block ≠ p
  d12 : ∀ a b, A1 = some a → A2 = some b → a.block ≠ b.block
  fr : Fr (fun k => k = p ∨ (∃ a, A10 = some a ∧ k = a.block) ∨ (∃ a, A20 = some a ∧ k = a.block)) w0 w
  w1 : A1.map (·.block) = A10.map (·.block) ∨ ∃ k, A1.map (·.block) = some k ∧ w0.heap.size ≤ k
  w2 : A2.map (·.block) = A20.map (·.block) ∨ ∃ k, A2.map (·.block) = some k ∧ w0.heap.size ≤ k
section
variable {w0 w : World} {p : Nat} {A10 A20 A1 A2 : Option Addr} {n1 c1 n2 c2 : Nat} {ks : List (List UInt8)} {ns : List Nat} {x0 x1 : Value}
theorem lay_in (h : A1.map (·.block) = A10.map (·.block) ∨ ∃ k, A1.map (·.block) = some k ∧ w0.heap.size ≤ k) (k : Nat) (hk : k < w0.heap.size) (ha : ∃ a, A1 = some a ∧ k = a.block) : ∃ a, A10 = some a ∧ k = a.block := by
  obtain ⟨a, rfl, rfl⟩ := ha
  rcases h with e | ⟨k', e, hk'⟩
  · cases A10 with
    | none => cases e
    | some b => injection e with e; exact ⟨b, rfl, e⟩
  · injection e with e
    have e : a.block = k' := e
    omega
theorem Lay2.below (h : Lay2 w0 p A10 A20 A1 n1 c1 ks A2 n2 c2 ns x0 x1 w) {w' : World} (hb : Below w.heap.size w w') : Lay2 w0 p A10 A20 A1 n1 c1 ks A2 n2 c2 ns x0 x1 w' :=
  ⟨h.blk.pure hb, h.o1.pure hb, h.o2.pure hb, h.d1, h.d2, h.d12, h.fr.trans (Fr.of_below hb (fun _ => False)) (fun _ _ h => h.elim), h.w1, h.w2⟩
theorem Lay2.alloc (h : Lay2 w0 p A10 A20 A1 n1 c1 ks A2 n2 c2 ns x0 x1 w) (o : Obj) : Lay2 w0 p A10 A20 A1 n1 c1 ks A2 n2 c2 ns x0 x1 (w.alloc o) :=
  h.below ((Below.refl _ _).alloc (Nat.le_refl _) o)
theorem Lay2.app1 (h : Lay2 w0 p A10 A20 A1 n1 c1 ks A2 n2 c2 ns x0 x1 w) {w' : World} {A' : Option Addr} {n' c' : Nat} {ks' : List (List UInt8)} (ho : OwnS w' 0 A' n' c' ks')
    (hf : Fr (fun k => ∃ a, A1 = some a ∧ k = a.block) w w') (hw : A'.map (·.block) = A1.map (·.block) ∨ A'.map (·.block) = some w.heap.size) : Lay2 w0 p A10 A20 A' n' c' ks' A2 n2 c2 ns x0 x1 w' := by
  have hp := h.blk.lt
  have h2 : ∀ b, A2 = some b → b.block < w.heap.size := fun b hb => (h.o2.addr b hb).2.2
  have hA : ∀ a, A' = some a → (∃ a', A1 = some a' ∧ a'.block = a.block) ∨ a.block = w.heap.size := by
    rintro a rfl
    rcases hw with e | e
    · cases A1 with
      | none => cases e
      | some b => injection e with e; exact .inl ⟨b, rfl, e.symm⟩
    · injection e with e; exact .inr e
  refine ⟨h.blk.fr hf (fun ⟨a, e1, e2⟩ => h.d1 a e1 e2.symm), ho, h.o2.fr hf (fun b hb ⟨a, e1, e2⟩ => h.d12 a b e1 hb e2.symm), ?_, h.d2, ?_, ?_, ?_, h.w2⟩
  · intro a ha
    rcases hA a ha with ⟨a', e1, e2⟩ | e
    · rw [← e2]; exact h.d1 a' e1
    · omega
  · intro a b ha hb
    have := h2 b hb
    rcases hA a ha with ⟨a', e1, e2⟩ | e
    · rw [← e2]; exact h.d12 a' b e1 hb
    · omega
  · exact h.fr.trans hf (fun k hk ha => .inr (.inl (lay_in h.w1 k hk ha)))
  · rcases hw with e | e
    · rw [e]; exact h.w1
    · exact .inr ⟨_, e, h.fr.size⟩
theorem Lay2.app2 (h : Lay2 w0 p A10 A20 A1 n1 c1 ks A2 n2 c2 ns x0 x1 w) {w' : World} {A' : Option Addr} {n' c' : Nat} {ns' : List Nat} (ho : OwnN w' 0 A' n' c' ns')
    (hf : Fr (fun k => ∃ a, A2 = some a ∧ k = a.block) w w') (hw : A'.map (·.block) = A2.map (·.block) ∨ A'.map (·.block) = some w.heap.size) : Lay2 w0 p A10 A20 A1 n1 c1 ks A' n' c' ns' x0 x1 w' := by
  have hp := h.blk.lt
  have h2 : ∀ b, A1 = some b → b.block < w.heap.size := fun b hb => (h.o1.addr b hb).2.2
  have hA : ∀ a, A' = some a → (∃ a', A2 = some a' ∧ a'.block = a.block) ∨ a.block = w.heap.size := by
    rintro a rfl
    rcases hw with e | e
    · cases A2 with
      | none => cases e
      | some b => injection e with e; exact .inl ⟨b, rfl, e.symm⟩
    · injection e with e; exact .inr e
  refine ⟨h.blk.fr hf (fun ⟨a, e1, e2⟩ => h.d2 a e1 e2.symm), h.o1.fr hf (fun b hb ⟨a, e1, e2⟩ => h.d12 b a hb e1 e2), ho, h.d1, ?_, ?_, ?_, h.w1, ?_⟩
  · intro a ha
    rcases hA a ha with ⟨a', e1, e2⟩ | e
    · rw [← e2]; exact h.d2 a' e1
    · omega
  · intro b a hb ha
    have := h2 b hb
    rcases hA a ha with ⟨a', e1, e2⟩ | e
    · rw [← e2]; exact h.d12 b a' hb e1
    · omega
  · exact h.fr.trans hf (fun k hk ha => .inr (.inr (lay_in h.w2 k hk ha)))
  · rcases hw with e | e
    · rw [e]; exact h.w2
    · exact .inr ⟨_, e, h.fr.size⟩
theorem Lay2.set0 (h : Lay2 w0 p A10 A20 A1 n1 c1 ks A2 n2 c2 ns x0 x1 w) (v : Value) : Lay2 w0 p A10 A20 A1 n1 c1 ks A2 n2 c2 ns v x1 (w.setCell ⟨p, 0, none⟩ v) := by
  have hf := Fr.setCell (S := fun k => k = p) (Fr.refl (fun k => k = p) w) (p := ⟨p, 0, none⟩) (fun _ => rfl) v
  exact ⟨h.blk.set_ 0 v, h.o1.fr hf (fun a e => h.d1 a e), h.o2.fr hf (fun a e => h.d2 a e), h.d1, h.d2, h.d12, h.fr.trans hf (fun k _ e => .inl e), h.w1, h.w2⟩
theorem Lay2.set1 (h : Lay2 w0 p A10 A20 A1 n1 c1 ks A2 n2 c2 ns x0 x1 w) (v : Value) : Lay2 w0 p A10 A20 A1 n1 c1 ks A2 n2 c2 ns x0 v (w.setCell ⟨p, 1, none⟩ v) := by
  have hf := Fr.setCell (S := fun k => k = p) (Fr.refl (fun k => k = p) w) (p := ⟨p, 1, none⟩) (fun _ => rfl) v
  exact ⟨h.blk.set_ 1 v, h.o1.fr hf (fun a e => h.d1 a e), h.o2.fr hf (fun a e => h.d2 a e), h.d1, h.d2, h.d12, h.fr.trans hf (fun k _ e => .inl e), h.w1, h.w2⟩
theorem al_size (w : World) (o : Obj) : (w.alloc o).heap.size = w.heap.size + 1 := by simp
theorem str_lit (W : World) (z : List UInt8) : IsS (W.alloc (.cells #[.string ⟨z.toArray⟩] 9)) (some ⟨W.heap.size, 0, none⟩) 1 [z] := by
  refine ⟨rfl, fun j u hu => ⟨_, _, rfl, ?_⟩⟩
  rw [Nat.zero_add, (Blk.new W _ _).cell j]
  simpa [stc] using hu
theorem int_lit (W : World) : Is inc (W.alloc (.cells #[.int .i64 0] 3)) (some ⟨W.heap.size, 0, none⟩) 1 [0] := by
  refine ⟨rfl, fun j u hu => ⟨_, _, rfl, ?_⟩⟩
  rw [Nat.zero_add, (Blk.new W _ _).cell j]
  simpa [inc] using hu
theorem lit_keep {α : Type} {f : α → List Value} {W w' : World} {A : Option Addr} {g B n : Nat} {l : List α} (h : Is f W (some ⟨g, 0, none⟩) n l) (hf : Fr (fun k => ∃ a, A = some a ∧ k = a.block) W w') (hA : ∀ a, A = some a → a.block < B) (hB : B ≤ g) : Is f w' (some ⟨g, 0, none⟩) n l := by
  refine h.fr hf ?_
  rintro ad e ⟨a, e1, e2⟩
  cases e
  have e2 : g = a.block := e2
  have := hA a e1
  omega
theorem seg_one (cur : Array Value) (i : Nat) (v : Value) (h : i < cur.size) : Seg cur i [v] 1 (cur.setIfInBounds i v) := by
  refine ⟨by simp, fun j => ?_⟩
  rw [Array.getElem?_setIfInBounds]
  by_cases e : i = j
  · subst e
    rw [if_pos rfl, if_pos h, if_pos ⟨Nat.le_refl _, Nat.lt_succ_self _⟩]
    simp
  · rw [if_neg e, if_neg (by omega)]
theorem own_store {α : Type} {f : α → List Value} {e : TypeId} (hf : ∀ x, (f x).length = 1) {g n c i : Nat} {l : List α} (h : Go.Acc.Own f 1 e w 0 (some ⟨g, 0, none⟩) n c l) (hi : i < n) (x : α) (v : Value) (hx : f x = [v]) :
    (∃ u, w.cell? ⟨g, i, none⟩ = some u) ∧ w.frozen? ⟨g, i, none⟩ = false ∧ Go.Acc.Own f 1 e (w.setCell ⟨g, i, none⟩ v) 0 (some ⟨g, 0, none⟩) n c (l.take i ++ [x] ++ l.drop (i + 1)) := by
  obtain ⟨cur, hK, hsz, hback⟩ := own_seg1 hf h
  refine ⟨⟨cur[i]'(by omega), by rw [hK.cell i, Array.getElem?_eq_getElem (by omega)]⟩, hK.frozen i, ?_⟩
  refine hback _ (cur.setIfInBounds i v) i 1 [x] (hK.set_ i v) ?_ rfl (by omega)
  simpa [hx] using seg_one cur i v (by omega)
theorem Lay2.store1 {g : Nat} (h : Lay2 w0 p A10 A20 (some ⟨g, 0, none⟩) n1 c1 ks A2 n2 c2 ns x0 x1 w) {i : Nat} (hi : i < n1) (s : List UInt8) :
    Lay2 w0 p A10 A20 (some ⟨g, 0, none⟩) n1 c1 (ks.take i ++ [s] ++ ks.drop (i + 1)) A2 n2 c2 ns x0 x1 (w.setCell ⟨g, i, none⟩ (.string ⟨s.toArray⟩)) :=
  h.app1 (own_store stc_len h.o1 hi s _ rfl).2.2 (Fr.setCell (S := fun k => ∃ a, some (⟨g, 0, none⟩ : Addr) = some a ∧ k = a.block) (Fr.refl _ w) (p := ⟨g, i, none⟩) (fun _ => ⟨_, rfl, rfl⟩) _) (.inl rfl)
theorem Lay2.store2 {g : Nat} (h : Lay2 w0 p A10 A20 A1 n1 c1 ks (some ⟨g, 0, none⟩) n2 c2 ns x0 x1 w) {i : Nat} (hi : i < n2) (a : Nat) :
    Lay2 w0 p A10 A20 A1 n1 c1 ks (some ⟨g, 0, none⟩) n2 c2 (ns.take i ++ [a] ++ ns.drop (i + 1)) x0 x1 (w.setCell ⟨g, i, none⟩ (.int .i64 (a : Int))) :=
  h.app2 (own_store inc_len h.o2 hi a _ rfl).2.2 (Fr.setCell (S := fun k => ∃ a, some (⟨g, 0, none⟩ : Addr) = some a ∧ k = a.block) (Fr.refl _ w) (p := ⟨g, i, none⟩) (fun _ => ⟨_, rfl, rfl⟩) _) (.inl rfl)
theorem own_at {α : Type} {f : α → List Value} {e : TypeId} {A : Option Addr} {n c : Nat} {l : List α} (hf : ∀ x, (f x).length = 1) (h : Go.Acc.Own f 1 e w 0 A n c l) (hn : 0 < n) : ∃ g, A = some ⟨g, 0, none⟩ := by
  obtain ⟨sb, so, rfl, _⟩ := h.is.some_ hf (by omega) hn
  exact ⟨_, congrArg some (h.addr _ rfl).1⟩
theorem lay_list {α : Type} (l : List α) (z s : α) (i : Nat) (hi : i ≤ l.length) :
    (((l ++ [z]).take (i + 1) ++ ((l ++ [z]).drop i).take (l.length - i) ++ (l ++ [z]).drop (i + 1 + (l.length - i))).take i ++ [s] ++
      ((l ++ [z]).take (i + 1) ++ ((l ++ [z]).drop i).take (l.length - i) ++ (l ++ [z]).drop (i + 1 + (l.length - i))).drop (i + 1)) = l.take i ++ [s] ++ l.drop i := by
  have e1 : ((l ++ [z]).drop i).take (l.length - i) = l.drop i := by
    rw [List.drop_append_of_le_length hi, List.take_append_of_le_length (by simp), List.take_of_length_le (by simp)]
  have e2 : (l ++ [z]).drop (i + 1 + (l.length - i)) = [] := List.drop_eq_nil_of_le (by simp; omega)
  have e3 : ((l ++ [z]).take (i + 1)).length = i + 1 := by simp; omega
  rw [e1, e2, List.append_nil, List.take_append_of_le_length (by omega), List.take_take, Nat.min_eq_left (by omega), List.drop_append_of_le_length (by omega), List.drop_eq_nil_of_le (by omega), List.nil_append, List.take_append_of_le_length hi]
/-- append of one string, as a step. -/
theorem step_lk {ops : Array Oper} {o : Oper} {a : Act} {K : Act → World → Prop} {Q : Exit → Act → World → Prop} {E : Prop} (hgd : o.guard = none) (s x : Operand)
    (ho : o.op = .call { callee := .builtin .append, args := #[s, x], argTypes := #[23, 23] })
    (H : Lay2 w0 p A10 A20 A1 n1 c1 ks A2 n2 c2 ns x0 x1 w) (hs : a.eval s = .slice A1 n1 c1) (A3 : Option Addr) (z : List UInt8) (hr : IsS w A3 1 [z]) (hx : a.eval x = .slice A3 1 1) (hn : n1 ≤ 1048576)
    (h : ∀ A' c' w', Lay2 w0 p A10 A20 A' (n1 + 1) c' (ks ++ [z]) A2 n2 c2 ns x0 x1 w' → Fr (fun k => ∃ a, A1 = some a ∧ k = a.block) w w' → K (a.put o.dst (.slice A' (n1 + 1) c')) w') :
    if Region.wanted o (yielded ops a.tmps) = true then Oper.wp Tryz.prog o a w K Q else E := by
  refine step_app1 hgd s x 23 ho (.string ⟨#[]⟩) 16 (by kernel_rfl) (by kernel_rfl) rfl (by decide) stc_len stc_one 0 A1 n1 c1 ks hs H.o1 A3 1 1 [z] hx hr (by omega) (Nat.zero_le _) ?_
  intro A' c' w' hown hf hw
  exact h A' c' w' (H.app1 hown hf hw) hf
/-- append of one number, as a step. -/
theorem step_ln {ops : Array Oper} {o : Oper} {a : Act} {K : Act → World → Prop} {Q : Exit → Act → World → Prop} {E : Prop} (hgd : o.guard = none) (s x : Operand)
    (ho : o.op = .call { callee := .builtin .append, args := #[s, x], argTypes := #[61, 61] })
    (H : Lay2 w0 p A10 A20 A1 n1 c1 ks A2 n2 c2 ns x0 x1 w) (hs : a.eval s = .slice A2 n2 c2) (A3 : Option Addr) (z : Nat) (hr : Is inc w A3 1 [z]) (hx : a.eval x = .slice A3 1 1) (hn : n2 ≤ 1048576)
    (h : ∀ A' c' w', Lay2 w0 p A10 A20 A1 n1 c1 ks A' (n2 + 1) c' (ns ++ [z]) x0 x1 w' → Fr (fun k => ∃ a, A2 = some a ∧ k = a.block) w w' → K (a.put o.dst (.slice A' (n2 + 1) c')) w') :
    if Region.wanted o (yielded ops a.tmps) = true then Oper.wp Tryz.prog o a w K Q else E := by
  refine step_app1 hgd s x 61 ho (.int .i64 0) 8 (by kernel_rfl) (by kernel_rfl) rfl (by decide) inc_len inc_one 0 A2 n2 c2 ns hs H.o2 A3 1 1 [z] hx hr (by omega) (Nat.zero_le _) ?_
  intro A' c' w' hown hf hw
  exact h A' c' w' (H.app2 hown hf hw) hf
end
end Go.Proofs.YtfoifdoaleaekaaGreat
