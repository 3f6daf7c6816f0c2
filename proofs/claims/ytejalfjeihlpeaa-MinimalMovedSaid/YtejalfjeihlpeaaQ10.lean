/-
  Package text: the types as bytes.
  make([]byte, n): a row of zeros of the call's own; a literal slice of bytes as a row of the call's own.
  Package text: a key, a counted text.
  Package text: a counted text.
-/
import Derived.Test.YtejalfjeihlpeaaQ09
namespace Go.Proofs.Ytejalfjeihlpeaa
open Go.RowKit Go.Acc
def tc (x : Nat) : List Value := [.int .i64 (x : Int)]
theorem tc_at {w : World} {A : Option Addr} {n k : Nat} {l : List Nat} (h : Is tc w A n l) (hk : k < n) : ∃ b off, A = some ⟨b, off, none⟩ ∧ ∃ hk : k < l.length, w.cell? ⟨b, off + k, none⟩ = some (.int .i64 (l[k] : Nat)) := by
  obtain ⟨b, off, e, hk', hc⟩ := h.at_ (fun _ => rfl) (sz := 1) (by omega) hk
  have := hc 0 (by omega)
  rw [Nat.mul_one, Nat.add_zero] at this
  exact ⟨b, off, e, hk', this⟩
set_option maxHeartbeats 1000000 in
theorem asb_spec (A : Option Addr) (n c : Nat) (ts : List Nat) (w : World) (h : Is tc w A n ts) (hn : n ≤ 100) (ht : ∀ t ∈ ts, t < 256) :
    Calls Try.prog 88 #[.slice A n c] w (CopiedB w (ts.map UInt8.ofNat)) := by
  have hlen := h.1
  subst hlen
  have HI := Lib.hid h
  have HT := Lib.hid ht
  clear h ht
  go_enter Try.func88, Try.ntmps88
  go_wp2
  go_loopw [2, 4, 7] (fun o _ i wr => ∃ (k : Nat) (A0 : Option Addr) (c0 : Nat), k ≤ ts.length ∧ i = .int .i64 k ∧ o = .slice A0 k c0 ∧ OwnB wr w.heap.size A0 k c0 ((ts.take k).map UInt8.ofNat) ∧ Below w.heap.size w wr) (fun _ _ i _ => ts.length - (intOf i).toNat)
  case atStart => exact ⟨0, none, 0, by omega, rfl, rfl, Own.nil _ _, Below.refl _ _⟩
  case round =>
    obtain ⟨k, A0, c0, hk, rfl, rfl, hO, hB⟩ := hrel
    have HO := Lib.hid hO
    have HBr := Lib.hid hB
    clear hO hB
    by_cases hlt : k < ts.length
    · obtain ⟨b, off, rfl, hkl, hc⟩ := tc_at (HI.out.pure HBr.out) hlt
      have hx := HT.out ts[k] (List.getElem_mem hkl)
      have htk : (ts.take (k + 1)).map UInt8.ofNat = (ts.take k).map UInt8.ofNat ++ [UInt8.ofNat ts[k]] := by
        rw [List.take_succ_eq_append_getElem hkl, List.map_append]; rfl
      have HTK := Lib.hid htk
      clear htk
      generalize ts[k] = t at hc hx HTK
      have hw : IntKind.u8.wrap (t : Int) = ((UInt8.ofNat t).toNat : Int) := by
        rw [IntKind.wrap_u8, UInt8.toNat_ofNat']
        omega
      go_wp2_with (at_builtin; refine wpl_app _ rfl (.tmp 11) (.tmp 14) _ rfl 5 _ 1 1 Try.underlying22 info_b rfl (by omega) bc_len bc_one _ _ _ _ _ rfl (HO.out.pure ((Below.refl _ _).alloc (Nat.le_refl _) _)) _ _ _ _ rfl (isb_new _ _ (UInt8.ofNat t) hw) (by omega) (by have := HBr.out.size; simp; omega) ?_; intro A1 c1 w4 hown hfr hat; have HO1 := Lib.hid hown; have HF1 := Lib.hid hfr; clear hown hfr hat)
      exact ⟨⟨k + 1, A1, c1, by omega, by go_num, rfl, by rw [HTK.out]; exact HO1.out, below_fr (HBr.out.alloc HBr.out.size _) HF1.out (by rintro j ⟨ad, h, rfl⟩; exact (HO.out.addr ad h).2.1)⟩, by simp [intOf]; omega⟩
    · obtain rfl : k = ts.length := by omega
      go_wp2
      go_ret
      rw [List.take_length] at HO
      exact ⟨A0, _, c0, rfl, HO.out, HBr.out⟩

/-- What find returns: the error, the place, the contents. -/
def keyE (l : List UInt8) (a : Nat) : Int := if zeroAt l a < l.length then 0 else 213
def cntE (l : List UInt8) (a v k : Nat) : Int :=
  if a % v ≠ 0 then 212 else if a < v then 211 else if l.length < a + loadU l ((a : Int) - v) v + k then 211
  else if ((l.drop (a + loadU l ((a : Int) - v) v)).take k) = List.replicate k 0 then 0 else 213
def cntL (l : List UInt8) (a v : Nat) : List UInt8 := (l.drop a).take (loadU l ((a : Int) - v) v)
def keyL (l : List UInt8) (a : Nat) : List UInt8 := (l.drop a).take (zeroAt l a - a)
/-- A found value: the place and a slice that reads as the contents wherever the bytes read as l. -/
def FoundW (w : World) (A0 : Option Addr) (n0 : Nat) (l : List UInt8) (a : Int) (m : List UInt8) (er : Int) (e : Ending) (w' : World) : Prop :=
  ∃ A n c, e = .returned (.tuple #[.agg #[.int .i64 a, .slice A n c], .int .i64 er]) ∧ (∀ w0, IsB w0 A0 n0 l → IsB w0 A n m) ∧ n ≤ c ∧ Below w.heap.size w w'
end Go.Proofs.Ytejalfjeihlpeaa

namespace Go.Proofs.Ytejalfjeihlpeaa
open Go.RowKit Go.Acc
theorem made_bc (n : Nat) : (madeCells #[.int .u8 0] n).toList = (List.replicate n (0 : UInt8)).flatMap bc := by
  apply List.ext_getElem?
  intro j
  by_cases hj : j < n
  · have h1 := fm_at bc_len (List.replicate n (0 : UInt8)) j 0 (by simpa using hj) (by omega)
    rw [Nat.mul_one, Nat.add_zero, List.getElem_replicate] at h1
    rw [h1]
    simp [madeCells, hj, bc, Nat.mod_one]
  · rw [List.getElem?_eq_none (by simp [madeCells]; omega), List.getElem?_eq_none (by rw [fm_length bc_len]; simp; omega)]
theorem make_b (n : Nat) (hn : n ≤ 1099511627776) : ∃ Z : Array Value, Z.size = n ∧ Z.toList = (List.replicate n (0 : UInt8)).flatMap bc ∧ ∀ W : World, (Instr.makeSlice 22 (.int .i64 (n : Int)) (.int .i64 (n : Int))).run Try.prog W = .ok (.slice (some ⟨W.heap.size, 0, none⟩) n n) (W.alloc (.cells Z 5)) := by
  obtain ⟨i, hi, hz, hs, hb⟩ := info_parts info_b
  have hm := made_bc n
  refine ⟨_, ?_, hm, fun W => ?_⟩
  · have := congrArg List.length hm
    rw [fm_length bc_len] at this
    simpa using this
  · have hr := run_make (P := Try.prog) W 22 5 i _ Try.underlying22 hi hz .i64 .i64 n n (by omega) (Int.le_refl _) (by rw [hb]; omega) (by omega)
    simp only [Int.toNat_natCast, hs, Nat.mul_one] at hr
    exact hr
theorem ownb_lit (W : World) (Z : Array Value) (n B : Nat) (l : List UInt8) (hB : B ≤ W.heap.size) (hn : l.length = n) (hm : n ≤ 1099511627776) (hZ : Z.toList = l.flatMap bc) : OwnB (W.alloc (.cells Z 5)) B (some ⟨W.heap.size, 0, none⟩) n n l := by
  refine ⟨hn, ?_⟩
  have hs : Z.size = n * 1 := by rw [← Array.length_toList, hZ, fm_length bc_len, hn]
  have := World.ownsRow_lit (base := B) (e := 5) (size := 1) W Z n hB (by simp only [maxLen]; omega) hs
  rw [hZ] at this
  exact this
theorem ownb_at {W : World} {g : Nat} (Z : Array Value) (n : Nat) (l : List UInt8) (hg : W.heap.size = g) (hn : l.length = n) (hm : n ≤ 1099511627776) (hZ : Z.toList = l.flatMap bc) : OwnB (W.alloc (.cells Z 5)) g (some ⟨g, 0, none⟩) n n l := by
  subst hg
  exact ownb_lit W Z n _ l (Nat.le_refl _) hn hm hZ
end Go.Proofs.Ytejalfjeihlpeaa

namespace Go.Proofs.Ytejalfjeihlpeaa
open Go.RowKit Go.Acc
theorem keyE_no {l : List UInt8} {a : Nat} (h : ¬ zeroAt l a < l.length) : keyE l a = 213 := if_neg h
theorem keyE_yes {l : List UInt8} {a : Nat} (h : zeroAt l a < l.length) : keyE l a = 0 := if_pos h
set_option maxHeartbeats 1000000 in
theorem key_spec (A : Option Addr) (n c a : Nat) (l : List UInt8) (w : World) (h : IsB w A n l) (hc : n ≤ c) (ha : a ≤ n) (hn : n ≤ 9223372036854775807) :
    Calls Try.prog 89 #[.slice A n c, .int .i64 a] w (FoundW w A n l (if keyE l a = 0 then a else 0) (if keyE l a = 0 then keyL l a else []) (keyE l a)) := by
  have hlen := h.1
  subst hlen
  have HI := Lib.hid (h.alloc (.cells #[.int .i64 0, .slice none 0 0] 111))
  have HI0 := Lib.hid h
  clear h
  by_cases hz : zeroAt l a < l.length
  · rw [keyE_yes hz, if_pos rfl, if_pos rfl]
    have hzb := zeroAt_le (l := l) ha
    have hz1 := hzb.1
    have HZ := Lib.hid (show keyL l a = (l.drop a).take (zeroAt l a - a) from rfl)
    rw [HZ.out]
    obtain ⟨z, hze⟩ : ∃ z, zeroAt l a = z := ⟨_, rfl⟩
    have HZE := Lib.hid hze
    rw [hze] at hz hz1 ⊢
    clear hzb hze
    by_cases haz : z = a
    · subst haz
      go_enter Try.func89, Try.ntmps89
      go_wp2_with fail
      go_at_call 106
      refine (end_spec A _ c z l _ HI.out ha hn).mono ?_
      rw [HZE.out]
      rintro e w1 ⟨rfl, rfl⟩
      go_wp2
      refine bodyPost_ret (v := .tuple #[.agg #[.int .i64 z, .slice A 0 0], .int .i64 0]) (by simp [results, Try.results89, go_sem]) rfl ⟨A, 0, 0, rfl, ?_, Nat.le_refl _, ?_⟩
      · rw [Nat.sub_self, List.take_zero]
        exact fun _ _ => Is.nil _ _
      · exact (Below.refl _ _).alloc (Nat.le_refl _) _
    · have hlt : a < z := by omega
      have hza : ¬ z = a := haz
      go_enter Try.func89, Try.ntmps89
      go_wp2_with fail
      go_at_call 106
      refine (end_spec A _ c a l _ HI.out ha hn).mono ?_
      rw [HZE.out]
      rintro e w1 ⟨rfl, rfl⟩
      go_wp2
      refine bodyPost_ret (v := .tuple #[.agg #[.int .i64 a, .slice (A.map fun p => p.add a) (z - a) (z - a)], .int .i64 0]) (by simp [results, Try.results89, go_sem]) rfl ⟨_, _, _, rfl, ?_, Nat.le_refl _, ?_⟩
      · exact fun _ h => isb_part h (by omega)
      · exact (Below.refl _ _).alloc (Nat.le_refl _) _
  · rw [keyE_no hz, if_neg (by decide), if_neg (by decide)]
    go_enter Try.func89, Try.ntmps89
    go_wp2_with fail
    go_at_call 106
    refine (end_spec A _ c a l _ HI.out ha hn).mono ?_
    rintro e w1 ⟨rfl, rfl⟩
    go_wp2
    refine bodyPost_ret (v := .tuple #[.agg #[.int .i64 0, .slice none 0 0], .int .i64 213]) (by simp [results, Try.results89, go_sem]) rfl ⟨none, 0, 0, rfl, fun _ _ => Is.nil _ _, Nat.le_refl _, ?_⟩
    exact (Below.refl _ _).alloc (Nat.le_refl _) _
end Go.Proofs.Ytejalfjeihlpeaa

namespace Go.Proofs.Ytejalfjeihlpeaa
open Go.RowKit Go.Acc
theorem is_drew {α : Type} {f : α → List Value} {w : World} {A : Option Addr} {n : Nat} {l : List α} (h : Is f w A n l) : Is f w.drew A n l := h
theorem cnt_cases (l : List UInt8) (a v k u : Nat) (hu : loadU l ((a : Int) - v) v = u) :
    (a % v ≠ 0 ∧ cntE l a v k = 212) ∨ (a % v = 0 ∧ a < v ∧ cntE l a v k = 211) ∨ (a % v = 0 ∧ v ≤ a ∧ l.length < a + u + k ∧ cntE l a v k = 211) ∨
    (a % v = 0 ∧ v ≤ a ∧ a + u + k ≤ l.length ∧ (l.drop (a + u)).take k = List.replicate k 0 ∧ cntE l a v k = 0) ∨ (a % v = 0 ∧ v ≤ a ∧ a + u + k ≤ l.length ∧ ¬ (l.drop (a + u)).take k = List.replicate k 0 ∧ cntE l a v k = 213) := by
  unfold cntE
  rw [hu]
  by_cases h1 : a % v = 0
  · rw [if_neg (by simpa using h1)]
    by_cases h2 : a < v
    · rw [if_pos h2]; exact .inr (.inl ⟨h1, h2, rfl⟩)
    · rw [if_neg h2]
      by_cases h3 : l.length < a + u + k
      · rw [if_pos h3]; exact .inr (.inr (.inl ⟨h1, by omega, h3, rfl⟩))
      · rw [if_neg h3]
        by_cases h4 : (l.drop (a + u)).take k = List.replicate k 0
        · rw [if_pos h4]; exact .inr (.inr (.inr (.inl ⟨h1, by omega, by omega, h4, rfl⟩)))
        · rw [if_neg h4]; exact .inr (.inr (.inr (.inr ⟨h1, by omega, by omega, h4, rfl⟩)))
  · rw [if_pos h1]; exact .inl ⟨h1, rfl⟩
set_option maxHeartbeats 1000000 in
theorem counted_spec (A : Option Addr) (n c a v k : Nat) (l : List UInt8) (w : World) (h : IsB w A n l) (hc : n ≤ c) (ha : a ≤ n) (hn : n ≤ 1099511627776) (hv : isW (v : Int) = true) (hk : k ≤ 1) :
    Calls Try.prog 90 #[.slice A n c, .int .i64 a, .int .i64 v, .int .i64 k] w (FoundW w A n l (if cntE l a v k = 0 then a else 0) (if cntE l a v k = 0 then cntL l a v else []) (cntE l a v k)) := by
  have hlen := h.1
  subst hlen
  have HI := Lib.hid (h.alloc (.cells #[.int .i64 0, .slice none 0 0] 111))
  have HB := Lib.hid ((Below.refl w.heap.size w).alloc (Nat.le_refl _) (.cells #[.int .i64 0, .slice none 0 0] 111))
  have HK := Lib.hid (Blk.new w 111 #[.int .i64 0, .slice none 0 0])
  clear h
  obtain ⟨u, hu⟩ : ∃ u, loadU l ((a : Int) - v) v = u := ⟨_, rfl⟩
  have HU := Lib.hid hu
  have hv8 : 1 ≤ v ∧ v ≤ 8 := by have := isW_iff.1 hv; omega
  have hv1 := hv8.1
  have hv2 := hv8.2
  have hcs := cnt_cases l a v k u hu
  clear hu hv8
  have hvz : (v == 0) = false := beq_eq_false_iff_ne.mpr (by omega)
  rcases hcs with ⟨h1, he⟩ | ⟨h1, h2, he⟩ | ⟨h1, h2, h3, he⟩ | ⟨h1, h2, h3, h4, he⟩ | ⟨h1, h2, h3, h4, he⟩
  · rw [he, if_neg (by decide), if_neg (by decide)]
    have hm : ((a : Int) % (v : Int) != 0) = true := by simp; omega
    clear he h1
    go_enter Try.func90, Try.ntmps90
    go_wp2
    refine bodyPost_ret (v := .tuple #[.agg #[.int .i64 0, .slice none 0 0], .int .i64 212]) (by simp [results, Try.results90, go_sem]) rfl ⟨none, 0, 0, rfl, fun _ _ => Is.nil _ _, Nat.le_refl _, HB.out⟩
  · rw [he, if_neg (by decide), if_neg (by decide)]
    have hm : ((a : Int) % (v : Int) != 0) = false := by simp; omega
    clear he h1
    go_enter Try.func90, Try.ntmps90
    go_wp2
    refine bodyPost_ret (v := .tuple #[.agg #[.int .i64 0, .slice none 0 0], .int .i64 211]) (by simp [results, Try.results90, go_sem]) rfl ⟨none, 0, 0, rfl, fun _ _ => Is.nil _ _, Nat.le_refl _, HB.out⟩
  · rw [he, if_neg (by decide), if_neg (by decide)]
    clear he
    have hm : ((a : Int) % (v : Int) != 0) = false := by simp; omega
    have hx : decide ((a : Int) < (v : Int)) = false := by simp; omega
    clear h1
    go_enter Try.func90, Try.ntmps90
    go_wp2_with fail
    go_at_call 49
    refine (load_spec A _ c ((a : Int) - v) v l _ HI.out hc (by omega)).mono ?_
    rw [HU.out]
    obtain ⟨er, her⟩ : ∃ er, loadE l.length ((a : Int) - v) v = er := ⟨_, rfl⟩
    rw [her]
    rintro e w1 ⟨rfl, hb⟩
    have HB := Lib.hid (pure_below HB.out hb)
    have HI := Lib.hid (HI.out.pure hb)
    have HK := Lib.hid (HK.out.pure hb)
    have c0 : w1.cell? ⟨w.heap.size, 0, none⟩ = some (.int .i64 0) := HK.out.cell 0
    have c1 : w1.cell? ⟨w.heap.size, 1, none⟩ = some (.slice none 0 0) := HK.out.cell 1
    have f0 := HK.out.frozen 0
    have f1 := HK.out.frozen 1
    have hn63 : l.length ≤ 9223372036854775807 := by omega
    have HWL := Lib.hid (u64_in (l.length : Int) (by omega))
    clear hb her
    by_cases hul : l.length < u
    · have hwl := HWL.out
      have hd : decide ((l.length : Int) < (u : Int)) = true := by simpa using hul
      go_wp2
      refine bodyPost_ret (v := .tuple #[.agg #[.int .i64 0, .slice none 0 0], .int .i64 211]) (by simp [results, Try.results90, go_sem, c0, c1]) rfl ⟨none, 0, 0, rfl, fun _ _ => Is.nil _ _, Nat.le_refl _, ((HB.out.setCell (Nat.le_refl _) _).setCell (Nat.le_refl _) _)⟩
    · have hd : decide ((l.length : Int) < (u : Int)) = false := by simpa using hul
      have W2 := Lib.hid (wrap64_in (u : Int) (by omega))
      have W3 := Lib.hid (wrap64_in ((u : Int) + k) (by omega))
      have HIN := Lib.hid (show inB l.length a ((u : Int) + k) = false from decide_eq_false (by omega))
      have hw2 := W2.out
      have hw3 := W3.out
      have hwl := HWL.out
      go_wp2_with fail
      go_at_call 70
      refine (inside_spec A _ c a ((u : Int) + k) _ hn63).mono ?_
      rw [HIN.out]
      rintro e w2 ⟨rfl, rfl⟩
      go_wp2
      refine bodyPost_ret (v := .tuple #[.agg #[.int .i64 0, .slice none 0 0], .int .i64 211]) (by simp [results, Try.results90, go_sem, c0, c1]) rfl ⟨none, 0, 0, rfl, fun _ _ => Is.nil _ _, Nat.le_refl _, ((HB.out.setCell (Nat.le_refl _) _).setCell (Nat.le_refl _) _)⟩
  · rw [he, if_pos rfl, if_pos rfl]
    clear he
    have HE := Lib.hid (show eqB ((l.drop (a + u)).take k) (List.replicate k 0) = true from decide_eq_true h4)
    clear h4
    have hm : ((a : Int) % (v : Int) != 0) = false := by simp; omega
    have hx : decide ((a : Int) < (v : Int)) = false := by simp; omega
    clear h1
    go_enter Try.func90, Try.ntmps90
    go_wp2_with fail
    go_at_call 49
    refine (load_spec A _ c ((a : Int) - v) v l _ HI.out hc (by omega)).mono ?_
    rw [HU.out]
    obtain ⟨er, her⟩ : ∃ er, loadE l.length ((a : Int) - v) v = er := ⟨_, rfl⟩
    rw [her]
    rintro e w1 ⟨rfl, hb⟩
    have HB := Lib.hid (pure_below HB.out hb)
    have HI := Lib.hid (HI.out.pure hb)
    have HK := Lib.hid (HK.out.pure hb)
    have c0 : w1.cell? ⟨w.heap.size, 0, none⟩ = some (.int .i64 0) := HK.out.cell 0
    have c1 : w1.cell? ⟨w.heap.size, 1, none⟩ = some (.slice none 0 0) := HK.out.cell 1
    have f0 := HK.out.frozen 0
    have f1 := HK.out.frozen 1
    have hn63 : l.length ≤ 9223372036854775807 := by omega
    have HWL := Lib.hid (u64_in (l.length : Int) (by omega))
    clear hb her
    have hd : decide (l.length < u) = false := decide_eq_false (by omega)
    have hd2 : u ≤ l.length := by omega
    obtain ⟨T, hT⟩ : ∃ T, T = a + u := ⟨_, rfl⟩
    obtain ⟨T2, hT2⟩ : ∃ T2, T2 = T + k := ⟨_, rfl⟩
    obtain ⟨Z, hZ1, hZ2, hmk⟩ := make_b k (by omega)
    obtain ⟨X, hX1, hX2⟩ := cut_any A l.length c T T2 (by omega) (by omega) hc
    obtain ⟨Y, hY1, hY2⟩ := cut_full A l.length c a T (by omega) (by omega) hc
    have HIN := Lib.hid (show inB l.length a ((u : Int) + k) = true from inB_iff.2 ⟨by omega, by omega, by omega⟩)
    have W2 := Lib.hid (wrap64_in (u : Int) (by omega))
    have W3 := Lib.hid (wrap64_in ((u : Int) + k) (by omega))
    have W4 := Lib.hid ((wrap64_in ((a : Int) + u) (by omega)).trans (show (a : Int) + u = (T : Int) by omega))
    have W5 := Lib.hid ((IntWalk.i64_in ((T : Int) + (k : Int)) (by omega)).trans (show (T : Int) + k = (T2 : Int) by omega))
    have W6 := Lib.hid ((wrap64_in ((T : Int) + (k : Int)) (by omega)).trans (show (T : Int) + k = (T2 : Int) by omega))
    have s0 : (0 : Int) ≤ T := by omega
    have s1 : (T : Int) ≤ T2 := by omega
    have s2 : (T2 : Int) ≤ c := by omega
    have s3 : (0 : Int) ≤ k := by omega
    rw [show T2 - T = k by omega] at hX1 hX2
    rw [show T - a = u by omega] at hY1 hY2
    have HX2 := Lib.hid hX2
    have HY2 := Lib.hid hY2
    have HZ2 := Lib.hid hZ2
    have HAU := Lib.hid (show (a : Int) + u = (T : Int) by omega)
    have HT := Lib.hid hT
    rw [← hT] at HE
    have HT2 := Lib.hid hT2
    clear hX2 hY2 hZ1 hZ2 hT hT2 h3
    have hw2 := W2.out
    have hw3 := W3.out
    have hwl := HWL.out
    go_wp2_with fail
    go_at_call 70
    refine (inside_spec A _ c a ((u : Int) + k) _ hn63).mono ?_
    rw [HIN.out]
    rintro e w2 ⟨rfl, rfl⟩
    clear hw3
    have hw4 := W4.out
    have hw5 := W5.out
    have hw6 := W6.out
    go_wp2_with fail
    rw [← HAU.out] at hX1 hY1 hw5 hw6
    have HID := Lib.hid (is_drew HI.out)
    go_region_held3 (fun w' => w'.cell? ⟨w.heap.size, 0, none⟩ = some (.int .i64 0) ∧ w'.cell? ⟨w.heap.size, 1, none⟩ = some (.slice none 0 0)) (first | assumption | exact ⟨c0, c1⟩ | exact ⟨cell_pure ((Below.refl _ _).alloc (Nat.le_refl _) _).drew c0, cell_pure ((Below.refl _ _).alloc (Nat.le_refl _) _).drew c1⟩ | exact ⟨cell_pure ((Below.refl _ _).alloc (Nat.le_refl _) _) c0, cell_pure ((Below.refl _ _).alloc (Nat.le_refl _) _) c1⟩)
      (first | (go_at_call 107; refine (bequal_spec X _ k k _ _ ((l.drop T).take k) (List.replicate k 0) _ (HX2.out _ _ (HID.out.alloc _)) (isb_lit _ Z (List.replicate k 0) k (by simp) HZ2.out)).mono ?_; rw [HE.out]; rintro e w5 ⟨rfl, rfl⟩))
    have hbz := (Below.refl w1.heap.size w1).alloc (Nat.le_refl _) (.cells Z 5)
    have d0 := cell_pure hbz (p := ⟨w.heap.size, 0, none⟩) (u := .int .i64 0) c0
    have d1 := cell_pure hbz (p := ⟨w.heap.size, 1, none⟩) (u := .slice none 0 0) c1
    have HF := Lib.hid (HK.out.pure hbz)
    have g0 := HF.out.frozen 0
    have g1 := HF.out.frozen 1
    have HB := Lib.hid (pure_below HB.out hbz.drew)
    have HIz := Lib.hid (HI.out.pure hbz.drew)
    clear hbz c0 c1 f0 f1
    go_wp2
    refine bodyPost_ret (v := .tuple #[.agg #[.int .i64 a, .slice Y u u], .int .i64 0]) (by simp [results, Try.results90, go_sem, d0, d1]) rfl ⟨Y, u, u, rfl, ?_, Nat.le_refl _, (HB.out.setCell (Nat.le_refl _) _).setCell (Nat.le_refl _) _⟩
    unfold cntL
    rw [HU.out]
    exact fun _ h => HY2.out _ _ h
  · rw [he, if_neg (by decide), if_neg (by decide)]
    clear he
    have HE := Lib.hid (show eqB ((l.drop (a + u)).take k) (List.replicate k 0) = false from decide_eq_false h4)
    clear h4
    have hm : ((a : Int) % (v : Int) != 0) = false := by simp; omega
    have hx : decide ((a : Int) < (v : Int)) = false := by simp; omega
    clear h1
    go_enter Try.func90, Try.ntmps90
    go_wp2_with fail
    go_at_call 49
    refine (load_spec A _ c ((a : Int) - v) v l _ HI.out hc (by omega)).mono ?_
    rw [HU.out]
    obtain ⟨er, her⟩ : ∃ er, loadE l.length ((a : Int) - v) v = er := ⟨_, rfl⟩
    rw [her]
    rintro e w1 ⟨rfl, hb⟩
    have HB := Lib.hid (pure_below HB.out hb)
    have HI := Lib.hid (HI.out.pure hb)
    have HK := Lib.hid (HK.out.pure hb)
    have c0 : w1.cell? ⟨w.heap.size, 0, none⟩ = some (.int .i64 0) := HK.out.cell 0
    have c1 : w1.cell? ⟨w.heap.size, 1, none⟩ = some (.slice none 0 0) := HK.out.cell 1
    have f0 := HK.out.frozen 0
    have f1 := HK.out.frozen 1
    have hn63 : l.length ≤ 9223372036854775807 := by omega
    have HWL := Lib.hid (u64_in (l.length : Int) (by omega))
    clear hb her
    have hd : decide (l.length < u) = false := decide_eq_false (by omega)
    have hd2 : u ≤ l.length := by omega
    obtain ⟨T, hT⟩ : ∃ T, T = a + u := ⟨_, rfl⟩
    obtain ⟨T2, hT2⟩ : ∃ T2, T2 = T + k := ⟨_, rfl⟩
    obtain ⟨Z, hZ1, hZ2, hmk⟩ := make_b k (by omega)
    obtain ⟨X, hX1, hX2⟩ := cut_any A l.length c T T2 (by omega) (by omega) hc
    obtain ⟨Y, hY1, hY2⟩ := cut_full A l.length c a T (by omega) (by omega) hc
    have HIN := Lib.hid (show inB l.length a ((u : Int) + k) = true from inB_iff.2 ⟨by omega, by omega, by omega⟩)
    have W2 := Lib.hid (wrap64_in (u : Int) (by omega))
    have W3 := Lib.hid (wrap64_in ((u : Int) + k) (by omega))
    have W4 := Lib.hid ((wrap64_in ((a : Int) + u) (by omega)).trans (show (a : Int) + u = (T : Int) by omega))
    have W5 := Lib.hid ((IntWalk.i64_in ((T : Int) + (k : Int)) (by omega)).trans (show (T : Int) + k = (T2 : Int) by omega))
    have W6 := Lib.hid ((wrap64_in ((T : Int) + (k : Int)) (by omega)).trans (show (T : Int) + k = (T2 : Int) by omega))
    have s0 : (0 : Int) ≤ T := by omega
    have s1 : (T : Int) ≤ T2 := by omega
    have s2 : (T2 : Int) ≤ c := by omega
    have s3 : (0 : Int) ≤ k := by omega
    rw [show T2 - T = k by omega] at hX1 hX2
    rw [show T - a = u by omega] at hY1 hY2
    have HX2 := Lib.hid hX2
    have HY2 := Lib.hid hY2
    have HZ2 := Lib.hid hZ2
    have HAU := Lib.hid (show (a : Int) + u = (T : Int) by omega)
    have HT := Lib.hid hT
    rw [← hT] at HE
    have HT2 := Lib.hid hT2
    clear hX2 hY2 hZ1 hZ2 hT hT2 h3
    have hw2 := W2.out
    have hw3 := W3.out
    have hwl := HWL.out
    go_wp2_with fail
    go_at_call 70
    refine (inside_spec A _ c a ((u : Int) + k) _ hn63).mono ?_
    rw [HIN.out]
    rintro e w2 ⟨rfl, rfl⟩
    clear hw3
    have hw4 := W4.out
    have hw5 := W5.out
    have hw6 := W6.out
    go_wp2_with fail
    rw [← HAU.out] at hX1 hY1 hw5 hw6
    have HID := Lib.hid (is_drew HI.out)
    go_region_held3 (fun w' => w'.cell? ⟨w.heap.size, 0, none⟩ = some (.int .i64 0) ∧ w'.cell? ⟨w.heap.size, 1, none⟩ = some (.slice none 0 0)) (first | assumption | exact ⟨c0, c1⟩ | exact ⟨cell_pure ((Below.refl _ _).alloc (Nat.le_refl _) _).drew c0, cell_pure ((Below.refl _ _).alloc (Nat.le_refl _) _).drew c1⟩ | exact ⟨cell_pure ((Below.refl _ _).alloc (Nat.le_refl _) _) c0, cell_pure ((Below.refl _ _).alloc (Nat.le_refl _) _) c1⟩)
      (first | (go_at_call 107; refine (bequal_spec X _ k k _ _ ((l.drop T).take k) (List.replicate k 0) _ (HX2.out _ _ (HID.out.alloc _)) (isb_lit _ Z (List.replicate k 0) k (by simp) HZ2.out)).mono ?_; rw [HE.out]; rintro e w5 ⟨rfl, rfl⟩))
    have hbz := (Below.refl w1.heap.size w1).alloc (Nat.le_refl _) (.cells Z 5)
    have d0 := cell_pure hbz (p := ⟨w.heap.size, 0, none⟩) (u := .int .i64 0) c0
    have d1 := cell_pure hbz (p := ⟨w.heap.size, 1, none⟩) (u := .slice none 0 0) c1
    have HF := Lib.hid (HK.out.pure hbz)
    have g0 := HF.out.frozen 0
    have g1 := HF.out.frozen 1
    have HB := Lib.hid (pure_below HB.out hbz.drew)
    have HIz := Lib.hid (HI.out.pure hbz.drew)
    clear hbz c0 c1 f0 f1
    go_wp2
    refine bodyPost_ret (v := .tuple #[.agg #[.int .i64 0, .slice none 0 0], .int .i64 213]) (by simp [results, Try.results90, go_sem, d0, d1]) rfl ⟨none, 0, 0, rfl, fun _ _ => Is.nil _ _, Nat.le_refl _, (HB.out.setCell (Nat.le_refl _) _).setCell (Nat.le_refl _) _⟩
end Go.Proofs.Ytejalfjeihlpeaa
