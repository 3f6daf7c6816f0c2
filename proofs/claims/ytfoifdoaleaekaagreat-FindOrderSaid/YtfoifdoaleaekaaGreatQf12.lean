/-
  Package buf: Num, sum, Text.
  Package buf: Text, Bytes, New.
  Package stack, for the builder: copies (XStackA without the laws' helpers).
  The walks over the stack's methods and the reference's.
-/
import Derived.Test.YtfoifdoaleaekaaGreatQf11
namespace Go.Proofs.YtfoifdoaleaekaaGreat
open Go.RowKit Go.Acc
theorem blk_new3 (w : World) (o o' : Obj) (t : TypeId) (cs : Array Value) : Blk (((w.alloc o).alloc o').alloc (.cells cs t)) (w.heap.size + 1 + 1) t cs := by
  have h := blk_new2 (w.alloc o) o' t cs
  have e : (w.alloc o).heap.size = w.heap.size + 1 := by simp
  rw [e] at h
  exact h
set_option maxHeartbeats 1000000 in
theorem bnum1_spec (bx bw bu b y u : Nat) (l : List UInt8) (w : World) (o : Nat → Nat) (h : Buf w o b l) (hx : Blk w bx 151 #[.pointer (some ⟨b, 0, none⟩)]) (hw : Blk w bw 3 #[.int .i64 (y : Int)]) (hu : Blk w bu 22 #[.int .u64 (u : Int)])
    (hy : isW (y : Int) = true) (hf : fitsU y u = true) (hu64 : (u : Int) < 18446744073709551616) (hm : l.length + y ≤ 1048576) :
    Calls Tryz.prog 198 #[.pointer (some ⟨bw, 0, none⟩), .pointer (some ⟨bu, 0, none⟩), .pointer (some ⟨bx, 0, none⟩)] w (BufTo w o b (l ++ leBytes y u)) := by
  have w0 : w.cell? ⟨bw, 0, none⟩ = some (.int .i64 (y : Int)) := hw.cell 0
  have u0 : w.cell? ⟨bu, 0, none⟩ = some (.int .u64 (u : Int)) := hu.cell 0
  have H := Lib.hid h
  have HX := Lib.hid hx
  have HU := Lib.hid hu64
  have e1 : putE (y : Int) (fitsU (y : Int).toNat u) = 0 := by
    rw [show (y : Int).toNat = y from rfl, hf]; simp [putE, hy]
  have e2 : putB [] (y : Int) u (fitsU (y : Int).toNat u) = leBytes y u := by
    rw [show (y : Int).toNat = y from rfl, hf]; simp [putB, hy]
  have hP := put_spec none 0 0 u (y : Int) [] w (Is.nil _ _) (Nat.le_refl _) (by omega) hu64
  rw [e1, e2] at hP
  have HP := Lib.hid hP
  clear h hx hw hu hy hf hu64 e1 e2 hP
  go_enter Tryz.func198, Tryz.ntmps198
  go_wp2_with fail
  go_at_call 199
  refine HP.out.mono ?_
  rintro e w1 ⟨A, n, c, rfl, hO, hB⟩
  have hn : n = y := by rw [← hO.1, leBytes_length]
  have x1 : w1.cell? ⟨bx, 0, none⟩ = some (.pointer (some ⟨b, 0, none⟩)) := (HX.out.pure hB).cell 0
  have HI := Lib.hid (show IsB w1 A y (leBytes y u) by have h := hO.is; rw [hn] at h; exact h)
  have HN := Lib.hid hn
  have H1 := Lib.hid (H.out.pure hB)
  have HB := Lib.hid hB
  clear hO hB w0 u0 hn
  rw [HN.out]
  go_wp2_with fail
  go_at_call 197
  refine (bput_spec b y _ _ l (leBytes y u) _ o H1.out HI.out hm).mono ?_
  intro e w2 hB2
  obtain rfl := hB2.1
  have HB2 := Lib.hid hB2
  clear hB2
  go_wp2
  go_end0
  exact HB2.out.from_pure HB.out
set_option maxHeartbeats 1000000 in
theorem bnum_spec (b y u : Nat) (l : List UInt8) (w : World) (o : Nat → Nat) (h : Buf w o b l) (hy : isW (y : Int) = true) (hf : fitsU y u = true) (hu64 : (u : Int) < 18446744073709551616) (hm : l.length + y ≤ 1048576) :
    Calls Tryz.prog 133 #[.pointer (some ⟨b, 0, none⟩), .int .i64 (y : Int), .int .u64 (u : Int)] w (BufTo w o b (l ++ leBytes y u)) := by
  have H := Lib.hid h
  have HY := Lib.hid hy
  have HF := Lib.hid hf
  have HU := Lib.hid hu64
  clear h hy hf hu64
  go_enter Tryz.func133, Tryz.ntmps133
  go_wp2_with fail
  have hB : Below w.heap.size w (((w.alloc (.cells #[.pointer (some ⟨b, 0, none⟩)] 151)).alloc (.cells #[.int .i64 (y : Int)] 3)).alloc (.cells #[.int .u64 (u : Int)] 22)) := (((Below.refl _ _).alloc (Nat.le_refl _) _).alloc (by simp) _).alloc (by simp; omega) _
  have hK1 := ((Blk.new w 151 #[.pointer (some ⟨b, 0, none⟩)]).alloc (.cells #[.int .i64 (y : Int)] 3)).alloc (.cells #[.int .u64 (u : Int)] 22)
  have hK2 := (blk_new2 w (.cells #[.pointer (some ⟨b, 0, none⟩)] 151) 3 #[.int .i64 (y : Int)]).alloc (.cells #[.int .u64 (u : Int)] 22)
  have hK3 := blk_new3 w (.cells #[.pointer (some ⟨b, 0, none⟩)] 151) (.cells #[.int .i64 (y : Int)] 3) 22 #[.int .u64 (u : Int)]
  have HBW := Lib.hid hB
  refine (bwith_spec b y 198 _ _ _ HY.out Tryz.call198 ((bnum1_spec w.heap.size (w.heap.size + 1) (w.heap.size + 1 + 1) b y u l _ o (H.out.pure hB) hK1 hK2 hK3 HY.out HF.out HU.out hm).mono fun e w' h => ⟨h.1, h⟩)).mono ?_
  rintro e w' ⟨rfl, o', hB', hT⟩
  have HE := Lib.hid (show BufTo w o b (l ++ leBytes y u) (.returned (.tuple #[])) w' from BufTo.from_pure HBW.out ⟨rfl, o', hB', hT⟩)
  clear hB hK1 hK2 hK3 hB' hT HBW
  go_wp2
  go_end0
  exact HE.out
def stc (s : List UInt8) : List Value := [.string ⟨s.toArray⟩]
theorem stc_len (s : List UInt8) : (stc s).length = 1 := rfl
theorem stc_one (s : List UInt8) : ∀ u ∈ stc s, u.oneCell' = true := by
  intro u hu
  simp [stc] at hu
  subst hu
  rfl
abbrev IsS := Is stc
theorem iss_at {w : World} {A : Option Addr} {n : Nat} {l : List (List UInt8)} (h : IsS w A n l) {k : Nat} (hk : k < n) :
    ∃ b off, A = some ⟨b, off, none⟩ ∧ ∃ hk : k < l.length, w.cell? ⟨b, off + k, none⟩ = some (.string ⟨l[k].toArray⟩) := by
  obtain ⟨b, off, e, hk', hc⟩ := h.at_ stc_len (by omega) hk
  exact ⟨b, off, e, hk', by have := hc 0 (by omega); simpa [stc] using this⟩
theorem flat_take (l : List (List UInt8)) {k : Nat} (hk : k < l.length) : (l.take (k + 1)).flatten = (l.take k).flatten ++ l[k] := by
  rw [List.take_succ_eq_append_getElem hk, List.flatten_append]; simp
theorem flat_le (l : List (List UInt8)) (k : Nat) : (l.take k).flatten.length ≤ l.flatten.length := by
  conv => rhs; rw [← List.take_append_drop k l]
  rw [List.flatten_append, List.length_append]; omega
set_option maxHeartbeats 400000 in
theorem bsum_spec (A : Option Addr) (n c : Nat) (l : List (List UInt8)) (w : World) (h : IsS w A n l) (hm : l.flatten.length ≤ 1048576) (hn : n ≤ 1048576) :
    Calls Tryz.prog 202 #[.slice A n c] w fun e w' => e = .returned (.int .i64 (l.flatten.length : Int)) ∧ ∃ nd, w' = w.drewN nd := by
  go_enter Tryz.func202, Tryz.ntmps202
  go_wp2
  go_loopw [2, 7] (fun s i wr => ∃ k : Nat, k ≤ n ∧ i = .int .i64 k ∧ s = .int .i64 ((l.take k).flatten.length : Int) ∧ ∃ nd, wr = w.drewN nd) (fun _ i _ => n - (intOf i).toNat)
  case atStart => exact ⟨0, Nat.zero_le _, rfl, rfl, 0, rfl⟩
  case round =>
    obtain ⟨k, hk, rfl, rfl, nd, rfl⟩ := hrel
    by_cases hlt : k < n
    · obtain ⟨b1, o1, rfl, hk1, a0⟩ := iss_at h hlt
      have hs := Lib.hid (flat_take l hk1)
      have h1 := flat_le l (k + 1)
      rw [hs.out, List.length_append] at h1
      generalize hP : (l.take k).flatten.length = P at *
      have HPP := Lib.hid hP
      clear hP h
      go_wp2
      go_roundw
      case rel => exact ⟨k + 1, by omega, by go_num, by rw [hs.out, List.length_append, HPP.out]; go_num, ⟨_, rfl⟩⟩
      case measure => simp [intOf]; omega
    · have hk' : k = n := by omega
      have e := Lib.hid (show (l.take k).flatten.length = l.flatten.length by rw [hk', List.take_of_length_le (by rw [h.1]; exact Nat.le_refl _)])
      clear h hk'
      go_wp2
      go_ret
      exact ⟨by rw [e.out]; rfl, nd, rfl⟩
end Go.Proofs.YtfoifdoaleaekaaGreat

namespace Go.Proofs.YtfoifdoaleaekaaGreat
open Go.RowKit Go.Acc
theorem str_b (s : List UInt8) (w : World) : ∃ c w', (convert 9 29 (.string ⟨s.toArray⟩)).run Tryz.prog w = .ok (.slice (some ⟨w.heap.size, 0, none⟩) s.length c) w' ∧ IsB w' (some ⟨w.heap.size, 0, none⟩) s.length s ∧ Below w.heap.size w w' := by
  refine ⟨_, _, run_bytes_of_string w 9 29 5 ⟨s.toArray⟩ Tryz.underlying9 Tryz.underlying29 Tryz.underlying5, ?_, (Below.refl _ _).drew.alloc (Nat.le_refl _) _⟩
  refine ⟨rfl, fun j u hu => ⟨_, _, rfl, ?_⟩⟩
  have hj : j < s.length := by
    have := (List.getElem?_eq_some_iff.1 hu).1
    rw [fm_length bc_len] at this
    simpa using this
  have hg := heap_alloc_new w.drew (.cells (bytesRow ⟨s.toArray⟩ (grownCap w s.length 0 5)) 5 ((bytesRow ⟨s.toArray⟩ (grownCap w s.length 0 5)).size, (bytesRow ⟨s.toArray⟩ (grownCap w s.length 0 5)).size + 1))
  change _[w.heap.size]? = _ at hg
  rw [show (⟨s.toArray⟩ : ByteArray).size = s.length from rfl, cell_of_row _ _ _ _ _ _ hg, Nat.zero_add, bytesRow_at ⟨s.toArray⟩ _ j (by simpa using hj), ← hu]
  have h1 := fm_at bc_len s j 0 hj (by omega)
  rw [Nat.mul_one, Nat.add_zero] at h1
  rw [h1]
  rfl
set_option maxRecDepth 100000 in
set_option maxHeartbeats 1500000 in
theorem btext_spec (b n c : Nat) (A : Option Addr) (L : List (List UInt8)) (l : List UInt8) (w : World) (o : Nat → Nat) (h : Buf w o b l) (hA : IsS w A n L) (ho : ∀ ad, A = some ad → o ad.block ≠ 1) (hm : l.length + L.flatten.length ≤ 1048576) (hn : n ≤ 1000) :
    Calls Tryz.prog 134 #[.pointer (some ⟨b, 0, none⟩), .slice A n c] w (BufTo w o b (l ++ L.flatten)) := by
  have H := Lib.hid h
  have HA := Lib.hid hA
  have HOO := Lib.hid ho
  have HM := Lib.hid hm
  obtain ⟨m, hlm⟩ : ∃ m, l.length = m := ⟨_, rfl⟩
  obtain ⟨k, hk⟩ : ∃ k, L.flatten.length = k := ⟨_, rfl⟩
  have hmk : m + k ≤ 1048576 := by omega
  obtain ⟨A', n', c', hb, _⟩ := h
  have c2 : w.cell? ⟨b, 2, none⟩ = some (.int .i64 1048576) := hb.cell 2
  have HLM := Lib.hid hlm
  have HK := Lib.hid hk
  have hsum := bsum_spec A n c L w.drew hA (by omega) (by omega)
  rw [hk] at hsum
  have HS := Lib.hid hsum
  clear hb hA ho hm hlm hk hsum
  have hwr : IntKind.i64.wrap (1048576 - (m : Int)) = 1048576 - (m : Int) := wrap_in _ (by omega)
  have hlt : decide ((1048576 : Int) - (m : Int) < (k : Int)) = false := decide_eq_false (by omega)
  go_enter Tryz.func134, Tryz.ntmps134
  go_wp2_with (go_at_call 201; refine (berr_is H.out).mono ?_; rintro e w' ⟨rfl, rfl⟩)
  go_region_held3 (fun w' => w'.cell? ⟨b, 2, none⟩ = some (.int .i64 1048576)) (first | with_reducible exact c2 | with_reducible exact kdrew c2 | with_reducible exact kdrewN _ c2) (first | (go_at_call 202; (with_reducible refine HS.out.mono ?_); rintro e w' ⟨rfl, nd, rfl⟩) | (go_at_call 129; (with_reducible refine (blen_is m (H.out.drewN _) HLM.out).mono ?_); rintro e w' ⟨rfl, rfl⟩))
  have HB := Lib.hid (show Below w.heap.size w (w.drewN (1 + nd)) from below_drewN (Below.refl _ _) _)
  generalize w.drewN (1 + nd) = W at *
  clear c2 hwr hlt
  go_wp2_with fail
  go_loopw [26] (fun i wr => ∃ j : Nat, j ≤ n ∧ i = .int .i64 j ∧ ∃ o', Buf wr o' b (l ++ (L.take j).flatten) ∧ To (fun i => i = 1) w o wr o' ∧ IsS wr A n L ∧ ∀ ad, A = some ad → o' ad.block ≠ 1) (fun i _ => n - (intOf i).toNat)
  case atStart => exact ⟨0, Nat.zero_le _, rfl, o, by rw [List.take_zero, List.flatten_nil, List.append_nil]; exact H.out.pure HB.out, To.pure _ HB.out o, HA.out.pure HB.out, HOO.out⟩
  case round =>
    clear H HA HB HOO
    obtain ⟨j, hj, rfl, o', hb, ht, ha, ho⟩ := hrel
    have HB := Lib.hid hb
    have HT := Lib.hid ht
    have HA := Lib.hid ha
    have HOO := Lib.hid ho
    have hL := ha.1
    clear hb ht ha ho
    by_cases hjn : j < n
    · obtain ⟨b1, o1, rfl, hj1, a0⟩ := iss_at HA.out hjn
      have hs := flat_take L hj1
      have h1 := flat_le L (j + 1)
      rw [hs, List.length_append] at h1
      have HL1 := Lib.hid (show (l ++ (L.take j).flatten).length + L[j].length ≤ 1048576 by have := HM.out; rw [List.length_append]; omega)
      have HS := Lib.hid hs
      have hc0 : (0 : Int) ≤ (j : Int) := by omega
      obtain ⟨sj, hsj⟩ : ∃ x, L[j] = x := ⟨_, rfl⟩
      rw [hsj] at a0
      obtain ⟨cj, wj, hcv, hI, hB2⟩ := str_b sj wr
      have HI := Lib.hid hI
      have HB2 := Lib.hid hB2
      have HSJ := Lib.hid hsj
      clear hs h1 hI hB2 hsj hL HM
      go_wp2_with fail
      go_at_call 197
      refine (bput_spec b sj.length _ _ (l ++ (L.take j).flatten) sj _ o' (HB.out.pure HB2.out) HI.out (by rw [← HSJ.out]; exact HL1.out)).mono ?_
      rintro e w2 ⟨rfl, o2, hb2, ht2⟩
      have HR := Lib.hid (show Buf w2 o2 b (l ++ (L.take (j + 1)).flatten) from by rw [HS.out, HSJ.out, ← List.append_assoc]; exact hb2)
      have ht3 := To.from_pure HB2.out ht2
      have HT2 := Lib.hid ht3
      clear hb2 ht2 ht3
      go_wp2
      go_roundw
      case rel =>
        refine ⟨j + 1, by omega, by go_num, o2, HR.out, HT.out.trans HT2.out, HA.out.fr HT2.out.fr (fun ad h => HOO.out ad h), fun ad h => ?_⟩
        injection h with h
        subst h
        have hlt1 := lt_of_cell a0
        rw [HT2.out.ow _ hlt1]
        exact HOO.out ⟨b1, o1, none⟩ rfl
      case measure => simp [intOf]; omega
    · have HE := Lib.hid (show (L.take j).flatten = L.flatten by rw [List.take_of_length_le (by omega)])
      clear hL
      go_wp2
      go_end0
      exact ⟨rfl, o', by rw [← HE.out]; exact HB.out, HT.out⟩
set_option maxHeartbeats 400000 in
theorem bbytes_spec (b : Nat) (l : List UInt8) (w : World) (o : Nat → Nat) (h : Buf w o b l) (hm : l.length ≤ 1048576) :
    Calls Tryz.prog 135 #[.pointer (some ⟨b, 0, none⟩)] w (PutW w l 0) := by
  have H := Lib.hid h
  obtain ⟨A, n, c, hb, ho, _⟩ := h
  have c1 : w.cell? ⟨b, 1, none⟩ = some (.slice A n c) := hb.cell 1
  have HO := Lib.hid ho
  have HN := Lib.hid (show n ≤ 1099511627776 by have := ho.1; omega)
  clear hb ho
  go_enter Tryz.func135, Tryz.ntmps135
  go_wp2_with (go_at_call 201; refine (berr_is H.out).mono ?_; rintro e w' ⟨rfl, rfl⟩)
  refine (cloneb_spec A n c l _ HO.out.is HN.out).mono ?_
  rintro e w' ⟨A1, n1, c1', rfl, hO, hB⟩
  have HO1 := Lib.hid hO
  have HB1 := Lib.hid hB
  clear hO hB
  go_wp2
  go_ret2
  exact ⟨A1, n1, c1', rfl, HO1.out, HB1.out⟩
theorem bnew_spec (w : World) :
    Calls Tryz.prog 101 #[.int .i64 1048576] w fun e w' => ∃ b, e = .returned (.pointer (some ⟨b, 0, none⟩)) ∧ Blk w' b 208 #[.bool true, .slice none 0 0, .int .i64 1048576, .int .i64 0] ∧ w.heap.size ≤ b ∧ Below w.heap.size w w' := by
  go_enter Tryz.func101, Tryz.ntmps101
  go_wp2
  go_ret
  exact ⟨_, rfl, Blk.new w _ _, Nat.le_refl _, (Below.refl _ _).alloc (Nat.le_refl _) _⟩
end Go.Proofs.YtfoifdoaleaekaaGreat

namespace Go.Proofs.YtfoifdoaleaekaaGreat
open Go.RowKit Go.Acc

abbrev V3 := Int × Int × Int
def vc (x : V3) : List Value := [.int .i64 x.1, .int .i64 x.2.1, .int .u64 x.2.2]
theorem vc_len (x : V3) : (vc x).length = 3 := rfl
theorem vc_one (x : V3) : ∀ u ∈ vc x, u.oneCell' = true := by
  intro u hu
  simp [vc] at hu
  rcases hu with rfl | rfl | rfl <;> rfl
abbrev IsV := Is vc
abbrev OwnV := Go.Acc.Own vc 3 185
theorem isv_at {w : World} {A : Option Addr} {n : Nat} {l : List V3} (h : IsV w A n l) {k : Nat} (hk : k < n) :
    ∃ b off, A = some ⟨b, off, none⟩ ∧ ∃ hk : k < l.length, w.cell? ⟨b, off + k * 3, none⟩ = some (.int .i64 l[k].1) ∧ w.cell? ⟨b, off + k * 3 + 1, none⟩ = some (.int .i64 l[k].2.1) ∧ w.cell? ⟨b, off + k * 3 + 2, none⟩ = some (.int .u64 l[k].2.2) := by
  obtain ⟨b, off, e, hk', hc⟩ := h.at_ vc_len (by omega) hk
  exact ⟨b, off, e, hk', hc 0 (by omega), hc 1 (by omega), hc 2 (by omega)⟩

theorem info_v : (Tryz.prog.info? 185).map (fun i => (i.zero, i.size, i.bytes)) = some (some (.agg #[.int .i64 0, .int .i64 0, .int .u64 0]), 3, 24) := by kernel_rfl

def Copied (w : World) (m : List V3) (e : Ending) (w' : World) : Prop :=
  ∃ A n c, e = .returned (.slice A n c) ∧ OwnV w' w.heap.size A n c m ∧ Below w.heap.size w w'
theorem copied_post {w w1 w' : World} {A : Option Addr} {n c : Nat} {l m : List V3} (h : OwnV w' w.heap.size A n c l) (hl : l = m) (h1 : Below w.heap.size w w1) {S : Nat → Prop} (hg : Fr S w1 w') (hS : ∀ k, k < w.heap.size → ¬ S k) : Copied w m (.returned (.slice A n c)) w' := by
  subst hl
  exact ⟨A, n, c, rfl, h, h1.trans (hg.belowB hS h1.size)⟩

set_option maxHeartbeats 400000 in
theorem clone_spec (A : Option Addr) (n c : Nat) (l : List V3) (w : World) (h : IsV w A n l) (hl : n ≤ 65536) :
    Calls Tryz.prog 232 #[.slice A n c] w (Copied w l) := by
  have hnil := fun (w : World) (A : Option Addr) (n c : Nat) => Lib.run_eql_slice_nil (P := Tryz.prog) w 160 185 A n c 0 0 Tryz.underlying160
  rcases A with _ | a
  · obtain ⟨rfl, rfl⟩ := h.none_ vc_len (by omega)
    clear h hl
    go_enter Tryz.func232, Tryz.ntmps232
    go_wp2_with fail
    go_ret
    exact ⟨none, 0, 0, rfl, Own.nil _ _, Below.refl _ _⟩
  · have hr : IsV (w.alloc (.cells #[] 185)) (some a) n l := h.alloc _
    have ho : OwnV (w.alloc (.cells #[] 185)) w.heap.size (some ⟨w.heap.size, 0, none⟩) 0 0 [] := ⟨rfl, World.ownsRow_lit w #[] 0 (Nat.le_refl _) (Nat.zero_le _) rfl⟩
    have HR := Lib.hid hr
    clear h hr
    go_enter Tryz.func232, Tryz.ntmps232
    go_wp2_with (at_builtin; refine wpl_app _ rfl (.tmp 5) (.tmp 6) _ rfl 185 _ 3 24 Tryz.underlying160 info_v rfl (by omega) vc_len vc_one _ _ _ _ _ rfl ho _ _ _ _ rfl HR.out (by omega) (by simp) ?_; intro A1 c1 w1 hown1 hfr1 hat1)
    go_ret
    exact copied_post (by simpa using hown1) rfl ((Below.refl _ _).alloc (Nat.le_refl _) _) hfr1 (by rintro k hk ⟨ad, h, h'⟩; injection h with h; subst h; simp at h'; omega)

end Go.Proofs.YtfoifdoaleaekaaGreat

namespace Go.Proofs.YtfoifdoaleaekaaGreat
open Go.RowKit Go.Acc

def Out2 (w : World) (m : List V3) (x : Value) (e : Ending) (w' : World) : Prop :=
  ∃ A n c, e = .returned (.tuple #[.slice A n c, x]) ∧ OwnV w' w.heap.size A n c m ∧ Below w.heap.size w w'

def Stk (w : World) (B b : Nat) (g : Option Nat) (l : List V3) : Prop :=
  ∃ A n c, Blk w b 212 #[.slice A n c, .bool true] ∧ OwnV w B A n c l ∧ A.map (·.block) = g ∧ n ≤ 65536 ∧ B ≤ b
def fromL (l : List V3) (s : Int) : List V3 := if 0 ≤ s ∧ s ≤ l.length then l.drop s.toNat else []
def fromB (l : List V3) (s : Int) : Bool := decide (0 ≤ s ∧ s ≤ l.length)
def fromE (l : List V3) (s : Int) : Int := if 0 ≤ s ∧ s ≤ l.length then 0 else 140
theorem from_yes (l : List V3) (k : Nat) (h : k ≤ l.length) : fromL l k = l.drop k ∧ fromB l k = true ∧ fromE l k = 0 :=
  ⟨by unfold fromL; rw [if_pos (by omega)]; simp, decide_eq_true (by omega), if_pos (by omega)⟩
theorem from_no (l : List V3) (s : Int) (h : s < 0 ∨ (l.length : Int) < s) : fromL l s = [] ∧ fromB l s = false ∧ fromE l s = 140 :=
  ⟨if_neg (by omega), decide_eq_false (by omega), if_neg (by omega)⟩

set_option maxHeartbeats 400000 in
theorem none_spec (b : Nat) (w : World) (h : w.cell? ⟨b, 1, none⟩ = some (.bool true)) :
    Calls Tryz.prog 188 #[.pointer (some ⟨b, 0, none⟩)] w fun e w' => e = .returned (.bool false) ∧ w = w' := by
  go_enter Tryz.func188, Tryz.ntmps188
  go_wp2
  go_ret
  exact ⟨rfl, rfl⟩

set_option maxHeartbeats 400000 in
theorem from0_spec (B b : Nat) (g : Option Nat) (l : List V3) (s : Int) (w : World) (h : Stk w B b g l) :
    Calls Tryz.prog 189 #[.pointer (some ⟨b, 0, none⟩), .int .i64 s] w (Out2 w (fromL l s) (.bool (fromB l s))) := by
  obtain ⟨A, n, c, hb, hown, _, hl, _⟩ := h
  have c0 : w.cell? ⟨b, 0, none⟩ = some (.slice A n c) := hb.cell 0
  have hr := hown.is
  have hc := hown.cap.1
  have hlen := hown.1
  clear hb hown
  by_cases h1 : s < 0 ∨ (n : Int) < s
  · obtain ⟨e1, e2, _⟩ := from_no l s (by rw [hlen]; exact h1)
    rw [e1, e2]
    clear hr hlen e1 e2
    rcases h1 with h1 | h1
    · go_enter Tryz.func189, Tryz.ntmps189
      go_wp2
      go_ret2
      exact ⟨none, 0, 0, rfl, Own.nil _ _, Below.refl _ _⟩
    · have h0 : ¬ s < 0 := by omega
      go_enter Tryz.func189, Tryz.ntmps189
      go_wp2
      go_ret2
      exact ⟨none, 0, 0, rfl, Own.nil _ _, Below.refl _ _⟩
  · obtain ⟨k, rfl⟩ := Int.eq_ofNat_of_zero_le (a := s) (by omega)
    have hk : k ≤ n := by omega
    obtain ⟨e1, e2, _⟩ := from_yes l k (by rw [hlen]; exact hk)
    rw [e1, e2]
    have HR := Lib.hid hr
    clear hr h1 e1 e2 hlen
    go_enter Tryz.func189, Tryz.ntmps189
    go_wp2_with fail
    · refine (clone_spec A _ _ (l.drop k) w (HR.out.cut0 (by assumption) hc) (by omega)).mono ?_
      rintro e w' ⟨A', n', c', rfl, ho, hbw⟩
      go_wp2
      go_ret2
      exact ⟨A', n', c', rfl, ho, hbw⟩
    · refine (clone_spec _ _ _ (l.drop k) w (HR.out.cut1 vc_len) (by omega)).mono ?_
      rintro e w' ⟨A', n', c', rfl, ho, hbw⟩
      go_wp2
      go_ret2
      exact ⟨A', n', c', rfl, ho, hbw⟩

set_option maxHeartbeats 400000 in
theorem from_spec (B b : Nat) (g : Option Nat) (l : List V3) (s : Int) (w : World) (h : Stk w B b g l) :
    Calls Tryz.prog 126 #[.pointer (some ⟨b, 0, none⟩), .int .i64 s] w (Out2 w (fromL l s) (.int .i64 (fromE l s))) := by
  have HS := Lib.hid h
  obtain ⟨A, n, c, hb, hown, _, hl, _⟩ := h
  have c1 : w.cell? ⟨b, 1, none⟩ = some (.bool true) := hb.cell 1
  have hlen := hown.1
  clear hb hown
  by_cases h1 : s < 0 ∨ (n : Int) < s
  · obtain ⟨e1, e2, e3⟩ := from_no l s (by rw [hlen]; exact h1)
    rw [e1, e3]
    have E1 := Lib.hid e1
    have E2 := Lib.hid e2
    clear hlen e1 e2 e3 h1
    go_enter Tryz.func126, Tryz.ntmps126
    go_wp2_with (go_at_call 188; refine (none_spec b _ (by assumption)).mono ?_; rintro e w' ⟨rfl, rfl⟩)
    refine (from0_spec B b g l s w HS.out).mono ?_
    rw [E1.out, E2.out]
    rintro e w' ⟨A', n', c', rfl, ho, hbw⟩
    go_wp2
    go_ret2
    exact ⟨none, 0, 0, rfl, Own.nil _ _, hbw⟩
  · obtain ⟨k, rfl⟩ := Int.eq_ofNat_of_zero_le (a := s) (by omega)
    have hk : k ≤ n := by omega
    obtain ⟨e1, e2, e3⟩ := from_yes l k (by rw [hlen]; exact hk)
    rw [e3]
    have E2 := Lib.hid e2
    clear h1 e1 e2 e3 hlen
    go_enter Tryz.func126, Tryz.ntmps126
    go_wp2_with (go_at_call 188; refine (none_spec b _ (by assumption)).mono ?_; rintro e w' ⟨rfl, rfl⟩)
    refine (from0_spec B b g l k w HS.out).mono ?_
    rw [E2.out]
    rintro e w' ⟨A', n', c', rfl, ho, hbw⟩
    go_wp2
    go_ret2
    exact ⟨A', n', c', rfl, ho, hbw⟩

set_option maxHeartbeats 400000 in
theorem len_spec (B b : Nat) (g : Option Nat) (l : List V3) (w : World) (h : Stk w B b g l) :
    Calls Tryz.prog 221 #[.pointer (some ⟨b, 0, none⟩)] w fun e w' => e = .returned (.int .i64 l.length) ∧ w = w' := by
  obtain ⟨A, n, c, hb, hown, _, hl, _⟩ := h
  have c0 : w.cell? ⟨b, 0, none⟩ = some (.slice A n c) := hb.cell 0
  have c1 : w.cell? ⟨b, 1, none⟩ = some (.bool true) := hb.cell 1
  rw [hown.1]
  clear hb hown
  go_enter Tryz.func221, Tryz.ntmps221
  go_wp2_with (go_at_call 188; refine (none_spec b _ (by assumption)).mono ?_; rintro e w' ⟨rfl, rfl⟩)
  go_ret
  exact ⟨rfl, rfl⟩

def Pushed (w : World) (b : Nat) (g : Option Nat) (T : World → Option Nat → Prop) (er : Int) (e : Ending) (w' : World) : Prop :=
  e = .returned (.int .i64 er) ∧ ∃ g', T w' g' ∧ (g' = g ∨ g' = some w.heap.size) ∧ Fr (fun k => k = b ∨ some k = g) w w'

theorem Stk.pure {w w' : World} {B b : Nat} {g : Option Nat} {l : List V3} (h : Stk w B b g l) (hb : Below w.heap.size w w') : Stk w' B b g l := by
  obtain ⟨A, n, c, h1, h2, h3⟩ := h
  exact ⟨A, n, c, h1.pure hb, h2.pure hb, h3⟩
theorem Stk.fr {w w' : World} {B b : Nat} {g : Option Nat} {l : List V3} {S : Nat → Prop} (h : Stk w B b g l) (hb : Fr S w w') (h1 : ¬ S b) (h2 : ∀ k, g = some k → ¬ S k) : Stk w' B b g l := by
  obtain ⟨A, n, c, b1, b2, b3, b4⟩ := h
  exact ⟨A, n, c, b1.fr hb h1, b2.fr hb (fun ad h => h2 _ (by rw [← b3, h]; rfl)), b3, b4⟩
theorem pop_blk {w : World} {b : Nat} {T : TypeId} {u v : Value} {cs : List Value} (hb : Blk w b T (u :: cs).toArray) : Blk (w.setCell ⟨b, 0, none⟩ v) b T (v :: cs).toArray := by
  have := hb.set_ 0 v; simpa using this
theorem pop_own {w : World} {A : Option Addr} {B b n c k : Nat} {l : List V3} {T : TypeId} {u : Value} {cs : List Value} {v : Value} (hT : 185 ≠ T) (hb : Blk w b T (u :: cs).toArray) (ho : OwnV w B A n c l) : OwnV (w.setCell ⟨b, 0, none⟩ v) B A (n - k) c (l.take (n - k)) := by
  refine (ho.fr (Fr.setCell (S := fun k => k = b) (Fr.refl _ _) (fun _ => rfl) v) ?_).take vc_len (by omega)
  rintro ad rfl rfl
  exact own_blk_ne ho.2 hb hT (by simp [Value.ownBlock])
theorem pop_post {w w' : World} {A A' : Option Addr} {B b n c n' c' : Nat} {l m : List V3} {T : TypeId} {u : Value} {cs : List Value} {v : Value} (hT : 185 ≠ T) (hb : Blk w' b T (u :: cs).toArray) (_ho : OwnV w' B A n c l) (ho : OwnV w' w.heap.size A' n' c' m) (_hbw : Below w.heap.size w w') (hlt : b < w.heap.size) :
    OwnV (w'.setCell ⟨b, 0, none⟩ v) w.heap.size A' n' c' m := by
  have _ := hT
  have _ := hb
  refine ho.fr (Fr.setCell (S := fun k => k = b) (Fr.refl _ _) (fun _ => rfl) v) ?_
  rintro ad rfl rfl
  have := (ho.addr ad rfl).2.1
  omega
theorem push_post {w w1 : World} {A A1 : Option Addr} {B b n c n2 c1 : Nat} {g : Option Nat} {l : List V3} (hg : A.map (·.block) = g) (hb : Blk w1 b 212 #[.slice A n c, .bool true]) (ho : OwnV w1 B A1 (n + n2) c1 l)
    (hf : Fr (fun k => ∃ ad, A = some ad ∧ k = ad.block) w w1) (hat : A1.map (·.block) = A.map (·.block) ∨ A1.map (·.block) = some w.heap.size) (hn : n + n2 ≤ 65536) (hB : B ≤ b) (hlt : b < w.heap.size) :
    ∃ g', Stk (w1.setCell ⟨b, 0, none⟩ (.slice A1 (n + n2) c1)) B b g' l ∧ (g' = g ∨ g' = some w.heap.size) ∧ Fr (fun k => k = b ∨ some k = g) w (w1.setCell ⟨b, 0, none⟩ (.slice A1 (n + n2) c1)) := by
  have hset : Fr (fun k => k = b) w1 (w1.setCell ⟨b, 0, none⟩ (.slice A1 (n + n2) c1)) := Fr.setCell (S := fun k => k = b) (Fr.refl _ _) (fun _ => rfl) _
  refine ⟨A1.map (·.block), ⟨A1, n + n2, c1, hb.set_ 0 _, ho.fr hset ?_, rfl, hn, hB⟩, ?_, ?_⟩
  · rintro ad rfl rfl
    exact own_blk_ne ho.2 hb (by decide) (by simp [Value.ownBlock])
  · rw [← hg]; exact hat
  · refine (hf.mono ?_).setCell (fun _ => .inl rfl) _
    rintro i _ ⟨ad, rfl, rfl⟩
    exact .inr (by rw [← hg]; rfl)

set_option maxHeartbeats 400000 in
theorem push_spec (B b : Nat) (g : Option Nat) (l m : List V3) (A2 : Option Addr) (n2 c2 : Nat) (w : World) (h : Stk w B b g l) (hm : IsV w A2 n2 m) (hlm : l.length + m.length ≤ 65536) (hB : B ≤ w.heap.size) :
    Calls Tryz.prog 222 #[.pointer (some ⟨b, 0, none⟩), .slice A2 n2 c2] w (Pushed w b g (fun w' g' => Stk w' B b g' (l ++ m)) 0) := by
  obtain ⟨A, n, c, hb, hown, hg, hl, hBb⟩ := h
  have c0 : w.cell? ⟨b, 0, none⟩ = some (.slice A n c) := hb.cell 0
  have c1 : w.cell? ⟨b, 1, none⟩ = some (.bool true) := hb.cell 1
  rw [hown.1, hm.1] at hlm
  have hne : ∀ ad, A = some ad → ad.block ≠ b := by
    rintro ad rfl e
    exact own_blk_ne hown.2 hb (by decide) (by simp [Value.ownBlock, e])
  have HO := Lib.hid hown
  have HM := Lib.hid hm
  have HB := Lib.hid hb
  have HN := Lib.hid hne
  have hlt := hb.lt
  clear hb hown hm hne
  go_enter Tryz.func222, Tryz.ntmps222
  go_wp2_with (first | (go_at_call 188; refine (none_spec b _ (by assumption)).mono ?_; rintro e w' ⟨rfl, rfl⟩) | ((at_builtin; refine wpl_app _ rfl (.tmp 24) (.tmp 25) _ rfl 185 _ 3 24 Tryz.underlying160 info_v rfl (by omega) vc_len vc_one _ _ _ _ _ rfl HO.out _ _ _ _ rfl HM.out (by omega) hB ?_; intro A1 c1 w1 hown1 hfr1 hat1); have B1 := HB.out.fr hfr1 (by rintro ⟨ad, h, h'⟩; exact HN.out ad h h'.symm); have d0 : w1.cell? ⟨b, 0, none⟩ = some (.slice A n c) := B1.cell 0; have f0 := B1.frozen 0; have HB1 := Lib.hid B1; clear B1))
  go_ret
  exact ⟨rfl, push_post hg HB1.out hown1 hfr1 hat1 hlm hBb hlt⟩

def popE (l : List V3) (s : Int) : Int := if 0 ≤ s ∧ s ≤ l.length then 0 else 140
def popL (l : List V3) (s : Int) : List V3 := if 0 ≤ s ∧ s ≤ l.length then l.drop (l.length - s.toNat) else []
def popR (l : List V3) (s : Int) : List V3 := if 0 ≤ s ∧ s ≤ l.length then l.take (l.length - s.toNat) else l
theorem pop_yes (l : List V3) (k : Nat) (h : k ≤ l.length) : popL l k = l.drop (l.length - k) ∧ popR l k = l.take (l.length - k) ∧ popE l k = 0 :=
  ⟨by unfold popL; rw [if_pos (by omega)]; simp, by unfold popR; rw [if_pos (by omega)]; simp, if_pos (by omega)⟩
theorem pop_no (l : List V3) (s : Int) (h : s < 0 ∨ (l.length : Int) < s) : popL l s = [] ∧ popR l s = l ∧ popE l s = 140 :=
  ⟨if_neg (by omega), if_neg (by omega), if_neg (by omega)⟩

def Popped (w : World) (b : Nat) (T : World → Prop) (m : List V3) (er : Int) (e : Ending) (w' : World) : Prop :=
  ∃ A n c, e = .returned (.tuple #[.slice A n c, .int .i64 er]) ∧ OwnV w' w.heap.size A n c m ∧ T w' ∧ Fr (fun k => k = b) w w'

set_option maxHeartbeats 400000 in
theorem pop_spec (B b : Nat) (g : Option Nat) (l : List V3) (s : Int) (w : World) (h : Stk w B b g l) (hs : -9223372036854775808 ≤ s) (hs2 : s ≤ 9223372036854775807) :
    Calls Tryz.prog 171 #[.pointer (some ⟨b, 0, none⟩), .int .i64 s] w (Popped w b (fun w' => Stk w' B b g (popR l s)) (popL l s) (popE l s)) := by
  have HS := Lib.hid h
  obtain ⟨n, hlen, hl⟩ : ∃ n, l.length = n ∧ n ≤ 65536 := by obtain ⟨A, n, c, hb, hown, hg, hl, hBb⟩ := h; exact ⟨n, hown.1, hl⟩
  clear h
  by_cases h1 : s < 0 ∨ (n : Int) < s
  · obtain ⟨e1, e2, e3⟩ := pop_no l s (by rw [hlen]; exact h1)
    rw [e1, e2, e3]
    clear e1 e2 e3
    rcases h1 with h1 | h1
    · obtain ⟨f1, f2, f3⟩ := from_no l (-1) (.inl (by omega))
      have F1 := Lib.hid f1
      have F3 := Lib.hid f3
      have HL := Lib.hid hlen
      clear f1 f2 f3 hlen
      go_enter Tryz.func171, Tryz.ntmps171
      go_wp2_with (go_at_call 221; refine (len_spec B b g l _ HS.out).mono ?_; rw [HL.out]; rintro e w' ⟨rfl, rfl⟩)
      refine (from_spec B b g l (-1) w HS.out).mono ?_
      rw [F1.out, F3.out]
      rintro e w' ⟨A', n', c', rfl, ho, hbw⟩
      go_wp2
      go_ret2
      exact ⟨A', n', c', rfl, ho, HS.out.pure hbw, Fr.of_below hbw _⟩
    · obtain ⟨f1, f2, f3⟩ := from_no l ((n : Int) - s) (.inl (by omega))
      have F1 := Lib.hid f1
      have F3 := Lib.hid f3
      have HL := Lib.hid hlen
      have h0 : ¬ s < 0 := by omega
      clear f1 f2 f3 hlen
      go_enter Tryz.func171, Tryz.ntmps171
      go_wp2_with (go_at_call 221; refine (len_spec B b g l _ HS.out).mono ?_; rw [HL.out]; rintro e w' ⟨rfl, rfl⟩)
      refine (from_spec B b g l _ w HS.out).mono ?_
      rw [F1.out, F3.out]
      rintro e w' ⟨A', n', c', rfl, ho, hbw⟩
      go_wp2
      go_ret2
      exact ⟨A', n', c', rfl, ho, HS.out.pure hbw, Fr.of_below hbw _⟩
  · obtain ⟨k, rfl⟩ := Int.eq_ofNat_of_zero_le (a := s) (by omega)
    have hk : k ≤ n := by omega
    obtain ⟨e1, e2, e3⟩ := pop_yes l k (by rw [hlen]; exact hk)
    rw [e1, e2, e3]
    obtain ⟨f1, f2, f3⟩ := from_yes l (n - k) (by omega)
    have ek : ((n - k : Nat) : Int) = (n : Int) - k := by omega
    rw [ek] at f1 f3
    have F1 := Lib.hid f1
    have F3 := Lib.hid f3
    have HL := Lib.hid hlen
    clear e1 e2 e3 f1 f2 f3 ek h1 hlen
    obtain ⟨A, n0, c, hb, hown, hg, hl, hBb⟩ := HS.out
    obtain rfl : n = n0 := HL.out.symm.trans hown.1
    have HB := Lib.hid hb
    have HO := Lib.hid hown
    have hlt := hb.lt
    have hcap := hown.cap.1
    clear hb hown
    go_enter Tryz.func171, Tryz.ntmps171
    go_wp2_with (go_at_call 221; refine (len_spec B b g l _ HS.out).mono ?_; rw [HL.out]; rintro e w' ⟨rfl, rfl⟩)
    refine (from_spec B b g l _ w HS.out).mono ?_
    rw [F1.out, F3.out]
    rintro e w' ⟨A', n', c', rfl, ho, hbw⟩
    have B1 := HB.out.pure hbw
    have d0 : w'.cell? ⟨b, 0, none⟩ = some (.slice A n c) := B1.cell 0
    have f0 := B1.frozen 0
    have HB1 := Lib.hid B1
    clear B1
    go_wp2
    go_ret2
    rw [HL.out]
    exact ⟨A', n', c', rfl, pop_post (T := 212) (by decide) (cs := [.bool true]) HB1.out (HO.out.pure hbw) ho hbw hlt, ⟨A, n - k, c, pop_blk HB1.out, pop_own (by decide) HB1.out (HO.out.pure hbw), hg, by omega, hBb⟩, Fr.setCell (S := fun k => k = b) (Fr.of_below hbw _) (fun _ => rfl) _⟩

theorem Stk.ge {w : World} {B b : Nat} {g : Option Nat} {l : List V3} (h : Stk w B b g l) : B ≤ b ∧ b < w.heap.size ∧ ∀ k, g = some k → B ≤ k ∧ k < w.heap.size ∧ k ≠ b := by
  obtain ⟨A, n, c, h1, h2, rfl, _, h4⟩ := h
  refine ⟨h4, h1.lt, fun k hk => ?_⟩
  cases A with
  | none => cases hk
  | some ad =>
    injection hk with hk
    subst hk
    exact ⟨(h2.addr ad rfl).2.1, (h2.addr ad rfl).2.2, fun e => own_blk_ne h2.2 h1 (by decide) (by simp [Value.ownBlock, e])⟩
theorem Stk.rebase {w : World} {B B' b : Nat} {g : Option Nat} {l : List V3} (h : Stk w B b g l) (hB : B' ≤ B) : Stk w B' b g l := by
  obtain ⟨A, n, c, h1, h2, h3, h4, h5⟩ := h
  exact ⟨A, n, c, h1, h2.rebase hB, h3, h4, by omega⟩
end Go.Proofs.YtfoifdoaleaekaaGreat
