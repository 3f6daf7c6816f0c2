/-
  Package build: the vectors of keys.
  Package build: from, Len, Vec, Map, EndVec.
  Package build: the names of a map's keys.
  slices.SortFunc at places, strings.Compare, from the library.
-/
import Derived.Test.YtfoifdoaleaekaaGreatQg32
import Derived.Shelf.SlSortCmp.NoneTotal
import Derived.Shelf.Small.Strs
import Derived.Ground.SlsfProg
import Derived.Ground.NamesProg
namespace Go.Proofs.YtfoifdoaleaekaaGreat
open Go.RowKit Go.Acc
theorem puts_snoc (f : Nat) : ∀ (l : List (List UInt8)) (s : List UInt8) (b : Bd), b.puts f (l ++ [s]) = (((b.puts f l).1.put f s).1, (b.puts f l).2 ++ [((b.puts f l).1.put f s).2])
  | [], s, b => by simp [Bd.puts]
  | x :: r, s, b => by
    rw [List.cons_append]
    simp only [Bd.puts, puts_snoc f r s, List.cons_append]
theorem put_grow (f : Nat) (s : List UInt8) (b : Bd) : (b.put f s).1.b.length ≤ b.b.length + s.length + 1 ∧ (b.put f s).1.keys.length ≤ b.keys.length + 1 ∧ (b.put f s).1.names.length ≤ b.names.length + 1 ∧ (b.put f s).1.s = b.s := by
  unfold Bd.put
  have h := putP_len b.keys s b.b.length
  cases (if onF f 1 = true then getP b.keys s else none) with
  | some a => exact ⟨by simp; omega, by simp, by simp, rfl⟩
  | none => exact ⟨by simp; omega, by simpa using h, by simp, rfl⟩
theorem keysCost_app (l m : List (List UInt8)) : keysCost (l ++ m) = keysCost l + keysCost m := by
  induction l with
  | nil => simp [keysCost]
  | cons s r ih => simp only [List.cons_append, keysCost, ih]; omega
theorem puts_grow (f : Nat) (l : List (List UInt8)) (b : Bd) : (b.puts f l).1.b.length ≤ b.b.length + keysCost l ∧ (b.puts f l).1.keys.length ≤ b.keys.length + l.length ∧ (b.puts f l).1.names.length ≤ b.names.length + l.length ∧ (b.puts f l).1.s = b.s := by
  induction l generalizing b with
  | nil => simp [Bd.puts, keysCost]
  | cons s r ih =>
    obtain ⟨a1, a2, a3, a4⟩ := put_grow f s b
    obtain ⟨b1, b2, b3, b4⟩ := ih (b.put f s).1
    simp only [Bd.puts, keysCost, List.length_cons]
    exact ⟨by omega, by omega, by omega, b4.trans a4⟩
structure RoomL (b : Bd) (l : List (List UInt8)) : Prop where
  st : b.s.length < 65536
  len : b.b.length + keysCost l ≤ 1048576
  ky : b.keys.length + l.length ≤ 1048575
  nm : b.names.length + l.length ≤ 1048575
theorem RoomL.at_ {b : Bd} {l : List (List UInt8)} (h : RoomL b l) (f : Nat) {k : Nat} {s : List UInt8} (hs : l[k]? = some s) : RoomK (b.puts f (l.take k)).1 s := by
  obtain ⟨g1, g2, g3, g4⟩ := puts_grow f (l.take k) b
  have hk : k < l.length := (List.getElem?_eq_some_iff.1 hs).1
  have e : l = l.take k ++ s :: l.drop (k + 1) := by
    have h1 := (List.getElem?_eq_some_iff.1 hs).2
    conv => lhs; rw [← List.take_append_drop k l, List.drop_eq_getElem_cons hk, h1]
  have hc : keysCost l = keysCost (l.take k) + (s.length + 20 + keysCost (l.drop (k + 1))) := by
    conv => lhs; rw [e]
    rw [keysCost_app]; rfl
  rw [List.length_take, Nat.min_eq_left (by omega)] at g2 g3
  have h1 := h.len
  have h2 := h.ky
  have h3 := h.nm
  exact ⟨by rw [g4]; exact h.st, by omega, by omega, by omega⟩
theorem to_newfr {I S : Nat → Prop} {w w' w'' : World} {o o' : Nat → Nat} (h : To I w o w' o') (hf : Fr S w' w'') (hS : ∀ k, S k → w.heap.size ≤ k) (i : Nat) : To I w o w'' (newO o' w'.heap.size i) :=
  ⟨h.fr.trans hf (fun k hk hs => absurd (hS k hs) (by omega)), fun k hk => by rw [newO_old (Nat.lt_of_lt_of_le hk h.size)]; exact h.ow k hk⟩
def MappedS (M : Bp) (fl : Int) (w : World) (o : Nat → Nat) (n : Nat) (x : Bd × List Bv) (e : Ending) (w' : World) : Prop :=
  ∃ A c, e = .returned (.slice A n c) ∧ OwnV w' w.heap.size A n c (x.2.map vv) ∧ ∃ o', BM M fl w' o' x.1 ∧ To Bld w o w' o' ∧ ∀ ad, A = some ad → o' ad.block = 0
set_option maxRecDepth 100000 in
set_option maxHeartbeats 4000000 in
theorem maps_spec (M : Bp) (fl : Int) (b : Bd) (A : Option Addr) (n c : Nat) (l : List (List UInt8)) (w : World) (o : Nat → Nat) (h : BM M fl w o b) (hI : IsS w A n l) (ho : ∀ ad, A = some ad → ad.block < w.heap.size ∧ o ad.block = 0) (hn : n ≤ 1000000) (hr : RoomL b l) (hz : ∀ s ∈ l, hasZero s = false) :
    Calls Tryz.prog 165 #[.func (.func 166) #[.pointer (some ⟨M.β, 0, none⟩)] #[], .slice A n c] w (MappedS M fl w o n (b.puts (Go.Proofs.YtfoifdoaleaekaaGreat.bits fl) l)) := by
  obtain ⟨f, hf⟩ : ∃ f, Go.Proofs.YtfoifdoaleaekaaGreat.bits fl = f := ⟨_, rfl⟩
  have HF := Lib.hid hf
  have HM := Lib.hid h
  have HI := Lib.hid hI
  have HOO := Lib.hid ho
  have HR := Lib.hid hr
  have HZ := Lib.hid hz
  have HL := Lib.hid hI.1
  rw [hf]
  clear h hI ho hr hz hf
  go_enter Tryz.func165, Tryz.ntmps165
  go_wp2_with fail
  go_loopw [4, 9] (fun s u wr => ∃ k : Nat, k ≤ n ∧ u = .int .i64 k ∧ ∃ A1 c1, s = .slice A1 k c1 ∧ OwnV wr w.heap.size A1 k c1 ((b.puts f (l.take k)).2.map vv) ∧ ∃ o', BM M fl wr o' (b.puts f (l.take k)).1 ∧ To Bld w o wr o' ∧ (∀ ad, A1 = some ad → o' ad.block = 0) ∧ IsS wr A n l ∧ w.heap.size ≤ wr.heap.size) (fun _ u _ => n - (intOf u).toNat)
  case atStart => exact ⟨0, Nat.zero_le _, rfl, none, 0, rfl, Own.nil _ _, o, by rw [List.take_zero]; exact HM.out, To.refl _ _ _, (fun ad h => by cases h), HI.out, Nat.le_refl _⟩
  case round =>
    obtain ⟨k, hk, rfl, A1, c1, rfl, how, o', hm, ht, hoa, hi, hsz⟩ := hrel
    have HOW := Lib.hid how
    have HMR := Lib.hid hm
    have HTR := Lib.hid ht
    have HOA := Lib.hid hoa
    have HSZ := Lib.hid hsz
    have HIR := Lib.hid hi
    clear how hm ht hoa hsz hi HM HI
    by_cases hlt : k < n
    · obtain ⟨g, off, e, hk', hc⟩ := iss_at HIR.out hlt
      obtain ⟨s, hs⟩ : ∃ s, l[k] = s := ⟨_, rfl⟩
      rw [hs] at hc
      have hls : l[k]? = some s := by rw [List.getElem?_eq_getElem hk', hs]
      have HRK := Lib.hid (HR.out.at_ f hls)
      have HZK := Lib.hid (HZ.out s (List.mem_of_getElem? hls))
      have HT := Lib.hid (show b.puts f (l.take (k + 1)) = (((b.puts f (l.take k)).1.put f s).1, (b.puts f (l.take k)).2 ++ [((b.puts f (l.take k)).1.put f s).2]) by
        rw [List.take_succ_eq_append_getElem hk', hs, puts_snoc])
      have hk0 : (0 : Int) ≤ (k : Int) := by omega
      have hkn : (k : Int) < (n : Int) := by omega
      have hcp := cput_spec M fl _ s wr o' HMR.out HRK.out HZK.out
      rw [HF.out] at hcp
      have HCP := Lib.hid hcp
      have HOI := Lib.hid (show ∀ ad, A = some ad → o' ad.block = 0 from fun ad h => (HTR.out.ow _ (HOO.out ad h).1).trans (HOO.out ad h).2)
      have HE1 := Lib.hid e
      rw [e]
      clear hs hls hk' hcp e
      go_wp2_with fail
      go_at_call 166
      refine HCP.out.mono ?_
      rintro x w2 ⟨a, ha, rfl, o2, hm2, ht2⟩
      have HAA := Lib.hid ha
      have HM2 := Lib.hid hm2
      have HT2 := Lib.hid (HTR.out.trans ht2)
      have HO2 := Lib.hid (HOW.out.fr ht2.fr (fun ad h => by rw [HOA.out ad h]; exact bld_0))
      have HOA2 := Lib.hid (show ∀ ad, A1 = some ad → o2 ad.block = 0 from fun ad h => (ht2.ow _ (HOW.out.addr ad h).2.2).trans (HOA.out ad h))
      have HI2 := Lib.hid (HIR.out.fr ht2.fr (fun ad h => by rw [HOI.out ad h]; exact bld_0))
      have HS2 := Lib.hid (Nat.le_trans HSZ.out ht2.size)
      clear ha hm2 ht2 hc
      have hA3 := (Below.refl w2.heap.size w2).alloc (Nat.le_refl _) (.cells #[.int .i64 ((⟨4, 1, a⟩ : Bv).t : Int), .int .i64 ((⟨4, 1, a⟩ : Bv).w : Int), .int .u64 ((⟨4, 1, a⟩ : Bv).n : Int)] 185)
      have HM3 := Lib.hid (HM2.out.fresh hA3 0)
      have HT3 := Lib.hid (HT2.out.trans (To.fresh Bld hA3 o2 0))
      have HO3 := Lib.hid (HO2.out.pure hA3)
      have HI3 := Lib.hid (HI2.out.pure hA3)
      have HOA3 := Lib.hid (show ∀ ad, A1 = some ad → newO o2 w2.heap.size 0 ad.block = 0 from fun ad h => by rw [newO_old (HO2.out.addr ad h).2.2]; exact HOA2.out ad h)
      have HOI3 := Lib.hid (show ∀ ad, A = some ad → ad.block < w.heap.size from fun ad h => (HOO.out ad h).1)
      have HS3 := Lib.hid (Nat.le_trans HS2.out hA3.size)
      have HLT := Lib.hid (isv_lit w2 ⟨4, 1, a⟩)
      clear hA3
      go_wp2_with (at_builtin; refine wpl_app _ rfl (.tmp 13) (.tmp 17) _ rfl 185 _ 3 24 Tryz.underlying160 info_v rfl (by omega) vc_len vc_one _ _ _ _ _ rfl HO3.out _ _ _ _ rfl HLT.out (by omega) HS3.out ?_; intro A4 c4 w4 hown4 hfr4 hat4)
      have HW3 := Lib.hid (show ∀ ad, A1 = some ad → ad.block < (w2.alloc (.cells #[.int .i64 ((⟨4, 1, a⟩ : Bv).t : Int), .int .i64 ((⟨4, 1, a⟩ : Bv).w : Int), .int .u64 ((⟨4, 1, a⟩ : Bv).n : Int)] 185)).heap.size from fun ad h => (HO3.out.addr ad h).2.2)
      have HSA := Lib.hid (show ∀ j, (∃ ad, A1 = some ad ∧ j = ad.block) → w.heap.size ≤ j by rintro j ⟨ad, e, rfl⟩; exact (HO3.out.addr ad e).2.1)
      have HO4 := Lib.hid hown4
      have HM4 := Lib.hid (HM3.out.to_ (To.of_fr (I := fun i => i = 0) hfr4 (by rintro j _ ⟨ad, e, rfl⟩; exact HOA3.out ad e) 0) (fun i hi e => by subst e; exact bld_0 hi))
      have HT4 := Lib.hid (to_newfr HT3.out hfr4 HSA.out 0)
      have HI4 := Lib.hid (show IsS w4 A n l from HI3.out.fr hfr4 (by rintro ad h ⟨ad', e', h'⟩; have h1 := HOI3.out ad h; have h2 := HSA.out ad.block ⟨ad', e', h'⟩; omega))
      have HOA4 := Lib.hid (show ∀ ad, A4 = some ad → newO (newO o2 w2.heap.size 0) (w2.alloc (.cells #[.int .i64 ((⟨4, 1, a⟩ : Bv).t : Int), .int .i64 ((⟨4, 1, a⟩ : Bv).w : Int), .int .u64 ((⟨4, 1, a⟩ : Bv).n : Int)] 185)).heap.size 0 ad.block = 0 from fun ad h => by
        subst h
        rcases hat4 with h1 | h1
        · cases hA1 : A1 with
          | none => rw [hA1] at h1; cases h1
          | some ad1 =>
            rw [hA1] at h1
            have h2 : ad.block = ad1.block := by simpa using h1
            rw [h2, newO_old (HW3.out ad1 hA1)]
            exact HOA3.out ad1 hA1
        · have h2 : ad.block = (w2.alloc (.cells #[.int .i64 ((⟨4, 1, a⟩ : Bv).t : Int), .int .i64 ((⟨4, 1, a⟩ : Bv).w : Int), .int .u64 ((⟨4, 1, a⟩ : Bv).n : Int)] 185)).heap.size := by injection h1
          rw [h2]
          exact newO_new (Nat.le_refl _))
      have HS4 := Lib.hid (Nat.le_trans HS3.out hfr4.size)
      clear hown4 hfr4 hat4
      go_wp2_with fail
      go_roundw
      case rel =>
        refine ⟨k + 1, by omega, by go_num, A4, c4, rfl, ?_, _, ?_, HT4.out, HOA4.out, by rw [← HE1.out]; exact HI4.out, HS4.out⟩
        · rw [HT.out, HAA.out, List.map_append]
          exact HO4.out
        · rw [HT.out]
          exact HM4.out
      case measure => simp [intOf]; omega
    · obtain rfl : k = n := by omega
      have HE := Lib.hid (show l.take k = l from List.take_of_length_le (by have := HL.out; omega))
      rw [HE.out] at HOW HMR
      go_wp2_with fail
      go_ret
      exact ⟨A1, c1, rfl, HOW.out, o', HMR.out, HTR.out, HOA.out⟩
theorem keysAt_ok {l : List UInt8} {ks : List (List UInt8)} {vs : List Bv} (h : KeysAt l ks vs) (hl : l.length + 40 + 9 * ks.length ≤ 1048576) : VecOk vs l ∧ ∀ v ∈ vs, v.t = 4 := by
  have hm : ∀ v ∈ vs, ∃ s, KeyAt l s v := by
    intro v hv
    obtain ⟨i, hi, e⟩ := List.getElem_of_mem hv
    have hk : i < ks.length := by rw [← h.1]; exact hi
    exact ⟨ks[i], h.2 i ks[i] v (List.getElem?_eq_getElem hk) (by rw [List.getElem?_eq_getElem hi, e])⟩
  exact ⟨⟨fun v hv => by obtain ⟨s, h1, _⟩ := hm v hv; rw [h1]; decide, fun v hv => by obtain ⟨s, _, h2, _⟩ := hm v hv; rw [h2]; decide, h.fit, by rw [h.1]; exact hl⟩,
    fun v hv => by obtain ⟨s, h1, _⟩ := hm v hv; exact h1⟩
set_option maxRecDepth 100000 in
set_option maxHeartbeats 2000000 in
theorem ckeys1_spec (M : Bp) (fl : Int) (b : Bd) (A : Option Addr) (n c : Nat) (l : List (List UInt8)) (bx bl : Nat) (w : World) (o : Nat → Nat) (h : BM M fl w o b) (hx : Blk w bx 122 #[.pointer (some ⟨M.β, 0, none⟩)]) (hb : Blk w bl 23 #[.slice A n c]) (hox : o bx = 0) (hob : o bl = 0)
    (hI : IsS w A n l) (ho : ∀ ad, A = some ad → ad.block < w.heap.size ∧ o ad.block = 0) (hn : n ≤ 1000000) (hr : RoomL b l) (hz : ∀ s ∈ l, hasZero s = false) (hg : Good b) (hl : b.b.length + keysCost l + 40 + 9 * l.length ≤ 1048576) :
    Calls Tryz.prog 164 #[.pointer (some ⟨bx, 0, none⟩), .pointer (some ⟨bl, 0, none⟩)] w (BTo M fl ((b.puts (Go.Proofs.YtfoifdoaleaekaaGreat.bits fl) l).1.vec 14 true false (b.puts (Go.Proofs.YtfoifdoaleaekaaGreat.bits fl) l).2) w o) := by
  obtain ⟨f, hf⟩ : ∃ f, Go.Proofs.YtfoifdoaleaekaaGreat.bits fl = f := ⟨_, rfl⟩
  have hms := maps_spec M fl b A n c l w.drew o h.drew hI ho hn hr hz
  rw [hf] at hms ⊢
  obtain ⟨hst, hka, hse⟩ := puts_law f l b hg
  obtain ⟨g1, g2, g3, g4⟩ := puts_grow f l b
  obtain ⟨hok, hel⟩ := keysAt_ok hka (by omega)
  obtain ⟨x, hxx⟩ : ∃ x, b.puts f l = x := ⟨_, rfl⟩
  rw [hxx] at hms hok hel hse ⊢
  obtain ⟨b', vs⟩ := x
  have HMS := Lib.hid hms
  have HOK := Lib.hid hok
  have HEL := Lib.hid hel
  have HSS := Lib.hid (show b'.s.length < 65536 by rw [show b'.s = b.s from hse]; exact hr.st)
  have HPV := Lib.hid (fun (A2 : Option Addr) (c2 : Nat) => (show PutsV M b'.b 4 0 A2 n c2 vs ((bVec 14 true false vs b'.b).1, (bVec 14 true false vs b'.b).2) from puts_t0 (e := 4) hok (.inl ⟨rfl, .inr (.inr (.inl rfl))⟩) hel))
  have HX := Lib.hid hx
  have HB := Lib.hid hb
  have HOX := Lib.hid (And.intro hox hob)
  have x0 : w.cell? ⟨bx, 0, none⟩ = some (.pointer (some ⟨M.β, 0, none⟩)) := hx.cell 0
  have x1 : w.cell? ⟨bl, 0, none⟩ = some (.slice A n c) := hb.cell 0
  clear h hx hb hox hob hI ho hr hz hg hl hms hok hel hse hst hka g1 g2 g3 g4 hf hxx
  go_enter Tryz.func164, Tryz.ntmps164
  go_wp2_with fail
  go_region_held3 (fun w' => w'.cell? ⟨bx, 0, none⟩ = some (.pointer (some ⟨M.β, 0, none⟩)) ∧ w'.cell? ⟨bl, 0, none⟩ = some (.slice A n c)) (first | with_reducible exact ⟨x0, x1⟩ | with_reducible exact ⟨kdrew x0, kdrew x1⟩ | with_reducible exact ⟨y0, y1⟩ | with_reducible exact ⟨z0, z1⟩) (first | (go_at_call 165; (with_reducible refine HMS.out.mono ?_); rintro e w2 ⟨A2, c2, rfl, hO2, o2, hM2, hT2, hA2⟩; have hT2' := hT2.from_drew; have hX2 := HX.out.to_ hT2' (by rw [HOX.out.1]; exact bld_0); have hB2 := HB.out.to_ hT2' (by rw [HOX.out.2]; exact bld_0); have y0 : w2.cell? ⟨bx, 0, none⟩ = some (.pointer (some ⟨M.β, 0, none⟩)) := hX2.cell 0; have y1 : w2.cell? ⟨bl, 0, none⟩ = some (.slice A n c) := hB2.cell 0; have HX2 := Lib.hid hX2; have HB2 := Lib.hid hB2; have HOX2 := Lib.hid (And.intro ((hT2'.ow _ HX.out.lt).trans HOX.out.1) ((hT2'.ow _ HB.out.lt).trans HOX.out.2)); have HM2 := Lib.hid hM2; have HT2 := Lib.hid hT2'; have HO2 := Lib.hid hO2; have HA2 := Lib.hid hA2; clear hT2 hT2' hX2 hB2 hO2 hM2 hA2) | (go_at_call 156; (with_reducible refine (vector_spec M fl b' 4 0 A2 n c2 vs (bVec 14 true false vs b'.b).1 (bVec 14 true false vs b'.b).2 _ o2 HM2.out HO2.out.is (fun ad e => ⟨(HO2.out.addr ad e).2.2, HA2.out ad e⟩) HSS.out (HPV.out A2 c2)).mono ?_); rintro e w3 ⟨rfl, o3, hM3, hT3⟩; have z0 : w3.cell? ⟨bx, 0, none⟩ = some (.pointer (some ⟨M.β, 0, none⟩)) := (HX2.out.to_ hT3 (by rw [HOX2.out.1]; exact bld_0)).cell 0; have z1 : w3.cell? ⟨bl, 0, none⟩ = some (.slice A n c) := (HB2.out.to_ hT3 (by rw [HOX2.out.2]; exact bld_0)).cell 0; have HM3 := Lib.hid hM3; have HT3 := Lib.hid (HT2.out.trans hT3); clear hM3 hT3))
  go_wp2_with fail
  go_end0
  exact ⟨rfl, o3, HM3.out, HT3.out⟩
set_option maxHeartbeats 1000000 in
theorem ckeys_spec (M : Bp) (fl : Int) (b : Bd) (A : Option Addr) (n c : Nat) (l : List (List UInt8)) (w : World) (o : Nat → Nat) (h : BM M fl w o b)
    (hI : IsS w A n l) (ho : ∀ ad, A = some ad → ad.block < w.heap.size ∧ o ad.block = 0) (hn : n ≤ 1000000) (hr : RoomL b l) (hz : ∀ s ∈ l, hasZero s = false) (hg : Good b) (hl : b.b.length + keysCost l + 40 + 9 * l.length ≤ 1048576) :
    Calls Tryz.prog 113 #[.pointer (some ⟨M.β, 0, none⟩), .slice A n c] w (BTo M fl ((b.puts (Go.Proofs.YtfoifdoaleaekaaGreat.bits fl) l).1.vec 14 true false (b.puts (Go.Proofs.YtfoifdoaleaekaaGreat.bits fl) l).2) w o) := by
  have hB := below_two w (.cells #[.pointer (some ⟨M.β, 0, none⟩)] 122) (.cells #[.slice A n c] 23)
  have HB := Lib.hid hB
  have HM := Lib.hid (h.fresh hB 0)
  have HF := Lib.hid (ckeys1_spec M fl b A n c l w.heap.size (w.heap.size + 1) _ (newO o w.heap.size 0) (h.fresh hB 0) ((Blk.new w 122 #[.pointer (some ⟨M.β, 0, none⟩)]).alloc _) (blk_new2 w _ 23 #[.slice A n c]) (newO_new (by omega)) (newO_new (by omega))
    (hI.pure hB) (fun ad e => ⟨by have h1 := (ho ad e).1; have h2 := hB.size; omega, by rw [newO_old (ho ad e).1]; exact (ho ad e).2⟩) hn hr hz hg hl)
  clear h hI ho hr hz hg hl hB
  go_enter Tryz.func113, Tryz.ntmps113
  go_wp2_with fail
  go_at_call 163
  refine (unless_spec M fl 164 _ _ (newO o w.heap.size 0) b.vals _ HM.out.head Tryz.call164 (HF.out.mono fun e w' h => ⟨h.1, h⟩)).mono ?_
  rintro e w' hR
  obtain rfl := hR.1
  have HR := Lib.hid (hR.from_fresh HB.out)
  clear hR
  go_wp2
  go_end0
  exact HR.out
end Go.Proofs.YtfoifdoaleaekaaGreat

namespace Go.Proofs.YtfoifdoaleaekaaGreat
open Go.RowKit Go.Acc
theorem clen_spec (M : Bp) (fl : Int) (b : Bd) (k : Nat) (w : World) (o : Nat → Nat) (h : BM M fl w o b) (hk : b.s.length = k) : Calls Tryz.prog 168 #[.pointer (some ⟨M.β, 0, none⟩)] w fun e w' => e = .returned (.int .i64 (k : Int)) ∧ w = w' := by
  have HM := Lib.hid h
  have HK := Lib.hid hk
  obtain ⟨c0, c1, c2, c9, _⟩ := h.head.cells
  clear h hk
  go_enter Tryz.func168, Tryz.ntmps168
  go_wp2_with (go_at_call 125; refine (cnone_spec M.β _ (by assumption)).mono ?_; rintro e w' ⟨rfl, rfl⟩)
  go_at_call 221
  refine (slen_is M.sb k b.s _ o HM.out.stk HK.out).mono ?_
  rintro e w' ⟨rfl, rfl⟩
  go_wp2_with fail
  go_ret
  exact ⟨rfl, rfl⟩
theorem cvec_spec (M : Bp) (fl : Int) (b : Bd) (k : Nat) (w : World) (o : Nat → Nat) (h : BM M fl w o b) (hk : b.s.length = k) : Calls Tryz.prog 118 #[.pointer (some ⟨M.β, 0, none⟩)] w fun e w' => e = .returned (.int .i64 (k : Int)) ∧ w = w' := by
  go_enter Tryz.func118, Tryz.ntmps118
  go_wp2_with fail
  go_at_call 168
  refine (clen_spec M fl b k _ o h hk).mono ?_
  rintro e w' ⟨rfl, rfl⟩
  go_wp2_with fail
  go_ret
  exact ⟨rfl, rfl⟩
theorem cmap_spec (M : Bp) (fl : Int) (b : Bd) (k : Nat) (w : World) (o : Nat → Nat) (h : BM M fl w o b) (hk : b.s.length = k) : Calls Tryz.prog 120 #[.pointer (some ⟨M.β, 0, none⟩)] w fun e w' => e = .returned (.int .i64 (k : Int)) ∧ w = w' := by
  go_enter Tryz.func120, Tryz.ntmps120
  go_wp2_with fail
  go_at_call 168
  refine (clen_spec M fl b k _ o h hk).mono ?_
  rintro e w' ⟨rfl, rfl⟩
  go_wp2_with fail
  go_ret
  exact ⟨rfl, rfl⟩
def FromW (w : World) (l : List Bv) (e : Ending) (w' : World) : Prop := ∃ A c, e = .returned (.slice A l.length c) ∧ OwnV w' w.heap.size A l.length c (l.map vv) ∧ Below w.heap.size w w'
set_option maxHeartbeats 1000000 in
theorem cfrom_spec (M : Bp) (fl : Int) (b : Bd) (k : Nat) (w : World) (o : Nat → Nat) (h : BM M fl w o b) (hk : k ≤ b.s.length) : Calls Tryz.prog 170 #[.pointer (some ⟨M.β, 0, none⟩), .int .i64 (k : Int)] w (FromW w (b.s.drop k)) := by
  have HM := Lib.hid h
  have HK := Lib.hid hk
  obtain ⟨c0, c1, c2, c9, _⟩ := h.head.cells
  clear h hk
  go_enter Tryz.func170, Tryz.ntmps170
  go_wp2_with fail
  go_at_call 126
  refine (sfrom_is M.sb k b.s _ o HM.out.stk HK.out).mono ?_
  rintro e w1 ⟨A, n, c, rfl, hO, hb⟩
  have hn : n = (b.s.drop k).length := by have := hO.1; simpa using this.symm
  have HN := Lib.hid hn
  have HO := Lib.hid hO
  have HB := Lib.hid hb
  clear hn hO hb c0 c1 c2 c9
  go_wp2_with fail
  go_ret
  obtain rfl := HN.out
  exact ⟨A, c, rfl, HO.out, HB.out⟩
set_option maxRecDepth 100000 in
set_option maxHeartbeats 2000000 in
theorem endvec1_spec (M : Bp) (fl : Int) (b : Bd) (k bx bk : Nat) (w : World) (o : Nat → Nat) (h : BM M fl w o b) (hx : Blk w bx 122 #[.pointer (some ⟨M.β, 0, none⟩)]) (hb : Blk w bk 3 #[.int .i64 (k : Int)]) (hox : o bx = 0) (hk : k ≤ b.s.length) (hs : b.s.length ≤ 65536) (hks : k < 65536) (hok : VecOk (b.s.drop k) b.b) :
    Calls Tryz.prog 169 #[.pointer (some ⟨bx, 0, none⟩), .pointer (some ⟨bk, 0, none⟩)] w (BTo M fl (b.endVec k) w o) := by
  have HM := Lib.hid h
  have HK := Lib.hid hk
  have HX := Lib.hid hx
  have HOX := Lib.hid hox
  have HOK := Lib.hid hok
  have HSB := Lib.hid hs
  obtain ⟨m, hm⟩ : ∃ m, (b.s.drop k).length = m := ⟨_, rfl⟩
  have HMM := Lib.hid hm
  have hmk : m ≤ b.s.length ∧ b.s.length - m = k := by rw [List.length_drop] at hm; omega
  have HMK := Lib.hid hmk
  have HST := Lib.hid (show (b.s.take k).length < 65536 by rw [List.length_take]; omega)
  have x0 : w.cell? ⟨bx, 0, none⟩ = some (.pointer (some ⟨M.β, 0, none⟩)) := hx.cell 0
  have x1 : w.cell? ⟨bk, 0, none⟩ = some (.int .i64 (k : Int)) := hb.cell 0
  clear h hx hb hox hok hm hmk
  go_enter Tryz.func169, Tryz.ntmps169
  go_wp2_with fail
  go_at_call 170
  refine (cfrom_spec M fl b k _ o HM.out HK.out).mono ?_
  rintro e w1 ⟨A, c, rfl, hO, hb⟩
  rw [HMM.out] at hO ⊢
  have HO := Lib.hid hO
  have HA1 := Lib.hid (show ∀ ad, A = some ad → ad.block < w1.heap.size ∧ newO o w.heap.size 0 ad.block = 0 from fun ad e => ⟨(hO.addr ad e).2.2, newO_new (hO.addr ad e).2.1⟩)
  have HM1 := Lib.hid (HM.out.fresh hb 0)
  have HX1 := Lib.hid (HX.out.pure hb)
  have HT1 := Lib.hid (To.fresh Bld hb o 0)
  have HOX1 := Lib.hid (show newO o w.heap.size 0 bx = 0 by rw [newO_old HX.out.lt]; exact HOX.out)
  clear hO hb x0 x1
  have x0 : w1.cell? ⟨bx, 0, none⟩ = some (.pointer (some ⟨M.β, 0, none⟩)) := HX1.out.cell 0
  obtain ⟨c0, c1, c2, c9, _⟩ := HM1.out.head.cells
  go_wp2_with fail
  go_at_call 171
  refine (spop_is M.sb m b.s _ _ HM1.out.stk HMK.out.1 (by have := HSB.out; have := HMK.out.1; omega)).mono ?_
  rintro e w2 ⟨⟨A2, n2, c2', rfl⟩, o2, hS2, hT2⟩
  rw [HMK.out.2] at hS2
  have HM2 := Lib.hid (HM1.out.stk_ hT2 hS2)
  have HT2 := Lib.hid (HT1.out.trans (hT2.mono fun _ h => bld_3 h))
  have HX2 := Lib.hid (HX1.out.to_ hT2 (by rw [HOX1.out]; omega))
  have HO2 := Lib.hid (HO.out.fr hT2.fr (fun ad e => by rw [(HA1.out ad e).2]; omega))
  have HA2 := Lib.hid (show ∀ ad, A = some ad → ad.block < w2.heap.size ∧ o2 ad.block = 0 from fun ad e => ⟨Nat.lt_of_lt_of_le (HA1.out ad e).1 hT2.size, (hT2.ow _ (HA1.out ad e).1).trans (HA1.out ad e).2⟩)
  clear hS2 hT2 x0 c0 c1 c2 c9
  have x0 : w2.cell? ⟨bx, 0, none⟩ = some (.pointer (some ⟨M.β, 0, none⟩)) := HX2.out.cell 0
  have HPV := Lib.hid (show PutsV M b.b (-1) 0 A m c (b.s.drop k) ((bVec 10 true true (b.s.drop k) b.b).1, (bVec 10 true true (b.s.drop k) b.b).2) from puts_un HOK.out)
  go_wp2_with fail
  go_at_call 156
  refine (vector_spec M fl { b with s := b.s.take k } (-1) 0 A m c (b.s.drop k) _ _ _ o2 HM2.out HO2.out.is HA2.out HST.out HPV.out).mono ?_
  rintro e w3 ⟨rfl, o3, hM3, hT3⟩
  have HM3 := Lib.hid hM3
  have HT3 := Lib.hid (HT2.out.trans hT3)
  clear hM3 hT3 x0
  go_wp2_with fail
  go_end0
  exact ⟨rfl, o3, HM3.out, HT3.out⟩
set_option maxHeartbeats 1000000 in
theorem endvec_spec (M : Bp) (fl : Int) (b : Bd) (k : Nat) (w : World) (o : Nat → Nat) (h : BM M fl w o b) (hk : k ≤ b.s.length) (hs : b.s.length ≤ 65536) (hks : k < 65536) (hok : VecOk (b.s.drop k) b.b) :
    Calls Tryz.prog 119 #[.pointer (some ⟨M.β, 0, none⟩), .int .i64 (k : Int)] w (BTo M fl (b.endVec k) w o) := by
  have hB := below_two w (.cells #[.pointer (some ⟨M.β, 0, none⟩)] 122) (.cells #[.int .i64 (k : Int)] 3)
  have HB := Lib.hid hB
  have HM := Lib.hid (h.fresh hB 0)
  have HF := Lib.hid (endvec1_spec M fl b k w.heap.size (w.heap.size + 1) _ (newO o w.heap.size 0) (h.fresh hB 0) ((Blk.new w 122 #[.pointer (some ⟨M.β, 0, none⟩)]).alloc _) (blk_new2 w _ 3 #[.int .i64 (k : Int)]) (newO_new (by omega)) hk hs hks hok)
  clear h hk hs hks hok hB
  go_enter Tryz.func119, Tryz.ntmps119
  go_wp2_with fail
  go_at_call 163
  refine (unless_spec M fl 169 _ _ (newO o w.heap.size 0) b.vals _ HM.out.head Tryz.call169 (HF.out.mono fun e w' h => ⟨h.1, h⟩)).mono ?_
  rintro e w' hR
  obtain rfl := hR.1
  have HR := Lib.hid (hR.from_fresh HB.out)
  clear hR
  go_wp2
  go_end0
  exact HR.out
end Go.Proofs.YtfoifdoaleaekaaGreat

namespace Go.Proofs.YtfoifdoaleaekaaGreat
open Go.RowKit Go.Acc
def NamedV (names : List (Nat × List UInt8)) (ns : List (List UInt8)) (l : List Bv) : Prop :=
  l.length = 2 * ns.length ∧ ∀ (i : Nat) s v, ns[i]? = some s → l[2 * i]? = some v → v.t = 4 ∧ names.find? (fun x => x.1 == v.n) = some (v.n, s) ∧ v.n < 18446744073709551616
set_option maxRecDepth 100000 in
theorem string_inv {v : Value} {s : List UInt8} {ps : List MemPlace} (h : plainElem (H := Unit) Tryz.prog 9 v = some (.lit (.string s), ps)) : v = .string ⟨s.toArray⟩ := by
  unfold plainElem at h
  rw [Tryz.underlying9] at h
  cases v <;> simp at h
  next b =>
    obtain ⟨_, h⟩ := h
    obtain ⟨b⟩ := b
    obtain ⟨h, _⟩ := h
    simp at h
    subst h
    rfl
theorem NamesO.look {w : World} {o : Nat → Nat} {p a : Nat} {m : List (Nat × List UInt8)} {s : List UInt8} (h : NamesO w o p m) (ha : a < 18446744073709551616) (hf : m.find? (fun x => x.1 == a) = some (a, s)) :
    (Instr.lookup 159 (.map (some p)) (.int .u64 (a : Int)) false).run Tryz.prog w = .ok (.string ⟨s.toArray⟩) w := by
  obtain ⟨_, n, D, hm, _, hat⟩ := h
  have hz : (zeroValue 9).run Tryz.prog w = .ok (.string ⟨#[]⟩) w := by kernel_rfl
  obtain ⟨v, ps, hrun, hv⟩ := hm.lookup law_u64 Tryz.underlying159 hz (show plainElem Tryz.prog 9 (.string ⟨#[]⟩) = some (.lit (.string []), []) by kernel_rfl) (Maps.keyOf_int_mk Tryz.underlying22 (wf_u64 a ha))
  rw [hat a s hf] at hv
  rw [string_inv hv] at hrun
  exact hrun
def NamedW (w : World) (ns : List (List UInt8)) (e : Ending) (w' : World) : Prop := ∃ A c, e = .returned (.slice A ns.length c) ∧ OwnS w' w.heap.size A ns.length c ns ∧ Below w.heap.size w w'
theorem HeadO.map_cell {M : Bp} {fl : Int} {w : World} {o : Nat → Nat} {vals : List Bv} (h : HeadO M fl w o vals) : w.cell? ⟨M.β, 7, none⟩ = some (.map (some M.mb)) := by
  obtain ⟨A, n, c, hb, _⟩ := h
  exact hb.cell 7
set_option maxRecDepth 100000 in
set_option maxHeartbeats 4000000 in
theorem named_spec (M : Bp) (fl : Int) (b : Bd) (A : Option Addr) (n c : Nat) (l : List Bv) (ns : List (List UInt8)) (w : World) (o : Nat → Nat) (h : BM M fl w o b) (hI : IsV w A n (l.map vv)) (hn : n ≤ 1000000) (hv : NamedV b.names ns l) :
    Calls Tryz.prog 175 #[.pointer (some ⟨M.β, 0, none⟩), .slice A n c] w (NamedW w ns) := by
  have HM := Lib.hid h
  have HI := Lib.hid hI
  have HV := Lib.hid hv.2
  have HL := Lib.hid (show l.length = n by have := hI.1; simpa using this)
  obtain ⟨m, hm⟩ : ∃ m, ns.length = m := ⟨_, rfl⟩
  have HML := Lib.hid hm
  have hnm : n = 2 * m := by have := hv.1; have := HL.out; omega
  subst hnm
  have hlen : ((2 * m : Nat) : Int) % 2 = 0 := by omega
  clear h hI hv hm
  go_enter Tryz.func175, Tryz.ntmps175
  go_wp2_with fail
  go_loopw [4, 9] (fun s u wr => ∃ k : Nat, k ≤ 2 * m ∧ u = .int .i64 k ∧ ∃ A1 c1, s = .slice A1 ((k + 1) / 2) c1 ∧ OwnS wr w.heap.size A1 ((k + 1) / 2) c1 (ns.take ((k + 1) / 2)) ∧ Below w.heap.size w wr) (fun _ u _ => 2 * m - (intOf u).toNat)
  case atStart => exact ⟨0, Nat.zero_le _, rfl, none, 0, rfl, Own.nil _ _, Below.refl _ _⟩
  case round =>
    obtain ⟨k, hk, rfl, A1, c1, rfl, how, hbr⟩ := hrel
    have HOW := Lib.hid how
    have HBR := Lib.hid hbr
    have hIr := HI.out.pure hbr
    have HMR := Lib.hid (HM.out.pure hbr)
    clear how hbr
    by_cases hlt : k < 2 * m
    · obtain ⟨g, off, v, e, hv, v0, v1, v2⟩ := isv_bv hIr hlt
      have hk0 : (0 : Int) ≤ (k : Int) := by omega
      have hkn : (k : Int) < ((2 * m : Nat) : Int) := by omega
      rw [e]
      rcases Nat.mod_two_eq_zero_or_one k with hp | hp
      · obtain ⟨j, rfl⟩ : ∃ j, k = 2 * j := ⟨k / 2, by omega⟩
        have hj : (2 * j + 1) / 2 = j := by omega
        have hj2 : (2 * j + 1 + 1) / 2 = j + 1 := by omega
        have hjm : j < ns.length := by have := HML.out; omega
        obtain ⟨s, hs⟩ : ∃ s, ns[j]? = some s := ⟨_, List.getElem?_eq_getElem hjm⟩
        obtain ⟨ht, hf, ha⟩ := HV.out j s v hs hv
        have hmod : (((2 * j : Nat)) : Int) % 2 = 0 := by omega
        have HT := Lib.hid (show ns.take (j + 1) = ns.take j ++ [s] by
          obtain ⟨q1, q2⟩ := List.getElem?_eq_some_iff.1 hs
          rw [List.take_succ_eq_append_getElem q1, q2])
        have hvt : (v.t : Int) = 4 := by omega
        have hAl := (Below.refl wr.heap.size wr).alloc (Nat.le_refl _) (.cells #[.int .i64 4, .int .i64 (v.w : Int), .int .u64 (v.n : Int)] 185)
        have HMA := Lib.hid (HMR.out.pure hAl)
        have hlk : (Instr.lookup 159 (.map (some M.mb)) (.int .u64 (v.n : Int)) false).run Tryz.prog (wr.alloc (.cells #[.int .i64 4, .int .i64 (v.w : Int), .int .u64 (v.n : Int)] 185)).drew = .ok (.string ⟨s.toArray⟩) (wr.alloc (.cells #[.int .i64 4, .int .i64 (v.w : Int), .int .u64 (v.n : Int)] 185)).drew := HMA.out.drew.names.look ha hf
        have cm : (wr.alloc (.cells #[.int .i64 4, .int .i64 (v.w : Int), .int .u64 (v.n : Int)] 185)).drew.cell? ⟨M.β, 7, none⟩ = some (.map (some M.mb)) := HMA.out.drew.head.map_cell
        have hob : Below wr.heap.size wr ((wr.alloc (.cells #[.int .i64 4, .int .i64 (v.w : Int), .int .u64 (v.n : Int)] 185)).alloc (.cells #[.string ⟨s.toArray⟩] 9)).drew := (hAl.alloc (by simp) _).drew
        have HBD := Lib.hid (pure_below HBR.out hob)
        rw [hj] at HOW ⊢
        have HOA := Lib.hid (HOW.out.pure hob)
        have HIS := Lib.hid (show IsS ((wr.alloc (.cells #[.int .i64 4, .int .i64 (v.w : Int), .int .u64 (v.n : Int)] 185)).alloc (.cells #[.string ⟨s.toArray⟩] 9)).drew (some ⟨wr.heap.size + 1, 0, none⟩) 1 [s] by
          have h := is_one (f := stc) (wr.alloc (.cells #[.int .i64 4, .int .i64 (v.w : Int), .int .u64 (v.n : Int)] 185)) 9 s (.string ⟨s.toArray⟩) rfl
          rw [al_size] at h
          exact h.pure ((Below.refl _ _).drew))
        have HJ2 := Lib.hid hj2
        clear hIr hv e hj hj2 hs hf ht hAl hob
        go_wp2_with fail
        go_region_law (refine step_app1 rfl (.tmp 35) (.tmp 44) 23 rfl (.string ⟨#[]⟩) 16 (by kernel_rfl) (by kernel_rfl) rfl (by decide) stc_len stc_one w.heap.size A1 j c1 (ns.take j) rfl HOA.out _ 1 1 [s] rfl HIS.out (by omega) HBD.out.size ?_; intro A2 c2 w2 hown2 hfr2 hat2; have HO4 := Lib.hid hown2; have HB4 := Lib.hid (below_fr HBD.out hfr2 (by rintro j ⟨ad, e, rfl⟩; exact (HOA.out.addr ad e).2.1)); clear hown2 hfr2 hat2)
        all_goals
          try go_wp2_with fail
          go_roundw
          case rel => exact ⟨2 * j + 1, by omega, by go_num, A2, c2, by rw [HJ2.out], by rw [HJ2.out, HT.out]; exact HO4.out, HB4.out⟩
          case measure => simp [intOf]; omega
      · have hmod : (k : Int) % 2 = 1 := by omega
        have HJ2 := Lib.hid (show (k + 1 + 1) / 2 = (k + 1) / 2 by omega)
        have HBA := Lib.hid (HBR.out.alloc HBR.out.size (.cells #[.int .i64 (v.t : Int), .int .i64 (v.w : Int), .int .u64 (v.n : Int)] 185))
        have HOA := Lib.hid (HOW.out.pure ((Below.refl wr.heap.size wr).alloc (Nat.le_refl _) (.cells #[.int .i64 (v.t : Int), .int .i64 (v.w : Int), .int .u64 (v.n : Int)] 185)))
        clear hIr hv e
        go_wp2_with fail
        go_roundw
        case rel => exact ⟨k + 1, by omega, by go_num, A1, c1, by rw [HJ2.out], by rw [HJ2.out]; exact HOA.out, HBA.out⟩
        case measure => simp [intOf]; omega
    · obtain rfl : k = 2 * m := by omega
      have hm2 : (2 * m + 1) / 2 = m := by omega
      have HE := Lib.hid (show ns.take m = ns from List.take_of_length_le (by have := HML.out; omega))
      rw [hm2] at HOW ⊢
      rw [HE.out] at HOW
      clear hIr hm2
      go_wp2_with fail
      go_ret
      obtain rfl := HML.out
      exact ⟨A1, c1, rfl, HOW.out, HBR.out⟩
end Go.Proofs.YtfoifdoaleaekaaGreat

namespace Go.Proofs.YtfoifdoaleaekaaGreat
open Go.Shelf Go.RowKit Go.Acc
def sortInt_ren : Go.Shelf.Ren := ⟨fun | 6 => 68 | 14 => 98 | 15 => 99 | 20 => 145 | 21 => 146 | 22 => 147 | 23 => 148 | 24 => 149 | 25 => 150 | 26 => 151 | 27 => 152 | 28 => 153 | 29 => 154 | 46 => 207 | 47 => 208 | 48 => 209 | 49 => 210 | 50 => 211 | 57 => 241 | n => n, fun | 22 => 61 | 24 => 3 | 25 => 34 | 3 => 3 | 39 => 146 | 0 => 0 | 53 => 205 | 55 => 22 | 4 => 4 | 46 => 198 | 45 => 197 | 50 => 202 | 5 => 5 | 9 => 9 | 66 => 260 | 70 => 264 | 76 => 288 | 77 => 289 | n => n, fun | n => n⟩
theorem sortInt : Go.Proofs.SlLaysF.n6 Tryz.prog sortInt_ren := {
  mixed := by kernel_rfl
  f6 := ⟨Tryz.f68.name, by decide, Tryz.func68.trans (congrArg some (by kernel_rfl))⟩
  f14 := ⟨Tryz.f98.name, by decide, Tryz.func98.trans (congrArg some (by kernel_rfl))⟩
  f15 := Tryz.func99.trans (congrArg some (by kernel_rfl))
  f20 := ⟨Tryz.f145.name, by decide, Tryz.func145.trans (congrArg some (by kernel_rfl))⟩
  f21 := ⟨Tryz.f146.name, by decide, Tryz.func146.trans (congrArg some (by kernel_rfl))⟩
  f22 := ⟨Tryz.f147.name, by decide, Tryz.func147.trans (congrArg some (by kernel_rfl))⟩
  f23 := ⟨Tryz.f148.name, by decide, Tryz.func148.trans (congrArg some (by kernel_rfl))⟩
  f24 := ⟨Tryz.f149.name, by decide, Tryz.func149.trans (congrArg some (by kernel_rfl))⟩
  f25 := ⟨Tryz.f150.name, by decide, Tryz.func150.trans (congrArg some (by kernel_rfl))⟩
  f26 := ⟨Tryz.f151.name, by decide, Tryz.func151.trans (congrArg some (by kernel_rfl))⟩
  f27 := ⟨Tryz.f152.name, by decide, Tryz.func152.trans (congrArg some (by kernel_rfl))⟩
  f28 := Tryz.func153.trans (congrArg some (by kernel_rfl))
  f29 := Tryz.func154.trans (congrArg some (by kernel_rfl))
  f46 := ⟨Tryz.f207.name, by decide, Tryz.func207.trans (congrArg some (by kernel_rfl))⟩
  f47 := Tryz.func208.trans (congrArg some (by kernel_rfl))
  f48 := Tryz.func209.trans (congrArg some (by kernel_rfl))
  f49 := ⟨Tryz.f210.name, by decide, Tryz.func210.trans (congrArg some (by kernel_rfl))⟩
  f50 := ⟨Tryz.f211.name, by decide, Tryz.func211.trans (congrArg some (by kernel_rfl))⟩
  f57 := ⟨Tryz.f241.name, by decide, Tryz.func241.trans (congrArg some (by kernel_rfl))⟩
  t0 := Tryz.underlying0
  a0 := Tryz.isAgg0
  z0 := Tryz.sizeOf0
  v0 := Tryz.zeroValue0
  t3 := Tryz.underlying3
  a3 := Tryz.isAgg3
  z3 := Tryz.sizeOf3
  v3 := Tryz.zeroValue3
  t4 := Tryz.underlying4
  a4 := Tryz.isAgg4
  z4 := Tryz.sizeOf4
  v4 := Tryz.zeroValue4
  t5 := Tryz.underlying5
  a5 := Tryz.isAgg5
  z5 := Tryz.sizeOf5
  v5 := Tryz.zeroValue5
  t9 := Tryz.underlying9
  a9 := Tryz.isAgg9
  z9 := Tryz.sizeOf9
  v9 := Tryz.zeroValue9
  t22 := Tryz.underlying61
  a22 := Tryz.isAgg61
  z22 := Tryz.sizeOf61
  v22 := Tryz.zeroValue61
  a24 := Tryz.isAgg3
  z24 := Tryz.sizeOf3
  t25 := Tryz.underlying34
  a25 := Tryz.isAgg34
  z25 := Tryz.sizeOf34
  v25 := Tryz.zeroValue34
  t39 := Tryz.underlying146
  a39 := Tryz.isAgg146
  z39 := Tryz.sizeOf146
  v39 := Tryz.zeroValue146
  t45 := Tryz.underlying197
  a45 := Tryz.isAgg197
  z45 := Tryz.sizeOf197
  v45 := Tryz.zeroValue197
  t46 := Tryz.underlying198
  a46 := Tryz.isAgg198
  z46 := Tryz.sizeOf198
  v46 := Tryz.zeroValue198
  t50 := Tryz.underlying202
  a50 := Tryz.isAgg202
  z50 := Tryz.sizeOf202
  v50 := Tryz.zeroValue202
  t53 := Tryz.underlying205
  a53 := Tryz.isAgg205
  z53 := Tryz.sizeOf205
  v53 := Tryz.zeroValue205
  t55 := Tryz.underlying22
  a55 := Tryz.isAgg22
  z55 := Tryz.sizeOf22
  v55 := Tryz.zeroValue22
  t66 := Tryz.underlying260
  a66 := Tryz.isAgg260
  z66 := Tryz.sizeOf260
  v66 := Tryz.zeroValue260
  t70 := Tryz.underlying264
  a70 := Tryz.isAgg264
  z70 := Tryz.sizeOf264
  v70 := Tryz.zeroValue264
  t76 := Tryz.underlying288
  a76 := Tryz.isAgg288
  z76 := Tryz.sizeOf288
  v76 := Tryz.zeroValue288
  t77 := Tryz.underlying289
  a77 := Tryz.isAgg289
  z77 := Tryz.sizeOf289
  v77 := Tryz.zeroValue289 }
def scmp_ren : Go.Shelf.Ren := ⟨fun | 106 => 70 | 213 => 100 | 265 => 155 | n => n, fun | 3 => 3 | 9 => 9 | n => n, fun | n => n⟩
theorem scmp : Go.Proofs.Lays.n106 Tryz.prog scmp_ren := {
  mixed := by kernel_rfl
  f106 := Tryz.func70.trans (congrArg some (by kernel_rfl))
  f213 := Tryz.func100.trans (congrArg some (by kernel_rfl))
  f265 := Tryz.func155.trans (congrArg some (by kernel_rfl))
  t3 := Tryz.underlying3
  a3 := Tryz.isAgg3
  z3 := Tryz.sizeOf3
  v3 := Tryz.zeroValue3
  t9 := Tryz.underlying9
  a9 := Tryz.isAgg9
  z9 := Tryz.sizeOf9
  v9 := Tryz.zeroValue9 }
theorem scmp_spec (a b : List UInt8) (w : World) : Calls Tryz.prog 70 #[.string ⟨a.toArray⟩, .string ⟨b.toArray⟩] w fun e w' => e = .returned (.int .i64 (Go.Lib.compareBytes a b)) ∧ w = w' :=
  (Any.strings_Compare scmp ⟨a.toArray⟩ ⟨b.toArray⟩ w).mono fun _ _ h => ⟨h.1, h.2.symm⟩
end Go.Proofs.YtfoifdoaleaekaaGreat
