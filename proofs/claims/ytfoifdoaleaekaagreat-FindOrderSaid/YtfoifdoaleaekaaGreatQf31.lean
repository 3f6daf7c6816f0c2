/-
  slices.SortFunc at places, strings.Compare, from the library.
  A row of the call's own, before and behind the library's sort.
  Package key: Order's comparison, and the library's sort of places.
  Package build: EndMap's entries, sorted.
  Package key: places in order; the sort of places.
  Package key: Order.
-/
import Derived.Test.YtfoifdoaleaekaaGreatQf30
import Derived.Shelf.SlSortCmp.NoneTotal
import Derived.Shelf.Small.Strs
import Derived.Ground.SlsfProg
import Derived.Ground.NamesProg
import Derived.Shelf.SlSortCmp.WholeK
namespace Go.Proofs.YtfoifdoaleaekaaGreat
open Go.Shelf Go.RowKit Go.Acc
def sortInt_ren : Go.Shelf.Ren := ⟨fun | 6 => 68 | 14 => 98 | 15 => 99 | 20 => 145 | 21 => 146 | 22 => 147 | 23 => 148 | 24 => 149 | 25 => 150 | 26 => 151 | 27 => 152 | 28 => 153 | 29 => 154 | 46 => 207 | 47 => 208 | 48 => 209 | 49 => 210 | 50 => 211 | 57 => 241 | n => n, fun | 22 => 61 | 24 => 3 | 25 => 34 | 3 => 3 | 39 => 146 | 0 => 0 | 53 => 205 | 55 => 22 | 4 => 4 | 46 => 198 | 45 => 197 | 50 => 202 | 5 => 5 | 9 => 9 | 66 => 260 | 70 => 264 | 76 => 288 | 77 => 289 | n => n, fun | n => n⟩
theorem sortInt : Go.Proofs.SlLaysF.n6 Tryz.prog sortInt_ren := {
  mixed := by kernel_rfl
  f6 := ⟨Tryz.f68.name, by decide, Tryz.func68.trans (congrArg some (by kernel_rfl))⟩
  f14 := ⟨Tryz.f98.name, by decide, Tryz.func98.trans (congrArg some (by kernel_rfl))⟩
  f15 := Tryz.func99.trans (congrArg some (by kernel_rfl))
  f20 := ⟨Tryz.f145.name, by decide, Tryz.func145.trans (congrArg some (by kernel_rfl))⟩
  f21 := ⟨Tryz.f146.name, by decide, Tryz.func146.trans (congrArg some (by kernel_rfl))⟩
  f22 := ⟨Tryz.f147.name, by decide, Tryz.func147.trans (congrArg some (by kernel_rfl))⟩
  f23 := ⟨Tryz.f148.name, by decide, Tryz.func148.trans (congrArg some (by kernel_rfl))⟩
  f24 := ⟨Tryz.f149.name, by decide, Tryz.func149.trans (congrArg some (by kernel_rfl))⟩
  f25 := ⟨Tryz.f150.name, by decide, Tryz.func150.trans (congrArg some (by kernel_rfl))⟩
  f26 := ⟨Tryz.f151.name, by decide, Tryz.func151.trans (congrArg some (by kernel_rfl))⟩
  f27 := ⟨Tryz.f152.name, by decide, Tryz.func152.trans (congrArg some (by kernel_rfl))⟩
  f28 := Tryz.func153.trans (congrArg some (by kernel_rfl))
  f29 := Tryz.func154.trans (congrArg some (by kernel_rfl))
  f46 := ⟨Tryz.f207.name, by decide, Tryz.func207.trans (congrArg some (by kernel_rfl))⟩
  f47 := Tryz.func208.trans (congrArg some (by kernel_rfl))
  f48 := Tryz.func209.trans (congrArg some (by kernel_rfl))
  f49 := ⟨Tryz.f210.name, by decide, Tryz.func210.trans (congrArg some (by kernel_rfl))⟩
  f50 := ⟨Tryz.f211.name, by decide, Tryz.func211.trans (congrArg some (by kernel_rfl))⟩
  f57 := ⟨Tryz.f241.name, by decide, Tryz.func241.trans (congrArg some (by kernel_rfl))⟩
  t0 := Tryz.underlying0
  a0 := Tryz.isAgg0
  z0 := Tryz.sizeOf0
  v0 := Tryz.zeroValue0
  t3 := Tryz.underlying3
  a3 := Tryz.isAgg3
  z3 := Tryz.sizeOf3
  v3 := Tryz.zeroValue3
  t4 := Tryz.underlying4
  a4 := Tryz.isAgg4
  z4 := Tryz.sizeOf4
  v4 := Tryz.zeroValue4
  t5 := Tryz.underlying5
  a5 := Tryz.isAgg5
  z5 := Tryz.sizeOf5
  v5 := Tryz.zeroValue5
  t9 := Tryz.underlying9
  a9 := Tryz.isAgg9
  z9 := Tryz.sizeOf9
  v9 := Tryz.zeroValue9
  t22 := Tryz.underlying61
  a22 := Tryz.isAgg61
  z22 := Tryz.sizeOf61
  v22 := Tryz.zeroValue61
  a24 := Tryz.isAgg3
  z24 := Tryz.sizeOf3
  t25 := Tryz.underlying34
  a25 := Tryz.isAgg34
  z25 := Tryz.sizeOf34
  v25 := Tryz.zeroValue34
  t39 := Tryz.underlying146
  a39 := Tryz.isAgg146
  z39 := Tryz.sizeOf146
  v39 := Tryz.zeroValue146
  t45 := Tryz.underlying197
  a45 := Tryz.isAgg197
  z45 := Tryz.sizeOf197
  v45 := Tryz.zeroValue197
  t46 := Tryz.underlying198
  a46 := Tryz.isAgg198
  z46 := Tryz.sizeOf198
  v46 := Tryz.zeroValue198
  t50 := Tryz.underlying202
  a50 := Tryz.isAgg202
  z50 := Tryz.sizeOf202
  v50 := Tryz.zeroValue202
  t53 := Tryz.underlying205
  a53 := Tryz.isAgg205
  z53 := Tryz.sizeOf205
  v53 := Tryz.zeroValue205
  t55 := Tryz.underlying22
  a55 := Tryz.isAgg22
  z55 := Tryz.sizeOf22
  v55 := Tryz.zeroValue22
  t66 := Tryz.underlying260
  a66 := Tryz.isAgg260
  z66 := Tryz.sizeOf260
  v66 := Tryz.zeroValue260
  t70 := Tryz.underlying264
  a70 := Tryz.isAgg264
  z70 := Tryz.sizeOf264
  v70 := Tryz.zeroValue264
  t76 := Tryz.underlying288
  a76 := Tryz.isAgg288
  z76 := Tryz.sizeOf288
  v76 := Tryz.zeroValue288
  t77 := Tryz.underlying289
  a77 := Tryz.isAgg289
  z77 := Tryz.sizeOf289
  v77 := Tryz.zeroValue289 }
def scmp_ren : Go.Shelf.Ren := ⟨fun | 106 => 70 | 213 => 100 | 265 => 155 | n => n, fun | 3 => 3 | 9 => 9 | n => n, fun | n => n⟩
theorem scmp : Go.Proofs.Lays.n106 Tryz.prog scmp_ren := {
  mixed := by kernel_rfl
  f106 := Tryz.func70.trans (congrArg some (by kernel_rfl))
  f213 := Tryz.func100.trans (congrArg some (by kernel_rfl))
  f265 := Tryz.func155.trans (congrArg some (by kernel_rfl))
  t3 := Tryz.underlying3
  a3 := Tryz.isAgg3
  z3 := Tryz.sizeOf3
  v3 := Tryz.zeroValue3
  t9 := Tryz.underlying9
  a9 := Tryz.isAgg9
  z9 := Tryz.sizeOf9
  v9 := Tryz.zeroValue9 }
theorem scmp_spec (a b : List UInt8) (w : World) : Calls Tryz.prog 70 #[.string ⟨a.toArray⟩, .string ⟨b.toArray⟩] w fun e w' => e = .returned (.int .i64 (Go.Lib.compareBytes a b)) ∧ w = w' :=
  (Any.strings_Compare scmp ⟨a.toArray⟩ ⟨b.toArray⟩ w).mono fun _ _ h => ⟨h.1, h.2.symm⟩
end Go.Proofs.YtfoifdoaleaekaaGreat

namespace Go.Acc
open Go.RowKit Go.Sort Go.Proofs
section
variable {α : Type} [Inhabited α] {f : α → List Value} {sz : Nat} {w : World} {B g n c : Nat} {e : TypeId} {l : List α}
theorem own_open {v : Value} {xs : List Value} (h : w.ownsRow B e sz v n xs) (hv : v = .slice (some ⟨g, 0, none⟩) n c) : ∃ cur, Blk w g e cur ∧ cur.size = c * sz ∧ cur.toList.take (n * sz) = xs ∧ n ≤ c ∧ c ≤ maxLen ∧ B ≤ g := by
  subst hv
  rcases h.2 with ⟨hv, _⟩ | ⟨g', cap, cur, hv, hb, hg, hnc, hcm, hcs, htake⟩
  · cases hv
  · injection hv with h1 h2 h3
    injection h1 with h1
    injection h1 with h1
    subst h1 h3
    exact ⟨cur, hg, hcs, htake, hnc, hcm, hb⟩
end
end Go.Acc

namespace Go.Proofs.YtfoifdoaleaekaaGreat
open Go.RowKit Go.Acc Go.Sort
theorem cmpS : ∀ (a b : List UInt8), (a < b ∧ Lib.compareBytes a b = -1) ∨ (a = b ∧ Lib.compareBytes a b = 0) ∨ (b < a ∧ Lib.compareBytes a b = 1)
  | [], [] => .inr (.inl ⟨rfl, rfl⟩)
  | [], _ :: _ => .inl ⟨List.nil_lt_cons _ _, rfl⟩
  | _ :: _, [] => .inr (.inr ⟨List.nil_lt_cons _ _, rfl⟩)
  | x :: a, y :: b => by
    unfold Lib.compareBytes
    by_cases h1 : x < y
    · exact .inl ⟨List.cons_lt_cons_iff.2 (.inl h1), by rw [if_pos h1]⟩
    · by_cases h2 : y < x
      · exact .inr (.inr ⟨List.cons_lt_cons_iff.2 (.inl h2), by rw [if_neg h1, if_pos h2]⟩)
      · have e : x = y := UInt8.le_antisymm (UInt8.not_lt.1 h2) (UInt8.not_lt.1 h1)
        subst e
        rw [if_neg h1, if_neg h2]
        rcases cmpS a b with ⟨h, e⟩ | ⟨h, e⟩ | ⟨h, e⟩
        · exact .inl ⟨List.cons_lt_cons_iff.2 (.inr ⟨rfl, h⟩), e⟩
        · exact .inr (.inl ⟨by rw [h], e⟩)
        · exact .inr (.inr ⟨List.cons_lt_cons_iff.2 (.inr ⟨rfl, h⟩), e⟩)
def cfS (l : List (List UInt8)) (x y : Fin l.length) : Int := Lib.compareBytes l[x] l[y]
theorem lt_cfS (l : List (List UInt8)) (x y : Fin l.length) : ltOf (cfS l) x y = decide (l[x] < l[y]) := by
  unfold ltOf cfS
  rcases cmpS l[x] l[y] with ⟨h, e⟩ | ⟨h, e⟩ | ⟨h, e⟩ <;> rw [e] <;> apply decide_eq_decide.2
  · exact ⟨fun _ => h, fun _ => by decide⟩
  · exact ⟨fun h => absurd h (by decide), fun h' => absurd h' (by rw [h]; exact List.lt_irrefl _)⟩
  · exact ⟨fun h => absurd h (by decide), fun h' => absurd h' (List.lt_asymm h)⟩
theorem swoS (l : List (List UInt8)) : SWO (ltOf (cfS l)) where
  irrefl x := by rw [lt_cfS]; exact decide_eq_false (List.lt_irrefl _)
  trans x y z h1 h2 := by rw [lt_cfS] at *; exact decide_eq_true (List.lt_trans (of_decide_eq_true h1) (of_decide_eq_true h2))
  ntrans x y z h1 h2 := by
    rw [lt_cfS] at *
    have h1 := of_decide_eq_false h1
    have h2 := of_decide_eq_false h2
    apply decide_eq_false
    intro h
    rcases cmpS l[x] l[y] with ⟨h3, _⟩ | ⟨h3, _⟩ | ⟨h3, _⟩
    · exact h1 h3
    · rw [h3] at h; exact h2 h
    · exact h2 (List.lt_trans h3 h)
set_option maxHeartbeats 1000000 in
theorem less_spec7 (bl : Nat) (A : Option Addr) (n c : Nat) (l : List (List UInt8)) (x y : Nat) (w : World) (hb : w.cell? ⟨bl, 0, none⟩ = some (.slice A n c)) (hI : IsS w A n l) (hx : x < n) (hy : y < n) (r : Int) (hr : ∀ hx hy, Lib.compareBytes (l[x]'hx) (l[y]'hy) = r) :
    Calls Tryz.prog 69 #[.int .i64 (x : Int), .int .i64 (y : Int), .pointer (some ⟨bl, 0, none⟩)] w fun e w' => e = .returned (.int .i64 r) ∧ w' = w.drew := by
  obtain ⟨g, off, e, hx', c1⟩ := iss_at hI hx
  obtain ⟨g2, off2, e2, hy', c2⟩ := iss_at hI hy
  have hr := hr hx' hy'
  generalize l[x] = s at c1 hr
  generalize l[y] = t at c2 hr
  subst e
  injection e2 with e2
  injection e2 with e3 e4
  subst e3 e4
  have HR := Lib.hid hr
  have hx0 : (0 : Int) ≤ (x : Int) := by omega
  have hxn : (x : Int) < (n : Int) := by omega
  have hy0 : (0 : Int) ≤ (y : Int) := by omega
  have hyn : (y : Int) < (n : Int) := by omega
  clear hr hI hx' hy'
  go_enter Tryz.func69, Tryz.ntmps69
  go_wp2_with fail
  go_region_held3 (fun w' => w'.cell? ⟨bl, 0, none⟩ = some (.slice (some ⟨g, off, none⟩) n c) ∧ w'.cell? ⟨g, off + x, none⟩ = some (.string ⟨s.toArray⟩) ∧ w'.cell? ⟨g, off + y, none⟩ = some (.string ⟨t.toArray⟩)) (first | with_reducible exact ⟨hb, c1, c2⟩ | with_reducible exact ⟨kdrew hb, kdrew c1, kdrew c2⟩) (first | (go_at_call 70; (with_reducible refine (scmp_spec s t _).mono ?_); rintro e w' ⟨rfl, rfl⟩))
  go_wp2_with fail
  go_ret
  exact ⟨congrArg (fun z => Ending.returned (.int .i64 z)) HR.out, rfl⟩
theorem own_sorted1 {α : Type} [Inhabited α] {enc : α → Value} {f : α → List Value} (hf : ∀ x, f x = [enc x]) {w : World} {B g n c : Nat} {e : TypeId} {l : List α} (h : Go.Acc.Own f 1 e w B (some ⟨g, 0, none⟩) n c l) (d' : Array α) (hd : d'.size = n) (m : Nat) (os : Array Obj) :
    Go.Acc.Own f 1 e (sortWorld enc w g 0 m d' os) B (some ⟨g, 0, none⟩) n c d'.toList ∧ Fr (fun k => k = g) w (sortWorld enc w g 0 m d' os) := by
  have hf1 : ∀ x, (f x).length = 1 := fun x => by rw [hf]; rfl
  obtain ⟨cur, hK, hsz, htake, hnc, hcm, hb⟩ := own_open h.2 rfl
  have hlt := hK.lt
  have hblk : (sortWorld enc w g 0 m d' os).heap[g]? = some (.cells (putCells enc 0 d' cur) e (0, 0)) := by
    unfold sortWorld putRow mapBlock
    rw [heap_grow_old _ _ (by simpa [ahead] using hlt)]
    have hK' : w.heap[g]? = some (.cells cur e (0, 0)) := hK
    simp [Array.getElem?_modify, hK', onCells]
  refine ⟨⟨by simp [hd], ?_, .inr ⟨g, c, _, rfl, hb, hblk, hnc, hcm, ?_, ?_⟩⟩, ⟨rfl, rfl, rfl, ?_, ?_⟩⟩
  · rw [fm_length hf1, Array.length_toList, hd]
  · unfold putCells; rw [Array.size_mapIdx]; exact hsz
  · have hncs : n * 1 ≤ cur.size := by rw [hsz]; exact Nat.mul_le_mul_right _ hnc
    apply List.ext_getElem?
    intro j
    rw [List.getElem?_take]
    by_cases hj : j < n * 1
    · have hjd : j < d'.toList.length := by rw [Array.length_toList, hd]; omega
      have h1 := fm_at hf1 d'.toList j 0 hjd (by omega)
      rw [Nat.mul_one, Nat.add_zero] at h1
      have h2 : (d'.toList.flatMap f)[j]? = some (enc d'[j]!) := by
        rw [h1, hf]
        simp [getElem!_pos d' j (by rw [← Array.length_toList]; exact hjd)]
      rw [if_pos hj, h2]
      have hjc : j < cur.size := by omega
      unfold putCells
      simp [hd, hjc]
      omega
    · rw [if_neg hj, List.getElem?_eq_none]
      rw [fm_length hf1, Array.length_toList, hd]; omega
  · unfold sortWorld
    rw [size_grow]
    simp [putRow, mapBlock]
  · intro k hk hne
    unfold sortWorld putRow mapBlock
    rw [heap_grow_old _ _ (by simpa [ahead] using hk)]
    rw [Array.getElem?_modify, if_neg (fun e => hne e.symm)]
    rfl
end Go.Proofs.YtfoifdoaleaekaaGreat

namespace Go.Proofs.YtfoifdoaleaekaaGreat
open Go.RowKit Go.Acc
theorem isi_at {w : World} {A : Option Addr} {n : Nat} {l : List Nat} (h : Is inc w A n l) {k : Nat} (hk : k < n) :
    ∃ b off, A = some ⟨b, off, none⟩ ∧ ∃ hk' : k < l.length, w.cell? ⟨b, off + k, none⟩ = some (.int .i64 (l[k] : Int)) := by
  obtain ⟨b, off, e, hk', hc⟩ := h.at_ inc_len (by omega) hk
  exact ⟨b, off, e, hk', by have := hc 0 (by omega); simpa [inc] using this⟩
def ValsW (w : World) (n : Nat) (l : List Bv) (e : Ending) (w' : World) : Prop := ∃ A c, e = .returned (.slice A n c) ∧ OwnV w' w.heap.size A n c (l.map vv) ∧ Below w.heap.size w w'
def pickV (l : List Bv) (d : Nat) (p : Nat) : Bv := l.getD (2 * p + d) ⟨0, 0, 0⟩
set_option maxRecDepth 100000 in
set_option maxHeartbeats 4000000 in
theorem esort_spec (bp bl d : Nat) (AP : Option Addr) (np cp : Nat) (ps : List Nat) (A : Option Addr) (n c : Nat) (l : List Bv) (w : World) (hp : Blk w bp 61 #[.slice AP np cp]) (hl : Blk w bl 160 #[.slice A n c]) (hP : Is inc w AP np ps) (hI : IsV w A n (l.map vv)) (hd : d ≤ 1) (hn : np ≤ 1000000) (hps : ∀ p ∈ ps, 2 * p + 1 < n) (hn2 : n ≤ 1000000) :
    Calls Tryz.prog 176 #[.int .i64 (d : Int), .pointer (some ⟨bp, 0, none⟩), .pointer (some ⟨bl, 0, none⟩)] w (ValsW w np (ps.map (pickV l d))) := by
  have HP := Lib.hid hp
  have HL := Lib.hid hl
  have HPS := Lib.hid hps
  have HIP := Lib.hid hP
  have HI := Lib.hid hI
  have HLP := Lib.hid (show ps.length = np by have := hP.1; simpa using this)
  have c0 : w.cell? ⟨bp, 0, none⟩ = some (.slice AP np cp) := hp.cell 0
  clear hp hl hP hI hps
  go_enter Tryz.func176, Tryz.ntmps176
  go_wp2_with fail
  go_loopw [4, 9] (fun s u wr => ∃ k : Nat, k ≤ np ∧ u = .int .i64 k ∧ ∃ A1 c1, s = .slice A1 k c1 ∧ OwnV wr w.heap.size A1 k c1 (((ps.take k).map (pickV l d)).map vv) ∧ Below w.heap.size w wr) (fun _ u _ => np - (intOf u).toNat)
  case atStart => exact ⟨0, Nat.zero_le _, rfl, none, 0, rfl, Own.nil _ _, Below.refl _ _⟩
  case round =>
    obtain ⟨k, hk, rfl, A1, c1, rfl, how, hbr⟩ := hrel
    have HOW := Lib.hid how
    have HBR := Lib.hid hbr
    clear how hbr
    by_cases hlt : k < np
    · obtain ⟨g, off, e, hk', v0⟩ := isi_at (HIP.out.pure HBR.out) hlt
      obtain ⟨p, hpp⟩ : ∃ p, ps[k] = p := ⟨_, rfl⟩
      rw [hpp] at v0
      have hpn := HPS.out p (by rw [← hpp]; exact List.getElem_mem _)
      obtain ⟨q, hq⟩ : ∃ q, 2 * p + d = q := ⟨_, rfl⟩
      have hqn : q < n := by omega
      obtain ⟨g2, off2, v, e2, hv, y0, y1, y2⟩ := isv_bv (HI.out.pure HBR.out) hqn
      have hvp : pickV l d p = v := by
        unfold pickV
        rw [hq, List.getD_eq_getElem?_getD, hv]
        rfl
      have HT := Lib.hid (show (((ps.take (k + 1)).map (pickV l d)).map vv) = (((ps.take k).map (pickV l d)).map vv) ++ [vv v] by
        rw [List.take_succ_eq_append_getElem hk', hpp, List.map_append, List.map_append, List.map_cons, hvp]
        rfl)
      have d0 : wr.cell? ⟨bp, 0, none⟩ = some (.slice AP np cp) := (HP.out.pure HBR.out).cell 0
      have d1 : wr.cell? ⟨bl, 0, none⟩ = some (.slice A n c) := (HL.out.pure HBR.out).cell 0
      have hk0 : (0 : Int) ≤ (k : Int) := by omega
      have hkn : (k : Int) < (np : Int) := by omega
      have hq0 : (2 : Int) * (p : Int) + (d : Int) = (q : Int) := by omega
      have hq1 : (0 : Int) ≤ (q : Int) := by omega
      have hq2 : (q : Int) < (n : Int) := by omega
      have hp0 : (0 : Int) ≤ (p : Int) := by omega
      have hp1 : (2 : Int) * (p : Int) ≤ 1000000 := by omega
      have HB3 := Lib.hid (HBR.out.alloc HBR.out.size (.cells #[.int .i64 (v.t : Int), .int .i64 (v.w : Int), .int .u64 (v.n : Int)] 185))
      have HO3 := Lib.hid (HOW.out.pure ((Below.refl wr.heap.size wr).alloc (Nat.le_refl _) (.cells #[.int .i64 (v.t : Int), .int .i64 (v.w : Int), .int .u64 (v.n : Int)] 185)))
      have HI3 := Lib.hid (isv_lit wr v)
      have HEE := Lib.hid (And.intro e e2)
      rw [e]
      rw [e2] at d1
      clear hpp hv hvp hk' hq e e2
      go_wp2_with (at_builtin; refine wpl_app _ rfl (.tmp 13) (.tmp 21) _ rfl 185 _ 3 24 Tryz.underlying160 info_v rfl (by omega) vc_len vc_one _ _ _ _ _ rfl HO3.out _ _ _ _ rfl HI3.out (by omega) HB3.out.size ?_; intro A2 c2 w2 hown2 hfr2 hat2; have HO4 := Lib.hid hown2; have HB4 := Lib.hid (below_fr HB3.out hfr2 (by rintro j ⟨ad, e, rfl⟩; exact (HO3.out.addr ad e).2.1)); clear hown2 hfr2 hat2)
      go_roundw
      case rel => exact ⟨k + 1, by omega, by go_num, A2, c2, rfl, by rw [HT.out]; exact HO4.out, HB4.out⟩
      case measure => simp [intOf]; omega
    · obtain rfl : k = np := by omega
      have HE := Lib.hid (show ps.take k = ps from List.take_of_length_le (by have := HLP.out; omega))
      rw [HE.out] at HOW
      go_wp2_with fail
      go_ret
      exact ⟨A1, c1, rfl, HOW.out, HBR.out⟩
end Go.Proofs.YtfoifdoaleaekaaGreat

namespace Go.Proofs.YtfoifdoaleaekaaGreat
open Go.RowKit Go.Acc Go.Sort
theorem own_base {α : Type} {f : α → List Value} {sz : Nat} {e : TypeId} {w : World} {B g n c : Nat} {l : List α} (h : Go.Acc.Own f sz e w 0 (some ⟨g, 0, none⟩) n c l) (hB : B ≤ g) : Go.Acc.Own f sz e w B (some ⟨g, 0, none⟩) n c l := by
  refine ⟨h.1, ?_⟩
  obtain ⟨h1, h2⟩ := h.2
  refine ⟨h1, ?_⟩
  rcases h2 with h2 | ⟨g', cap, cur, hv, hb, r⟩
  · exact .inl h2
  · injection hv with e1 e2 e3
    injection e1 with e1
    injection e1 with e1
    subst e1
    exact .inr ⟨g, cap, cur, by rw [e3], hB, r⟩
theorem own_map {α β : Type} {f : β → List Value} {v : α → β} {sz : Nat} {e : TypeId} {w : World} {B n c : Nat} {A : Option Addr} {l : List α} : Go.Acc.Own (fun x => f (v x)) sz e w B A n c l ↔ Go.Acc.Own f sz e w B A n c (l.map v) := by
  unfold Go.Acc.Own
  rw [List.length_map, List.flatMap_map]
theorem finRange_val (n : Nat) : (List.finRange n).map Fin.val = List.range n := by
  apply List.ext_getElem (by simp)
  intro i h1 h2
  simp
theorem extract_all {α : Type} (d : Array α) (n : Nat) (h : d.size = n) : d.extract 0 n = d := by
  subst h
  simp
theorem sort_ints (B g n c bl : Nat) (A : Option Addr) (nc : Nat) (l : List (List UInt8)) (w : World) (hb : w.cell? ⟨bl, 0, none⟩ = some (.slice A n nc)) (hI : IsS w A n l) (hn : n ≤ 2147483648) (h : OwnN w B (some ⟨g, 0, none⟩) n c (List.range n)) (hbg : bl ≠ g) (hAg : ∀ ad, A = some ad → ad.block ≠ g) :
    Calls Tryz.prog 68 #[.slice (some ⟨g, 0, none⟩) n c, .func (.func 69) #[] #[.pointer (some ⟨bl, 0, none⟩)]] w fun e w' => e = .returned (.tuple #[]) ∧ ∃ ps : List Nat, ps.Perm (List.range n) ∧ (∀ (i j : Nat) (hi : i < ps.length) (hj : j < ps.length), i < j → ¬ l.getD ps[j] [] < l.getD ps[i] []) ∧ OwnN w' B (some ⟨g, 0, none⟩) n c ps ∧ Fr (fun k => k = g) w w' := by
  have hl : l.length = n := by have := hI.1; simpa using this
  by_cases h0 : n = 0
  · subst h0
    refine (AnyF.slices_SortFunc_none (ρ := sortInt_ren) { sortInt with } (some ⟨g, 0, none⟩) c (.func (.func 69) #[] #[.pointer (some ⟨bl, 0, none⟩)]) w).mono ?_
    rintro e w' ⟨rfl, rfl⟩
    exact ⟨rfl, [], List.Perm.refl _, fun i j hi => by simp at hi, h, Fr.refl _ _⟩
  · subst hl
    haveI : Inhabited (Fin l.length) := ⟨⟨0, by omega⟩⟩
    obtain ⟨enc, henc⟩ : ∃ enc : Fin l.length → Value, enc = fun i => .int .i64 ((i.val : Nat) : Int) := ⟨_, rfl⟩
    have hf : ∀ x : Fin l.length, inc x.val = [enc x] := fun x => by rw [henc]; rfl
    have hown : Go.Acc.Own (fun x : Fin l.length => inc x.val) 1 3 w B (some ⟨g, 0, none⟩) l.length c (List.finRange l.length) := own_map.2 (by rw [finRange_val]; exact h)
    have eg : ∀ args w, (callFunc 69 args).run Tryz.prog w = .ok (.enter 69 args) w := enters_of Tryz.func69 (by kernel_rfl) rfl
    have hsz : (List.finRange l.length).toArray.size = l.length := by simp
    have hlay : CmpReads Tryz.prog 69 #[.pointer (some ⟨bl, 0, none⟩)] enc (cfS l) g 0 (List.finRange l.length).toArray.size w := by
      intro m os dk hdk x y
      have hfr := (own_sorted1 hf hown dk (by rw [hdk, hsz]) m os).2
      have e2 := less_spec7 bl A l.length nc l x.val y.val _ (cell_fr hfr hb hbg) (hI.fr hfr hAg) x.isLt y.isLt (cfS l x y) (fun _ _ => rfl)
      have e3 : #[enc x, enc y] ++ #[Value.pointer (some ⟨bl, 0, none⟩)] = #[.int .i64 ((x.val : Nat) : Int), .int .i64 ((y.val : Nat) : Int), .pointer (some ⟨bl, 0, none⟩)] := by rw [henc]; rfl
      rw [e3]
      exact e2.mono fun e w' h => ⟨h.1, 1, h.2⟩
    have hlt : g < w.heap.size := (own_open hown.2 rfl).elim fun _ h => h.1.lt
    have hH : Holds enc w g 0 (List.finRange l.length).toArray := by
      intro j hj
      have hj' : j < (List.finRange l.length).length := by simpa using hj
      obtain ⟨b, off, e1, h3⟩ := Rd.of_own hown.2 j (enc (List.finRange l.length).toArray[j]!) (by
        have h1 := fm_at (f := fun x : Fin l.length => inc x.val) (sz := 1) (fun _ => rfl) (List.finRange l.length) j 0 hj' (by omega)
        rw [Nat.mul_one, Nat.add_zero] at h1
        rw [h1, getElem!_pos _ j hj, hf]
        simp)
      injection e1 with e1
      injection e1 with e1 e2
      subst e1 e2
      refine ⟨h3, ?_⟩
      rw [Nat.zero_add]
      exact own_frozen hown.2 j
    have hs := Any.slices_SortFunc sortInt enc (fun x => by rw [henc]; rfl) (cfS l) (swoS l) 69 #[.pointer (some ⟨bl, 0, none⟩)] g 0 c (List.finRange l.length).toArray w eg hlay.lays hH hlt (by omega)
    rw [hsz] at hs
    change Calls Tryz.prog 68 _ _ _ at hs
    refine hs.mono ?_
    rintro e w' ⟨rfl, d, m, os, hp, hsd, rfl⟩
    have hdn : d.size = l.length := by rw [hp.1, hsz]
    obtain ⟨h1, h2⟩ := own_sorted1 hf hown d hdn m os
    refine ⟨rfl, d.toList.map Fin.val, ?_, ?_, own_map.1 h1, h2⟩
    · have h3 := hp.2.2
      rw [extract_all d _ hdn, extract_all _ _ hsz] at h3
      have h4 := h3.map Fin.val
      simpa [finRange_val] using h4
    · intro i j hi hj hij
      rw [List.length_map, Array.length_toList] at hi hj
      have h4 := hsd i j (Nat.zero_le _) hij (by omega)
      rw [lt_cfS, getElem!_pos d j hj, getElem!_pos d i hi] at h4
      have h5 := of_decide_eq_false h4
      have e1 : ∀ (k : Nat) (hk : k < d.size) hk', l.getD ((d.toList.map Fin.val)[k]'hk') [] = l[d[k]] := by
        intro k hk hk'
        rw [List.getElem_map, List.getD_eq_getElem?_getD]
        simp
      rw [e1 i hi, e1 j hj]
      exact h5
end Go.Proofs.YtfoifdoaleaekaaGreat

namespace Go.Proofs.YtfoifdoaleaekaaGreat
open Go.RowKit Go.Acc Go.Sort
theorem below_dn (w : World) : ∀ q, Below w.heap.size w (w.drewN q)
  | 0 => Below.refl _ _
  | q + 1 => (below_dn w q).drew
theorem info_i : (Tryz.prog.info? 3).map (fun i => (i.zero, i.size, i.bytes)) = some (some (.int .i64 0), 1, 8) := by kernel_rfl
theorem made_inc (n : Nat) : (madeCells #[.int .i64 0] n).toList = (List.replicate n 0).flatMap inc := by
  apply List.ext_getElem?
  intro j
  by_cases hj : j < n
  · have h1 := fm_at inc_len (List.replicate n 0) j 0 (by simpa using hj) (by omega)
    rw [Nat.mul_one, Nat.add_zero, List.getElem_replicate] at h1
    rw [h1]
    simp [madeCells, hj, inc, Nat.mod_one]
  · rw [List.getElem?_eq_none (by simp [madeCells]; omega), List.getElem?_eq_none (by rw [fm_length inc_len]; simp; omega)]
theorem make_i (n : Nat) (hn : n ≤ 1099511627776) : ∃ Z : Array Value, Z.toList = (List.replicate n 0).flatMap inc ∧ ∀ W : World, (Instr.makeSlice 61 (.int .i64 (n : Int)) (.int .i64 (n : Int))).run Tryz.prog W = .ok (.slice (some ⟨W.heap.size, 0, none⟩) n n) (W.alloc (.cells Z 3)) := by
  obtain ⟨i, hi, hz, hs, hb⟩ := info_parts info_i
  refine ⟨_, made_inc n, fun W => ?_⟩
  have hr := run_make (P := Tryz.prog) W 61 3 i _ Tryz.underlying61 hi hz .i64 .i64 n n (by omega) (Int.le_refl _) (by rw [hb]; omega) (by omega)
  simp only [Int.toNat_natCast, hs, Nat.mul_one] at hr
  exact hr
theorem own_lit {α : Type} {f : α → List Value} {e : TypeId} (hf : ∀ x, (f x).length = 1) (W : World) (Z : Array Value) (n B : Nat) (l : List α) (hB : B ≤ W.heap.size) (hn : l.length = n) (hm : n ≤ 1099511627776) (hZ : Z.toList = l.flatMap f) : Go.Acc.Own f 1 e (W.alloc (.cells Z e)) B (some ⟨W.heap.size, 0, none⟩) n n l := by
  refine ⟨hn, ?_⟩
  have hs : Z.size = n * 1 := by rw [← Array.length_toList, hZ, fm_length hf, hn]
  have := World.ownsRow_lit (base := B) (e := e) (size := 1) W Z n hB (by simp only [maxLen]; omega) hs
  rw [hZ] at this
  exact this
theorem fill_step (k n : Nat) (hk : k < n) : (List.range k ++ List.replicate (n - k) 0).take k ++ [k] ++ (List.range k ++ List.replicate (n - k) 0).drop (k + 1) = List.range (k + 1) ++ List.replicate (n - (k + 1)) 0 := by
  have e1 : (List.range k).length = k := List.length_range
  rw [List.take_append_of_le_length (by omega), List.take_of_length_le (by omega), List.drop_append, List.drop_of_length_le (by omega), e1, List.range_succ, List.drop_replicate, List.nil_append]
  congr 2
  omega
def OrdW (w : World) (l : List (List UInt8)) (e : Ending) (w' : World) : Prop :=
  ∃ A c ps, e = .returned (.tuple #[.slice A l.length c, .int .i64 0]) ∧ OwnN w' w.heap.size A l.length c ps ∧ ps.Perm (List.range l.length) ∧ (∀ (i j : Nat) (hi : i < ps.length) (hj : j < ps.length), i < j → l.getD ps[i] [] < l.getD ps[j] []) ∧ Below w.heap.size w w'
set_option maxRecDepth 100000 in
set_option maxHeartbeats 4000000 in
theorem order_spec (A : Option Addr) (n c : Nat) (l : List (List UInt8)) (w : World) (hI : IsS w A n l) (ho : ∀ ad, A = some ad → ad.block < w.heap.size) (hn : n ≤ 1000000) (hd : l.Nodup) :
    Calls Tryz.prog 29 #[.slice A n c] w (OrdW w l) := by
  have hl : l.length = n := by have := hI.1; simpa using this
  obtain ⟨Z, hZ, hmk⟩ := make_i n (by omega)
  have HI := Lib.hid hI
  have HOA := Lib.hid ho
  have HND := Lib.hid hd
  have HLL := Lib.hid hl
  have hB1 := (Below.refl w.heap.size w).alloc (Nat.le_refl _) (.cells #[.slice A n c] 23)
  have hB2 := hB1.alloc hB1.size (.cells Z 3)
  have HX1 := Lib.hid (Blk.new w 23 #[.slice A n c])
  have HX2 := Lib.hid ((Blk.new w 23 #[.slice A n c]).alloc (.cells Z 3))
  have HO2 := Lib.hid (own_lit (e := 3) inc_len (w.alloc (.cells #[.slice A n c] 23)) Z n 0 (List.replicate n 0) (Nat.zero_le _) (by simp) (by omega) hZ)
  have HB2 := Lib.hid hB2
  have x0 : (w.alloc (.cells #[.slice A n c] 23)).cell? ⟨w.heap.size, 0, none⟩ = some (.slice A n c) := (Blk.new w 23 #[.slice A n c]).cell 0
  clear hI ho hd hB1 hB2 hZ
  go_enter Tryz.func29, Tryz.ntmps29
  go_upto_region 2 with fail
  rw [al_size] at HO2
  generalize (w.alloc (.cells #[.slice A n c] 23)).alloc (.cells Z 3) = w2 at HX2 HO2 HB2 ⊢
  generalize hg : w.heap.size + 1 = g at HO2 ⊢
  generalize hbl : w.heap.size = bl at HX2 ⊢
  have HG := Lib.hid (show w.heap.size ≤ g ∧ w.heap.size = bl ∧ bl ≠ g by omega)
  clear hg hbl x0 hmk HX1
  go_wp2_with fail
  go_loopw [12] (fun u wr => ∃ k : Nat, k ≤ n ∧ u = .int .i64 k ∧ OwnN wr 0 (some ⟨g, 0, none⟩) n n (List.range k ++ List.replicate (n - k) 0) ∧ Below w.heap.size w wr ∧ Blk wr bl 23 #[.slice A n c]) (fun u _ => n - (intOf u).toNat)
  case atStart => exact ⟨0, Nat.zero_le _, rfl, HO2.out, HB2.out, HX2.out⟩
  case round =>
    obtain ⟨k, hk, rfl, how, hbr, hxr⟩ := hrel
    have HOW := Lib.hid how
    have HBR := Lib.hid hbr
    have HXR := Lib.hid hxr
    clear how hbr hxr
    by_cases hlt : k < n
    · obtain ⟨⟨u, hu⟩, hf, hnew⟩ := own_store inc_len HOW.out hlt k (.int .i64 (k : Int)) rfl
      rw [fill_step k n hlt] at hnew
      have HNEW := Lib.hid hnew
      have HB3 := Lib.hid (below_fr HBR.out (Fr.setCell (S := fun j => j = g) (Fr.refl _ wr) (p := ⟨g, k, none⟩) (fun _ => rfl) (.int .i64 (k : Int))) (by rintro j rfl; exact HG.out.1))
      have HX3 := Lib.hid (HXR.out.far (p := ⟨g, k, none⟩) HG.out.2.2 (.int .i64 (k : Int)))
      have hk0 : (0 : Int) ≤ (k : Int) := by omega
      have hkn : (k : Int) < (n : Int) := by omega
      clear hnew
      go_wp2_with fail
      go_roundw
      case rel => exact ⟨k + 1, by omega, by go_num, HNEW.out, HB3.out, HX3.out⟩
      case measure => simp [intOf]; omega
    · obtain rfl : k = n := by omega
      have how := HOW.out
      rw [Nat.sub_self, List.replicate_zero, List.append_nil] at how
      have HON := Lib.hid (own_base how HG.out.1)
      clear how HOW
      go_wp2_with fail
      go_at_call 68
      refine (sort_ints w.heap.size g k k bl A c l _ (HXR.out.cell 0) (HI.out.pure HBR.out) (by omega) HON.out HG.out.2.2 (fun ad e => by have h1 := HOA.out ad e; have h2 := HG.out.1; omega)).mono ?_
      rintro e w3 ⟨rfl, ps, hp, hr, ho3, hf3⟩
      have HP3 := Lib.hid hp
      have HR3 := Lib.hid hr
      have HO3 := Lib.hid ho3
      have HB3 := Lib.hid (below_fr HBR.out hf3 (by rintro j rfl; exact HG.out.1))
      have HX3 := Lib.hid (HXR.out.fr hf3 HG.out.2.2)
      have HI3 := Lib.hid (HI.out.pure HB3.out)
      have HPL := Lib.hid (show ps.length = k by have := hp.length_eq; simpa using this)
      have HPM := Lib.hid (show ∀ p ∈ ps, p < k from fun p h => List.mem_range.1 (hp.mem_iff.1 h))
      have HPN := Lib.hid (show ps.Nodup from hp.nodup_iff.2 List.nodup_range)
      clear hp hr ho3 hf3 HBR HXR HON HI
      have HAS := Lib.hid (show ∀ (i j : Nat) (hi : i < ps.length) (hj : j < ps.length), i < j → l.getD ps[i] [] < l.getD ps[j] [] by
        intro i j hi hj hij
        have h1 := HR3.out i j hi hj hij
        have hpi := HPM.out ps[i] (List.getElem_mem _)
        have hpj := HPM.out ps[j] (List.getElem_mem _)
        have hg : ∀ p (h : p < l.length), l.getD p [] = l[p] := fun p h => by rw [List.getD_eq_getElem?_getD, List.getElem?_eq_getElem]; rfl
        rw [hg _ (by rw [hl]; exact hpi), hg _ (by rw [hl]; exact hpj)]
        rw [hg _ (by rw [hl]; exact hpj), hg _ (by rw [hl]; exact hpi)] at h1
        rcases cmpS (l[ps[i]]'(by rw [hl]; exact hpi)) (l[ps[j]]'(by rw [hl]; exact hpj)) with ⟨h2, _⟩ | ⟨h2, _⟩ | ⟨h2, _⟩
        · exact h2
        · have h3 := (List.getElem_inj HND.out).1 h2
          have h4 := (List.getElem_inj HPN.out).1 h3
          omega
        · exact absurd h2 h1)
      go_wp2_with fail
      go_loopw [6] (fun u wr => ∃ j : Nat, (j + 1 ≤ k ∨ j = 0) ∧ u = .int .i64 ((j + 1 : Nat) : Int) ∧ OwnN wr w.heap.size (some ⟨g, 0, none⟩) k k ps ∧ Below w.heap.size w wr ∧ Blk wr bl 23 #[.slice A k c] ∧ IsS wr A k l) (fun u _ => k + 1 - (intOf u).toNat)
      case atStart => exact ⟨0, .inr rfl, rfl, HO3.out, HB3.out, HX3.out, HI3.out⟩
      case round =>
        obtain ⟨j, hj, rfl, ho, hb, hx, hi⟩ := hrel
        have HO := Lib.hid ho
        have HB := Lib.hid hb
        have HX := Lib.hid hx
        have HII := Lib.hid hi
        have x0 : wr.cell? ⟨bl, 0, none⟩ = some (.slice A k c) := hx.cell 0
        clear ho hb hx hi
        by_cases hlt2 : j + 1 < k
        · obtain ⟨b1, o1, e1, hk1, y0⟩ := isi_at HO.out.is (show j < k by omega)
          obtain ⟨b2, o2, e2, hk2, y1⟩ := isi_at HO.out.is (show j + 1 < k by omega)
          injection e1 with e1
          injection e1 with e1 e3
          injection e2 with e2
          injection e2 with e2 e4
          subst e1 e3 e2 e4
          have hst := HAS.out j (j + 1) hk1 hk2 (by omega)
          have hp := HPM.out ps[j] (List.getElem_mem _)
          have hq := HPM.out ps[j + 1] (List.getElem_mem _)
          generalize ps[j] = p at y0 hst hp
          generalize ps[j + 1] = q at y1 hst hq
          obtain ⟨b3, o3, e5, hk3, z0⟩ := iss_at HII.out hp
          obtain ⟨b4, o4, e6, hk4, z1⟩ := iss_at HII.out hq
          have hg : ∀ p (h : p < l.length), l.getD p [] = l[p] := fun p h => by rw [List.getD_eq_getElem?_getD, List.getElem?_eq_getElem]; rfl
          rw [hg _ hk3, hg _ hk4] at hst
          generalize l[p] = s at z0 hst
          generalize l[q] = t at z1 hst
          have HSA := Lib.hid e5
          rw [e5] at e6 x0
          injection e6 with e6
          injection e6 with e6 e7
          subst e6 e7
          rw [Nat.zero_add] at y0 y1
          have hne : (s == t) = false := beq_eq_false_iff_ne.mpr (fun e => by rw [e] at hst; exact List.lt_irrefl _ hst)
          have hj0 : (0 : Int) ≤ (j : Int) := by omega
          have hj1 : (j : Int) + 1 < (k : Int) := by omega
          have hj2 : (j : Int) < (k : Int) := by omega
          have hp0 : (0 : Int) ≤ (p : Int) := by omega
          have hp1 : (p : Int) < (k : Int) := by omega
          have hq0 : (0 : Int) ≤ (q : Int) := by omega
          have hq1 : (q : Int) < (k : Int) := by omega
          clear hg hst e5 hk1 hk2 hk3 hk4
          go_wp2_with fail
          go_quiet (fail)
          go_wp2_with fail
          go_roundw
          case rel => exact ⟨j + 1, .inl (by omega), by go_num, HO.out.pure (below_dn _ _), pure_below HB.out (below_dn _ _), HX.out.pure (below_dn _ _), HII.out.pure (below_dn _ _)⟩
          case measure => simp [intOf]; omega
        · have hj3 : ¬ ((j : Int) + 1 < (k : Int)) := by omega
          go_wp2_with fail
          go_ret2
          subst hl
          exact ⟨_, _, ps, rfl, HO.out, HP3.out, HAS.out, HB.out⟩
end Go.Proofs.YtfoifdoaleaekaaGreat
