/-
  The reference's reader, the signed readers.
  append of made zeros onto a row of the call's own.
  Package le and its reference: what fits, and the storing of digits.
  Package le and its reference: copies of bytes, comparison of bytes, the digits of the reference.
  Package le: appending and setting integers.
  Package le: setting integers; the reference's Put, PutInt, Set; spoiling.
  Package le: the reference's Put, PutInt, Set; spoiling.
  Package le: spoiling bytes, bringing numbers into a range, widths.
  Package le: the examples of the chapter.
-/
import Derived.Test.YtejalfjeihlpeaaQ02
import Derived.Lib.AppendZeros
namespace Go.Proofs.Ytejalfjeihlpeaa
open Go.RowKit Go.Acc

theorem ret_t1 {k : IntKind} {a b : Int} {v : Value} (h : a = b) : Ending.returned (.tuple #[.int k a, v]) = .returned (.tuple #[.int k b, v]) := by rw [h]
/-- A number of so many bytes, read as signed. -/
def sx (w u : Nat) : Int := if u < 2 ^ (8 * w - 1) then u else (u : Int) - 2 ^ (8 * w)
/-- What LoadInt returns. -/
def loadI (l : List UInt8) (a w : Int) : Int := if isW w = true ∧ 0 ≤ a ∧ a + w ≤ l.length then sx w.toNat (loadU l a w) else 0
theorem loadU_lt (l : List UInt8) (a : Int) (x : Nat) : loadU l a x < 2 ^ (8 * x) := by
  unfold loadU
  split
  · refine Nat.lt_of_lt_of_le (leVal_lt _) (Nat.pow_le_pow_right (by omega) ?_)
    have := List.length_take_le x (l.drop a.toNat)
    simp only [Int.toNat_natCast]
    omega
  · exact Nat.two_pow_pos _
theorem wrap64_in (n : Int) (h : -9223372036854775808 ≤ n ∧ n ≤ 9223372036854775807) : wrap64 n = n := by unfold wrap64; omega

theorem load_spec2 (A : Option Addr) (n c : Nat) (a x : Int) (l : List UInt8) (w : World) (er : Int) (u : Nat) (hl : IsB w A n l) (hc : n ≤ c) (hn : n ≤ 9223372036854775807) (h1 : loadE n a x = er) (h2 : loadU l a x = u) :
    Calls Try.prog 49 #[.slice A n c, .int .i64 a, .int .i64 x] w fun e w' => e = .returned (.tuple #[.int .u64 u, .int .i64 er]) ∧ Below w.heap.size w w' := by
  subst h1 h2
  exact load_spec A n c a x l w hl hc hn
set_option maxRecDepth 100000 in
set_option maxHeartbeats 1000000 in
theorem loadi_spec (A : Option Addr) (n c : Nat) (a x : Int) (l : List UInt8) (w : World) (hl : IsB w A n l) (hc : n ≤ c) (hn : n ≤ 9223372036854775807) :
    Calls Try.prog 58 #[.slice A n c, .int .i64 a, .int .i64 x] w fun e w' => e = .returned (.tuple #[.int .i64 (loadI l a x), .int .i64 (loadE n a x)]) ∧ Below w.heap.size w w' := by
  have hlen := hl.1
  subst hlen
  rcases load_cases l a x with ⟨k, y, rfl, rfl, h1, h2, h3, h4, e1, e2⟩ | ⟨e1, e2, e3⟩
  · have e3 : loadI l k y = sx y (loadU l k y) := by unfold loadI; rw [if_pos ⟨h1, by omega, by omega⟩]; rfl
    rw [e1, e3]
    have hb := loadU_lt l k y
    generalize hu : loadU l k y = u at hb
    have HU := Lib.hid hu
    clear hu
    have HL := Lib.hid hl
    have E1 := Lib.hid e1
    have h1' := isW_iff.1 h1
    clear hl e1 e2 e3
    have hy : y = 1 ∨ y = 2 ∨ y = 4 ∨ y = 8 := by omega
    clear h1 h1'
    rcases hy with rfl | rfl | rfl | rfl
    all_goals
      go_enter Try.func58, Try.ntmps58
      go_wp2_with (go_at_call 49; refine (load_spec2 A _ c _ _ l _ 0 u HL.out hc hn E1.out HU.out).mono ?_; rintro e w1 ⟨rfl, hb1⟩)
      go_ret2
      refine ⟨ret_t1 ?_, hb1⟩
      unfold sx wrap64
      simp only [Nat.reduceMul, Nat.reduceSub, Nat.reducePow] at hb ⊢
      split <;> omega
  · have e4 : loadI l a x = 0 := if_neg e3
    have hne : (loadE l.length a x != 0) = true := by simpa using e1
    rw [e4]
    have HL := Lib.hid hl
    have HU := Lib.hid e2
    clear hl e1 e2 e3 e4
    go_enter Try.func58, Try.ntmps58
    go_wp2_with (go_at_call 49; refine (load_spec2 A _ c _ _ l _ _ 0 HL.out hc hn rfl HU.out).mono ?_; rintro e w1 ⟨rfl, hb1⟩)
    go_ret2
    exact ⟨rfl, hb1⟩

end Go.Proofs.Ytejalfjeihlpeaa

namespace Go.Acc
open Go.RowKit

section
variable {P : Program} (w : World)
theorem run_append_room_zeros (t tn ty e : TypeId) (i : TypeInfo) (z : Value) (k kn : IntKind) (ht : P.underlying t = some (.slice e)) (htn : P.underlying tn = some (.int kn)) (hi : P.info? e = some i) (hz : i.zero = some z)
    (g n cap : Nat) (cur : Array Value) (hg : w.heap[g]? = some (.cells cur e (0, 0))) (m : Nat) (h0 : 0 < m) (hs : 0 < i.size) (hzs : z.cells.size = i.size) (h63 : (m : Int) ≤ 9223372036854775807) (h48 : m * i.bytes ≤ 281474976710656)
    (hroom : n + m ≤ cap) (h1 : ∀ u ∈ (Builtin.zeroCells z.cells m).toList, u.oneCell' = true) (hfit : n * i.size + m * i.size ≤ cur.size) :
    (Builtin.append_ #[t, tn] ty #[.slice (some ⟨g, 0, none⟩) n cap, .int k m]).run P w =
      .ok (.slice (some ⟨g, 0, none⟩) (n + m) cap) (w.setRow g (cur.toList.take (n * i.size) ++ (Builtin.zeroCells z.cells m).toList ++ cur.toList.drop (n * i.size + (Builtin.zeroCells z.cells m).toList.length)).toArray) := by
  have hl : (Builtin.zeroCells z.cells m).toList.length = m * i.size := by rw [Array.length_toList, size_zeroCells, hzs]
  have hst := run_storeCells_at P g (n * i.size) e (Builtin.zeroCells z.cells m).toList 0 cur w hg (by rw [hl]; omega) h1
  simp only [Nat.add_zero] at hst
  have hn : m ≠ 0 := by omega
  have hw : IntKind.i64.wrap (m : Int) = m := by rw [IntKind.wrap_i64]; omega
  have h48i : ¬ (281474976710656 < (m : Int) * (i.bytes : Int)) := by rw [← Int.natCast_mul]; omega
  have hneg : ¬ ((m : Int) < 0) := by omega
  have hns : ¬ (m * i.size = 0) := Nat.mul_ne_zero hn (by omega)
  simp [Builtin.append_, run_underlying ht, run_underlying htn, sizeOf, typeInfo, zeroValue, hi, hz, asInt, asIntOf, hw, hneg, hns, h48i, hroom, Addr.add_lit, hst]

theorem run_append_grow_zeros (t tn ty e : TypeId) (i : TypeInfo) (z : Value) (k kn : IntKind) (ht : P.underlying t = some (.slice e)) (htn : P.underlying tn = some (.int kn)) (hi : P.info? e = some i) (hz : i.zero = some z)
    (b : Addr) (n cap : Nat) (olds : List Value) (hlo : olds.length = n * i.size) (holds : ∀ j v, olds[j]? = some v → w.cell? (b.add j) = some v)
    (m : Nat) (h0 : 0 < m) (hs : 0 < i.size) (h63 : ((n + m : Nat) : Int) ≤ 9223372036854775807) (h48 : m * i.bytes ≤ 281474976710656) (hg : cap < n + m) (hfit : Builtin.nextslicecap (n + m) cap * i.bytes ≤ 281474976710656) :
    (Builtin.append_ #[t, tn] ty #[.slice (some b) n cap, .int k m]).run P w =
      .ok (.slice (some ⟨w.heap.size, 0, none⟩) (n + m) (grownCap w (n + m) cap e))
        (w.drew.alloc (.cells (olds.toArray ++ (Builtin.zeroCells z.cells m) ++ Builtin.zeroCells z.cells (grownCap w (n + m) cap e - (n + m))) e)) := by
  have hn' : ¬ (n + m ≤ cap) := by omega
  have hn : m ≠ 0 := by omega
  have hw : IntKind.i64.wrap (m : Int) = m := by rw [IntKind.wrap_i64]; omega
  have h63' : ¬ (9223372036854775807 < ((n : Int) + (m : Int))) := by omega
  have h48' : ¬ (281474976710656 < Builtin.nextslicecap (n + m) cap * i.bytes) := by omega
  have h48i : ¬ (281474976710656 < (m : Int) * (i.bytes : Int)) := by rw [← Int.natCast_mul]; omega
  have hneg : ¬ ((m : Int) < 0) := by omega
  have hns : ¬ (m * i.size = 0) := Nat.mul_ne_zero hn (by omega)
  have hfo := run_firstCells_some (P := P) w.drew i.size n b n cap olds hlo (by simpa using holds)
  simp [Builtin.append_, run_underlying ht, run_underlying htn, sizeOf, typeInfo, zeroValue, hi, hz, asInt, asIntOf, hw, hn', hneg, hns, h63', h48', h48i, Question.forced, hfo, newRow, grownCap]

theorem run_append_own_zeros (base : Nat) (t tn ty e : TypeId) (i : TypeInfo) (z : Value) (k kn : IntKind) (size bytes : Nat) (ht : P.underlying t = some (.slice e)) (htn : P.underlying tn = some (.int kn)) (hi : P.info? e = some i) (hz : i.zero = some z)
    (hsize : i.size = size) (hby : i.bytes = bytes) (hzs : z.cells.size = size) (hsz : 0 < size) (h1 : ∀ m, ∀ u ∈ (Builtin.zeroCells z.cells m).toList, u.oneCell' = true)
    (v : Value) (n : Nat) (xs : List Value) (hown : w.ownsRow base e size v n xs) (m : Nat) (h0 : 0 < m)
    (h63 : n + m ≤ maxLen) (hbytes : (n + m) * bytes ≤ 140737488355328) (hbase : base ≤ w.heap.size) :
    ∃ v' w', (Builtin.append_ #[t, tn] ty #[v, .int k m]).run P w = .ok v' w' ∧ w'.ownsRow base e size v' (n + m) (xs ++ (Builtin.zeroCells z.cells m).toList) ∧ w.grownBy w' v.ownBlock ∧
      (v'.ownBlock = v.ownBlock ∨ v'.ownBlock = some w.heap.size) := by
  subst hsize
  subst hby
  have hsmall : n + m ≤ 9223372036854775807 := by simp only [maxLen] at h63; omega
  have hmb : m * i.bytes ≤ 281474976710656 := by rw [Nat.add_mul] at hbytes; omega
  have hlz : (Builtin.zeroCells z.cells m).toList.length = m * i.size := by rw [Array.length_toList, size_zeroCells, hzs]
  have hlen : (xs ++ (Builtin.zeroCells z.cells m).toList).length = (n + m) * i.size := by rw [List.length_append, hown.1, hlz, Nat.add_mul]
  have grown : ∀ (old : Nat), old < n + m → ∀ (row : Option Nat),
      (w.drew.alloc (.cells (xs.toArray ++ Builtin.zeroCells z.cells m ++ Builtin.zeroCells z.cells (grownCap w (n + m) old e - (n + m))) e)).ownsRow base e i.size
        (.slice (some ⟨w.heap.size, 0, none⟩) (n + m) (grownCap w (n + m) old e)) (n + m) (xs ++ (Builtin.zeroCells z.cells m).toList) ∧
      w.grownBy (w.drew.alloc (.cells (xs.toArray ++ Builtin.zeroCells z.cells m ++ Builtin.zeroCells z.cells (grownCap w (n + m) old e - (n + m))) e)) row := by
    intro old ho row
    have hge := grownCap_ge w (n + m) old e
    have hcm : grownCap w (n + m) old e ≤ maxLen := grownCap_le_maxLen w (n + m) old e h63
    refine ⟨⟨hlen, .inr ⟨w.heap.size, _, _, rfl, hbase, heap_alloc_new w.drew _, hge, hcm, ?_, ?_⟩⟩, ⟨rfl, rfl, rfl, by simp, fun k hk _ => Below.heap_alloc w.drew _ k hk⟩⟩
    · simp only [Array.size_append, List.size_toArray, size_zeroCells, hzs, hown.1, ← Nat.add_mul]
      congr 1
      omega
    · simp only [Array.toList_append, List.append_assoc]
      rw [← List.append_assoc, ← hlen]
      exact List.take_left
  rcases hown.2 with ⟨rfl, rfl⟩ | ⟨g, cap, cur, rfl, hbg, hg, hnc, hcm, hcs, htake⟩
  · have hx : xs = [] := List.eq_nil_of_length_eq_zero (by simpa using hown.1)
    subst hx
    have hr := Lib.run_append_nil_zeros (P := P) w t tn ty e i z k kn ht htn hi hz m h0 hsz (by omega) hmb
    have hgr := grown 0 (by omega) (Value.ownBlock (.slice none 0 0))
    simp only [Nat.zero_add, List.nil_append, Array.empty_append] at hgr ⊢
    exact ⟨_, _, hr, hgr.1, hgr.2, Or.inr rfl⟩
  · by_cases hroom : n + m ≤ cap
    · have hfit : n * i.size + m * i.size ≤ cur.size := by rw [hcs, ← Nat.add_mul]; exact Nat.mul_le_mul_right _ hroom
      have hr := run_append_room_zeros (P := P) w t tn ty e i z k kn ht htn hi hz g n cap cur hg m h0 hsz hzs (by omega) hmb hroom (h1 m) hfit
      refine ⟨_, _, hr, ⟨hlen, .inr ⟨g, cap, _, rfl, hbg, setRow_heap w g cur _ e _ hg, hroom, hcm, ?_, ?_⟩⟩, ⟨rfl, rfl, rfl, by simp, fun k _ hk => setRow_other w g k _ (fun e => hk (by simp [Value.ownBlock, e]))⟩, Or.inl rfl⟩
      · simp only [List.size_toArray, List.length_append, List.length_take, List.length_drop, Array.length_toList]
        rw [Array.length_toList] at hlz
        omega
      · rw [htake, ← hlen]
        exact List.take_left
    · have holds : ∀ j u, xs[j]? = some u → w.cell? ((⟨g, 0, none⟩ : Addr).add j) = some u := hown.cells (g := g) rfl
      have hr := run_append_grow_zeros (P := P) w t tn ty e i z k kn ht htn hi hz ⟨g, 0, none⟩ n cap xs hown.1 holds m h0 hsz (by omega) hmb (by omega) (growslice_fits (by omega) hbytes)
      have hgr := grown cap (by omega) (Value.ownBlock (.slice (some ⟨g, 0, none⟩) n cap))
      exact ⟨_, _, hr, hgr.1, hgr.2, Or.inr rfl⟩
end

section
variable {α : Type} {f : α → List Value} {P : Program} (w : World)
theorem zeroCells_flat {zs : Array Value} {x : α} (hx : f x = zs.toList) (h0 : 0 < zs.size) (m : Nat) (hf : ∀ x, (f x).length = zs.size) : (Builtin.zeroCells zs m).toList = (List.replicate m x).flatMap f := by
  apply List.ext_getElem?
  intro j
  by_cases hj : j < m * zs.size
  · have hd : j / zs.size < m := Nat.div_lt_of_lt_mul (by rw [Nat.mul_comm]; exact hj)
    have hm : j % zs.size < zs.size := Nat.mod_lt _ h0
    have h1 := fm_at hf (List.replicate m x) (j / zs.size) (j % zs.size) (by simpa using hd) hm
    rw [show j / zs.size * zs.size + j % zs.size = j by rw [Nat.mul_comm]; exact Nat.div_add_mod j zs.size, List.getElem_replicate, hx] at h1
    rw [h1]
    simp [Builtin.zeroCells, hj, hm]
  · rw [List.getElem?_eq_none (by simp [Builtin.zeroCells]; omega), List.getElem?_eq_none (by rw [fm_length hf]; simp; omega)]

theorem wpl_zeros {ops : Array Oper} {rest : List Oper} {o : Oper} {a : Act} {Q : Exit → Act → World → Prop} (hgd : Region.wanted o (yielded ops a.tmps) = true) (s x : Operand) (t tn : TypeId)
    (ho : o.op = .call { callee := .builtin .append, args := #[s, x], argTypes := #[t, tn] })
    (e : TypeId) (z : Value) (sz bytes : Nat) (k kn : IntKind) (ht : P.underlying t = some (.slice e)) (htn : P.underlying tn = some (.int kn)) (hi : (P.info? e).map (fun i => (i.zero, i.size, i.bytes)) = some (some z, sz, bytes))
    (hzs : z.cells.size = sz) (hsz : 0 < sz) (hf : ∀ x, (f x).length = sz) (h1 : ∀ x, ∀ u ∈ f x, u.oneCell' = true) (x0 : α) (hx0 : f x0 = z.cells.toList)
    (B : Nat) (A : Option Addr) (n c : Nat) (l : List α) (hs : a.eval s = .slice A n c) (hown : Own f sz e w B A n c l)
    (m : Nat) (M : Int) (hx : a.eval x = .int k M) (hM : M = m) (hm : 0 < m)
    (hbytes : (n + m) * (bytes + 1) ≤ 140737488355328) (hbase : B ≤ w.heap.size)
    (h : ∀ A' c' w', Own f sz e w' B A' (n + m) c' (l ++ List.replicate m x0) → Fr (fun k => ∃ ad, A = some ad ∧ k = ad.block) w w' →
      (A'.map (·.block) = A.map (·.block) ∨ A'.map (·.block) = some w.heap.size) → wpList P ops Q rest (a.put o.dst (.slice A' (n + m) c')) w') :
    wpList P ops Q (o :: rest) a w := by
  subst hM
  obtain ⟨i, hi', hz, hsize, hby⟩ := info_parts hi
  have e1 : (n + m) * bytes ≤ 140737488355328 := Nat.le_trans (Nat.mul_le_mul_left _ (Nat.le_succ _)) hbytes
  have e2 : n + m ≤ maxLen := by
    have : n + m ≤ (n + m) * (bytes + 1) := Nat.le_mul_of_pos_right _ (Nat.succ_pos _)
    simp only [maxLen]; omega
  have hzf : ∀ m, (Builtin.zeroCells z.cells m).toList = (List.replicate m x0).flatMap f := fun m => zeroCells_flat hx0 (by rw [hzs]; exact hsz) m (fun x => by rw [hf, hzs])
  refine BigFrame.wpList_want hgd fun _ hK => ?_
  obtain ⟨v', w', hrun, h2, h3, h4⟩ := run_append_own_zeros (P := P) w B t tn o.type e i z k kn sz bytes ht htn hi' hz hsize hby hzs hsz (fun m => by rw [hzf]; exact fm_one h1 _) _ n (l.flatMap f) hown.2 m hm e2 e1 hbase
  unfold Oper.wp execOp
  simp only [ho, resolve, invoke, builtin, Sem.run_bind, Sem.run_pure, Result.andThen_ok, List.map_toArray, List.map_cons, List.map_nil, hs, hx, hrun]
  rw [hzf] at h2
  obtain ⟨A', c', rfl, ho'⟩ := Own.mk hf hsz (l := l ++ List.replicate m x0) h2 List.flatMap_append.symm
  refine hK _ _ (h A' c' w' ho' ((Fr.of_grown h3).mono fun i _ hi => ?_) ?_)
  · cases A with
    | none => simp [Value.ownBlock] at hi
    | some ad => simp [Value.ownBlock] at hi; exact ⟨ad, rfl, hi⟩
  · cases A <;> cases A' <;> simp only [Value.ownBlock, Option.map] at h4 ⊢ <;> exact h4
end
end Go.Acc

namespace Go.Proofs.Ytejalfjeihlpeaa
open Go.RowKit Go.Acc

def fitsU (w u : Nat) : Bool := decide (w = 8 ∨ u < 2 ^ (8 * w))
def fitsI (w : Nat) (n : Int) : Bool := decide (w = 8 ∨ (-(2 ^ (8 * w - 1)) ≤ n ∧ n < 2 ^ (8 * w - 1)))
theorem w_cases {y : Nat} (h : isW (y : Int) = true) : y = 1 ∨ y = 2 ∨ y = 4 ∨ y = 8 := by have := isW_iff.1 h; omega

/-- The lowest bytes of a number, least significant first. -/
def leBytes (n u : Nat) : List UInt8 := (List.range n).map fun i => UInt8.ofNat (u / 2 ^ (8 * i))
theorem leBytes_length (n u : Nat) : (leBytes n u).length = n := by simp [leBytes]
theorem leBytes_get (n u k : Nat) (hk : k < (leBytes n u).length) : (leBytes n u)[k] = UInt8.ofNat (u / 2 ^ (8 * k)) := by simp [leBytes]
theorem leBytes_succ (n u : Nat) : leBytes (n + 1) u = leBytes n u ++ [UInt8.ofNat (u / 2 ^ (8 * n))] := by simp [leBytes, List.range_succ]
theorem leVal_leBytes (n u : Nat) : leVal (leBytes n u) = u % 2 ^ (8 * n) := by
  induction n with
  | zero => simp [leBytes, leVal, Nat.mod_one]
  | succ n ih =>
    rw [leBytes_succ, leVal_snoc, ih, leBytes_length, UInt8.toNat_ofNat', show 8 * (n + 1) = 8 * n + 8 by omega, Nat.pow_add, Nat.mod_mul, Nat.mul_comm (2 ^ (8 * n))]

/-- A stretch of an array is replaced. -/
def Seg (cur : Array Value) (off : Nat) (vs : List Value) (k : Nat) (cur' : Array Value) : Prop :=
  cur'.size = cur.size ∧ ∀ j, cur'[j]? = if off ≤ j ∧ j < off + k then vs[j - off]? else cur[j]?
theorem Seg.zero (cur : Array Value) (off : Nat) (vs : List Value) : Seg cur off vs 0 cur := ⟨rfl, fun j => by rw [if_neg (by omega)]⟩
theorem Seg.step {cur cur' : Array Value} {off k : Nat} {vs : List Value} (h : Seg cur off vs k cur') {v : Value} (hv : vs[k]? = some v) (hk : off + k < cur.size) : Seg cur off vs (k + 1) (cur'.setIfInBounds (off + k) v) := by
  refine ⟨by simpa using h.1, fun j => ?_⟩
  rw [Array.getElem?_setIfInBounds, h.2]
  by_cases e : off + k = j
  · subst e
    rw [if_pos rfl, if_pos (by rw [h.1]; exact hk), if_pos (by omega), Nat.add_sub_cancel_left, hv]
  · rw [if_neg e]
    by_cases h1 : off ≤ j ∧ j < off + k
    · rw [if_pos h1, if_pos (by omega)]
    · rw [if_neg h1, if_neg (by omega)]
theorem Seg.take {cur cur' : Array Value} {off n m : Nat} {vs : List Value} (h : Seg cur off vs n cur') (hv : vs.length = n) (hm : off + n ≤ m) (hs : m ≤ cur.size) : cur'.toList.take m = (cur.toList.take m).take off ++ vs ++ (cur.toList.take m).drop (off + n) := by
  apply List.ext_getElem?
  intro j
  rw [List.getElem?_take]
  have hj := h.2 j
  rw [← Array.getElem?_toList] at hj
  split
  · rename_i hjm
    rw [hj]
    by_cases h1 : j < off
    · rw [if_neg (by omega), List.append_assoc, List.getElem?_append_left (by simp; omega), List.getElem?_take, if_pos h1, List.getElem?_take, if_pos hjm, Array.getElem?_toList]
    · by_cases h2 : j < off + n
      · rw [if_pos (by omega), List.append_assoc, List.getElem?_append_right (by simp; omega), List.getElem?_append_left (by simp; omega)]
        congr 1
        simp; omega
      · rw [if_neg (by omega), List.getElem?_append_right (by simp; omega), List.getElem?_drop, List.getElem?_take, ← Array.getElem?_toList]
        have e : off + n + (j - ((cur.toList.take m).take off ++ vs).length) = j := by simp; omega
        rw [e, if_pos hjm]
  · rename_i hjm
    rw [List.getElem?_eq_none]
    simp; omega

theorem digit_byte (u k : Nat) : (u : Int) / 2 ^ (8 * k) % 256 = ((UInt8.ofNat (u / 2 ^ (8 * k))).toNat : Int) := by
  have e : (u : Int) / 2 ^ (8 * k) = ((u / 2 ^ (8 * k) : Nat) : Int) := by simp
  rw [e, UInt8.toNat_ofNat']
  omega
theorem fitsI_iff {y : Nat} {n : Int} : fitsI y n = true ↔ (y = 8 ∨ (-(2 ^ (8 * y - 1)) ≤ n ∧ n < 2 ^ (8 * y - 1))) := by simp [fitsI]
end Go.Proofs.Ytejalfjeihlpeaa

namespace Go.Proofs.Ytejalfjeihlpeaa
open Go.RowKit Go.Acc

theorem info_b : (Try.prog.info? 5).map (fun i => (i.zero, i.size, i.bytes)) = some (some (.int .u8 0), 1, 1) := by kernel_rfl

def CopiedB (w : World) (m : List UInt8) (e : Ending) (w' : World) : Prop :=
  ∃ A n c, e = .returned (.slice A n c) ∧ OwnB w' w.heap.size A n c m ∧ Below w.heap.size w w'
theorem copiedb_post {w w1 w' : World} {A : Option Addr} {n c : Nat} {l m : List UInt8} (h : OwnB w' w.heap.size A n c l) (hl : l = m) (h1 : Below w.heap.size w w1) {S : Nat → Prop} (hg : Fr S w1 w') (hS : ∀ k, k < w.heap.size → ¬ S k) : CopiedB w m (.returned (.slice A n c)) w' := by
  subst hl
  exact ⟨A, n, c, rfl, h, h1.trans (hg.belowB hS h1.size)⟩
set_option maxHeartbeats 400000 in
theorem copyb_spec (A : Option Addr) (n c : Nat) (l : List UInt8) (w : World) (h : IsB w A n l) (hl : n ≤ 1099511627776) :
    Calls Try.prog 16 #[.slice A n c] w (CopiedB w l) := by
  have HR := Lib.hid h
  clear h
  go_enter Try.func16, Try.ntmps16
  go_wp2_with (at_builtin; refine wpl_app _ rfl (.tmp 4) (.tmp 5) _ rfl 5 _ 1 1 Try.underlying22 info_b rfl (by omega) bc_len bc_one _ _ _ _ _ rfl (Own.nil w w.heap.size) _ _ _ _ rfl HR.out (by omega) (Nat.le_refl _) ?_; intro A1 c1 w1 hown1 hfr1 hat1)
  go_ret
  exact copiedb_post (by simpa using hown1) rfl (Below.refl _ _) hfr1 (by rintro k hk ⟨ad, h, _⟩; cases h)
/-- The bytes of a slice as a string. -/
theorem run_str {w : World} {A : Option Addr} {n c : Nat} {l : List UInt8} (h : IsB w A n l) : (convert 22 9 (.slice A n c)).run Try.prog w = .ok (.string ⟨l.toArray⟩) w := by
  rcases Nat.eq_zero_or_pos n with h0 | h0
  · subst h0
    obtain rfl : l = [] := List.eq_nil_of_length_eq_zero h.1
    rw [run_convert_bytes_string w 22 9 5 A 0 c Try.underlying22 Try.underlying5 Try.underlying9]
    cases A with
    | none => simp [Conv.bytesToString]; rfl
    | some a =>
      have := run_bytesToString (P := Try.prog) w a 0 c [] (by simp [loadCells, loadCellsFrom])
      rw [this]; rfl
  · obtain ⟨b, off, rfl, _⟩ := h.some_ bc_len (by omega) h0
    have := run_convert_bytes_arg (P := Try.prog) w 22 5 Try.underlying22 Try.underlying5 b off n c (l.map fun x => (x.toNat : Int)) (by simp [h.1]) (fun i hi => by
      obtain ⟨b', off', e, hk, hc⟩ := isb_at h hi
      injection e with e; injection e with e1 e2; subst e1 e2
      rw [hc]
      simp [List.getD, List.getElem?_eq_getElem hk]) 9 Try.underlying9
    have e0 : ∀ m : List UInt8, (m.map fun x : UInt8 => (x.toNat : Int)).map (fun n => UInt8.ofNat n.toNat) = m := by
      intro m
      induction m with
      | nil => rfl
      | cons x m ih => rw [List.map_cons, List.map_cons, ih, Int.toNat_natCast, UInt8.ofNat_toNat]
    have e : strOfNums (l.map fun x : UInt8 => (x.toNat : Int)) = ⟨l.toArray⟩ := by
      unfold strOfNums
      rw [e0]
    rw [this, e]

def eqB (l m : List UInt8) : Bool := decide (l = m)
theorem eqB_self (l : List UInt8) : eqB l l = true := decide_eq_true rfl
theorem isb_new (w : World) (v : Int) (x : UInt8) (h : v = (x.toNat : Int)) : IsB (w.alloc (.cells #[.int .u8 v] 5)) (some ⟨w.heap.size, 0, none⟩) 1 [x] := by
  subst h
  refine ⟨rfl, fun j u hj => ?_⟩
  have e : j = 0 := by
    have := (List.getElem?_eq_some_iff.1 hj).1
    simp [bc] at this; omega
  subst e
  have hu : u = .int .u8 (x.toNat : Int) := by simpa [bc] using hj.symm
  subst hu
  exact ⟨_, _, rfl, (Blk.new w 5 _).cell 0⟩
end Go.Proofs.Ytejalfjeihlpeaa

namespace Go.Proofs.Ytejalfjeihlpeaa
open Go.RowKit Go.Acc

/-- A stretch of an owned row of bytes is replaced. -/
theorem own_seg {w : World} {B g n c : Nat} {l : List UInt8} (h : OwnB w B (some ⟨g, 0, none⟩) n c l) : ∃ cur, Blk w g 5 cur ∧ n ≤ cur.size ∧
    (∀ (w' : World) (cur' : Array Value) (off k : Nat) (m : List UInt8), Blk w' g 5 cur' → Seg cur off (m.flatMap bc) k cur' → m.length = k → off + k ≤ n → OwnB w' B (some ⟨g, 0, none⟩) n c (l.take off ++ m ++ l.drop (off + k))) := by
  obtain ⟨hl, h1, h2⟩ := h
  rcases h2 with ⟨hv, _⟩ | ⟨g', cap, cur, hv, hb, hg, hnc, hcm, hcs, htake⟩
  · cases hv
  · injection hv with e1 _ e3
    injection e1 with e1
    injection e1 with e1
    subst e1 e3
    simp only [Nat.mul_one] at hcs htake h1
    refine ⟨cur, hg, by omega, ?_⟩
    intro w' cur' off k m hB hS hm hk
    refine ⟨by simp; omega, ?_, .inr ⟨g, c, cur', rfl, hb, hB, hnc, hcm, by rw [hS.1, Nat.mul_one]; exact hcs, ?_⟩⟩
    · rw [fm_length bc_len]; simp; omega
    · rw [Nat.mul_one, hS.take (by rw [fm_length bc_len]; omega) hk (by omega), htake, List.flatMap_append, List.flatMap_append, fm_take bc_len, fm_drop bc_len, Nat.mul_one, Nat.mul_one]

def putE (x : Int) (b : Bool) : Int := if isW x = true then (if b = true then 0 else 10) else 2
def putB (l : List UInt8) (x : Int) (u : Nat) (b : Bool) : List UInt8 := if isW x = true ∧ b = true then l ++ leBytes x.toNat u else []
def PutW (w : World) (m : List UInt8) (er : Int) (e : Ending) (w' : World) : Prop :=
  ∃ A n c, e = .returned (.tuple #[.slice A n c, .int .i64 er]) ∧ OwnB w' w.heap.size A n c m ∧ Below w.heap.size w w'
theorem putw_lift {w W : World} {m : List UInt8} {er : Int} {e : Ending} {w' : World} (hB : Below w.heap.size w W) (h : PutW W m er e w') : PutW w m er e w' := by
  obtain ⟨A, n, c, he, hO, hB'⟩ := h
  exact ⟨A, n, c, he, hO.rebase hB.size, pure_trans hB hB'⟩
theorem call_ (F : Nat) (h : ∀ (args : Array Value) (w : World), (callFunc F args).run Try.prog w = .ok (.enter F args) w) : ∀ (args : Array Value) (w : World), (callFunc F args).run Try.prog w = .ok (.enter F args) w := h
theorem wrapu (m : Int) : IntKind.u64.wrap m = (((m % 18446744073709551616).toNat : Nat) : Int) := by
  show m % 18446744073709551616 = _
  omega
theorem blk_new2 (w : World) (o : Obj) (t : TypeId) (cs : Array Value) : Blk ((w.alloc o).alloc (.cells cs t)) (w.heap.size + 1) t cs := by
  have h := Blk.new (w.alloc o) t cs
  have e : (w.alloc o).heap.size = w.heap.size + 1 := by simp
  rw [e] at h
  exact h
end Go.Proofs.Ytejalfjeihlpeaa

namespace Go.Proofs.Ytejalfjeihlpeaa
open Go.RowKit Go.Acc


def setE (n : Nat) (a x : Int) (b : Bool) : Int := if loadE n a x = 0 then (if b = true then 0 else 10) else loadE n a x
def setB (l : List UInt8) (a x : Int) (u : Nat) (b : Bool) : List UInt8 := if loadE l.length a x = 0 ∧ b = true then l.take a.toNat ++ leBytes x.toNat u ++ l.drop (a.toNat + x.toNat) else []
end Go.Proofs.Ytejalfjeihlpeaa

namespace Go.Proofs.Ytejalfjeihlpeaa
open Go.RowKit Go.Acc

end Go.Proofs.Ytejalfjeihlpeaa

namespace Go.Proofs.Ytejalfjeihlpeaa
open Go.RowKit Go.Acc

theorem tmod_pos {i n : Int} (hn : 0 < n) (h : 0 ≤ i.tmod n) : i.tmod n = i % n := by
  have h1 := Int.tmod_lt_of_pos i hn
  have h2 : (i.tmod n) % n = i % n := by rw [Int.tmod_def, Int.sub_emod, Int.mul_emod_right]; simp
  rw [← h2, Int.emod_eq_of_lt h h1]
theorem tmod_neg {i n : Int} (hn : 0 < n) (h : i.tmod n < 0) : i.tmod n + n = i % n ∧ 0 ≤ i.tmod n + n := by
  have h1 : -n < i.tmod n := by
    have := Int.lt_tmod_of_pos i hn
    omega
  have h2 : (i.tmod n + n) % n = i % n := by rw [Int.add_emod_right, Int.tmod_def, Int.sub_emod, Int.mul_emod_right]; simp
  exact ⟨by rw [← h2, Int.emod_eq_of_lt (by omega) (by omega)], by omega⟩
set_option maxHeartbeats 400000 in
theorem bring_spec (i n : Int) (w : World) (h0 : 0 < n) (hn : n ≤ 9223372036854775807):
    Calls Try.prog 11 #[.int .i64 i, .int .i64 n] w fun e w' => e = .returned (.int .i64 (i % n)) ∧ w = w' := by
  by_cases h : 0 ≤ i.tmod n
  · have H := Lib.hid (tmod_pos h0 h)
    go_enter Try.func11, Try.ntmps11
    go_wp2
    go_ret
    exact ⟨ret_int H.out, rfl⟩
  · have h' : i.tmod n < 0 := by omega
    have H := Lib.hid (tmod_neg h0 h').1
    have hlo := (tmod_neg h0 h').2
    clear h
    go_enter Try.func11, Try.ntmps11
    go_wp2
    go_ret
    exact ⟨ret_int H.out, rfl⟩
/-- One of the four widths. -/
def wd (n : Int) : Nat := 2 ^ (n % 4).toNat
theorem wd_isW (n : Int) : isW (wd n : Int) = true := by
  have : n % 4 = 0 ∨ n % 4 = 1 ∨ n % 4 = 2 ∨ n % 4 = 3 := by omega
  unfold wd
  rcases this with h | h | h | h <;> rw [h] <;> decide
end Go.Proofs.Ytejalfjeihlpeaa

namespace Go.Proofs.Ytejalfjeihlpeaa
open Go.RowKit Go.Acc

theorem isb_lit (w : World) (vs : Array Value) (l : List UInt8) (n : Nat) (hn : l.length = n) (h : vs.toList = l.flatMap bc) : IsB (w.alloc (.cells vs 5)) (some ⟨w.heap.size, 0, none⟩) n l :=
  ⟨hn, fun j u hj => ⟨_, _, rfl, by rw [(Blk.new w 5 vs).cell, Nat.zero_add, ← Array.getElem?_toList, h]; exact hj⟩⟩

theorem isb_lit2 (w : World) (o : Obj) (vs : Array Value) (l : List UInt8) (n : Nat) (hn : l.length = n) (h : vs.toList = l.flatMap bc) : IsB ((w.alloc o).alloc (.cells vs 5)) (some ⟨w.heap.size + 1, 0, none⟩) n l := by
  have h := isb_lit (w.alloc o) vs l n hn h
  have e : (w.alloc o).heap.size = w.heap.size + 1 := by simp
  rw [e] at h
  exact h
theorem isb_lit3 (w : World) (o o2 : Obj) (vs : Array Value) (l : List UInt8) (n : Nat) (hn : l.length = n) (h : vs.toList = l.flatMap bc) : IsB (((w.alloc o).alloc o2).alloc (.cells vs 5)) (some ⟨w.heap.size + 1 + 1, 0, none⟩) n l := by
  have h := isb_lit2 (w.alloc o) o2 vs l n hn h
  have e : (w.alloc o).heap.size = w.heap.size + 1 := by simp
  rw [e] at h
  exact h
theorem loadi_is (A : Option Addr) (n c : Nat) (a x : Int) (l : List UInt8) (w : World) (v er : Int) (hl : IsB w A n l) (hc : n ≤ c) (hn : n ≤ 9223372036854775807) (h1 : loadI l a x = v) (h2 : loadE n a x = er) :
    Calls Try.prog 58 #[.slice A n c, .int .i64 a, .int .i64 x] w fun e w' => e = .returned (.tuple #[.int .i64 v, .int .i64 er]) ∧ Below w.heap.size w w' := by
  subst h1 h2
  exact loadi_spec A n c a x l w hl hc hn
end Go.Proofs.Ytejalfjeihlpeaa
