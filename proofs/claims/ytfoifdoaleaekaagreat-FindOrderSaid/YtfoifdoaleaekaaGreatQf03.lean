/-
  append of made zeros onto a row of the call's own.
  Package le and its reference: what fits, and the storing of digits.
  Package le and its reference: copies of bytes, comparison of bytes, the digits of the reference.
  Package le: appending and setting integers.
  Package le: spoiling bytes, bringing numbers into a range, widths.
  Package le: the examples of the chapter.
-/
import Derived.Test.YtfoifdoaleaekaaGreatQf02
import Derived.Lib.AppendZeros
namespace Go.Acc
open Go.RowKit

section
variable {P : Program} (w : World)
theorem run_append_room_zeros (t tn ty e : TypeId) (i : TypeInfo) (z : Value) (k kn : IntKind) (ht : P.underlying t = some (.slice e)) (htn : P.underlying tn = some (.int kn)) (hi : P.info? e = some i) (hz : i.zero = some z)
    (g n cap : Nat) (cur : Array Value) (hg : w.heap[g]? = some (.cells cur e (0, 0))) (m : Nat) (h0 : 0 < m) (hs : 0 < i.size) (hzs : z.cells.size = i.size) (h63 : (m : Int) ≤ 9223372036854775807) (h48 : m * i.bytes ≤ 281474976710656)
    (hroom : n + m ≤ cap) (h1 : ∀ u ∈ (Builtin.zeroCells z.cells m).toList, u.oneCell' = true) (hfit : n * i.size + m * i.size ≤ cur.size) :
    (Builtin.append_ #[t, tn] ty #[.slice (some ⟨g, 0, none⟩) n cap, .int k m]).run P w =
      .ok (.slice (some ⟨g, 0, none⟩) (n + m) cap) (w.setRow g (cur.toList.take (n * i.size) ++ (Builtin.zeroCells z.cells m).toList ++ cur.toList.drop (n * i.size + (Builtin.zeroCells z.cells m).toList.length)).toArray) := by
  have hl : (Builtin.zeroCells z.cells m).toList.length = m * i.size := by rw [Array.length_toList, size_zeroCells, hzs]
  have hst := run_storeCells_at P g (n * i.size) e (Builtin.zeroCells z.cells m).toList 0 cur w hg (by rw [hl]; omega) h1
  simp only [Nat.add_zero] at hst
  have hn : m ≠ 0 := by omega
  have hw : IntKind.i64.wrap (m : Int) = m := by rw [IntKind.wrap_i64]; omega
  have h48i : ¬ (281474976710656 < (m : Int) * (i.bytes : Int)) := by rw [← Int.natCast_mul]; omega
  have hneg : ¬ ((m : Int) < 0) := by omega
  have hns : ¬ (m * i.size = 0) := Nat.mul_ne_zero hn (by omega)
  simp [Builtin.append_, run_underlying ht, run_underlying htn, sizeOf, typeInfo, zeroValue, hi, hz, asInt, asIntOf, hw, hneg, hns, h48i, hroom, Addr.add_lit, hst]

theorem run_append_grow_zeros (t tn ty e : TypeId) (i : TypeInfo) (z : Value) (k kn : IntKind) (ht : P.underlying t = some (.slice e)) (htn : P.underlying tn = some (.int kn)) (hi : P.info? e = some i) (hz : i.zero = some z)
    (b : Addr) (n cap : Nat) (olds : List Value) (hlo : olds.length = n * i.size) (holds : ∀ j v, olds[j]? = some v → w.cell? (b.add j) = some v)
    (m : Nat) (h0 : 0 < m) (hs : 0 < i.size) (h63 : ((n + m : Nat) : Int) ≤ 9223372036854775807) (h48 : m * i.bytes ≤ 281474976710656) (hg : cap < n + m) (hfit : Builtin.nextslicecap (n + m) cap * i.bytes ≤ 281474976710656) :
    (Builtin.append_ #[t, tn] ty #[.slice (some b) n cap, .int k m]).run P w =
      .ok (.slice (some ⟨w.heap.size, 0, none⟩) (n + m) (grownCap w (n + m) cap e))
        (w.drew.alloc (.cells (olds.toArray ++ (Builtin.zeroCells z.cells m) ++ Builtin.zeroCells z.cells (grownCap w (n + m) cap e - (n + m))) e)) := by
  have hn' : ¬ (n + m ≤ cap) := by omega
  have hn : m ≠ 0 := by omega
  have hw : IntKind.i64.wrap (m : Int) = m := by rw [IntKind.wrap_i64]; omega
  have h63' : ¬ (9223372036854775807 < ((n : Int) + (m : Int))) := by omega
  have h48' : ¬ (281474976710656 < Builtin.nextslicecap (n + m) cap * i.bytes) := by omega
  have h48i : ¬ (281474976710656 < (m : Int) * (i.bytes : Int)) := by rw [← Int.natCast_mul]; omega
  have hneg : ¬ ((m : Int) < 0) := by omega
  have hns : ¬ (m * i.size = 0) := Nat.mul_ne_zero hn (by omega)
  have hfo := run_firstCells_some (P := P) w.drew i.size n b n cap olds hlo (by simpa using holds)
  simp [Builtin.append_, run_underlying ht, run_underlying htn, sizeOf, typeInfo, zeroValue, hi, hz, asInt, asIntOf, hw, hn', hneg, hns, h63', h48', h48i, Question.forced, hfo, newRow, grownCap]

theorem run_append_own_zeros (base : Nat) (t tn ty e : TypeId) (i : TypeInfo) (z : Value) (k kn : IntKind) (size bytes : Nat) (ht : P.underlying t = some (.slice e)) (htn : P.underlying tn = some (.int kn)) (hi : P.info? e = some i) (hz : i.zero = some z)
    (hsize : i.size = size) (hby : i.bytes = bytes) (hzs : z.cells.size = size) (hsz : 0 < size) (h1 : ∀ m, ∀ u ∈ (Builtin.zeroCells z.cells m).toList, u.oneCell' = true)
    (v : Value) (n : Nat) (xs : List Value) (hown : w.ownsRow base e size v n xs) (m : Nat) (h0 : 0 < m)
    (h63 : n + m ≤ maxLen) (hbytes : (n + m) * bytes ≤ 140737488355328) (hbase : base ≤ w.heap.size) :
    ∃ v' w', (Builtin.append_ #[t, tn] ty #[v, .int k m]).run P w = .ok v' w' ∧ w'.ownsRow base e size v' (n + m) (xs ++ (Builtin.zeroCells z.cells m).toList) ∧ w.grownBy w' v.ownBlock ∧
      (v'.ownBlock = v.ownBlock ∨ v'.ownBlock = some w.heap.size) := by
  subst hsize
  subst hby
  have hsmall : n + m ≤ 9223372036854775807 := by simp only [maxLen] at h63; omega
  have hmb : m * i.bytes ≤ 281474976710656 := by rw [Nat.add_mul] at hbytes; omega
  have hlz : (Builtin.zeroCells z.cells m).toList.length = m * i.size := by rw [Array.length_toList, size_zeroCells, hzs]
  have hlen : (xs ++ (Builtin.zeroCells z.cells m).toList).length = (n + m) * i.size := by rw [List.length_append, hown.1, hlz, Nat.add_mul]
  have grown : ∀ (old : Nat), old < n + m → ∀ (row : Option Nat),
      (w.drew.alloc (.cells (xs.toArray ++ Builtin.zeroCells z.cells m ++ Builtin.zeroCells z.cells (grownCap w (n + m) old e - (n + m))) e)).ownsRow base e i.size
        (.slice (some ⟨w.heap.size, 0, none⟩) (n + m) (grownCap w (n + m) old e)) (n + m) (xs ++ (Builtin.zeroCells z.cells m).toList) ∧
      w.grownBy (w.drew.alloc (.cells (xs.toArray ++ Builtin.zeroCells z.cells m ++ Builtin.zeroCells z.cells (grownCap w (n + m) old e - (n + m))) e)) row := by
    intro old ho row
    have hge := grownCap_ge w (n + m) old e
    have hcm : grownCap w (n + m) old e ≤ maxLen := grownCap_le_maxLen w (n + m) old e h63
    refine ⟨⟨hlen, .inr ⟨w.heap.size, _, _, rfl, hbase, heap_alloc_new w.drew _, hge, hcm, ?_, ?_⟩⟩, ⟨rfl, rfl, rfl, by simp, fun k hk _ => Below.heap_alloc w.drew _ k hk⟩⟩
    · simp only [Array.size_append, List.size_toArray, size_zeroCells, hzs, hown.1, ← Nat.add_mul]
      congr 1
      omega
    · simp only [Array.toList_append, List.append_assoc]
      rw [← List.append_assoc, ← hlen]
      exact List.take_left
  rcases hown.2 with ⟨rfl, rfl⟩ | ⟨g, cap, cur, rfl, hbg, hg, hnc, hcm, hcs, htake⟩
  · have hx : xs = [] := List.eq_nil_of_length_eq_zero (by simpa using hown.1)
    subst hx
    have hr := Lib.run_append_nil_zeros (P := P) w t tn ty e i z k kn ht htn hi hz m h0 hsz (by omega) hmb
    have hgr := grown 0 (by omega) (Value.ownBlock (.slice none 0 0))
    simp only [Nat.zero_add, List.nil_append, Array.empty_append] at hgr ⊢
    exact ⟨_, _, hr, hgr.1, hgr.2, Or.inr rfl⟩
  · by_cases hroom : n + m ≤ cap
    · have hfit : n * i.size + m * i.size ≤ cur.size := by rw [hcs, ← Nat.add_mul]; exact Nat.mul_le_mul_right _ hroom
      have hr := run_append_room_zeros (P := P) w t tn ty e i z k kn ht htn hi hz g n cap cur hg m h0 hsz hzs (by omega) hmb hroom (h1 m) hfit
      refine ⟨_, _, hr, ⟨hlen, .inr ⟨g, cap, _, rfl, hbg, setRow_heap w g cur _ e _ hg, hroom, hcm, ?_, ?_⟩⟩, ⟨rfl, rfl, rfl, by simp, fun k _ hk => setRow_other w g k _ (fun e => hk (by simp [Value.ownBlock, e]))⟩, Or.inl rfl⟩
      · simp only [List.size_toArray, List.length_append, List.length_take, List.length_drop, Array.length_toList]
        rw [Array.length_toList] at hlz
        omega
      · rw [htake, ← hlen]
        exact List.take_left
    · have holds : ∀ j u, xs[j]? = some u → w.cell? ((⟨g, 0, none⟩ : Addr).add j) = some u := hown.cells (g := g) rfl
      have hr := run_append_grow_zeros (P := P) w t tn ty e i z k kn ht htn hi hz ⟨g, 0, none⟩ n cap xs hown.1 holds m h0 hsz (by omega) hmb (by omega) (growslice_fits (by omega) hbytes)
      have hgr := grown cap (by omega) (Value.ownBlock (.slice (some ⟨g, 0, none⟩) n cap))
      exact ⟨_, _, hr, hgr.1, hgr.2, Or.inr rfl⟩
end

section
variable {α : Type} {f : α → List Value} {P : Program} (w : World)
theorem zeroCells_flat {zs : Array Value} {x : α} (hx : f x = zs.toList) (h0 : 0 < zs.size) (m : Nat) (hf : ∀ x, (f x).length = zs.size) : (Builtin.zeroCells zs m).toList = (List.replicate m x).flatMap f := by
  apply List.ext_getElem?
  intro j
  by_cases hj : j < m * zs.size
  · have hd : j / zs.size < m := Nat.div_lt_of_lt_mul (by rw [Nat.mul_comm]; exact hj)
    have hm : j % zs.size < zs.size := Nat.mod_lt _ h0
    have h1 := fm_at hf (List.replicate m x) (j / zs.size) (j % zs.size) (by simpa using hd) hm
    rw [show j / zs.size * zs.size + j % zs.size = j by rw [Nat.mul_comm]; exact Nat.div_add_mod j zs.size, List.getElem_replicate, hx] at h1
    rw [h1]
    simp [Builtin.zeroCells, hj, hm]
  · rw [List.getElem?_eq_none (by simp [Builtin.zeroCells]; omega), List.getElem?_eq_none (by rw [fm_length hf]; simp; omega)]

theorem wpl_zeros {ops : Array Oper} {rest : List Oper} {o : Oper} {a : Act} {Q : Exit → Act → World → Prop} (hgd : Region.wanted o (yielded ops a.tmps) = true) (s x : Operand) (t tn : TypeId)
    (ho : o.op = .call { callee := .builtin .append, args := #[s, x], argTypes := #[t, tn] })
    (e : TypeId) (z : Value) (sz bytes : Nat) (k kn : IntKind) (ht : P.underlying t = some (.slice e)) (htn : P.underlying tn = some (.int kn)) (hi : (P.info? e).map (fun i => (i.zero, i.size, i.bytes)) = some (some z, sz, bytes))
    (hzs : z.cells.size = sz) (hsz : 0 < sz) (hf : ∀ x, (f x).length = sz) (h1 : ∀ x, ∀ u ∈ f x, u.oneCell' = true) (x0 : α) (hx0 : f x0 = z.cells.toList)
    (B : Nat) (A : Option Addr) (n c : Nat) (l : List α) (hs : a.eval s = .slice A n c) (hown : Own f sz e w B A n c l)
    (m : Nat) (M : Int) (hx : a.eval x = .int k M) (hM : M = m) (hm : 0 < m)
    (hbytes : (n + m) * (bytes + 1) ≤ 140737488355328) (hbase : B ≤ w.heap.size)
    (h : ∀ A' c' w', Own f sz e w' B A' (n + m) c' (l ++ List.replicate m x0) → Fr (fun k => ∃ ad, A = some ad ∧ k = ad.block) w w' →
      (A'.map (·.block) = A.map (·.block) ∨ A'.map (·.block) = some w.heap.size) → wpList P ops Q rest (a.put o.dst (.slice A' (n + m) c')) w') :
    wpList P ops Q (o :: rest) a w := by
  subst hM
  obtain ⟨i, hi', hz, hsize, hby⟩ := info_parts hi
  have e1 : (n + m) * bytes ≤ 140737488355328 := Nat.le_trans (Nat.mul_le_mul_left _ (Nat.le_succ _)) hbytes
  have e2 : n + m ≤ maxLen := by
    have : n + m ≤ (n + m) * (bytes + 1) := Nat.le_mul_of_pos_right _ (Nat.succ_pos _)
    simp only [maxLen]; omega
  have hzf : ∀ m, (Builtin.zeroCells z.cells m).toList = (List.replicate m x0).flatMap f := fun m => zeroCells_flat hx0 (by rw [hzs]; exact hsz) m (fun x => by rw [hf, hzs])
  refine BigFrame.wpList_want hgd fun _ hK => ?_
  obtain ⟨v', w', hrun, h2, h3, h4⟩ := run_append_own_zeros (P := P) w B t tn o.type e i z k kn sz bytes ht htn hi' hz hsize hby hzs hsz (fun m => by rw [hzf]; exact fm_one h1 _) _ n (l.flatMap f) hown.2 m hm e2 e1 hbase
  unfold Oper.wp execOp
  simp only [ho, resolve, invoke, builtin, Sem.run_bind, Sem.run_pure, Result.andThen_ok, List.map_toArray, List.map_cons, List.map_nil, hs, hx, hrun]
  rw [hzf] at h2
  obtain ⟨A', c', rfl, ho'⟩ := Own.mk hf hsz (l := l ++ List.replicate m x0) h2 List.flatMap_append.symm
  refine hK _ _ (h A' c' w' ho' ((Fr.of_grown h3).mono fun i _ hi => ?_) ?_)
  · cases A with
    | none => simp [Value.ownBlock] at hi
    | some ad => simp [Value.ownBlock] at hi; exact ⟨ad, rfl, hi⟩
  · cases A <;> cases A' <;> simp only [Value.ownBlock, Option.map] at h4 ⊢ <;> exact h4
end
end Go.Acc

namespace Go.Proofs.YtfoifdoaleaekaaGreat
open Go.RowKit Go.Acc

def fitsU (w u : Nat) : Bool := decide (w = 8 ∨ u < 2 ^ (8 * w))
theorem w_cases {y : Nat} (h : isW (y : Int) = true) : y = 1 ∨ y = 2 ∨ y = 4 ∨ y = 8 := by have := isW_iff.1 h; omega

def leBytes (n u : Nat) : List UInt8 := (List.range n).map fun i => UInt8.ofNat (u / 2 ^ (8 * i))
theorem leBytes_length (n u : Nat) : (leBytes n u).length = n := by simp [leBytes]
theorem leBytes_get (n u k : Nat) (hk : k < (leBytes n u).length) : (leBytes n u)[k] = UInt8.ofNat (u / 2 ^ (8 * k)) := by simp [leBytes]
theorem leBytes_succ (n u : Nat) : leBytes (n + 1) u = leBytes n u ++ [UInt8.ofNat (u / 2 ^ (8 * n))] := by simp [leBytes, List.range_succ]
theorem leVal_leBytes (n u : Nat) : leVal (leBytes n u) = u % 2 ^ (8 * n) := by
  induction n with
  | zero => simp [leBytes, leVal, Nat.mod_one]
  | succ n ih =>
    rw [leBytes_succ, leVal_snoc, ih, leBytes_length, UInt8.toNat_ofNat', show 8 * (n + 1) = 8 * n + 8 by omega, Nat.pow_add, Nat.mod_mul, Nat.mul_comm (2 ^ (8 * n))]

set_option maxHeartbeats 1000000 in
theorem fits_spec (y u : Nat) (w : World) (hy : isW (y : Int) = true) (hu : (u : Int) < 18446744073709551616) : Calls Tryz.prog 236 #[.int .i64 y, .int .u64 u] w fun e w' => e = .returned (.bool (fitsU y u)) ∧ w = w' := by
  have hu0 : (0 : Int) ≤ u := by omega
  rcases w_cases hy with rfl | rfl | rfl | rfl
  · by_cases h : u < 256
    · have H := Lib.hid (show fitsU 1 u = true from decide_eq_true (.inr h))
      have e : ((u : Int) / 256 == 0) = true := by rw [beq_iff_eq]; omega
      clear h hy
      go_enter Tryz.func236, Tryz.ntmps236
      go_wp2
      go_ret
      exact ⟨ret_bool H.out.symm, rfl⟩
    · have H := Lib.hid (show fitsU 1 u = false from decide_eq_false (by rintro (h' | h') <;> first | exact h h' | omega))
      have e : ((u : Int) / 256 == 0) = false := by rw [beq_eq_false_iff_ne]; omega
      clear h hy
      go_enter Tryz.func236, Tryz.ntmps236
      go_wp2
      go_ret
      exact ⟨ret_bool H.out.symm, rfl⟩
  · by_cases h : u < 65536
    · have H := Lib.hid (show fitsU 2 u = true from decide_eq_true (.inr h))
      have e : ((u : Int) / 65536 == 0) = true := by rw [beq_iff_eq]; omega
      clear h hy
      go_enter Tryz.func236, Tryz.ntmps236
      go_wp2
      go_ret
      exact ⟨ret_bool H.out.symm, rfl⟩
    · have H := Lib.hid (show fitsU 2 u = false from decide_eq_false (by rintro (h' | h') <;> first | exact h h' | omega))
      have e : ((u : Int) / 65536 == 0) = false := by rw [beq_eq_false_iff_ne]; omega
      clear h hy
      go_enter Tryz.func236, Tryz.ntmps236
      go_wp2
      go_ret
      exact ⟨ret_bool H.out.symm, rfl⟩
  · by_cases h : u < 4294967296
    · have H := Lib.hid (show fitsU 4 u = true from decide_eq_true (.inr h))
      have e : ((u : Int) / 4294967296 == 0) = true := by rw [beq_iff_eq]; omega
      clear h hy
      go_enter Tryz.func236, Tryz.ntmps236
      go_wp2
      go_ret
      exact ⟨ret_bool H.out.symm, rfl⟩
    · have H := Lib.hid (show fitsU 4 u = false from decide_eq_false (by rintro (h' | h') <;> first | exact h h' | omega))
      have e : ((u : Int) / 4294967296 == 0) = false := by rw [beq_eq_false_iff_ne]; omega
      clear h hy
      go_enter Tryz.func236, Tryz.ntmps236
      go_wp2
      go_ret
      exact ⟨ret_bool H.out.symm, rfl⟩
  · go_enter Tryz.func236, Tryz.ntmps236
    go_wp2
    go_ret
    exact ⟨rfl, rfl⟩

def Seg (cur : Array Value) (off : Nat) (vs : List Value) (k : Nat) (cur' : Array Value) : Prop :=
  cur'.size = cur.size ∧ ∀ j, cur'[j]? = if off ≤ j ∧ j < off + k then vs[j - off]? else cur[j]?
theorem Seg.zero (cur : Array Value) (off : Nat) (vs : List Value) : Seg cur off vs 0 cur := ⟨rfl, fun j => by rw [if_neg (by omega)]⟩
theorem Seg.step {cur cur' : Array Value} {off k : Nat} {vs : List Value} (h : Seg cur off vs k cur') {v : Value} (hv : vs[k]? = some v) (hk : off + k < cur.size) : Seg cur off vs (k + 1) (cur'.setIfInBounds (off + k) v) := by
  refine ⟨by simpa using h.1, fun j => ?_⟩
  rw [Array.getElem?_setIfInBounds, h.2]
  by_cases e : off + k = j
  · subst e
    rw [if_pos rfl, if_pos (by rw [h.1]; exact hk), if_pos (by omega), Nat.add_sub_cancel_left, hv]
  · rw [if_neg e]
    by_cases h1 : off ≤ j ∧ j < off + k
    · rw [if_pos h1, if_pos (by omega)]
    · rw [if_neg h1, if_neg (by omega)]
theorem Seg.take {cur cur' : Array Value} {off n m : Nat} {vs : List Value} (h : Seg cur off vs n cur') (hv : vs.length = n) (hm : off + n ≤ m) (hs : m ≤ cur.size) : cur'.toList.take m = (cur.toList.take m).take off ++ vs ++ (cur.toList.take m).drop (off + n) := by
  apply List.ext_getElem?
  intro j
  rw [List.getElem?_take]
  have hj := h.2 j
  rw [← Array.getElem?_toList] at hj
  split
  · rename_i hjm
    rw [hj]
    by_cases h1 : j < off
    · rw [if_neg (by omega), List.append_assoc, List.getElem?_append_left (by simp; omega), List.getElem?_take, if_pos h1, List.getElem?_take, if_pos hjm, Array.getElem?_toList]
    · by_cases h2 : j < off + n
      · rw [if_pos (by omega), List.append_assoc, List.getElem?_append_right (by simp; omega), List.getElem?_append_left (by simp; omega)]
        congr 1
        simp; omega
      · rw [if_neg (by omega), List.getElem?_append_right (by simp; omega), List.getElem?_drop, List.getElem?_take, ← Array.getElem?_toList]
        have e : off + n + (j - ((cur.toList.take m).take off ++ vs).length) = j := by simp; omega
        rw [e, if_pos hjm]
  · rename_i hjm
    rw [List.getElem?_eq_none]
    simp; omega

theorem digit_byte (u k : Nat) : (u : Int) / 2 ^ (8 * k) % 256 = ((UInt8.ofNat (u / 2 ^ (8 * k))).toNat : Int) := by
  have e : (u : Int) / 2 ^ (8 * k) = ((u / 2 ^ (8 * k) : Nat) : Int) := by simp
  rw [e, UInt8.toNat_ofNat']
  omega
set_option maxHeartbeats 1000000 in
theorem digits_spec (g off n c u : Nat) (cur : Array Value) (w : World) (hb : Blk w g 5 cur) (ho : off + n ≤ cur.size) (hn : n ≤ 8) (hu : (u : Int) < 18446744073709551616) :
    Calls Tryz.prog 256 #[.slice (some ⟨g, off, none⟩) n c, .int .u64 u] w fun e w' => e = .returned (.tuple #[]) ∧ ∃ cur', Blk w' g 5 cur' ∧ Seg cur off ((leBytes n u).flatMap bc) n cur' ∧ Fr (fun k => k = g) w w' := by
  have HB := Lib.hid hb
  have hu0 : (0 : Int) ≤ u := by omega
  clear hb
  go_enter Tryz.func256, Tryz.ntmps256
  go_wp2
  go_loopw [7] (fun i wr => ∃ (k : Nat) (cur' : Array Value), k ≤ n ∧ i = .int .i64 k ∧ Blk wr g 5 cur' ∧ Seg cur off ((leBytes n u).flatMap bc) k cur' ∧ Fr (fun k => k = g) w wr) (fun i _ => n - (intOf i).toNat)
  case atStart => exact ⟨0, cur, by omega, rfl, HB.out, Seg.zero _ _ _, Fr.refl _ _⟩
  case round =>
    obtain ⟨k, cur', hk, rfl, hB, hS, hf⟩ := hrel
    by_cases hlt : k < n
    · have hcell : ∃ v, wr.cell? ⟨g, off + k, none⟩ = some v := ⟨_, (hB.cell (off + k)).trans (Array.getElem?_eq_getElem (by rw [hS.1]; omega))⟩
      obtain ⟨v, hv⟩ := hcell
      have f0 := hB.frozen (off + k)
      have e1 := digit_byte u k
      have hb1 : ((leBytes n u).flatMap bc)[k]? = some (.int .u8 ((UInt8.ofNat (u / 2 ^ (8 * k))).toNat : Int)) := by
        have := fm_at bc_len (leBytes n u) k 0 (by rw [leBytes_length]; exact hlt) (by omega)
        rw [Nat.mul_one, Nat.add_zero, leBytes_get] at this
        exact this
      have E1 := Lib.hid e1
      have HB := Lib.hid hB
      have HS := Lib.hid (hS.step hb1 (by omega))
      have HF := Lib.hid hf
      clear hB hS hf e1 hb1
      go_wp2
      rw [E1.out]
      exact ⟨⟨k + 1, _, by omega, by go_num, HB.out.set_ _ _, HS.out, Fr.setCell (S := fun k => k = g) HF.out (fun _ => rfl) _⟩, by simp [intOf]; omega⟩
    · obtain rfl : k = n := by omega
      have HB := Lib.hid hB
      have HS := Lib.hid hS
      have HF := Lib.hid hf
      clear hB hS hf
      go_wp2
      go_end0
      exact ⟨rfl, cur', HB.out, HS.out, HF.out⟩

end Go.Proofs.YtfoifdoaleaekaaGreat

namespace Go.Proofs.YtfoifdoaleaekaaGreat
open Go.RowKit Go.Acc

theorem info_b : (Tryz.prog.info? 5).map (fun i => (i.zero, i.size, i.bytes)) = some (some (.int .u8 0), 1, 1) := by kernel_rfl

def CopiedB (w : World) (m : List UInt8) (e : Ending) (w' : World) : Prop :=
  ∃ A n c, e = .returned (.slice A n c) ∧ OwnB w' w.heap.size A n c m ∧ Below w.heap.size w w'
theorem copiedb_post {w w1 w' : World} {A : Option Addr} {n c : Nat} {l m : List UInt8} (h : OwnB w' w.heap.size A n c l) (hl : l = m) (h1 : Below w.heap.size w w1) {S : Nat → Prop} (hg : Fr S w1 w') (hS : ∀ k, k < w.heap.size → ¬ S k) : CopiedB w m (.returned (.slice A n c)) w' := by
  subst hl
  exact ⟨A, n, c, rfl, h, h1.trans (hg.belowB hS h1.size)⟩
set_option maxHeartbeats 400000 in
theorem cloneb_spec (A : Option Addr) (n c : Nat) (l : List UInt8) (w : World) (h : IsB w A n l) (hl : n ≤ 1099511627776) :
    Calls Tryz.prog 203 #[.slice A n c] w (CopiedB w l) := by
  have hnil := fun (w : World) (A : Option Addr) (n c : Nat) => Lib.run_eql_slice_nil (P := Tryz.prog) w 29 5 A n c 0 0 Tryz.underlying29
  rcases A with _ | a
  · obtain ⟨rfl, rfl⟩ := h.none_ bc_len (by omega)
    clear h hl
    go_enter Tryz.func203, Tryz.ntmps203
    go_wp2_with fail
    go_ret
    exact ⟨none, 0, 0, rfl, Own.nil _ _, Below.refl _ _⟩
  · have hr : IsB (w.alloc (.cells #[] 5)) (some a) n l := h.alloc _
    have ho : OwnB (w.alloc (.cells #[] 5)) w.heap.size (some ⟨w.heap.size, 0, none⟩) 0 0 [] := ⟨rfl, World.ownsRow_lit w #[] 0 (Nat.le_refl _) (Nat.zero_le _) rfl⟩
    have HR := Lib.hid hr
    clear h hr
    go_enter Tryz.func203, Tryz.ntmps203
    go_wp2_with (at_builtin; refine wpl_app _ rfl (.tmp 5) (.tmp 6) _ rfl 5 _ 1 1 Tryz.underlying29 info_b rfl (by omega) bc_len bc_one _ _ _ _ _ rfl ho _ _ _ _ rfl HR.out (by omega) (by simp) ?_; intro A1 c1 w1 hown1 hfr1 hat1)
    go_ret
    exact copiedb_post (by simpa using hown1) rfl ((Below.refl _ _).alloc (Nat.le_refl _) _) hfr1 (by rintro k hk ⟨ad, h, h'⟩; injection h with h; subst h; simp at h'; omega)

theorem run_str {w : World} {A : Option Addr} {n c : Nat} {l : List UInt8} (h : IsB w A n l) : (convert 29 9 (.slice A n c)).run Tryz.prog w = .ok (.string ⟨l.toArray⟩) w := by
  rcases Nat.eq_zero_or_pos n with h0 | h0
  · subst h0
    obtain rfl : l = [] := List.eq_nil_of_length_eq_zero h.1
    rw [run_convert_bytes_string w 29 9 5 A 0 c Tryz.underlying29 Tryz.underlying5 Tryz.underlying9]
    cases A with
    | none => simp [Conv.bytesToString]; rfl
    | some a =>
      have := run_bytesToString (P := Tryz.prog) w a 0 c [] (by simp [loadCells, loadCellsFrom])
      rw [this]; rfl
  · obtain ⟨b, off, rfl, _⟩ := h.some_ bc_len (by omega) h0
    have := run_convert_bytes_arg (P := Tryz.prog) w 29 5 Tryz.underlying29 Tryz.underlying5 b off n c (l.map fun x => (x.toNat : Int)) (by simp [h.1]) (fun i hi => by
      obtain ⟨b', off', e, hk, hc⟩ := isb_at h hi
      injection e with e; injection e with e1 e2; subst e1 e2
      rw [hc]
      simp [List.getD, List.getElem?_eq_getElem hk]) 9 Tryz.underlying9
    have e0 : ∀ m : List UInt8, (m.map fun x : UInt8 => (x.toNat : Int)).map (fun n => UInt8.ofNat n.toNat) = m := by
      intro m
      induction m with
      | nil => rfl
      | cons x m ih => rw [List.map_cons, List.map_cons, ih, Int.toNat_natCast, UInt8.ofNat_toNat]
    have e : strOfNums (l.map fun x : UInt8 => (x.toNat : Int)) = ⟨l.toArray⟩ := by
      unfold strOfNums
      rw [e0]
    rw [this, e]

def eqB (l m : List UInt8) : Bool := decide (l = m)
theorem isb_new (w : World) (v : Int) (x : UInt8) (h : v = (x.toNat : Int)) : IsB (w.alloc (.cells #[.int .u8 v] 5)) (some ⟨w.heap.size, 0, none⟩) 1 [x] := by
  subst h
  refine ⟨rfl, fun j u hj => ?_⟩
  have e : j = 0 := by
    have := (List.getElem?_eq_some_iff.1 hj).1
    simp [bc] at this; omega
  subst e
  have hu : u = .int .u8 (x.toNat : Int) := by simpa [bc] using hj.symm
  subst hu
  exact ⟨_, _, rfl, (Blk.new w 5 _).cell 0⟩
end Go.Proofs.YtfoifdoaleaekaaGreat

namespace Go.Proofs.YtfoifdoaleaekaaGreat
open Go.RowKit Go.Acc

theorem own_seg {w : World} {B g n c : Nat} {l : List UInt8} (h : OwnB w B (some ⟨g, 0, none⟩) n c l) : ∃ cur, Blk w g 5 cur ∧ n ≤ cur.size ∧
    (∀ (w' : World) (cur' : Array Value) (off k : Nat) (m : List UInt8), Blk w' g 5 cur' → Seg cur off (m.flatMap bc) k cur' → m.length = k → off + k ≤ n → OwnB w' B (some ⟨g, 0, none⟩) n c (l.take off ++ m ++ l.drop (off + k))) := by
  obtain ⟨hl, h1, h2⟩ := h
  rcases h2 with ⟨hv, _⟩ | ⟨g', cap, cur, hv, hb, hg, hnc, hcm, hcs, htake⟩
  · cases hv
  · injection hv with e1 _ e3
    injection e1 with e1
    injection e1 with e1
    subst e1 e3
    simp only [Nat.mul_one] at hcs htake h1
    refine ⟨cur, hg, by omega, ?_⟩
    intro w' cur' off k m hB hS hm hk
    refine ⟨by simp; omega, ?_, .inr ⟨g, c, cur', rfl, hb, hB, hnc, hcm, by rw [hS.1, Nat.mul_one]; exact hcs, ?_⟩⟩
    · rw [fm_length bc_len]; simp; omega
    · rw [Nat.mul_one, hS.take (by rw [fm_length bc_len]; omega) hk (by omega), htake, List.flatMap_append, List.flatMap_append, fm_take bc_len, fm_drop bc_len, Nat.mul_one, Nat.mul_one]

def putE (x : Int) (b : Bool) : Int := if isW x = true then (if b = true then 0 else 10) else 2
def putB (l : List UInt8) (x : Int) (u : Nat) (b : Bool) : List UInt8 := if isW x = true ∧ b = true then l ++ leBytes x.toNat u else []
def PutW (w : World) (m : List UInt8) (er : Int) (e : Ending) (w' : World) : Prop :=
  ∃ A n c, e = .returned (.tuple #[.slice A n c, .int .i64 er]) ∧ OwnB w' w.heap.size A n c m ∧ Below w.heap.size w w'
set_option maxHeartbeats 1000000 in
theorem behind_spec (A : Option Addr) (n c u F : Nat) (x : Int) (l : List UInt8) (caps : Array Value) (b : Bool) (w : World) (h : IsB w A n l) (hc : n ≤ c) (hn : n ≤ 1099511627776) (hu : (u : Int) < 18446744073709551616)
    (hF : ∀ (args : Array Value) (w : World), (callFunc F args).run Tryz.prog w = .ok (.enter F args) w)
    (hfit : isW x = true → Calls Tryz.prog F caps w fun e w' => e = .returned (.bool b) ∧ w = w') :
    Calls Tryz.prog 234 #[.slice A n c, .int .i64 x, .int .u64 u, .func (.func F) #[] caps] w (PutW w (putB l x u b) (putE x b)) := by
  have HR := Lib.hid h
  have HU := Lib.hid hu
  have HFIT := Lib.hid hfit
  clear h hu hfit
  cases hx : isW x with
  | false =>
    have e1 := Lib.hid (show putE x b = 2 by simp [putE, hx])
    have e2 := Lib.hid (show putB l x u b = [] by simp [putB, hx])
    have HX := Lib.hid hx
    clear hx
    go_enter Tryz.func234, Tryz.ntmps234
    go_wp2_with (go_at_call 138; refine (is_spec x _).mono ?_; rw [HX.out]; rintro e w' ⟨rfl, rfl⟩)
    go_ret2
    rw [e1.out, e2.out]
    exact ⟨none, 0, 0, rfl, Own.nil _ _, Below.refl _ _⟩
  | true =>
    cases b with
    | false =>
      have e1 := Lib.hid (show putE x false = 10 by simp [putE, hx])
      have e2 := Lib.hid (show putB l x u false = [] by simp [putB])
      have HX := Lib.hid hx
      clear hx
      go_enter Tryz.func234, Tryz.ntmps234
      go_wp2_with (go_at_call 138; refine (is_spec x _).mono ?_; rw [HX.out]; rintro e w' ⟨rfl, rfl⟩)
      refine (HFIT.out HX.out).mono ?_
      rintro e w' ⟨rfl, rfl⟩
      clear hF
      go_wp2
      go_ret2
      rw [e1.out, e2.out]
      exact ⟨none, 0, 0, rfl, Own.nil _ _, Below.refl _ _⟩
    | true =>
      have hx8 : (1 : Int) ≤ x ∧ (x : Int) ≤ 8 := by have := isW_iff.1 hx; omega
      obtain ⟨y, rfl⟩ : ∃ y : Nat, x = y := ⟨x.toNat, by omega⟩
      have hy1 : 1 ≤ y := by omega
      have hy8 : y ≤ 8 := by omega
      have e1 := Lib.hid (show putE y true = 0 by simp [putE, hx])
      have e2 := Lib.hid (show putB l y u true = l ++ leBytes y u by simp [putB, hx])
      have HX := Lib.hid hx
      clear hx hx8
      go_enter Tryz.func234, Tryz.ntmps234
      go_wp2_with (go_at_call 138; refine (is_spec y _).mono ?_; rw [HX.out]; rintro e w' ⟨rfl, rfl⟩)
      refine (HFIT.out HX.out).mono ?_
      rintro e w' ⟨rfl, rfl⟩
      clear hF
      go_wp2_with (first
        | (go_at_call 203; refine (cloneb_spec A n c l _ HR.out hn).mono ?_; rintro e w1 ⟨A1, n1, c1, rfl, hO1, hB1⟩; obtain rfl : n1 = n := (by rw [← hO1.1, HR.out.1]); have HO1 := Lib.hid hO1; have HB1 := Lib.hid hB1; clear hO1 hB1)
        | (at_builtin; refine wpl_zeros _ rfl (.tmp 20) (.tmp 21) _ _ rfl 5 _ 1 1 _ _ Tryz.underlying29 Tryz.underlying3 info_b rfl (by omega) bc_len bc_one (0 : UInt8) rfl _ _ _ _ _ rfl HO1.out y _ rfl rfl (by omega) (by omega) HB1.out.size ?_; intro A2 c2 w2 hown2 hfr2 hat2; have HO2 := Lib.hid hown2; have HF2 := Lib.hid hfr2; clear hown2 hfr2 hat2; have hcap2 := HO2.out.cap; rcases A2 with _ | ad2))
      · exact absurd (HO2.out.is.none_ bc_len (by omega)).2 (by omega)
      · obtain ⟨had, hge, hlt⟩ := HO2.out.addr ad2 rfl
        obtain ⟨g, rfl⟩ : ∃ g, ad2 = ⟨g, 0, none⟩ := ⟨_, had⟩
        obtain ⟨cur, hK, hsz, hback⟩ := own_seg HO2.out
        rw [add_none, Nat.zero_add]
        refine (digits_spec g n1 y (c2 - n1) u cur w2 hK (by omega) hy8 HU.out).mono ?_
        rintro e w3 ⟨rfl, cur3, hK3, hS3, hF3⟩
        have HO3 := Lib.hid (hback w3 cur3 n1 y _ hK3 hS3 (leBytes_length _ _) (Nat.le_refl _))
        have HF3 := Lib.hid hF3
        clear hK hback hK3 hS3 hF3
        go_wp2
        go_ret2
        rw [e1.out, e2.out]
        refine ⟨some ⟨g, 0, none⟩, n1 + y, c2, rfl, ?_, ?_⟩
        · have e3 := HO3.out
          rw [List.take_left' HR.out.1, List.drop_eq_nil_of_le (by simp [HR.out.1]), List.append_nil] at e3
          exact e3
        · refine below_fr (below_fr HB1.out HF2.out ?_) HF3.out ?_
          · rintro k ⟨ad, h, rfl⟩
            exact (HO1.out.addr ad h).2.1
          · rintro k rfl
            exact hge
theorem putc_spec (a b u : Nat) (x : Int) (w : World) (ha : Blk w a 3 #[.int .i64 x]) (hb : Blk w b 22 #[.int .u64 u]) (hx : isW x = true) (hu : (u : Int) < 18446744073709551616) :
    Calls Tryz.prog 235 #[.pointer (some ⟨a, 0, none⟩), .pointer (some ⟨b, 0, none⟩)] w fun e w' => e = .returned (.bool (fitsU x.toNat u)) ∧ w = w' := by
  obtain ⟨y, rfl⟩ : ∃ y : Nat, x = y := ⟨x.toNat, by have := isW_iff.1 hx; omega⟩
  have c1 : w.cell? ⟨a, 0, none⟩ = some (.int .i64 y) := ha.cell 0
  have c2 : w.cell? ⟨b, 0, none⟩ = some (.int .u64 u) := hb.cell 0
  have HX := Lib.hid hx
  have HU := Lib.hid hu
  clear ha hb hx hu
  go_enter Tryz.func235, Tryz.ntmps235
  go_wp2_with (go_at_call 236; refine (fits_spec y u w HX.out HU.out).mono ?_; rintro e w1 ⟨rfl, rfl⟩)
  go_ret
  exact ⟨rfl, rfl⟩
theorem putw_lift {w W : World} {m : List UInt8} {er : Int} {e : Ending} {w' : World} (hB : Below w.heap.size w W) (h : PutW W m er e w') : PutW w m er e w' := by
  obtain ⟨A, n, c, he, hO, hB'⟩ := h
  exact ⟨A, n, c, he, hO.rebase hB.size, pure_trans hB hB'⟩
theorem wrapu (m : Int) : IntKind.u64.wrap m = (((m % 18446744073709551616).toNat : Nat) : Int) := by
  show m % 18446744073709551616 = _
  omega
theorem blk_new2 (w : World) (o : Obj) (t : TypeId) (cs : Array Value) : Blk ((w.alloc o).alloc (.cells cs t)) (w.heap.size + 1) t cs := by
  have h := Blk.new (w.alloc o) t cs
  have e : (w.alloc o).heap.size = w.heap.size + 1 := by simp
  rw [e] at h
  exact h
set_option maxHeartbeats 1000000 in
theorem put_spec (A : Option Addr) (n c u : Nat) (x : Int) (l : List UInt8) (w : World) (h : IsB w A n l) (hc : n ≤ c) (hn : n ≤ 1099511627776) (hu : (u : Int) < 18446744073709551616) :
    Calls Tryz.prog 199 #[.slice A n c, .int .i64 x, .int .u64 u] w (PutW w (putB l x u (fitsU x.toNat u)) (putE x (fitsU x.toNat u))) := by
  have HR := Lib.hid h
  have HU := Lib.hid hu
  have HV := HU
  clear h hu
  go_enter Tryz.func199, Tryz.ntmps199
  go_wp2_with fail
  skip
  have hK1 := (Blk.new w 3 #[.int .i64 x]).alloc (.cells #[.int .u64 (u : Int)] 22)
  have hK2 := blk_new2 w (.cells #[.int .i64 x] 3) 22 #[.int .u64 (u : Int)]
  have hfit := fun hx => putc_spec w.heap.size (w.heap.size + 1) u x _ hK1 hK2 hx HU.out
  have hI := (HR.out.alloc (.cells #[.int .i64 x] 3)).alloc (.cells #[.int .u64 (u : Int)] 22)
  refine (behind_spec A n c _ 235 x l _ _ _ hI hc hn HV.out Tryz.call235 hfit).mono ?_
  intro e w1 hP
  obtain ⟨A1, n1, c1, rfl, hO, hB⟩ := hP
  have HO := Lib.hid hO
  have HB := Lib.hid hB
  clear hO hB
  go_wp2
  go_ret2
  exact putw_lift (((Below.refl _ _).alloc (Nat.le_refl _) _).alloc (by simp) _) ⟨A1, n1, c1, rfl, HO.out, HB.out⟩
end Go.Proofs.YtfoifdoaleaekaaGreat

namespace Go.Proofs.YtfoifdoaleaekaaGreat
open Go.RowKit Go.Acc

def wd (n : Int) : Nat := 2 ^ (n % 4).toNat
end Go.Proofs.YtfoifdoaleaekaaGreat

namespace Go.Proofs.YtfoifdoaleaekaaGreat
open Go.RowKit Go.Acc

theorem isb_lit (w : World) (vs : Array Value) (l : List UInt8) (n : Nat) (hn : l.length = n) (h : vs.toList = l.flatMap bc) : IsB (w.alloc (.cells vs 5)) (some ⟨w.heap.size, 0, none⟩) n l :=
  ⟨hn, fun j u hj => ⟨_, _, rfl, by rw [(Blk.new w 5 vs).cell, Nat.zero_add, ← Array.getElem?_toList, h]; exact hj⟩⟩

end Go.Proofs.YtfoifdoaleaekaaGreat
