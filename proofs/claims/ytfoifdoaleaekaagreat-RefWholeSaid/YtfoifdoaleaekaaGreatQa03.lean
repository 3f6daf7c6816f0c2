/-
  Package le and its reference: what fits, and the storing of digits.
  The plain table of the types: category, element type, number of elements, kind.
  Package build: the plain builder. No program in sight. A tree, the state of the builder, and what each call does to it where no error comes up.
  Package build: where bytes lie. No program in sight.
-/
import Derived.Test.YtfoifdoaleaekaaGreatQa02
namespace Go.Proofs.YtfoifdoaleaekaaGreat
open Go.RowKit Go.Acc

def fitsU (w u : Nat) : Bool := decide (w = 8 ∨ u < 2 ^ (8 * w))
theorem w_cases {y : Nat} (h : isW (y : Int) = true) : y = 1 ∨ y = 2 ∨ y = 4 ∨ y = 8 := by have := isW_iff.1 h; omega

/-- The lowest bytes of a number, least significant first. -/
def leBytes (n u : Nat) : List UInt8 := (List.range n).map fun i => UInt8.ofNat (u / 2 ^ (8 * i))
theorem leBytes_length (n u : Nat) : (leBytes n u).length = n := by simp [leBytes]
theorem leBytes_get (n u k : Nat) (hk : k < (leBytes n u).length) : (leBytes n u)[k] = UInt8.ofNat (u / 2 ^ (8 * k)) := by simp [leBytes]
theorem leBytes_succ (n u : Nat) : leBytes (n + 1) u = leBytes n u ++ [UInt8.ofNat (u / 2 ^ (8 * n))] := by simp [leBytes, List.range_succ]
theorem leVal_leBytes (n u : Nat) : leVal (leBytes n u) = u % 2 ^ (8 * n) := by
  induction n with
  | zero => simp [leBytes, leVal, Nat.mod_one]
  | succ n ih =>
    rw [leBytes_succ, leVal_snoc, ih, leBytes_length, UInt8.toNat_ofNat', show 8 * (n + 1) = 8 * n + 8 by omega, Nat.pow_add, Nat.mod_mul, Nat.mul_comm (2 ^ (8 * n))]

set_option maxHeartbeats 1000000 in
theorem fits_spec (y u : Nat) (w : World) (hy : isW (y : Int) = true) (hu : (u : Int) < 18446744073709551616) : Calls Tryz.prog 236 #[.int .i64 y, .int .u64 u] w fun e w' => e = .returned (.bool (fitsU y u)) ∧ w = w' := by
  have hu0 : (0 : Int) ≤ u := by omega
  rcases w_cases hy with rfl | rfl | rfl | rfl
  · by_cases h : u < 256
    · have H := Lib.hid (show fitsU 1 u = true from decide_eq_true (.inr h))
      have e : ((u : Int) / 256 == 0) = true := by rw [beq_iff_eq]; omega
      clear h hy
      go_enter Tryz.func236, Tryz.ntmps236
      go_wp2
      go_ret
      exact ⟨ret_bool H.out.symm, rfl⟩
    · have H := Lib.hid (show fitsU 1 u = false from decide_eq_false (by rintro (h' | h') <;> first | exact h h' | omega))
      have e : ((u : Int) / 256 == 0) = false := by rw [beq_eq_false_iff_ne]; omega
      clear h hy
      go_enter Tryz.func236, Tryz.ntmps236
      go_wp2
      go_ret
      exact ⟨ret_bool H.out.symm, rfl⟩
  · by_cases h : u < 65536
    · have H := Lib.hid (show fitsU 2 u = true from decide_eq_true (.inr h))
      have e : ((u : Int) / 65536 == 0) = true := by rw [beq_iff_eq]; omega
      clear h hy
      go_enter Tryz.func236, Tryz.ntmps236
      go_wp2
      go_ret
      exact ⟨ret_bool H.out.symm, rfl⟩
    · have H := Lib.hid (show fitsU 2 u = false from decide_eq_false (by rintro (h' | h') <;> first | exact h h' | omega))
      have e : ((u : Int) / 65536 == 0) = false := by rw [beq_eq_false_iff_ne]; omega
      clear h hy
      go_enter Tryz.func236, Tryz.ntmps236
      go_wp2
      go_ret
      exact ⟨ret_bool H.out.symm, rfl⟩
  · by_cases h : u < 4294967296
    · have H := Lib.hid (show fitsU 4 u = true from decide_eq_true (.inr h))
      have e : ((u : Int) / 4294967296 == 0) = true := by rw [beq_iff_eq]; omega
      clear h hy
      go_enter Tryz.func236, Tryz.ntmps236
      go_wp2
      go_ret
      exact ⟨ret_bool H.out.symm, rfl⟩
    · have H := Lib.hid (show fitsU 4 u = false from decide_eq_false (by rintro (h' | h') <;> first | exact h h' | omega))
      have e : ((u : Int) / 4294967296 == 0) = false := by rw [beq_eq_false_iff_ne]; omega
      clear h hy
      go_enter Tryz.func236, Tryz.ntmps236
      go_wp2
      go_ret
      exact ⟨ret_bool H.out.symm, rfl⟩
  · go_enter Tryz.func236, Tryz.ntmps236
    go_wp2
    go_ret
    exact ⟨rfl, rfl⟩

/-- A stretch of an array is replaced. -/
def Seg (cur : Array Value) (off : Nat) (vs : List Value) (k : Nat) (cur' : Array Value) : Prop :=
  cur'.size = cur.size ∧ ∀ j, cur'[j]? = if off ≤ j ∧ j < off + k then vs[j - off]? else cur[j]?
theorem Seg.zero (cur : Array Value) (off : Nat) (vs : List Value) : Seg cur off vs 0 cur := ⟨rfl, fun j => by rw [if_neg (by omega)]⟩
theorem Seg.step {cur cur' : Array Value} {off k : Nat} {vs : List Value} (h : Seg cur off vs k cur') {v : Value} (hv : vs[k]? = some v) (hk : off + k < cur.size) : Seg cur off vs (k + 1) (cur'.setIfInBounds (off + k) v) := by
  refine ⟨by simpa using h.1, fun j => ?_⟩
  rw [Array.getElem?_setIfInBounds, h.2]
  by_cases e : off + k = j
  · subst e
    rw [if_pos rfl, if_pos (by rw [h.1]; exact hk), if_pos (by omega), Nat.add_sub_cancel_left, hv]
  · rw [if_neg e]
    by_cases h1 : off ≤ j ∧ j < off + k
    · rw [if_pos h1, if_pos (by omega)]
    · rw [if_neg h1, if_neg (by omega)]
theorem Seg.take {cur cur' : Array Value} {off n m : Nat} {vs : List Value} (h : Seg cur off vs n cur') (hv : vs.length = n) (hm : off + n ≤ m) (hs : m ≤ cur.size) : cur'.toList.take m = (cur.toList.take m).take off ++ vs ++ (cur.toList.take m).drop (off + n) := by
  apply List.ext_getElem?
  intro j
  rw [List.getElem?_take]
  have hj := h.2 j
  rw [← Array.getElem?_toList] at hj
  split
  · rename_i hjm
    rw [hj]
    by_cases h1 : j < off
    · rw [if_neg (by omega), List.append_assoc, List.getElem?_append_left (by simp; omega), List.getElem?_take, if_pos h1, List.getElem?_take, if_pos hjm, Array.getElem?_toList]
    · by_cases h2 : j < off + n
      · rw [if_pos (by omega), List.append_assoc, List.getElem?_append_right (by simp; omega), List.getElem?_append_left (by simp; omega)]
        congr 1
        simp; omega
      · rw [if_neg (by omega), List.getElem?_append_right (by simp; omega), List.getElem?_drop, List.getElem?_take, ← Array.getElem?_toList]
        have e : off + n + (j - ((cur.toList.take m).take off ++ vs).length) = j := by simp; omega
        rw [e, if_pos hjm]
  · rename_i hjm
    rw [List.getElem?_eq_none]
    simp; omega

theorem digit_byte (u k : Nat) : (u : Int) / 2 ^ (8 * k) % 256 = ((UInt8.ofNat (u / 2 ^ (8 * k))).toNat : Int) := by
  have e : (u : Int) / 2 ^ (8 * k) = ((u / 2 ^ (8 * k) : Nat) : Int) := by simp
  rw [e, UInt8.toNat_ofNat']
  omega
set_option maxHeartbeats 1000000 in
theorem digits_spec (g off n c u : Nat) (cur : Array Value) (w : World) (hb : Blk w g 5 cur) (ho : off + n ≤ cur.size) (hn : n ≤ 8) (hu : (u : Int) < 18446744073709551616) :
    Calls Tryz.prog 256 #[.slice (some ⟨g, off, none⟩) n c, .int .u64 u] w fun e w' => e = .returned (.tuple #[]) ∧ ∃ cur', Blk w' g 5 cur' ∧ Seg cur off ((leBytes n u).flatMap bc) n cur' ∧ Fr (fun k => k = g) w w' := by
  have HB := Lib.hid hb
  have hu0 : (0 : Int) ≤ u := by omega
  clear hb
  go_enter Tryz.func256, Tryz.ntmps256
  go_wp2
  go_loopw [7] (fun i wr => ∃ (k : Nat) (cur' : Array Value), k ≤ n ∧ i = .int .i64 k ∧ Blk wr g 5 cur' ∧ Seg cur off ((leBytes n u).flatMap bc) k cur' ∧ Fr (fun k => k = g) w wr) (fun i _ => n - (intOf i).toNat)
  case atStart => exact ⟨0, cur, by omega, rfl, HB.out, Seg.zero _ _ _, Fr.refl _ _⟩
  case round =>
    obtain ⟨k, cur', hk, rfl, hB, hS, hf⟩ := hrel
    by_cases hlt : k < n
    · have hcell : ∃ v, wr.cell? ⟨g, off + k, none⟩ = some v := ⟨_, (hB.cell (off + k)).trans (Array.getElem?_eq_getElem (by rw [hS.1]; omega))⟩
      obtain ⟨v, hv⟩ := hcell
      have f0 := hB.frozen (off + k)
      have e1 := digit_byte u k
      have hb1 : ((leBytes n u).flatMap bc)[k]? = some (.int .u8 ((UInt8.ofNat (u / 2 ^ (8 * k))).toNat : Int)) := by
        have := fm_at bc_len (leBytes n u) k 0 (by rw [leBytes_length]; exact hlt) (by omega)
        rw [Nat.mul_one, Nat.add_zero, leBytes_get] at this
        exact this
      have E1 := Lib.hid e1
      have HB := Lib.hid hB
      have HS := Lib.hid (hS.step hb1 (by omega))
      have HF := Lib.hid hf
      clear hB hS hf e1 hb1
      go_wp2
      rw [E1.out]
      exact ⟨⟨k + 1, _, by omega, by go_num, HB.out.set_ _ _, HS.out, Fr.setCell (S := fun k => k = g) HF.out (fun _ => rfl) _⟩, by simp [intOf]; omega⟩
    · obtain rfl : k = n := by omega
      have HB := Lib.hid hB
      have HS := Lib.hid hS
      have HF := Lib.hid hf
      clear hB hS hf
      go_wp2
      go_end0
      exact ⟨rfl, cur', HB.out, HS.out, HF.out⟩

end Go.Proofs.YtfoifdoaleaekaaGreat

namespace Go.Acc
/-- The category (1 inline, 2 offset, 3 vector; 0 is no type), the elements' type and their number, by type. -/
def tRows : List (Int × Int × Int) :=
  [(1, 0, 0), (1, 0, 0), (1, 0, 0), (0, 0, 0), (2, 0, 0), (2, 0, 0), (2, 0, 0), (2, 0, 0), (0, 0, 0), (2, 0, 0), (2, 0, 0), (3, 1, 0), (3, 2, 0), (0, 0, 0), (3, 4, 0), (0, 0, 0),
   (3, 1, 2), (3, 2, 2), (0, 0, 0), (3, 1, 3), (3, 2, 3), (0, 0, 0), (3, 1, 4), (3, 2, 4), (0, 0, 0), (2, 0, 0), (1, 0, 0), (0, 0, 0), (0, 0, 0), (0, 0, 0), (0, 0, 0), (0, 0, 0), (0, 0, 0), (0, 0, 0), (0, 0, 0), (0, 0, 0), (3, 26, 0)]
/-- The kind of each type. -/
def tKinds : List Int := [1, 3, 4, 0, 5, 6, 8, 9, 0, 17, 10, 11, 12, 0, 13, 0, 15, 16, 0, 15, 16, 0, 15, 16, 0, 7, 2, 0, 0, 0, 0, 0, 0, 0, 0, 0, 14]
def isT (t : Int) : Bool := decide (0 ≤ t ∧ t < 37)
def tRow (t : Int) : Int × Int × Int := if isT t = true then tRows.getD t.toNat (0, 0, 0) else (0, 0, 0)
def legalT (t : Int) : Bool := (tRow t).1 != 0
def inlineT (t : Int) : Bool := (tRow t).1 == 1
def kindT (t : Int) : Int := if isT t = true then tKinds.getD t.toNat 0 else 0
def t37 : List Int := [0, 1, 2, 3, 4, 5, 6, 7, 8, 9, 10, 11, 12, 13, 14, 15, 16, 17, 18, 19, 20, 21, 22, 23, 24, 25, 26, 27, 28, 29, 30, 31, 32, 33, 34, 35, 36]
theorem isT_iff {t : Int} : isT t = true ↔ 0 ≤ t ∧ t < 37 := by simp [isT]
/-- A fact on all numbers from 0 to 36, one by one. -/
theorem t37_all {p : Int → Prop} (h : ∀ n : Fin 37, p ((n.val : Nat) : Int)) {t : Int} (ht : isT t = true) : p t := by
  have ht := isT_iff.1 ht
  obtain ⟨n, rfl⟩ := Int.eq_ofNat_of_zero_le ht.1
  exact h ⟨n, by omega⟩
theorem tRow_no {t : Int} (h : isT t = false) : tRow t = (0, 0, 0) := by simp [tRow, h]
theorem kindT_no {t : Int} (h : isT t = false) : kindT t = 0 := by simp [kindT, h]
theorem legal_isT {t : Int} (h : legalT t = true) : isT t = true := by
  cases e : isT t with
  | true => rfl
  | false => simp [legalT, tRow_no e] at h
theorem legal_kind {t : Int} (h : legalT t = false) : kindT t = 0 := by
  cases e : isT t with
  | false => exact kindT_no e
  | true =>
    revert h
    exact t37_all (p := fun t => legalT t = false → kindT t = 0) (by decide) e
/-- What a tag says: the type, the width, the error. -/
def unT (c : UInt8) : Int := if legalT ((c.toNat : Int) / 4) = true then (c.toNat : Int) / 4 else 0
def unW (c : UInt8) : Int := if legalT ((c.toNat : Int) / 4) = true then 2 ^ (c.toNat % 4) else 0
def unE (c : UInt8) : Int := if legalT ((c.toNat : Int) / 4) = true then 0 else 20
end Go.Acc

namespace Go.Proofs.YtfoifdoaleaekaaGreat
open Go.Acc
/-- A tree: its kind, its two numbers, its string, its keys, its children. -/
inductive Tr where
  | mk (k n : Int) (u : Nat) (s : List UInt8) (ks : List (List UInt8)) (l : List Tr)
namespace Tr
def k : Tr → Int | .mk k _ _ _ _ _ => k
def n : Tr → Int | .mk _ n _ _ _ _ => n
def u : Tr → Nat | .mk _ _ u _ _ _ => u
def s : Tr → List UInt8 | .mk _ _ _ s _ _ => s
def ks : Tr → List (List UInt8) | .mk _ _ _ _ ks _ => ks
def l : Tr → List Tr | .mk _ _ _ _ _ l => l
end Tr
/-- A value of the builder: its type, its width, its number (an inline value, or a place). -/
structure Bv where
  t : Nat
  w : Nat
  n : Nat
/-- The state: the bytes, the stack, the pools (the first that was put counts), the names by place, the lists of keys that were written. -/
structure Bd where
  b : List UInt8
  s : List Bv
  keys : List (List UInt8 × Nat)
  texts : List (List UInt8 × Nat)
  lists : List (List UInt8 × Nat)
  names : List (Nat × List UInt8)
  vals : List Bv
def bWidth (u : Nat) : Nat := if u < 256 then 1 else if u < 65536 then 2 else if u < 4294967296 then 4 else 8
def bWidthI (n : Int) : Nat := if -128 ≤ n ∧ n < 128 then 1 else if -32768 ≤ n ∧ n < 32768 then 2 else if -2147483648 ≤ n ∧ n < 2147483648 then 4 else 8
/-- An integer's bits. -/
def bits (n : Int) : Nat := (n % 18446744073709551616).toNat
def padN (w n : Nat) : Nat := (w - n % w) % w
def alignB (w : Nat) (l : List UInt8) : List UInt8 := l ++ List.replicate (padN w l.length) 0
def inl (t : Nat) : Bool := inlineT t
/-- A place, taken up to a multiple of w. -/
def upN (n w : Nat) : Nat := (n + w - 1) / w * w
def fitsV (v : Bv) (a i w : Nat) : Bool := if inl v.t = true then decide (v.w ≤ w) else decide (v.n ≤ a ∧ bWidth (upN a w + i * w - v.n) ≤ w)
def leastW (f : Nat → Bool) : Nat := if f 1 = true then 1 else if f 2 = true then 2 else if f 4 = true then 4 else if f 8 = true then 8 else 0
def fitsL (a w : Nat) : Nat → List Bv → Bool
  | _, [] => true
  | i, v :: r => fitsV v a i w && fitsL a w (i + 1) r
def fitK (a w : Nat) : Option Bv → Bool
  | none => true
  | some k => fitsV k a 0 w
def fitF (a ahead : Nat) (k : Option Bv) (l : List Bv) (w : Nat) : Bool := (decide (ahead = 0) || decide (bWidth l.length ≤ w)) && fitK a w k && fitsL a w ahead l
def fitAll (a ahead : Nat) (k : Option Bv) (l : List Bv) : Nat := leastW (fitF a ahead k l)
/-- The bytes of one element at the place where the bytes end. -/
def elemN (w a : Nat) (v : Bv) : Nat := if inl v.t = true then v.n % 2 ^ (8 * w) else a - v.n
def elemsB (w : Nat) : List UInt8 → List Bv → List UInt8
  | l, [] => l
  | l, v :: r => elemsB w (l ++ leBytes w (elemN w l.length v)) r
def bCode (w : Nat) : Nat := if w = 1 then 0 else if w = 2 then 1 else if w = 4 then 2 else 3
def bTag (w : Nat) (v : Bv) : UInt8 := UInt8.ofNat (4 * v.t + bCode (if inl v.t = true then w else v.w))
/-- A vector: t its type, len whether its length stands ahead, tags whether its tags stand behind. -/
def bVec (t : Nat) (len tags : Bool) (l : List Bv) (b : List UInt8) : List UInt8 × Bv :=
  let w := fitAll b.length (if len = true then 1 else 0) none l
  let c := alignB w b ++ (if len = true then leBytes w l.length else [])
  (elemsB w c l ++ (if tags = true then l.map (bTag w) else []), ⟨t, w, c.length⟩)
/-- A map: its keys' vector k, its values. -/
def mapB (k : Bv) (l : List Bv) (b : List UInt8) : List UInt8 × Bv :=
  let w := fitAll b.length 3 (some k) l
  let a := alignB w b
  let c := a ++ leBytes w (a.length - k.n) ++ leBytes w k.w ++ leBytes w l.length
  (elemsB w c l ++ l.map (bTag w), ⟨9, w, c.length⟩)
def getP (l : List (List UInt8 × Nat)) (k : List UInt8) : Option Nat := (l.find? fun x => x.1 == k).map (·.2)
def putP (l : List (List UInt8 × Nat)) (k : List UInt8) (a : Nat) : List (List UInt8 × Nat) := if (getP l k).isSome = true then l else l ++ [(k, a)]
def onF (f b : Nat) : Bool := decide (f / b % 2 = 1)
def Bd.push (b : Bd) (v : Bv) : Bd := { b with s := b.s ++ [v] }
/-- A key is written, or found. -/
def Bd.put (f : Nat) (s : List UInt8) (b : Bd) : Bd × Bv :=
  match (if onF f 1 = true then getP b.keys s else none) with
  | some a => (b, ⟨4, 1, a⟩)
  | none => ({ b with b := b.b ++ s ++ [0], keys := putP b.keys s b.b.length, names := (b.b.length, s) :: b.names }, ⟨4, 1, b.b.length⟩)
def Bd.key (f : Nat) (s : List UInt8) (b : Bd) : Bd := let x := b.put f s; x.1.push x.2
def Bd.puts (f : Nat) : List (List UInt8) → Bd → Bd × List Bv
  | [], b => (b, [])
  | s :: r, b => let x := b.put f s; let y := Bd.puts f r x.1; (y.1, x.2 :: y.2)
def Bd.apart (t : Nat) (w n : Nat) (b : Bd) : Bd :=
  let c := alignB w b.b
  { b with b := c ++ leBytes w (n % 2 ^ (8 * w)), s := b.s ++ [⟨t, w, c.length⟩] }
def Bd.blob (s : List UInt8) (b : Bd) : Bd :=
  let w := bWidth s.length
  let c := alignB w b.b ++ leBytes w s.length
  { b with b := c ++ s, s := b.s ++ [⟨25, w, c.length⟩] }
def Bd.str (f : Nat) (s : List UInt8) (b : Bd) : Bd :=
  let w := bWidth s.length
  match (if onF f 2 = true then getP b.texts s else none) with
  | some a => b.push ⟨5, w, a⟩
  | none =>
    let c := alignB w b.b ++ leBytes w s.length
    { b with b := c ++ s ++ [0], s := b.s ++ [⟨5, w, c.length⟩], texts := putP b.texts s c.length }
def Bd.vec (t : Nat) (len tags : Bool) (l : List Bv) (b : Bd) : Bd :=
  let x := bVec t len tags l b.b
  { b with b := x.1, s := b.s ++ [x.2] }
def Bd.endVec (start : Nat) (b : Bd) : Bd := Bd.vec 10 true true (b.s.drop start) { b with s := b.s.take start }
/-- Every other one of the values, from the first on, and from the second on. -/
def evens : List Bv → List Bv
  | [] => []
  | [v] => [v]
  | v :: _ :: r => v :: evens r
def odds (l : List Bv) : List Bv := evens l.tail
/-- The map of the values above start; keys: their strings, in order. -/
def Bd.endMap (f : Nat) (keys : List (List UInt8)) (start : Nat) (b : Bd) : Bd :=
  let vs := b.s.drop start
  let c := { b with s := b.s.take start }
  let list := keys.flatMap fun s => s ++ [0]
  match (if onF f 4 = true then getP c.lists list else none) with
  | some i => let x := mapB (c.vals.getD i ⟨0, 0, 0⟩) (odds vs) c.b; { c with b := x.1, s := c.s ++ [x.2] }
  | none =>
    let y := bVec 14 true false (evens vs) c.b
    let x := mapB y.2 (odds vs) y.1
    { c with b := x.1, s := c.s ++ [x.2], vals := c.vals ++ [y.2], lists := putP c.lists list c.vals.length }
def numV (n : Int) : Bv := ⟨1, bWidthI n, bits n⟩
def unsV (u : Nat) : Bv := ⟨2, bWidth u, u⟩
def truthV (n : Int) : Bv := ⟨26, 1, if n = 1 then 1 else 0⟩
def Bd.leaf (f : Nat) (k n : Int) (u : Nat) (s : List UInt8) (b : Bd) : Bd :=
  if k = 1 then b.push ⟨0, 1, 0⟩
  else if k = 2 then b.push (truthV n)
  else if k = 3 then b.push (numV n)
  else if k = 4 then b.push (unsV u)
  else if k = 5 then b.key f s
  else if k = 6 then b.str f s
  else if k = 7 then b.blob s
  else if k = 8 then b.apart 6 (bWidthI n) (bits n)
  else if k = 9 then b.apart 7 (bWidth u) u
  else b
def Bd.flat (f : Nat) (k : Int) (l : List Tr) (b : Bd) : Bd :=
  if k = 11 then b.vec 11 true false (l.map fun t => numV t.n)
  else if k = 12 then b.vec 12 true false (l.map fun t => unsV t.u)
  else if k = 14 then b.vec 36 true false (l.map fun t => truthV t.n)
  else if k = 13 then let x := b.puts f (l.map Tr.s); x.1.vec 14 true false x.2
  else if k = 15 then b.vec (10 + 3 * l.length) false false (l.map fun t => numV t.n)
  else b.vec (11 + 3 * l.length) false false (l.map fun t => unsV t.u)
mutual
/-- The calls for a node of a valid tree whose maps are sorted. -/
def Bd.calls (f : Nat) : Tr → Bd → Bd
  | .mk k n u s ks l, b =>
    if k = 10 then (Bd.callsL f l b).endVec b.s.length
    else if k = 17 then (Bd.callsM f ks l b).endMap f ks b.s.length
    else if k ≤ 9 then b.leaf f k n u s
    else b.flat f k l
def Bd.callsL (f : Nat) : List Tr → Bd → Bd
  | [], b => b
  | t :: r, b => Bd.callsL f r (Bd.calls f t b)
def Bd.callsM (f : Nat) : List (List UInt8) → List Tr → Bd → Bd
  | _, [], b => b
  | ks, t :: r, b => Bd.callsM f ks.tail r (Bd.calls f t (b.key f (ks.headD [])))
end
def Bd.new : Bd := ⟨[], [], [], [], [], [], []⟩
/-- The document: the last value's element, its tag, its width. -/
def Bd.finish (b : Bd) : List UInt8 :=
  match b.s with
  | [v] =>
    let w := leastW (fitsV v b.b.length 0)
    let c := alignB w b.b
    c ++ leBytes w (elemN w c.length v) ++ [bTag w v, UInt8.ofNat w]
  | _ => []
def bBuild (f : Nat) (t : Tr) : List UInt8 := (Bd.calls f t Bd.new).finish
end Go.Proofs.YtfoifdoaleaekaaGreat

namespace Go.Proofs.YtfoifdoaleaekaaGreat
open Go.Acc
/-- The bytes m lie at a. -/
def At (l : List UInt8) (a : Nat) (m : List UInt8) : Prop := ∃ p q, l = p ++ m ++ q ∧ p.length = a
theorem At.app {l : List UInt8} {a : Nat} {m : List UInt8} (h : At l a m) (x : List UInt8) : At (l ++ x) a m := by
  obtain ⟨p, q, rfl, rfl⟩ := h
  exact ⟨p, q ++ x, by simp, rfl⟩
theorem At.ahead {l : List UInt8} {a : Nat} {m : List UInt8} (h : At l a m) (x : List UInt8) : At (x ++ l) (x.length + a) m := by
  obtain ⟨p, q, rfl, rfl⟩ := h
  exact ⟨x ++ p, q, by simp, by simp⟩
theorem At.last (l m : List UInt8) : At (l ++ m) l.length m := ⟨l, [], by simp, rfl⟩
theorem At.left {l : List UInt8} {a : Nat} {m m' : List UInt8} (h : At l a (m ++ m')) : At l a m := by
  obtain ⟨p, q, rfl, rfl⟩ := h
  exact ⟨p, m' ++ q, by simp, rfl⟩
theorem At.right {l : List UInt8} {a : Nat} {m m' : List UInt8} (h : At l a (m ++ m')) : At l (a + m.length) m' := by
  obtain ⟨p, q, rfl, rfl⟩ := h
  exact ⟨p ++ m, q, by simp, by simp⟩
theorem At.le {l : List UInt8} {a : Nat} {m : List UInt8} (h : At l a m) : a + m.length ≤ l.length := by
  obtain ⟨p, q, rfl, rfl⟩ := h
  simp
theorem At.take {l : List UInt8} {a : Nat} {m : List UInt8} (h : At l a m) : (l.drop a).take m.length = m := by
  obtain ⟨p, q, rfl, rfl⟩ := h
  simp
theorem At.get {l : List UInt8} {a i : Nat} {m : List UInt8} (h : At l a m) (hi : i < m.length) : l[a + i]? = m[i]? := by
  obtain ⟨p, q, rfl, rfl⟩ := h
  rw [List.append_assoc, List.getElem?_append_right (by omega), List.getElem?_append_left (by omega)]
  congr 1
  omega
theorem At.load {l : List UInt8} {a w u : Nat} (h : At l a (leBytes w u)) (hw : isW w = true) : loadU l a w = leVal (leBytes w u) := by
  have h1 := h.le
  have h2 := h.take
  rw [leBytes_length] at h1 h2
  have h3 : (0 : Int) ≤ a ∧ (a : Int) + w ≤ l.length := by omega
  simp only [loadU, hw, h3, Int.toNat_natCast, h2, and_self, if_true]
theorem elemsB_app (w : Nat) : ∀ (vs : List Bv) (l : List UInt8), ∃ m, elemsB w l vs = l ++ m ∧ m.length = w * vs.length
  | [], l => ⟨[], by simp [elemsB]⟩
  | v :: r, l => by
    obtain ⟨m, e, h⟩ := elemsB_app w r (l ++ leBytes w (elemN w l.length v))
    refine ⟨leBytes w (elemN w l.length v) ++ m, by rw [elemsB, e, List.append_assoc], ?_⟩
    rw [List.length_append, leBytes_length, h, List.length_cons, Nat.mul_add, Nat.mul_one, Nat.add_comm]
/-- What bVec appends. -/
theorem vecB_app (t : Nat) (len tags : Bool) (l : List Bv) (b : List UInt8) : ∃ m, (bVec t len tags l b).1 = b ++ m := by
  obtain ⟨w, hw⟩ : ∃ w, fitAll b.length (if len = true then 1 else 0) none l = w := ⟨_, rfl⟩
  simp only [bVec, hw]
  obtain ⟨m, e, _⟩ := elemsB_app w l (alignB w b ++ (if len = true then leBytes w l.length else []))
  exact ⟨_, by rw [e, alignB, List.append_assoc, List.append_assoc, List.append_assoc]⟩
theorem mapB_app (k : Bv) (l : List Bv) (b : List UInt8) : ∃ m, (mapB k l b).1 = b ++ m := by
  obtain ⟨w, hw⟩ : ∃ w, fitAll b.length 3 (some k) l = w := ⟨_, rfl⟩
  simp only [mapB, hw]
  obtain ⟨m, e, _⟩ := elemsB_app w l (alignB w b ++ leBytes w ((alignB w b).length - k.n) ++ leBytes w k.w ++ leBytes w l.length)
  exact ⟨List.replicate (padN w b.length) 0 ++ (leBytes w ((alignB w b).length - k.n) ++ (leBytes w k.w ++ (leBytes w l.length ++ (m ++ l.map (bTag w))))), by rw [e]; simp only [alignB, List.append_assoc]⟩
end Go.Proofs.YtfoifdoaleaekaaGreat
