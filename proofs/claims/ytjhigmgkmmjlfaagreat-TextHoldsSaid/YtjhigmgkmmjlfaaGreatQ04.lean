/-
  Package buf: none, Err, put, Len.
  The plain table of the types: category, element type, number of elements, kind.
  Package build: the plain builder. No program in sight. A tree, the state of the builder, and what each call does to it where no error comes up.
  Package le: setting integers; the reference's Put, PutInt, Set; spoiling.
  Package le: the reference's Put, PutInt, Set; spoiling.
  Package le: spoiling bytes, bringing numbers into a range, widths.
  Package le: the examples of the chapter.
  make([]byte, n): a row of zeros of the call's own; a literal slice of bytes as a row of the call's own.
  Package buf: with, Align, Num; package width: Code.
-/
import Derived.Test.YtjhigmgkmmjlfaaGreatQ03
namespace Go.Proofs.YtjhigmgkmmjlfaaGreat
open Go.RowKit Go.Acc
/-- The buffer at block b: its bytes l, no error, room for 2^20 bytes; it belongs to 1. -/
def Buf (w : World) (o : Nat → Nat) (b : Nat) (l : List UInt8) : Prop :=
  ∃ A n c, Blk w b 227 #[.bool true, .slice A n c, .int .i64 1048576, .int .i64 0] ∧ OwnB w 0 A n c l ∧ Of o A 1 ∧ o b = 1
/-- A call that leaves the buffer with the bytes l. -/
def BufTo (w : World) (o : Nat → Nat) (b : Nat) (l : List UInt8) (e : Ending) (w' : World) : Prop :=
  e = .returned (.tuple #[]) ∧ ∃ o', Buf w' o' b l ∧ To (fun i => i = 1) w o w' o'
section
variable {I : Nat → Prop} {w w' : World} {o o' : Nat → Nat} {b : Nat} {l : List UInt8}
theorem Buf.to_ (h : Buf w o b l) (ht : To I w o w' o') (hI : ¬ I 1) : Buf w' o' b l := by
  obtain ⟨A, n, c, hb, ho, h1, h2⟩ := h
  exact ⟨A, n, c, hb.to_ ht (by rw [h2]; exact hI), ho.to_ h1 ht hI, h1.to_ ho ht, by rw [ht.ow _ hb.lt]; exact h2⟩
theorem Buf.pure (h : Buf w o b l) (ht : Below w.heap.size w w') : Buf w' o b l := h.to_ (To.pure (fun _ => False) ht o) id
theorem Buf.drew (h : Buf w o b l) : Buf w.drew o b l := h
theorem Buf.drewN (n : Nat) (h : Buf w o b l) : Buf (w.drewN n) o b l := h
theorem Buf.alloc (h : Buf w o b l) (x : Obj) : Buf (w.alloc x) o b l := h.pure ((Below.refl _ _).alloc (Nat.le_refl _) x)
theorem BufTo.from_pure {w0 : World} {e : Ending} (hb : Below w0.heap.size w0 w) (h : BufTo w o b l e w') : BufTo w0 o b l e w' := by
  obtain ⟨h1, o', h2, h3⟩ := h
  exact ⟨h1, o', h2, h3.from_pure hb⟩
theorem Buf.fresh (h : Buf w o b l) (hb : Below w.heap.size w w') (i : Nat) : Buf w' (newO o w.heap.size i) b l := h.to_ (To.fresh (fun _ => False) hb o i) id
theorem BufTo.from_fresh {w0 : World} {i : Nat} {e : Ending} (hb : Below w0.heap.size w0 w) (h : BufTo w (newO o w0.heap.size i) b l e w') : BufTo w0 o b l e w' := by
  obtain ⟨h1, o', h2, h3⟩ := h
  exact ⟨h1, o', h2, (To.fresh _ hb o i).trans h3⟩
theorem Buf.lt (h : Buf w o b l) : b < w.heap.size := by obtain ⟨A, n, c, hb, _⟩ := h; exact hb.lt
theorem Buf.own (h : Buf w o b l) : o b = 1 := by obtain ⟨A, n, c, _, _, _, h⟩ := h; exact h
end
theorem bnone_spec (b : Nat) (w : World) (h : w.cell? ⟨b, 0, none⟩ = some (.bool true)) :
    Calls Tryz.prog 217 #[.pointer (some ⟨b, 0, none⟩)] w fun e w' => e = .returned (.bool false) ∧ w = w' := by
  go_enter Tryz.func217, Tryz.ntmps217
  go_wp2
  go_ret
  exact ⟨rfl, rfl⟩
theorem berr_spec (b : Nat) (w : World) (h : w.cell? ⟨b, 0, none⟩ = some (.bool true)) (h3 : w.cell? ⟨b, 3, none⟩ = some (.int .i64 0)) :
    Calls Tryz.prog 224 #[.pointer (some ⟨b, 0, none⟩)] w fun e w' => e = .returned (.int .i64 0) ∧ w = w' := by
  go_enter Tryz.func224, Tryz.ntmps224
  go_wp2_with (go_at_call 217; refine (bnone_spec b _ (by assumption)).mono ?_; rintro e w' ⟨rfl, rfl⟩)
  go_ret
  exact ⟨rfl, rfl⟩
theorem blen_spec (b n c : Nat) (A : Option Addr) (w : World) (h : w.cell? ⟨b, 0, none⟩ = some (.bool true)) (h3 : w.cell? ⟨b, 1, none⟩ = some (.slice A n c)) :
    Calls Tryz.prog 150 #[.pointer (some ⟨b, 0, none⟩)] w fun e w' => e = .returned (.int .i64 n) ∧ w = w' := by
  go_enter Tryz.func150, Tryz.ntmps150
  go_wp2_with (go_at_call 217; refine (bnone_spec b _ (by assumption)).mono ?_; rintro e w' ⟨rfl, rfl⟩)
  go_ret
  exact ⟨rfl, rfl⟩
theorem berr_is {w : World} {o : Nat → Nat} {b : Nat} {l : List UInt8} (h : Buf w o b l) : Calls Tryz.prog 224 #[.pointer (some ⟨b, 0, none⟩)] w fun e w' => e = .returned (.int .i64 0) ∧ w = w' := by
  obtain ⟨A, n, c, hb, _⟩ := h
  exact berr_spec b w (hb.cell 0) (hb.cell 3)
theorem blen_is {w : World} {o : Nat → Nat} {b : Nat} {l : List UInt8} (n : Nat) (h : Buf w o b l) (hn : l.length = n) : Calls Tryz.prog 150 #[.pointer (some ⟨b, 0, none⟩)] w fun e w' => e = .returned (.int .i64 n) ∧ w = w' := by
  obtain ⟨A, n', c, hb, ho, _⟩ := h
  obtain rfl : n = n' := by rw [← hn, ho.1]
  exact blen_spec b n c A w (hb.cell 0) (hb.cell 1)
theorem put_post {w w1 : World} {o : Nat → Nat} {A A1 : Option Addr} {b n c n2 c1 : Nat} {l x : List UInt8} (hb : Blk w b 227 #[.bool true, .slice A n c, .int .i64 1048576, .int .i64 0]) (ho : OwnB w 0 A n c l) (h1 : Of o A 1) (h2 : o b = 1)
    (hw : OwnB w1 0 A1 (n + n2) c1 (l ++ x)) (hf : Fr (fun k => ∃ ad, A = some ad ∧ k = ad.block) w w1) (hat : A1.map (·.block) = A.map (·.block) ∨ A1.map (·.block) = some w.heap.size)
    (hb1 : Blk w1 b 227 #[.bool true, .slice A n c, .int .i64 1048576, .int .i64 0]) :
    ∃ o', Buf (w1.setCell ⟨b, 1, none⟩ (.slice A1 (n + n2) c1)) o' b (l ++ x) ∧ To (fun i => i = 1) w o (w1.setCell ⟨b, 1, none⟩ (.slice A1 (n + n2) c1)) o' := by
  have hset : Fr (fun k => k = b) w1 (w1.setCell ⟨b, 1, none⟩ (.slice A1 (n + n2) c1)) := Fr.setCell (S := fun k => k = b) (Fr.refl _ _) (fun _ => rfl) _
  refine ⟨newO o w.heap.size 1, ⟨A1, n + n2, c1, by have := hb1.set_ 1 (.slice A1 (n + n2) c1); simpa using this, hw.fr hset ?_, h1.grown ho (Nat.le_refl _) hat rfl, by rw [newO_old hb.lt]; exact h2⟩, To.of_fr ((hf.mono (T := fun k => o k = 1) ?_).setCell (fun _ => h2) _) (fun _ _ h => h) 1⟩
  · rintro ad rfl rfl
    exact own_blk_ne hw.2 hb1 (by decide) (by simp [Value.ownBlock])
  · rintro i _ ⟨ad, rfl, rfl⟩
    exact h1 ad rfl
set_option maxHeartbeats 400000 in
theorem bput_spec (b m d : Nat) (X : Option Addr) (l x : List UInt8) (w : World) (o : Nat → Nat) (h : Buf w o b l) (hx : IsB w X m x) (hm : l.length + m ≤ 1048576) :
    Calls Tryz.prog 220 #[.pointer (some ⟨b, 0, none⟩), .slice X m d] w (BufTo w o b (l ++ x)) := by
  obtain ⟨A, n, c, hb, ho, h1, h2⟩ := h
  have c0 : w.cell? ⟨b, 0, none⟩ = some (.bool true) := hb.cell 0
  have c1 : w.cell? ⟨b, 1, none⟩ = some (.slice A n c) := hb.cell 1
  have c2 : w.cell? ⟨b, 2, none⟩ = some (.int .i64 1048576) := hb.cell 2
  have c3 : w.cell? ⟨b, 3, none⟩ = some (.int .i64 0) := hb.cell 3
  rw [ho.1] at hm
  have hne : ∀ ad, A = some ad → ad.block ≠ b := by
    rintro ad rfl e
    exact own_blk_ne ho.2 hb (by decide) (by simp [Value.ownBlock, e])
  have HO := Lib.hid ho
  have HX := Lib.hid hx
  have HB := Lib.hid hb
  have HN := Lib.hid hne
  have H1 := Lib.hid h1
  have H2 := Lib.hid h2
  have hlt := hb.lt
  clear hb ho hx hne h1 h2
  go_enter Tryz.func220, Tryz.ntmps220
  go_wp2_with (go_at_call 224; refine (berr_spec b _ (by assumption) (by assumption)).mono ?_; rintro e w' ⟨rfl, rfl⟩)
  go_quiet (fail)
  go_wp2_with (at_builtin; refine wpl_app _ rfl (.tmp 8) (.tmp 9) _ rfl 5 _ 1 1 Tryz.underlying29 info_b rfl (by omega) bc_len bc_one _ _ _ _ _ rfl HO.out _ _ _ _ rfl HX.out (by omega) (Nat.zero_le _) ?_; intro A1 d1 w1 hown1 hfr0 hat1; have hfr1 := ((Fr.refl _ w).drewN _).trans hfr0 (fun _ _ h => h); have B1 := HB.out.fr hfr1 (by rintro ⟨ad, h, h'⟩; exact HN.out ad h h'.symm); have f1 := B1.frozen 1; have d1 : w1.cell? ⟨b, 1, none⟩ = some (.slice A n c) := B1.cell 1; have HB1 := Lib.hid B1; clear B1 c0 c1 c2 c3)
  go_end0
  exact ⟨rfl, put_post HB.out HO.out H1.out H2.out hown1 hfr1 hat1 HB1.out⟩
end Go.Proofs.YtjhigmgkmmjlfaaGreat

namespace Go.Acc
/-- The category (1 inline, 2 offset, 3 vector; 0 is no type), the elements' type and their number, by type. -/
def tRows : List (Int × Int × Int) :=
  [(1, 0, 0), (1, 0, 0), (1, 0, 0), (0, 0, 0), (2, 0, 0), (2, 0, 0), (2, 0, 0), (2, 0, 0), (0, 0, 0), (2, 0, 0), (2, 0, 0), (3, 1, 0), (3, 2, 0), (0, 0, 0), (3, 4, 0), (0, 0, 0),
   (3, 1, 2), (3, 2, 2), (0, 0, 0), (3, 1, 3), (3, 2, 3), (0, 0, 0), (3, 1, 4), (3, 2, 4), (0, 0, 0), (2, 0, 0), (1, 0, 0), (0, 0, 0), (0, 0, 0), (0, 0, 0), (0, 0, 0), (0, 0, 0), (0, 0, 0), (0, 0, 0), (0, 0, 0), (0, 0, 0), (3, 26, 0)]
/-- The kind of each type. -/
def tKinds : List Int := [1, 3, 4, 0, 5, 6, 8, 9, 0, 17, 10, 11, 12, 0, 13, 0, 15, 16, 0, 15, 16, 0, 15, 16, 0, 7, 2, 0, 0, 0, 0, 0, 0, 0, 0, 0, 14]
def isT (t : Int) : Bool := decide (0 ≤ t ∧ t < 37)
def tRow (t : Int) : Int × Int × Int := if isT t = true then tRows.getD t.toNat (0, 0, 0) else (0, 0, 0)
def legalT (t : Int) : Bool := (tRow t).1 != 0
def inlineT (t : Int) : Bool := (tRow t).1 == 1
def vecT (t : Int) : Bool := (tRow t).1 == 3
def elemT (t : Int) : Int := (tRow t).2.1
def manyT (t : Int) : Int := (tRow t).2.2
def kindT (t : Int) : Int := if isT t = true then tKinds.getD t.toNat 0 else 0
def t37 : List Int := [0, 1, 2, 3, 4, 5, 6, 7, 8, 9, 10, 11, 12, 13, 14, 15, 16, 17, 18, 19, 20, 21, 22, 23, 24, 25, 26, 27, 28, 29, 30, 31, 32, 33, 34, 35, 36]
theorem isT_iff {t : Int} : isT t = true ↔ 0 ≤ t ∧ t < 37 := by simp [isT]
/-- A fact on all numbers from 0 to 36, one by one. -/
theorem t37_all {p : Int → Prop} (h : ∀ n : Fin 37, p ((n.val : Nat) : Int)) {t : Int} (ht : isT t = true) : p t := by
  have ht := isT_iff.1 ht
  obtain ⟨n, rfl⟩ := Int.eq_ofNat_of_zero_le ht.1
  exact h ⟨n, by omega⟩
theorem tRow_no {t : Int} (h : isT t = false) : tRow t = (0, 0, 0) := by simp [tRow, h]
theorem kindT_no {t : Int} (h : isT t = false) : kindT t = 0 := by simp [kindT, h]
theorem legal_isT {t : Int} (h : legalT t = true) : isT t = true := by
  cases e : isT t with
  | true => rfl
  | false => simp [legalT, tRow_no e] at h
theorem legal_kind {t : Int} (h : legalT t = false) : kindT t = 0 := by
  cases e : isT t with
  | false => exact kindT_no e
  | true =>
    revert h
    exact t37_all (p := fun t => legalT t = false → kindT t = 0) (by decide) e
theorem inline_legal {t : Int} (h : inlineT t = true) : legalT t = true := by
  unfold inlineT at h
  unfold legalT
  rw [eq_of_beq h]
  rfl
/-- What a tag says: the type, the width, the error. -/
def unT (c : UInt8) : Int := if legalT ((c.toNat : Int) / 4) = true then (c.toNat : Int) / 4 else 0
def unW (c : UInt8) : Int := if legalT ((c.toNat : Int) / 4) = true then 2 ^ (c.toNat % 4) else 0
def unE (c : UInt8) : Int := if legalT ((c.toNat : Int) / 4) = true then 0 else 20
theorem inline_no {t : Int} (h0 : t ≠ 0) (h1 : t ≠ 1) (h2 : t ≠ 2) (h3 : t ≠ 26) : inlineT t = false := by
  cases e : isT t with
  | false => simp [inlineT, tRow_no e]
  | true =>
    revert h0 h1 h2 h3
    exact t37_all (p := fun t => t ≠ 0 → t ≠ 1 → t ≠ 2 → t ≠ 26 → inlineT t = false) (by decide) e
end Go.Acc

namespace Go.Proofs.YtjhigmgkmmjlfaaGreat
open Go.Acc
/-- A tree: its kind, its two numbers, its string, its keys, its children. -/
inductive Tr where
  | mk (k n : Int) (u : Nat) (s : List UInt8) (ks : List (List UInt8)) (l : List Tr)
namespace Tr
def k : Tr → Int | .mk k _ _ _ _ _ => k
def n : Tr → Int | .mk _ n _ _ _ _ => n
def u : Tr → Nat | .mk _ _ u _ _ _ => u
def s : Tr → List UInt8 | .mk _ _ _ s _ _ => s
def ks : Tr → List (List UInt8) | .mk _ _ _ _ ks _ => ks
def l : Tr → List Tr | .mk _ _ _ _ _ l => l
end Tr
/-- A value of the builder: its type, its width, its number (an inline value, or a place). -/
structure Bv where
  t : Nat
  w : Nat
  n : Nat
/-- The state: the bytes, the stack, the pools (the first that was put counts), the names by place, the lists of keys that were written. -/
structure Bd where
  b : List UInt8
  s : List Bv
  keys : List (List UInt8 × Nat)
  texts : List (List UInt8 × Nat)
  lists : List (List UInt8 × Nat)
  names : List (Nat × List UInt8)
  vals : List Bv
def bWidth (u : Nat) : Nat := if u < 256 then 1 else if u < 65536 then 2 else if u < 4294967296 then 4 else 8
def bWidthI (n : Int) : Nat := if -128 ≤ n ∧ n < 128 then 1 else if -32768 ≤ n ∧ n < 32768 then 2 else if -2147483648 ≤ n ∧ n < 2147483648 then 4 else 8
/-- An integer's bits. -/
def bits (n : Int) : Nat := (n % 18446744073709551616).toNat
def padN (w n : Nat) : Nat := (w - n % w) % w
def alignB (w : Nat) (l : List UInt8) : List UInt8 := l ++ List.replicate (padN w l.length) 0
def inl (t : Nat) : Bool := inlineT t
/-- A place, taken up to a multiple of w. -/
def upN (n w : Nat) : Nat := (n + w - 1) / w * w
def fitsV (v : Bv) (a i w : Nat) : Bool := if inl v.t = true then decide (v.w ≤ w) else decide (v.n ≤ a ∧ bWidth (upN a w + i * w - v.n) ≤ w)
def leastW (f : Nat → Bool) : Nat := if f 1 = true then 1 else if f 2 = true then 2 else if f 4 = true then 4 else if f 8 = true then 8 else 0
def fitsL (a w : Nat) : Nat → List Bv → Bool
  | _, [] => true
  | i, v :: r => fitsV v a i w && fitsL a w (i + 1) r
def fitK (a w : Nat) : Option Bv → Bool
  | none => true
  | some k => fitsV k a 0 w
def fitF (a ahead : Nat) (k : Option Bv) (l : List Bv) (w : Nat) : Bool := (decide (ahead = 0) || decide (bWidth l.length ≤ w)) && fitK a w k && fitsL a w ahead l
def fitAll (a ahead : Nat) (k : Option Bv) (l : List Bv) : Nat := leastW (fitF a ahead k l)
/-- The bytes of one element at the place where the bytes end. -/
def elemN (w a : Nat) (v : Bv) : Nat := if inl v.t = true then v.n % 2 ^ (8 * w) else a - v.n
def elemsB (w : Nat) : List UInt8 → List Bv → List UInt8
  | l, [] => l
  | l, v :: r => elemsB w (l ++ leBytes w (elemN w l.length v)) r
def bCode (w : Nat) : Nat := if w = 1 then 0 else if w = 2 then 1 else if w = 4 then 2 else 3
def bTag (w : Nat) (v : Bv) : UInt8 := UInt8.ofNat (4 * v.t + bCode (if inl v.t = true then w else v.w))
/-- A vector: t its type, len whether its length stands ahead, tags whether its tags stand behind. -/
def bVec (t : Nat) (len tags : Bool) (l : List Bv) (b : List UInt8) : List UInt8 × Bv :=
  let w := fitAll b.length (if len = true then 1 else 0) none l
  let c := alignB w b ++ (if len = true then leBytes w l.length else [])
  (elemsB w c l ++ (if tags = true then l.map (bTag w) else []), ⟨t, w, c.length⟩)
/-- A map: its keys' vector k, its values. -/
def mapB (k : Bv) (l : List Bv) (b : List UInt8) : List UInt8 × Bv :=
  let w := fitAll b.length 3 (some k) l
  let a := alignB w b
  let c := a ++ leBytes w (a.length - k.n) ++ leBytes w k.w ++ leBytes w l.length
  (elemsB w c l ++ l.map (bTag w), ⟨9, w, c.length⟩)
def getP (l : List (List UInt8 × Nat)) (k : List UInt8) : Option Nat := (l.find? fun x => x.1 == k).map (·.2)
def putP (l : List (List UInt8 × Nat)) (k : List UInt8) (a : Nat) : List (List UInt8 × Nat) := if (getP l k).isSome = true then l else l ++ [(k, a)]
def onF (f b : Nat) : Bool := decide (f / b % 2 = 1)
def Bd.push (b : Bd) (v : Bv) : Bd := { b with s := b.s ++ [v] }
/-- A key is written, or found. -/
def Bd.put (f : Nat) (s : List UInt8) (b : Bd) : Bd × Bv :=
  match (if onF f 1 = true then getP b.keys s else none) with
  | some a => (b, ⟨4, 1, a⟩)
  | none => ({ b with b := b.b ++ s ++ [0], keys := putP b.keys s b.b.length, names := (b.b.length, s) :: b.names }, ⟨4, 1, b.b.length⟩)
def Bd.key (f : Nat) (s : List UInt8) (b : Bd) : Bd := let x := b.put f s; x.1.push x.2
def Bd.puts (f : Nat) : List (List UInt8) → Bd → Bd × List Bv
  | [], b => (b, [])
  | s :: r, b => let x := b.put f s; let y := Bd.puts f r x.1; (y.1, x.2 :: y.2)
def Bd.apart (t : Nat) (w n : Nat) (b : Bd) : Bd :=
  let c := alignB w b.b
  { b with b := c ++ leBytes w (n % 2 ^ (8 * w)), s := b.s ++ [⟨t, w, c.length⟩] }
def Bd.blob (s : List UInt8) (b : Bd) : Bd :=
  let w := bWidth s.length
  let c := alignB w b.b ++ leBytes w s.length
  { b with b := c ++ s, s := b.s ++ [⟨25, w, c.length⟩] }
def Bd.str (f : Nat) (s : List UInt8) (b : Bd) : Bd :=
  let w := bWidth s.length
  match (if onF f 2 = true then getP b.texts s else none) with
  | some a => b.push ⟨5, w, a⟩
  | none =>
    let c := alignB w b.b ++ leBytes w s.length
    { b with b := c ++ s ++ [0], s := b.s ++ [⟨5, w, c.length⟩], texts := putP b.texts s c.length }
def Bd.vec (t : Nat) (len tags : Bool) (l : List Bv) (b : Bd) : Bd :=
  let x := bVec t len tags l b.b
  { b with b := x.1, s := b.s ++ [x.2] }
def Bd.endVec (start : Nat) (b : Bd) : Bd := Bd.vec 10 true true (b.s.drop start) { b with s := b.s.take start }
/-- Every other one of the values, from the first on, and from the second on. -/
def evens : List Bv → List Bv
  | [] => []
  | [v] => [v]
  | v :: _ :: r => v :: evens r
def odds (l : List Bv) : List Bv := evens l.tail
/-- The map of the values above start; keys: their strings, in order. -/
def Bd.endMap (f : Nat) (keys : List (List UInt8)) (start : Nat) (b : Bd) : Bd :=
  let vs := b.s.drop start
  let c := { b with s := b.s.take start }
  let list := keys.flatMap fun s => s ++ [0]
  match (if onF f 4 = true then getP c.lists list else none) with
  | some i => let x := mapB (c.vals.getD i ⟨0, 0, 0⟩) (odds vs) c.b; { c with b := x.1, s := c.s ++ [x.2] }
  | none =>
    let y := bVec 14 true false (evens vs) c.b
    let x := mapB y.2 (odds vs) y.1
    { c with b := x.1, s := c.s ++ [x.2], vals := c.vals ++ [y.2], lists := putP c.lists list c.vals.length }
def numV (n : Int) : Bv := ⟨1, bWidthI n, bits n⟩
def unsV (u : Nat) : Bv := ⟨2, bWidth u, u⟩
def truthV (n : Int) : Bv := ⟨26, 1, if n = 1 then 1 else 0⟩
def Bd.leaf (f : Nat) (k n : Int) (u : Nat) (s : List UInt8) (b : Bd) : Bd :=
  if k = 1 then b.push ⟨0, 1, 0⟩
  else if k = 2 then b.push (truthV n)
  else if k = 3 then b.push (numV n)
  else if k = 4 then b.push (unsV u)
  else if k = 5 then b.key f s
  else if k = 6 then b.str f s
  else if k = 7 then b.blob s
  else if k = 8 then b.apart 6 (bWidthI n) (bits n)
  else if k = 9 then b.apart 7 (bWidth u) u
  else b
def Bd.flat (f : Nat) (k : Int) (l : List Tr) (b : Bd) : Bd :=
  if k = 11 then b.vec 11 true false (l.map fun t => numV t.n)
  else if k = 12 then b.vec 12 true false (l.map fun t => unsV t.u)
  else if k = 14 then b.vec 36 true false (l.map fun t => truthV t.n)
  else if k = 13 then let x := b.puts f (l.map Tr.s); x.1.vec 14 true false x.2
  else if k = 15 then b.vec (10 + 3 * l.length) false false (l.map fun t => numV t.n)
  else b.vec (11 + 3 * l.length) false false (l.map fun t => unsV t.u)
mutual
/-- The calls for a node of a valid tree whose maps are sorted. -/
def Bd.calls (f : Nat) : Tr → Bd → Bd
  | .mk k n u s ks l, b =>
    if k = 10 then (Bd.callsL f l b).endVec b.s.length
    else if k = 17 then (Bd.callsM f ks l b).endMap f ks b.s.length
    else if k ≤ 9 then b.leaf f k n u s
    else b.flat f k l
def Bd.callsL (f : Nat) : List Tr → Bd → Bd
  | [], b => b
  | t :: r, b => Bd.callsL f r (Bd.calls f t b)
def Bd.callsM (f : Nat) : List (List UInt8) → List Tr → Bd → Bd
  | _, [], b => b
  | ks, t :: r, b => Bd.callsM f ks.tail r (Bd.calls f t (b.key f (ks.headD [])))
end
def Bd.new : Bd := ⟨[], [], [], [], [], [], []⟩
/-- The document: the last value's element, its tag, its width. -/
def Bd.finish (b : Bd) : List UInt8 :=
  match b.s with
  | [v] =>
    let w := leastW (fitsV v b.b.length 0)
    let c := alignB w b.b
    c ++ leBytes w (elemN w c.length v) ++ [bTag w v, UInt8.ofNat w]
  | _ => []
def bBuild (f : Nat) (t : Tr) : List UInt8 := (Bd.calls f t Bd.new).finish
end Go.Proofs.YtjhigmgkmmjlfaaGreat

namespace Go.Proofs.YtjhigmgkmmjlfaaGreat
open Go.RowKit Go.Acc


def setE (n : Nat) (a x : Int) (b : Bool) : Int := if loadE n a x = 0 then (if b = true then 0 else 10) else loadE n a x
def setB (l : List UInt8) (a x : Int) (u : Nat) (b : Bool) : List UInt8 := if loadE l.length a x = 0 ∧ b = true then l.take a.toNat ++ leBytes x.toNat u ++ l.drop (a.toNat + x.toNat) else []
end Go.Proofs.YtjhigmgkmmjlfaaGreat

namespace Go.Proofs.YtjhigmgkmmjlfaaGreat
open Go.RowKit Go.Acc

end Go.Proofs.YtjhigmgkmmjlfaaGreat

namespace Go.Proofs.YtjhigmgkmmjlfaaGreat
open Go.RowKit Go.Acc

theorem tmod_pos {i n : Int} (hn : 0 < n) (h : 0 ≤ i.tmod n) : i.tmod n = i % n := by
  have h1 := Int.tmod_lt_of_pos i hn
  have h2 : (i.tmod n) % n = i % n := by rw [Int.tmod_def, Int.sub_emod, Int.mul_emod_right]; simp
  rw [← h2, Int.emod_eq_of_lt h h1]
theorem tmod_neg {i n : Int} (hn : 0 < n) (h : i.tmod n < 0) : i.tmod n + n = i % n ∧ 0 ≤ i.tmod n + n := by
  have h1 : -n < i.tmod n := by
    have := Int.lt_tmod_of_pos i hn
    omega
  have h2 : (i.tmod n + n) % n = i % n := by rw [Int.add_emod_right, Int.tmod_def, Int.sub_emod, Int.mul_emod_right]; simp
  exact ⟨by rw [← h2, Int.emod_eq_of_lt (by omega) (by omega)], by omega⟩
set_option maxHeartbeats 400000 in
theorem bring_spec (i n : Int) (w : World) (h0 : 0 < n) (hn : n ≤ 9223372036854775807):
    Calls Tryz.prog 14 #[.int .i64 i, .int .i64 n] w fun e w' => e = .returned (.int .i64 (i % n)) ∧ w = w' := by
  by_cases h : 0 ≤ i.tmod n
  · have H := Lib.hid (tmod_pos h0 h)
    go_enter Tryz.func14, Tryz.ntmps14
    go_wp2
    go_ret
    exact ⟨ret_int H.out, rfl⟩
  · have h' : i.tmod n < 0 := by omega
    have H := Lib.hid (tmod_neg h0 h').1
    have hlo := (tmod_neg h0 h').2
    clear h
    go_enter Tryz.func14, Tryz.ntmps14
    go_wp2
    go_ret
    exact ⟨ret_int H.out, rfl⟩
/-- One of the four widths. -/
def wd (n : Int) : Nat := 2 ^ (n % 4).toNat
theorem wd_isW (n : Int) : isW (wd n : Int) = true := by
  have : n % 4 = 0 ∨ n % 4 = 1 ∨ n % 4 = 2 ∨ n % 4 = 3 := by omega
  unfold wd
  rcases this with h | h | h | h <;> rw [h] <;> decide
end Go.Proofs.YtjhigmgkmmjlfaaGreat

namespace Go.Proofs.YtjhigmgkmmjlfaaGreat
open Go.RowKit Go.Acc

theorem isb_lit (w : World) (vs : Array Value) (l : List UInt8) (n : Nat) (hn : l.length = n) (h : vs.toList = l.flatMap bc) : IsB (w.alloc (.cells vs 5)) (some ⟨w.heap.size, 0, none⟩) n l :=
  ⟨hn, fun j u hj => ⟨_, _, rfl, by rw [(Blk.new w 5 vs).cell, Nat.zero_add, ← Array.getElem?_toList, h]; exact hj⟩⟩

theorem isb_lit2 (w : World) (o : Obj) (vs : Array Value) (l : List UInt8) (n : Nat) (hn : l.length = n) (h : vs.toList = l.flatMap bc) : IsB ((w.alloc o).alloc (.cells vs 5)) (some ⟨w.heap.size + 1, 0, none⟩) n l := by
  have h := isb_lit (w.alloc o) vs l n hn h
  have e : (w.alloc o).heap.size = w.heap.size + 1 := by simp
  rw [e] at h
  exact h
theorem isb_lit3 (w : World) (o o2 : Obj) (vs : Array Value) (l : List UInt8) (n : Nat) (hn : l.length = n) (h : vs.toList = l.flatMap bc) : IsB (((w.alloc o).alloc o2).alloc (.cells vs 5)) (some ⟨w.heap.size + 1 + 1, 0, none⟩) n l := by
  have h := isb_lit2 (w.alloc o) o2 vs l n hn h
  have e : (w.alloc o).heap.size = w.heap.size + 1 := by simp
  rw [e] at h
  exact h
theorem loadi_is (A : Option Addr) (n c : Nat) (a x : Int) (l : List UInt8) (w : World) (v er : Int) (hl : IsB w A n l) (hc : n ≤ c) (hn : n ≤ 9223372036854775807) (h1 : loadI l a x = v) (h2 : loadE n a x = er) :
    Calls Tryz.prog 228 #[.slice A n c, .int .i64 a, .int .i64 x] w fun e w' => e = .returned (.tuple #[.int .i64 v, .int .i64 er]) ∧ Below w.heap.size w w' := by
  subst h1 h2
  exact loadi_spec A n c a x l w hl hc hn
theorem put_is (A : Option Addr) (n c : Nat) (u x : Int) (U : Nat) (l m : List UInt8) (er : Int) (w : World) (h : IsB w A n l) (hc : n ≤ c) (hn : n ≤ 1099511627776) (hU : u = U) (hu : (U : Int) < 18446744073709551616)
    (h1 : putB l x U (fitsU x.toNat U) = m) (h2 : putE x (fitsU x.toNat U) = er) : Calls Tryz.prog 222 #[.slice A n c, .int .i64 x, .int .u64 u] w (PutW w m er) := by
  subst h1 h2 hU
  exact put_spec A n c U x l w h hc hn hu
end Go.Proofs.YtjhigmgkmmjlfaaGreat

namespace Go.Proofs.YtjhigmgkmmjlfaaGreat
open Go.RowKit Go.Acc
theorem made_bc (n : Nat) : (madeCells #[.int .u8 0] n).toList = (List.replicate n (0 : UInt8)).flatMap bc := by
  apply List.ext_getElem?
  intro j
  by_cases hj : j < n
  · have h1 := fm_at bc_len (List.replicate n (0 : UInt8)) j 0 (by simpa using hj) (by omega)
    rw [Nat.mul_one, Nat.add_zero, List.getElem_replicate] at h1
    rw [h1]
    simp [madeCells, hj, bc, Nat.mod_one]
  · rw [List.getElem?_eq_none (by simp [madeCells]; omega), List.getElem?_eq_none (by rw [fm_length bc_len]; simp; omega)]
theorem make_b (n : Nat) (hn : n ≤ 1099511627776) : ∃ Z : Array Value, Z.size = n ∧ Z.toList = (List.replicate n (0 : UInt8)).flatMap bc ∧ ∀ W : World, (Instr.makeSlice 29 (.int .i64 (n : Int)) (.int .i64 (n : Int))).run Tryz.prog W = .ok (.slice (some ⟨W.heap.size, 0, none⟩) n n) (W.alloc (.cells Z 5)) := by
  obtain ⟨i, hi, hz, hs, hb⟩ := info_parts info_b
  have hm := made_bc n
  refine ⟨_, ?_, hm, fun W => ?_⟩
  · have := congrArg List.length hm
    rw [fm_length bc_len] at this
    simpa using this
  · have hr := run_make (P := Tryz.prog) W 29 5 i _ Tryz.underlying29 hi hz .i64 .i64 n n (by omega) (Int.le_refl _) (by rw [hb]; omega) (by omega)
    simp only [Int.toNat_natCast, hs, Nat.mul_one] at hr
    exact hr
theorem ownb_lit (W : World) (Z : Array Value) (n B : Nat) (l : List UInt8) (hB : B ≤ W.heap.size) (hn : l.length = n) (hm : n ≤ 1099511627776) (hZ : Z.toList = l.flatMap bc) : OwnB (W.alloc (.cells Z 5)) B (some ⟨W.heap.size, 0, none⟩) n n l := by
  refine ⟨hn, ?_⟩
  have hs : Z.size = n * 1 := by rw [← Array.length_toList, hZ, fm_length bc_len, hn]
  have := World.ownsRow_lit (base := B) (e := 5) (size := 1) W Z n hB (by simp only [maxLen]; omega) hs
  rw [hZ] at this
  exact this
theorem ownb_at {W : World} {g : Nat} (Z : Array Value) (n : Nat) (l : List UInt8) (hg : W.heap.size = g) (hn : l.length = n) (hm : n ≤ 1099511627776) (hZ : Z.toList = l.flatMap bc) : OwnB (W.alloc (.cells Z 5)) g (some ⟨g, 0, none⟩) n n l := by
  subst hg
  exact ownb_lit W Z n _ l (Nat.le_refl _) hn hm hZ
end Go.Proofs.YtjhigmgkmmjlfaaGreat

namespace Go.Proofs.YtjhigmgkmmjlfaaGreat
open Go.RowKit Go.Acc
set_option maxHeartbeats 400000 in
theorem wcode_spec (x : Int) (w : World) (h : isW x = true) : Calls Tryz.prog 103 #[.int .i64 x] w fun e w' => (∃ c : Int, e = .returned (.tuple #[.int .i64 c, .int .i64 0])) ∧ w = w' := by
  rcases isW_iff.1 h with rfl | rfl | rfl | rfl
  all_goals
    clear h
    go_enter Tryz.func103, Tryz.ntmps103
    go_wp2
    refine wp_loop_rounds 5 ?_
    repeat (rw [rounds_succ]; go_wp2)
    all_goals
      go_ret2
      exact ⟨⟨_, rfl⟩, rfl⟩
theorem bwith_spec (b : Nat) (x : Int) (F : Nat) (caps : Array Value) (w : World) (R : Ending → World → Prop) (hx : isW x = true)
    (hF : ∀ (args : Array Value) (w : World), (callFunc F args).run Tryz.prog w = .ok (.enter F args) w)
    (h : Calls Tryz.prog F caps w fun e w' => e = .returned (.tuple #[]) ∧ R e w') :
    Calls Tryz.prog 218 #[.pointer (some ⟨b, 0, none⟩), .int .i64 x, .func (.func F) #[] caps] w R := by
  have HX := Lib.hid hx
  have HC := Lib.hid h
  clear hx h
  go_enter Tryz.func218, Tryz.ntmps218
  go_wp2_with (go_at_call 103; refine (wcode_spec x _ HX.out).mono ?_; rintro e w' ⟨⟨c, rfl⟩, rfl⟩)
  refine HC.out.mono ?_
  rintro e w' ⟨rfl, hR⟩
  have HR := Lib.hid hR
  clear hR hF
  go_wp2
  go_end0
  exact HR.out
end Go.Proofs.YtjhigmgkmmjlfaaGreat
