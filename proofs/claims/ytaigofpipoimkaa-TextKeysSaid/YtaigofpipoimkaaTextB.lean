/-
  Package text: the types as bytes.
-/
import Derived.Test.YtaigofpipoimkaaTextA
namespace Go.Proofs.Ytaigofpipoimkaa
open Go.RowKit Go.Acc
def tc (x : Nat) : List Value := [.int .i64 (x : Int)]
theorem tc_at {w : World} {A : Option Addr} {n k : Nat} {l : List Nat} (h : Is tc w A n l) (hk : k < n) : ∃ b off, A = some ⟨b, off, none⟩ ∧ ∃ hk : k < l.length, w.cell? ⟨b, off + k, none⟩ = some (.int .i64 (l[k] : Nat)) := by
  obtain ⟨b, off, e, hk', hc⟩ := h.at_ (fun _ => rfl) (sz := 1) (by omega) hk
  have := hc 0 (by omega)
  rw [Nat.mul_one, Nat.add_zero] at this
  exact ⟨b, off, e, hk', this⟩
set_option maxHeartbeats 1000000 in
theorem asb_spec (A : Option Addr) (n c : Nat) (ts : List Nat) (w : World) (h : Is tc w A n ts) (hn : n ≤ 100) (ht : ∀ t ∈ ts, t < 256) :
    Calls Try.prog 129 #[.slice A n c] w (CopiedB w (ts.map UInt8.ofNat)) := by
  have hlen := h.1
  subst hlen
  have HI := Lib.hid h
  have HT := Lib.hid ht
  clear h ht
  go_enter Try.func129, Try.ntmps129
  go_wp2
  go_loopw [2, 4, 7] (fun o _ i wr => ∃ (k : Nat) (A0 : Option Addr) (c0 : Nat), k ≤ ts.length ∧ i = .int .i64 k ∧ o = .slice A0 k c0 ∧ OwnB wr w.heap.size A0 k c0 ((ts.take k).map UInt8.ofNat) ∧ Below w.heap.size w wr) (fun _ _ i _ => ts.length - (intOf i).toNat)
  case atStart => exact ⟨0, none, 0, by omega, rfl, rfl, Own.nil _ _, Below.refl _ _⟩
  case round =>
    obtain ⟨k, A0, c0, hk, rfl, rfl, hO, hB⟩ := hrel
    have HO := Lib.hid hO
    have HBr := Lib.hid hB
    clear hO hB
    by_cases hlt : k < ts.length
    · obtain ⟨b, off, rfl, hkl, hc⟩ := tc_at (HI.out.pure HBr.out) hlt
      have hx := HT.out ts[k] (List.getElem_mem hkl)
      have htk : (ts.take (k + 1)).map UInt8.ofNat = (ts.take k).map UInt8.ofNat ++ [UInt8.ofNat ts[k]] := by
        rw [List.take_succ_eq_append_getElem hkl, List.map_append]; rfl
      have HTK := Lib.hid htk
      clear htk
      generalize ts[k] = t at hc hx HTK
      have hw : IntKind.u8.wrap (t : Int) = ((UInt8.ofNat t).toNat : Int) := by
        rw [IntKind.wrap_u8, UInt8.toNat_ofNat']
        omega
      go_wp2_with (at_builtin; refine wpl_app _ rfl (.tmp 11) (.tmp 14) _ rfl 5 _ 1 1 Try.underlying25 info_b rfl (by omega) bc_len bc_one _ _ _ _ _ rfl (HO.out.pure ((Below.refl _ _).alloc (Nat.le_refl _) _)) _ _ _ _ rfl (isb_new _ _ (UInt8.ofNat t) hw) (by omega) (by have := HBr.out.size; simp; omega) ?_; intro A1 c1 w4 hown hfr hat; have HO1 := Lib.hid hown; have HF1 := Lib.hid hfr; clear hown hfr hat)
      exact ⟨⟨k + 1, A1, c1, by omega, by go_num, rfl, by rw [HTK.out]; exact HO1.out, below_fr (HBr.out.alloc HBr.out.size _) HF1.out (by rintro j ⟨ad, h, rfl⟩; exact (HO.out.addr ad h).2.1)⟩, by simp [intOf]; omega⟩
    · obtain rfl : k = ts.length := by omega
      go_wp2
      go_ret
      rw [List.take_length] at HO
      exact ⟨A0, _, c0, rfl, HO.out, HBr.out⟩

/-- What find returns: the error, the place, the contents. -/
def keyE (l : List UInt8) (a : Nat) : Int := if zeroAt l a < l.length then 0 else 213
def cntE (l : List UInt8) (a v k : Nat) : Int :=
  if a % v ≠ 0 then 212 else if a < v then 211 else if l.length < a + loadU l ((a : Int) - v) v + k then 211
  else if ((l.drop (a + loadU l ((a : Int) - v) v)).take k) = List.replicate k 0 then 0 else 213
def cntL (l : List UInt8) (a v : Nat) : List UInt8 := (l.drop a).take (loadU l ((a : Int) - v) v)
def keyL (l : List UInt8) (a : Nat) : List UInt8 := (l.drop a).take (zeroAt l a - a)
/-- A found value: the place and a slice that reads as the contents wherever the bytes read as l. -/
def FoundW (w : World) (A0 : Option Addr) (n0 : Nat) (l : List UInt8) (a : Int) (m : List UInt8) (er : Int) (e : Ending) (w' : World) : Prop :=
  ∃ A n c, e = .returned (.tuple #[.agg #[.int .i64 a, .slice A n c], .int .i64 er]) ∧ (∀ w0, IsB w0 A0 n0 l → IsB w0 A n m) ∧ n ≤ c ∧ Below w.heap.size w w'
end Go.Proofs.Ytaigofpipoimkaa
