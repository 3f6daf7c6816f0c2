/-
  Package le: spoiling bytes, bringing numbers into a range, widths.
-/
import Derived.Test.YtdoagpophikgjaaLeG
namespace Go.Proofs.Ytdoagpophikgjaa
open Go.RowKit Go.Acc

set_option maxHeartbeats 1000000 in
theorem spoil_spec (A : Option Addr) (n c B : Nat) (l : List UInt8) (w : World) (h : OwnB w B A n c l) :
    Calls Try.prog 45 #[.slice A n c] w fun e w' => e = .returned (.tuple #[]) ∧ Fr (fun k => ∃ ad, A = some ad ∧ k = ad.block) w w' := by
  rcases A with _ | ad
  · obtain ⟨rfl, rfl⟩ := h.is.none_ bc_len (by omega)
    clear h
    go_enter Try.func45, Try.ntmps45
    go_wp2
    go_loopw [2] (fun i wr => i = .int .i64 0 ∧ wr = w) (fun _ _ => 0)
    case atStart => exact ⟨rfl, rfl⟩
    case round =>
      obtain ⟨rfl, rfl⟩ := hrel
      go_wp2
      go_end0
      exact ⟨rfl, Fr.refl _ _⟩
  · obtain ⟨had, hge, hlt⟩ := h.addr ad rfl
    obtain ⟨g, rfl⟩ : ∃ g, ad = ⟨g, 0, none⟩ := ⟨_, had⟩
    obtain ⟨cur, hK, hsz, _⟩ := own_seg h
    have hby : ∀ j, j < n → ∃ x : UInt8, cur[j]? = some (.int .u8 (x.toNat : Int)) := fun j hj => by
      obtain ⟨b, off, e, hk, hc⟩ := isb_at h.is hj
      injection e with e
      injection e with e1 e2
      subst e1 e2
      rw [Nat.zero_add] at hc
      exact ⟨_, (hK.cell j).symm.trans hc⟩
    have hcap := h.cap
    simp only [maxLen] at hcap
    have HCAP := Lib.hid hcap
    clear hcap
    have HK := Lib.hid hK
    have HBY := Lib.hid hby
    clear hK hby hge hlt had h
    go_enter Try.func45, Try.ntmps45
    go_wp2
    go_loopw [2] (fun i wr => ∃ (k : Nat) (cur' : Array Value), k ≤ n ∧ i = .int .i64 k ∧ Blk wr g 5 cur' ∧ (∀ j, k ≤ j → cur'[j]? = cur[j]?) ∧ Fr (fun k => k = g) w wr) (fun i _ => n - (intOf i).toNat)
    case atStart => exact ⟨0, cur, by omega, rfl, HK.out, fun _ _ => rfl, Fr.refl _ _⟩
    case round =>
      obtain ⟨k, cur', hk, rfl, hB, hS, hf⟩ := hrel
      by_cases hlt : k < n
      · obtain ⟨x, hx⟩ := HBY.out k hlt
        have hv : wr.cell? ⟨g, k, none⟩ = some (.int .u8 (x.toNat : Int)) := (hB.cell k).trans ((hS k (Nat.le_refl _)).trans hx)
        have f0 := hB.frozen k
        have hx255 : (x.toNat : Int) ≤ 255 := by have := x.toNat_lt; omega
        have HB := Lib.hid hB
        have HS := Lib.hid hS
        have HF := Lib.hid hf
        clear hB hS hf hx
        go_wp2
        have ew : wrap64 ((k : Int) + 1) = ((k + 1 : Nat) : Int) := by have := HCAP.out; rw [wrap64_in _ (by omega)]; omega
        rw [ew]
        exact ⟨⟨k + 1, _, by omega, rfl, HB.out.set_ _ _, fun j hj => by rw [Array.getElem?_setIfInBounds_ne (by omega)]; exact HS.out j (by omega), Fr.setCell (S := fun k => k = g) HF.out (fun _ => rfl) _⟩, by simp [intOf]; omega⟩
      · obtain rfl : k = n := by omega
        have HB := Lib.hid hB
        have HS := Lib.hid hS
        have HF := Lib.hid hf
        clear hB hS hf
        go_wp2
        go_end0
        exact ⟨rfl, HF.out.mono fun i _ hi => ⟨_, rfl, hi⟩⟩
theorem tmod_pos {i n : Int} (hn : 0 < n) (h : 0 ≤ i.tmod n) : i.tmod n = i % n := by
  have h1 := Int.tmod_lt_of_pos i hn
  have h2 : (i.tmod n) % n = i % n := by rw [Int.tmod_def, Int.sub_emod, Int.mul_emod_right]; simp
  rw [← h2, Int.emod_eq_of_lt h h1]
theorem tmod_neg {i n : Int} (hn : 0 < n) (h : i.tmod n < 0) : i.tmod n + n = i % n ∧ 0 ≤ i.tmod n + n := by
  have h1 : -n < i.tmod n := by
    have := Int.lt_tmod_of_pos i hn
    omega
  have h2 : (i.tmod n + n) % n = i % n := by rw [Int.add_emod_right, Int.tmod_def, Int.sub_emod, Int.mul_emod_right]; simp
  exact ⟨by rw [← h2, Int.emod_eq_of_lt (by omega) (by omega)], by omega⟩
set_option maxHeartbeats 400000 in
theorem bring_spec (i n : Int) (w : World) (h0 : 0 < n) (hn : n ≤ 9223372036854775807):
    Calls Try.prog 19 #[.int .i64 i, .int .i64 n] w fun e w' => e = .returned (.int .i64 (i % n)) ∧ w = w' := by
  by_cases h : 0 ≤ i.tmod n
  · have H := Lib.hid (tmod_pos h0 h)
    go_enter Try.func19, Try.ntmps19
    go_wp2
    go_ret
    exact ⟨ret_int H.out, rfl⟩
  · have h' : i.tmod n < 0 := by omega
    have H := Lib.hid (tmod_neg h0 h').1
    have hlo := (tmod_neg h0 h').2
    clear h
    go_enter Try.func19, Try.ntmps19
    go_wp2
    go_ret
    exact ⟨ret_int H.out, rfl⟩
/-- One of the four widths. -/
def wd (n : Int) : Nat := 2 ^ (n % 4).toNat
theorem wd_isW (n : Int) : isW (wd n : Int) = true := by
  have : n % 4 = 0 ∨ n % 4 = 1 ∨ n % 4 = 2 ∨ n % 4 = 3 := by omega
  unfold wd
  rcases this with h | h | h | h <;> rw [h] <;> decide
end Go.Proofs.Ytdoagpophikgjaa
