/-
  The walks over the stack's methods and the reference's.
  The builder in memory: its parts, each with its owner; what other calls leave alone.
  Package build: none, Err, fail, push, unless, inline; the inline values.
-/
import Derived.Test.YtfoifdoaleaekaaGreatQe08
import Derived.Maps.Own
namespace Go.Proofs.YtfoifdoaleaekaaGreat
open Go.RowKit Go.Acc

def Out2 (w : World) (m : List V3) (x : Value) (e : Ending) (w' : World) : Prop :=
  ∃ A n c, e = .returned (.tuple #[.slice A n c, x]) ∧ OwnV w' w.heap.size A n c m ∧ Below w.heap.size w w'

def Stk (w : World) (B b : Nat) (g : Option Nat) (l : List V3) : Prop :=
  ∃ A n c, Blk w b 212 #[.slice A n c, .bool true] ∧ OwnV w B A n c l ∧ A.map (·.block) = g ∧ n ≤ 65536 ∧ B ≤ b
def fromL (l : List V3) (s : Int) : List V3 := if 0 ≤ s ∧ s ≤ l.length then l.drop s.toNat else []
def fromB (l : List V3) (s : Int) : Bool := decide (0 ≤ s ∧ s ≤ l.length)
def fromE (l : List V3) (s : Int) : Int := if 0 ≤ s ∧ s ≤ l.length then 0 else 140
theorem from_yes (l : List V3) (k : Nat) (h : k ≤ l.length) : fromL l k = l.drop k ∧ fromB l k = true ∧ fromE l k = 0 :=
  ⟨by unfold fromL; rw [if_pos (by omega)]; simp, decide_eq_true (by omega), if_pos (by omega)⟩
theorem from_no (l : List V3) (s : Int) (h : s < 0 ∨ (l.length : Int) < s) : fromL l s = [] ∧ fromB l s = false ∧ fromE l s = 140 :=
  ⟨if_neg (by omega), decide_eq_false (by omega), if_neg (by omega)⟩

set_option maxHeartbeats 400000 in
theorem none_spec (b : Nat) (w : World) (h : w.cell? ⟨b, 1, none⟩ = some (.bool true)) :
    Calls Tryz.prog 188 #[.pointer (some ⟨b, 0, none⟩)] w fun e w' => e = .returned (.bool false) ∧ w = w' := by
  go_enter Tryz.func188, Tryz.ntmps188
  go_wp2
  go_ret
  exact ⟨rfl, rfl⟩

set_option maxHeartbeats 400000 in
theorem from0_spec (B b : Nat) (g : Option Nat) (l : List V3) (s : Int) (w : World) (h : Stk w B b g l) :
    Calls Tryz.prog 189 #[.pointer (some ⟨b, 0, none⟩), .int .i64 s] w (Out2 w (fromL l s) (.bool (fromB l s))) := by
  obtain ⟨A, n, c, hb, hown, _, hl, _⟩ := h
  have c0 : w.cell? ⟨b, 0, none⟩ = some (.slice A n c) := hb.cell 0
  have hr := hown.is
  have hc := hown.cap.1
  have hlen := hown.1
  clear hb hown
  by_cases h1 : s < 0 ∨ (n : Int) < s
  · obtain ⟨e1, e2, _⟩ := from_no l s (by rw [hlen]; exact h1)
    rw [e1, e2]
    clear hr hlen e1 e2
    rcases h1 with h1 | h1
    · go_enter Tryz.func189, Tryz.ntmps189
      go_wp2
      go_ret2
      exact ⟨none, 0, 0, rfl, Own.nil _ _, Below.refl _ _⟩
    · have h0 : ¬ s < 0 := by omega
      go_enter Tryz.func189, Tryz.ntmps189
      go_wp2
      go_ret2
      exact ⟨none, 0, 0, rfl, Own.nil _ _, Below.refl _ _⟩
  · obtain ⟨k, rfl⟩ := Int.eq_ofNat_of_zero_le (a := s) (by omega)
    have hk : k ≤ n := by omega
    obtain ⟨e1, e2, _⟩ := from_yes l k (by rw [hlen]; exact hk)
    rw [e1, e2]
    have HR := Lib.hid hr
    clear hr h1 e1 e2 hlen
    go_enter Tryz.func189, Tryz.ntmps189
    go_wp2_with fail
    · refine (clone_spec A _ _ (l.drop k) w (HR.out.cut0 (by assumption) hc) (by omega)).mono ?_
      rintro e w' ⟨A', n', c', rfl, ho, hbw⟩
      go_wp2
      go_ret2
      exact ⟨A', n', c', rfl, ho, hbw⟩
    · refine (clone_spec _ _ _ (l.drop k) w (HR.out.cut1 vc_len) (by omega)).mono ?_
      rintro e w' ⟨A', n', c', rfl, ho, hbw⟩
      go_wp2
      go_ret2
      exact ⟨A', n', c', rfl, ho, hbw⟩

set_option maxHeartbeats 400000 in
theorem from_spec (B b : Nat) (g : Option Nat) (l : List V3) (s : Int) (w : World) (h : Stk w B b g l) :
    Calls Tryz.prog 126 #[.pointer (some ⟨b, 0, none⟩), .int .i64 s] w (Out2 w (fromL l s) (.int .i64 (fromE l s))) := by
  have HS := Lib.hid h
  obtain ⟨A, n, c, hb, hown, _, hl, _⟩ := h
  have c1 : w.cell? ⟨b, 1, none⟩ = some (.bool true) := hb.cell 1
  have hlen := hown.1
  clear hb hown
  by_cases h1 : s < 0 ∨ (n : Int) < s
  · obtain ⟨e1, e2, e3⟩ := from_no l s (by rw [hlen]; exact h1)
    rw [e1, e3]
    have E1 := Lib.hid e1
    have E2 := Lib.hid e2
    clear hlen e1 e2 e3 h1
    go_enter Tryz.func126, Tryz.ntmps126
    go_wp2_with (go_at_call 188; refine (none_spec b _ (by assumption)).mono ?_; rintro e w' ⟨rfl, rfl⟩)
    refine (from0_spec B b g l s w HS.out).mono ?_
    rw [E1.out, E2.out]
    rintro e w' ⟨A', n', c', rfl, ho, hbw⟩
    go_wp2
    go_ret2
    exact ⟨none, 0, 0, rfl, Own.nil _ _, hbw⟩
  · obtain ⟨k, rfl⟩ := Int.eq_ofNat_of_zero_le (a := s) (by omega)
    have hk : k ≤ n := by omega
    obtain ⟨e1, e2, e3⟩ := from_yes l k (by rw [hlen]; exact hk)
    rw [e3]
    have E2 := Lib.hid e2
    clear h1 e1 e2 e3 hlen
    go_enter Tryz.func126, Tryz.ntmps126
    go_wp2_with (go_at_call 188; refine (none_spec b _ (by assumption)).mono ?_; rintro e w' ⟨rfl, rfl⟩)
    refine (from0_spec B b g l k w HS.out).mono ?_
    rw [E2.out]
    rintro e w' ⟨A', n', c', rfl, ho, hbw⟩
    go_wp2
    go_ret2
    exact ⟨A', n', c', rfl, ho, hbw⟩

set_option maxHeartbeats 400000 in
theorem len_spec (B b : Nat) (g : Option Nat) (l : List V3) (w : World) (h : Stk w B b g l) :
    Calls Tryz.prog 221 #[.pointer (some ⟨b, 0, none⟩)] w fun e w' => e = .returned (.int .i64 l.length) ∧ w = w' := by
  obtain ⟨A, n, c, hb, hown, _, hl, _⟩ := h
  have c0 : w.cell? ⟨b, 0, none⟩ = some (.slice A n c) := hb.cell 0
  have c1 : w.cell? ⟨b, 1, none⟩ = some (.bool true) := hb.cell 1
  rw [hown.1]
  clear hb hown
  go_enter Tryz.func221, Tryz.ntmps221
  go_wp2_with (go_at_call 188; refine (none_spec b _ (by assumption)).mono ?_; rintro e w' ⟨rfl, rfl⟩)
  go_ret
  exact ⟨rfl, rfl⟩

def Pushed (w : World) (b : Nat) (g : Option Nat) (T : World → Option Nat → Prop) (er : Int) (e : Ending) (w' : World) : Prop :=
  e = .returned (.int .i64 er) ∧ ∃ g', T w' g' ∧ (g' = g ∨ g' = some w.heap.size) ∧ Fr (fun k => k = b ∨ some k = g) w w'

theorem Stk.pure {w w' : World} {B b : Nat} {g : Option Nat} {l : List V3} (h : Stk w B b g l) (hb : Below w.heap.size w w') : Stk w' B b g l := by
  obtain ⟨A, n, c, h1, h2, h3⟩ := h
  exact ⟨A, n, c, h1.pure hb, h2.pure hb, h3⟩
theorem Stk.fr {w w' : World} {B b : Nat} {g : Option Nat} {l : List V3} {S : Nat → Prop} (h : Stk w B b g l) (hb : Fr S w w') (h1 : ¬ S b) (h2 : ∀ k, g = some k → ¬ S k) : Stk w' B b g l := by
  obtain ⟨A, n, c, b1, b2, b3, b4⟩ := h
  exact ⟨A, n, c, b1.fr hb h1, b2.fr hb (fun ad h => h2 _ (by rw [← b3, h]; rfl)), b3, b4⟩
theorem pop_blk {w : World} {b : Nat} {T : TypeId} {u v : Value} {cs : List Value} (hb : Blk w b T (u :: cs).toArray) : Blk (w.setCell ⟨b, 0, none⟩ v) b T (v :: cs).toArray := by
  have := hb.set_ 0 v; simpa using this
theorem pop_own {w : World} {A : Option Addr} {B b n c k : Nat} {l : List V3} {T : TypeId} {u : Value} {cs : List Value} {v : Value} (hT : 185 ≠ T) (hb : Blk w b T (u :: cs).toArray) (ho : OwnV w B A n c l) : OwnV (w.setCell ⟨b, 0, none⟩ v) B A (n - k) c (l.take (n - k)) := by
  refine (ho.fr (Fr.setCell (S := fun k => k = b) (Fr.refl _ _) (fun _ => rfl) v) ?_).take vc_len (by omega)
  rintro ad rfl rfl
  exact own_blk_ne ho.2 hb hT (by simp [Value.ownBlock])
theorem pop_post {w w' : World} {A A' : Option Addr} {B b n c n' c' : Nat} {l m : List V3} {T : TypeId} {u : Value} {cs : List Value} {v : Value} (hT : 185 ≠ T) (hb : Blk w' b T (u :: cs).toArray) (_ho : OwnV w' B A n c l) (ho : OwnV w' w.heap.size A' n' c' m) (_hbw : Below w.heap.size w w') (hlt : b < w.heap.size) :
    OwnV (w'.setCell ⟨b, 0, none⟩ v) w.heap.size A' n' c' m := by
  have _ := hT
  have _ := hb
  refine ho.fr (Fr.setCell (S := fun k => k = b) (Fr.refl _ _) (fun _ => rfl) v) ?_
  rintro ad rfl rfl
  have := (ho.addr ad rfl).2.1
  omega
theorem push_post {w w1 : World} {A A1 : Option Addr} {B b n c n2 c1 : Nat} {g : Option Nat} {l : List V3} (hg : A.map (·.block) = g) (hb : Blk w1 b 212 #[.slice A n c, .bool true]) (ho : OwnV w1 B A1 (n + n2) c1 l)
    (hf : Fr (fun k => ∃ ad, A = some ad ∧ k = ad.block) w w1) (hat : A1.map (·.block) = A.map (·.block) ∨ A1.map (·.block) = some w.heap.size) (hn : n + n2 ≤ 65536) (hB : B ≤ b) (hlt : b < w.heap.size) :
    ∃ g', Stk (w1.setCell ⟨b, 0, none⟩ (.slice A1 (n + n2) c1)) B b g' l ∧ (g' = g ∨ g' = some w.heap.size) ∧ Fr (fun k => k = b ∨ some k = g) w (w1.setCell ⟨b, 0, none⟩ (.slice A1 (n + n2) c1)) := by
  have hset : Fr (fun k => k = b) w1 (w1.setCell ⟨b, 0, none⟩ (.slice A1 (n + n2) c1)) := Fr.setCell (S := fun k => k = b) (Fr.refl _ _) (fun _ => rfl) _
  refine ⟨A1.map (·.block), ⟨A1, n + n2, c1, hb.set_ 0 _, ho.fr hset ?_, rfl, hn, hB⟩, ?_, ?_⟩
  · rintro ad rfl rfl
    exact own_blk_ne ho.2 hb (by decide) (by simp [Value.ownBlock])
  · rw [← hg]; exact hat
  · refine (hf.mono ?_).setCell (fun _ => .inl rfl) _
    rintro i _ ⟨ad, rfl, rfl⟩
    exact .inr (by rw [← hg]; rfl)

set_option maxHeartbeats 400000 in
theorem push_spec (B b : Nat) (g : Option Nat) (l m : List V3) (A2 : Option Addr) (n2 c2 : Nat) (w : World) (h : Stk w B b g l) (hm : IsV w A2 n2 m) (hlm : l.length + m.length ≤ 65536) (hB : B ≤ w.heap.size) :
    Calls Tryz.prog 222 #[.pointer (some ⟨b, 0, none⟩), .slice A2 n2 c2] w (Pushed w b g (fun w' g' => Stk w' B b g' (l ++ m)) 0) := by
  obtain ⟨A, n, c, hb, hown, hg, hl, hBb⟩ := h
  have c0 : w.cell? ⟨b, 0, none⟩ = some (.slice A n c) := hb.cell 0
  have c1 : w.cell? ⟨b, 1, none⟩ = some (.bool true) := hb.cell 1
  rw [hown.1, hm.1] at hlm
  have hne : ∀ ad, A = some ad → ad.block ≠ b := by
    rintro ad rfl e
    exact own_blk_ne hown.2 hb (by decide) (by simp [Value.ownBlock, e])
  have HO := Lib.hid hown
  have HM := Lib.hid hm
  have HB := Lib.hid hb
  have HN := Lib.hid hne
  have hlt := hb.lt
  clear hb hown hm hne
  go_enter Tryz.func222, Tryz.ntmps222
  go_wp2_with (first | (go_at_call 188; refine (none_spec b _ (by assumption)).mono ?_; rintro e w' ⟨rfl, rfl⟩) | ((at_builtin; refine wpl_app _ rfl (.tmp 24) (.tmp 25) _ rfl 185 _ 3 24 Tryz.underlying160 info_v rfl (by omega) vc_len vc_one _ _ _ _ _ rfl HO.out _ _ _ _ rfl HM.out (by omega) hB ?_; intro A1 c1 w1 hown1 hfr1 hat1); have B1 := HB.out.fr hfr1 (by rintro ⟨ad, h, h'⟩; exact HN.out ad h h'.symm); have d0 : w1.cell? ⟨b, 0, none⟩ = some (.slice A n c) := B1.cell 0; have f0 := B1.frozen 0; have HB1 := Lib.hid B1; clear B1))
  go_ret
  exact ⟨rfl, push_post hg HB1.out hown1 hfr1 hat1 hlm hBb hlt⟩

def popE (l : List V3) (s : Int) : Int := if 0 ≤ s ∧ s ≤ l.length then 0 else 140
def popL (l : List V3) (s : Int) : List V3 := if 0 ≤ s ∧ s ≤ l.length then l.drop (l.length - s.toNat) else []
def popR (l : List V3) (s : Int) : List V3 := if 0 ≤ s ∧ s ≤ l.length then l.take (l.length - s.toNat) else l
theorem pop_yes (l : List V3) (k : Nat) (h : k ≤ l.length) : popL l k = l.drop (l.length - k) ∧ popR l k = l.take (l.length - k) ∧ popE l k = 0 :=
  ⟨by unfold popL; rw [if_pos (by omega)]; simp, by unfold popR; rw [if_pos (by omega)]; simp, if_pos (by omega)⟩
theorem pop_no (l : List V3) (s : Int) (h : s < 0 ∨ (l.length : Int) < s) : popL l s = [] ∧ popR l s = l ∧ popE l s = 140 :=
  ⟨if_neg (by omega), if_neg (by omega), if_neg (by omega)⟩

def Popped (w : World) (b : Nat) (T : World → Prop) (m : List V3) (er : Int) (e : Ending) (w' : World) : Prop :=
  ∃ A n c, e = .returned (.tuple #[.slice A n c, .int .i64 er]) ∧ OwnV w' w.heap.size A n c m ∧ T w' ∧ Fr (fun k => k = b) w w'

set_option maxHeartbeats 400000 in
theorem pop_spec (B b : Nat) (g : Option Nat) (l : List V3) (s : Int) (w : World) (h : Stk w B b g l) (hs : -9223372036854775808 ≤ s) (hs2 : s ≤ 9223372036854775807) :
    Calls Tryz.prog 171 #[.pointer (some ⟨b, 0, none⟩), .int .i64 s] w (Popped w b (fun w' => Stk w' B b g (popR l s)) (popL l s) (popE l s)) := by
  have HS := Lib.hid h
  obtain ⟨n, hlen, hl⟩ : ∃ n, l.length = n ∧ n ≤ 65536 := by obtain ⟨A, n, c, hb, hown, hg, hl, hBb⟩ := h; exact ⟨n, hown.1, hl⟩
  clear h
  by_cases h1 : s < 0 ∨ (n : Int) < s
  · obtain ⟨e1, e2, e3⟩ := pop_no l s (by rw [hlen]; exact h1)
    rw [e1, e2, e3]
    clear e1 e2 e3
    rcases h1 with h1 | h1
    · obtain ⟨f1, f2, f3⟩ := from_no l (-1) (.inl (by omega))
      have F1 := Lib.hid f1
      have F3 := Lib.hid f3
      have HL := Lib.hid hlen
      clear f1 f2 f3 hlen
      go_enter Tryz.func171, Tryz.ntmps171
      go_wp2_with (go_at_call 221; refine (len_spec B b g l _ HS.out).mono ?_; rw [HL.out]; rintro e w' ⟨rfl, rfl⟩)
      refine (from_spec B b g l (-1) w HS.out).mono ?_
      rw [F1.out, F3.out]
      rintro e w' ⟨A', n', c', rfl, ho, hbw⟩
      go_wp2
      go_ret2
      exact ⟨A', n', c', rfl, ho, HS.out.pure hbw, Fr.of_below hbw _⟩
    · obtain ⟨f1, f2, f3⟩ := from_no l ((n : Int) - s) (.inl (by omega))
      have F1 := Lib.hid f1
      have F3 := Lib.hid f3
      have HL := Lib.hid hlen
      have h0 : ¬ s < 0 := by omega
      clear f1 f2 f3 hlen
      go_enter Tryz.func171, Tryz.ntmps171
      go_wp2_with (go_at_call 221; refine (len_spec B b g l _ HS.out).mono ?_; rw [HL.out]; rintro e w' ⟨rfl, rfl⟩)
      refine (from_spec B b g l _ w HS.out).mono ?_
      rw [F1.out, F3.out]
      rintro e w' ⟨A', n', c', rfl, ho, hbw⟩
      go_wp2
      go_ret2
      exact ⟨A', n', c', rfl, ho, HS.out.pure hbw, Fr.of_below hbw _⟩
  · obtain ⟨k, rfl⟩ := Int.eq_ofNat_of_zero_le (a := s) (by omega)
    have hk : k ≤ n := by omega
    obtain ⟨e1, e2, e3⟩ := pop_yes l k (by rw [hlen]; exact hk)
    rw [e1, e2, e3]
    obtain ⟨f1, f2, f3⟩ := from_yes l (n - k) (by omega)
    have ek : ((n - k : Nat) : Int) = (n : Int) - k := by omega
    rw [ek] at f1 f3
    have F1 := Lib.hid f1
    have F3 := Lib.hid f3
    have HL := Lib.hid hlen
    clear e1 e2 e3 f1 f2 f3 ek h1 hlen
    obtain ⟨A, n0, c, hb, hown, hg, hl, hBb⟩ := HS.out
    obtain rfl : n = n0 := HL.out.symm.trans hown.1
    have HB := Lib.hid hb
    have HO := Lib.hid hown
    have hlt := hb.lt
    have hcap := hown.cap.1
    clear hb hown
    go_enter Tryz.func171, Tryz.ntmps171
    go_wp2_with (go_at_call 221; refine (len_spec B b g l _ HS.out).mono ?_; rw [HL.out]; rintro e w' ⟨rfl, rfl⟩)
    refine (from_spec B b g l _ w HS.out).mono ?_
    rw [F1.out, F3.out]
    rintro e w' ⟨A', n', c', rfl, ho, hbw⟩
    have B1 := HB.out.pure hbw
    have d0 : w'.cell? ⟨b, 0, none⟩ = some (.slice A n c) := B1.cell 0
    have f0 := B1.frozen 0
    have HB1 := Lib.hid B1
    clear B1
    go_wp2
    go_ret2
    rw [HL.out]
    exact ⟨A', n', c', rfl, pop_post (T := 212) (by decide) (cs := [.bool true]) HB1.out (HO.out.pure hbw) ho hbw hlt, ⟨A, n - k, c, pop_blk HB1.out, pop_own (by decide) HB1.out (HO.out.pure hbw), hg, by omega, hBb⟩, Fr.setCell (S := fun k => k = b) (Fr.of_below hbw _) (fun _ => rfl) _⟩

theorem Stk.ge {w : World} {B b : Nat} {g : Option Nat} {l : List V3} (h : Stk w B b g l) : B ≤ b ∧ b < w.heap.size ∧ ∀ k, g = some k → B ≤ k ∧ k < w.heap.size ∧ k ≠ b := by
  obtain ⟨A, n, c, h1, h2, rfl, _, h4⟩ := h
  refine ⟨h4, h1.lt, fun k hk => ?_⟩
  cases A with
  | none => cases hk
  | some ad =>
    injection hk with hk
    subst hk
    exact ⟨(h2.addr ad rfl).2.1, (h2.addr ad rfl).2.2, fun e => own_blk_ne h2.2 h1 (by decide) (by simp [Value.ownBlock, e])⟩
theorem Stk.rebase {w : World} {B B' b : Nat} {g : Option Nat} {l : List V3} (h : Stk w B b g l) (hB : B' ≤ B) : Stk w B' b g l := by
  obtain ⟨A, n, c, h1, h2, h3, h4, h5⟩ := h
  exact ⟨A, n, c, h1, h2.rebase hB, h3, h4, by omega⟩
end Go.Proofs.YtfoifdoaleaekaaGreat

namespace Go.Proofs.YtfoifdoaleaekaaGreat
open Go.RowKit Go.Acc
def vv (v : Bv) : V3 := (v.t, v.w, v.n)
def StkO (w : World) (o : Nat → Nat) (b : Nat) (s : List Bv) : Prop := ∃ g, Stk w 0 b g (s.map vv) ∧ o b = 3 ∧ ∀ k, g = some k → o k = 3
def inc (n : Nat) : List Value := [.int .i64 (n : Int)]
theorem inc_len (x : Nat) : (inc x).length = 1 := rfl
theorem inc_one (x : Nat) : ∀ u ∈ inc x, u.oneCell' = true := by
  intro u hu
  simp [inc] at hu
  subst hu
  rfl
abbrev OwnS := Go.Acc.Own stc 1 9
abbrev OwnN := Go.Acc.Own inc 1 3
def PoolO (w : World) (o : Nat → Nat) (i p : Nat) (m : List (List UInt8 × Nat)) : Prop :=
  ∃ A1 A2 n c1 c2 ks ns, Blk w p 216 #[.slice A1 n c1, .slice A2 n c2, .bool true] ∧ OwnS w 0 A1 n c1 ks ∧ OwnN w 0 A2 n c2 ns ∧ Of o A1 i ∧ Of o A2 i ∧ o p = i ∧
    ks.Pairwise (fun x y => Op.bytesLess x y = true) ∧ (∀ s, getP m s = getP (ks.zip ns) s) ∧ n ≤ m.length ∧ ∀ a ∈ ns, a ≤ 1048576
def NamesO (w : World) (o : Nat → Nat) (p : Nat) (m : List (Nat × List UInt8)) : Prop :=
  o p = 7 ∧ ∃ n D, w.ownsMap (H := Unit) Tryz.prog 22 (plainElem Tryz.prog 9) p n D ∧ n ≤ m.length ∧ ∀ a s, m.find? (fun x => x.1 == a) = some (a, s) → D.atKey (.int .u64 a) (.lit (.string [])) = .lit (.string s)
structure Bp where
  β : Nat
  bb : Nat
  sb : Nat
  kb : Nat
  tb : Nat
  lb : Nat
  mb : Nat
def HeadO (M : Bp) (fl : Int) (w : World) (o : Nat → Nat) (vals : List Bv) : Prop :=
  ∃ A n c, Blk w M.β 164 #[.pointer (some ⟨M.bb, 0, none⟩), .pointer (some ⟨M.sb, 0, none⟩), .int .i64 0, .int .i64 fl, .pointer (some ⟨M.kb, 0, none⟩), .pointer (some ⟨M.tb, 0, none⟩), .pointer (some ⟨M.lb, 0, none⟩), .map (some M.mb), .slice A n c, .bool true] ∧
    OwnV w 0 A n c (vals.map vv) ∧ Of o A 8 ∧ o M.β = 2
structure BM (M : Bp) (fl : Int) (w : World) (o : Nat → Nat) (b : Bd) : Prop where
  head : HeadO M fl w o b.vals
  buf : Buf w o M.bb b.b
  stk : StkO w o M.sb b.s
  keys : PoolO w o 4 M.kb b.keys
  texts : PoolO w o 5 M.tb b.texts
  lists : PoolO w o 6 M.lb b.lists
  names : NamesO w o M.mb b.names
def Bld (i : Nat) : Prop := 1 ≤ i ∧ i ≤ 8
def BTo (M : Bp) (fl : Int) (b : Bd) (w : World) (o : Nat → Nat) (e : Ending) (w' : World) : Prop :=
  e = .returned (.tuple #[]) ∧ ∃ o', BM M fl w' o' b ∧ To Bld w o w' o'
section
variable {I : Nat → Prop} {w w' : World} {o o' : Nat → Nat} {M : Bp} {fl : Int} {b : Bd}
theorem StkO.to_ {p : Nat} {s : List Bv} (h : StkO w o p s) (ht : To I w o w' o') (hI : ¬ I 3) : StkO w' o' p s := by
  obtain ⟨g, hs, h1, h2⟩ := h
  have hg := hs.ge
  refine ⟨g, hs.fr ht.fr (by rw [h1]; exact hI) (fun k hk => by rw [h2 k hk]; exact hI), by rw [ht.ow _ hg.2.1]; exact h1, fun k hk => by rw [ht.ow _ (hg.2.2 k hk).2.1]; exact h2 k hk⟩
theorem PoolO.to_ {i p : Nat} {m : List (List UInt8 × Nat)} (h : PoolO w o i p m) (ht : To I w o w' o') (hI : ¬ I i) : PoolO w' o' i p m := by
  obtain ⟨A1, A2, n, c1, c2, ks, ns, hb, h1, h2, o1, o2, op, rest⟩ := h
  exact ⟨A1, A2, n, c1, c2, ks, ns, hb.to_ ht (by rw [op]; exact hI), h1.to_ o1 ht hI, h2.to_ o2 ht hI, o1.to_ h1 ht, o2.to_ h2 ht, by rw [ht.ow _ hb.lt]; exact op, rest⟩
theorem NamesO.to_ {p : Nat} {m : List (Nat × List UInt8)} (h : NamesO w o p m) (ht : To I w o w' o') (hI : ¬ I 7) : NamesO w' o' p m := by
  obtain ⟨op, n, D, hm, rest⟩ := h
  have hlt := hm.lt
  refine ⟨by rw [ht.ow _ hlt]; exact op, n, D, ?_, rest⟩
  obtain ⟨es, clock, hb, F⟩ := hm
  exact ⟨es, clock, (ht.keep hlt (by rw [op]; exact hI)).trans hb, F⟩
theorem HeadO.to_ {vals : List Bv} (h : HeadO M fl w o vals) (ht : To I w o w' o') (h2 : ¬ I 2) (h8 : ¬ I 8) : HeadO M fl w' o' vals := by
  obtain ⟨A, n, c, hb, ho, h1, op⟩ := h
  exact ⟨A, n, c, hb.to_ ht (by rw [op]; exact h2), ho.to_ h1 ht h8, h1.to_ ho ht, by rw [ht.ow _ hb.lt]; exact op⟩
theorem BM.to_ (h : BM M fl w o b) (ht : To I w o w' o') (hI : ∀ i, Bld i → ¬ I i) : BM M fl w' o' b :=
  ⟨h.head.to_ ht (hI _ ⟨by omega, by omega⟩) (hI _ ⟨by omega, by omega⟩), h.buf.to_ ht (hI _ ⟨by omega, by omega⟩), h.stk.to_ ht (hI _ ⟨by omega, by omega⟩), h.keys.to_ ht (hI _ ⟨by omega, by omega⟩),
    h.texts.to_ ht (hI _ ⟨by omega, by omega⟩), h.lists.to_ ht (hI _ ⟨by omega, by omega⟩), h.names.to_ ht (hI _ ⟨by omega, by omega⟩)⟩
theorem BM.pure (h : BM M fl w o b) (hb : Below w.heap.size w w') : BM M fl w' o b := h.to_ (To.pure (fun _ => False) hb o) (fun _ _ h => h)
theorem BM.fresh (h : BM M fl w o b) (hb : Below w.heap.size w w') (i : Nat) : BM M fl w' (newO o w.heap.size i) b := h.to_ (To.fresh (fun _ => False) hb o i) (fun _ _ h => h)
theorem BM.buf_ (h : BM M fl w o b) {l : List UInt8} (ht : To (fun i => i = 1) w o w' o') (hb : Buf w' o' M.bb l) : BM M fl w' o' { b with b := l } :=
  ⟨h.head.to_ ht (by omega) (by omega), hb, h.stk.to_ ht (by omega), h.keys.to_ ht (by omega), h.texts.to_ ht (by omega), h.lists.to_ ht (by omega), h.names.to_ ht (by omega)⟩
theorem BM.stk_ (h : BM M fl w o b) {s : List Bv} (ht : To (fun i => i = 3) w o w' o') (hb : StkO w' o' M.sb s) : BM M fl w' o' { b with s := s } :=
  ⟨h.head.to_ ht (by omega) (by omega), h.buf.to_ ht (by omega), hb, h.keys.to_ ht (by omega), h.texts.to_ ht (by omega), h.lists.to_ ht (by omega), h.names.to_ ht (by omega)⟩
theorem BM.keys_ (h : BM M fl w o b) {m : List (List UInt8 × Nat)} (ht : To (fun i => i = 4) w o w' o') (hb : PoolO w' o' 4 M.kb m) : BM M fl w' o' { b with keys := m } :=
  ⟨h.head.to_ ht (by omega) (by omega), h.buf.to_ ht (by omega), h.stk.to_ ht (by omega), hb, h.texts.to_ ht (by omega), h.lists.to_ ht (by omega), h.names.to_ ht (by omega)⟩
theorem BM.texts_ (h : BM M fl w o b) {m : List (List UInt8 × Nat)} (ht : To (fun i => i = 5) w o w' o') (hb : PoolO w' o' 5 M.tb m) : BM M fl w' o' { b with texts := m } :=
  ⟨h.head.to_ ht (by omega) (by omega), h.buf.to_ ht (by omega), h.stk.to_ ht (by omega), h.keys.to_ ht (by omega), hb, h.lists.to_ ht (by omega), h.names.to_ ht (by omega)⟩
theorem BM.lists_ (h : BM M fl w o b) {m : List (List UInt8 × Nat)} (ht : To (fun i => i = 6) w o w' o') (hb : PoolO w' o' 6 M.lb m) : BM M fl w' o' { b with lists := m } :=
  ⟨h.head.to_ ht (by omega) (by omega), h.buf.to_ ht (by omega), h.stk.to_ ht (by omega), h.keys.to_ ht (by omega), h.texts.to_ ht (by omega), hb, h.names.to_ ht (by omega)⟩
theorem BM.names_ (h : BM M fl w o b) {m : List (Nat × List UInt8)} (ht : To (fun i => i = 7) w o w' o') (hb : NamesO w' o' M.mb m) : BM M fl w' o' { b with names := m } :=
  ⟨h.head.to_ ht (by omega) (by omega), h.buf.to_ ht (by omega), h.stk.to_ ht (by omega), h.keys.to_ ht (by omega), h.texts.to_ ht (by omega), h.lists.to_ ht (by omega), hb⟩
theorem BM.head_ (h : BM M fl w o b) {vals : List Bv} (ht : To (fun i => i = 2 ∨ i = 8) w o w' o') (hb : HeadO M fl w' o' vals) : BM M fl w' o' { b with vals := vals } :=
  ⟨hb, h.buf.to_ ht (by omega), h.stk.to_ ht (by omega), h.keys.to_ ht (by omega), h.texts.to_ ht (by omega), h.lists.to_ ht (by omega), h.names.to_ ht (by omega)⟩
theorem BTo.from_pure {w0 : World} {e : Ending} (hb : Below w0.heap.size w0 w) (h : BTo M fl b w o e w') : BTo M fl b w0 o e w' := by
  obtain ⟨h1, o', h2, h3⟩ := h
  exact ⟨h1, o', h2, h3.from_pure hb⟩
theorem BTo.from_fresh {w0 : World} {i : Nat} {e : Ending} (hb : Below w0.heap.size w0 w) (h : BTo M fl b w (newO o w0.heap.size i) e w') : BTo M fl b w0 o e w' := by
  obtain ⟨h1, o', h2, h3⟩ := h
  exact ⟨h1, o', h2, (To.fresh _ hb o i).trans h3⟩
theorem bld_1 {i : Nat} (h : i = 1) : Bld i := by subst h; exact ⟨by omega, by omega⟩
theorem bld_3 {i : Nat} (h : i = 3) : Bld i := by subst h; exact ⟨by omega, by omega⟩
theorem HeadO.cells {vals : List Bv} (h : HeadO M fl w o vals) : w.cell? ⟨M.β, 0, none⟩ = some (.pointer (some ⟨M.bb, 0, none⟩)) ∧ w.cell? ⟨M.β, 1, none⟩ = some (.pointer (some ⟨M.sb, 0, none⟩)) ∧ w.cell? ⟨M.β, 2, none⟩ = some (.int .i64 0) ∧ w.cell? ⟨M.β, 9, none⟩ = some (.bool true) ∧
    w.frozen? ⟨M.β, 2, none⟩ = false := by
  obtain ⟨A, n, c, hb, _⟩ := h
  exact ⟨hb.cell 0, hb.cell 1, hb.cell 2, hb.cell 9, hb.frozen 2⟩
end
/-! the stack, in these words -/
theorem spush_is (b : Nat) (s l : List Bv) (A2 : Option Addr) (n2 c2 : Nat) (w : World) (o : Nat → Nat) (h : StkO w o b s) (hm : IsV w A2 n2 (l.map vv)) (hl : s.length + l.length ≤ 65536) :
    Calls Tryz.prog 222 #[.pointer (some ⟨b, 0, none⟩), .slice A2 n2 c2] w fun e w' => e = .returned (.int .i64 0) ∧ ∃ o', StkO w' o' b (s ++ l) ∧ To (fun i => i = 3) w o w' o' := by
  obtain ⟨g, hs, h1, h2⟩ := h
  have hge := hs.ge
  refine (push_spec 0 b g (s.map vv) (l.map vv) A2 n2 c2 w hs hm (by simpa using hl) (Nat.zero_le _)).mono ?_
  rintro e w' ⟨rfl, g', hs', hg', hf⟩
  refine ⟨rfl, newO o w.heap.size 3, ⟨g', by rw [List.map_append]; exact hs', by rw [newO_old hge.2.1]; exact h1, ?_⟩, To.of_fr hf ?_ 3⟩
  · intro k hk
    rcases hg' with e | e
    · rw [e] at hk
      rw [newO_old (hge.2.2 k hk).2.1]
      exact h2 k hk
    · rw [e] at hk
      injection hk with hk
      rw [← hk, newO_new (Nat.le_refl _)]
  · rintro k hk (rfl | e)
    · exact h1
    · exact h2 k e.symm
theorem slen_is (b n : Nat) (s : List Bv) (w : World) (o : Nat → Nat) (h : StkO w o b s) (hn : s.length = n) :
    Calls Tryz.prog 221 #[.pointer (some ⟨b, 0, none⟩)] w fun e w' => e = .returned (.int .i64 n) ∧ w = w' := by
  obtain ⟨g, hs, h1, h2⟩ := h
  have := len_spec 0 b g (s.map vv) w hs
  rw [List.length_map, hn] at this
  exact this
theorem sfrom_is (b k : Nat) (s : List Bv) (w : World) (o : Nat → Nat) (h : StkO w o b s) (hk : k ≤ s.length) :
    Calls Tryz.prog 126 #[.pointer (some ⟨b, 0, none⟩), .int .i64 (k : Int)] w fun e w' => ∃ A n c, e = .returned (.tuple #[.slice A n c, .int .i64 0]) ∧ OwnV w' w.heap.size A n c ((s.drop k).map vv) ∧ Below w.heap.size w w' := by
  obtain ⟨g, hs, h1, h2⟩ := h
  obtain ⟨e1, _, e3⟩ := from_yes (s.map vv) k (by simpa using hk)
  have := from_spec 0 b g (s.map vv) k w hs
  rw [e1, e3, ← List.map_drop] at this
  exact this
theorem spop_is (b k : Nat) (s : List Bv) (w : World) (o : Nat → Nat) (h : StkO w o b s) (hk : k ≤ s.length) (hk2 : k ≤ 65536) :
    Calls Tryz.prog 171 #[.pointer (some ⟨b, 0, none⟩), .int .i64 (k : Int)] w fun e w' => (∃ A n c, e = .returned (.tuple #[.slice A n c, .int .i64 0])) ∧ ∃ o', StkO w' o' b (s.take (s.length - k)) ∧ To (fun i => i = 3) w o w' o' := by
  obtain ⟨g, hs, h1, h2⟩ := h
  have hge := hs.ge
  obtain ⟨e1, e2, e3⟩ := pop_yes (s.map vv) k (by simpa using hk)
  refine (pop_spec 0 b g (s.map vv) k w hs (by omega) (by omega)).mono ?_
  rintro e w' ⟨A, n, c, rfl, _, hs', hf⟩
  rw [e3]
  rw [e2, ← List.map_take, List.length_map] at hs'
  refine ⟨⟨A, n, c, rfl⟩, newO o w.heap.size 3, ⟨g, hs', by rw [newO_old hge.2.1]; exact h1, fun k' hk' => by rw [newO_old (hge.2.2 k' hk').2.1]; exact h2 k' hk'⟩, To.of_fr hf ?_ 3⟩
  rintro k' _ rfl
  exact h1
end Go.Proofs.YtfoifdoaleaekaaGreat

namespace Go.Proofs.YtfoifdoaleaekaaGreat
open Go.RowKit Go.Acc
theorem cnone_spec (b : Nat) (w : World) (h : w.cell? ⟨b, 9, none⟩ = some (.bool true)) :
    Calls Tryz.prog 125 #[.pointer (some ⟨b, 0, none⟩)] w fun e w' => e = .returned (.bool false) ∧ w = w' := by
  go_enter Tryz.func125, Tryz.ntmps125
  go_wp2
  go_ret
  exact ⟨rfl, rfl⟩
theorem cerr_is {M : Bp} {fl : Int} {w : World} {o : Nat → Nat} {vals : List Bv} (h : HeadO M fl w o vals) : Calls Tryz.prog 216 #[.pointer (some ⟨M.β, 0, none⟩)] w fun e w' => e = .returned (.int .i64 0) ∧ w = w' := by
  obtain ⟨c0, c1, c2, c9, _⟩ := h.cells
  clear h
  go_enter Tryz.func216, Tryz.ntmps216
  go_wp2_with (go_at_call 125; refine (cnone_spec M.β _ (by assumption)).mono ?_; rintro e w' ⟨rfl, rfl⟩)
  go_ret
  exact ⟨rfl, rfl⟩
theorem HeadO.same {M : Bp} {fl : Int} {w : World} {o : Nat → Nat} {vals : List Bv} (h : HeadO M fl w o vals) : HeadO M fl (w.setCell ⟨M.β, 2, none⟩ (.int .i64 0)) o vals ∧ To (fun i => i = 2 ∨ i = 8) w o (w.setCell ⟨M.β, 2, none⟩ (.int .i64 0)) o := by
  obtain ⟨A, n, c, hb, ho, h1, op⟩ := h
  have hT : To (fun i => i = 2 ∨ i = 8) w o (w.setCell ⟨M.β, 2, none⟩ (.int .i64 0)) o := To.of_fr0 (Fr.setCell (S := fun k => k = M.β) (Fr.refl _ w) (fun _ => rfl) _) (by rintro k _ rfl; exact .inl op)
  refine ⟨⟨A, n, c, by have := hb.set_ 2 (.int .i64 0); simpa using this, ho.fr (Fr.setCell (S := fun k => k = M.β) (Fr.refl _ w) (fun _ => rfl) _) ?_, h1, op⟩, hT⟩
  rintro ad rfl hk
  exact own_blk_ne ho.2 hb (by decide) (by simp [Value.ownBlock, hk])
theorem fail_ok {M : Bp} {fl : Int} {w : World} {o : Nat → Nat} {b : Bd} (h : BM M fl w o b) : Calls Tryz.prog 127 #[.pointer (some ⟨M.β, 0, none⟩), .int .i64 0] w (BTo M fl b w o) := by
  have H := Lib.hid h
  obtain ⟨c0, c1, c2, c9, f2⟩ := h.head.cells
  clear h
  go_enter Tryz.func127, Tryz.ntmps127
  go_wp2
  go_end0
  obtain ⟨h1, h2⟩ := H.out.head.same
  refine ⟨rfl, o, H.out.head_ h2 h1, h2.mono ?_⟩
  rintro i (rfl | rfl) <;> exact ⟨by omega, by omega⟩
theorem isv_one (W : World) (v : V3) : IsV (W.alloc (.cells #[.int .i64 v.1, .int .i64 v.2.1, .int .u64 v.2.2] 185)) (some ⟨W.heap.size, 0, none⟩) 1 [v] := by
  refine ⟨rfl, fun j u hu => ⟨_, _, rfl, ?_⟩⟩
  rw [Nat.zero_add, (Blk.new W _ _).cell j]
  simpa [vc] using hu
theorem HeadO.own {M : Bp} {fl : Int} {w : World} {o : Nat → Nat} {vals : List Bv} (h : HeadO M fl w o vals) : o M.β = 2 := by obtain ⟨A, n, c, _, _, _, h⟩ := h; exact h
theorem bld_0 : ¬ Bld 0 := by rintro ⟨h, _⟩; omega
set_option maxRecDepth 100000 in
set_option maxHeartbeats 1500000 in
theorem pushp_spec (M : Bp) (fl : Int) (b : Bd) (v : Bv) (w : World) (o : Nat → Nat) (h : BM M fl w o b) (hs : b.s.length < 65536) :
    Calls Tryz.prog 173 #[.pointer (some ⟨M.β, 0, none⟩), .agg #[.int .i64 (v.t : Int), .int .i64 (v.w : Int), .int .u64 (v.n : Int)]] w (BTo M fl (b.push v) w o) := by
  have HS := Lib.hid hs
  have hB1 : Below w.heap.size w (w.alloc (.cells #[.int .i64 (v.t : Int), .int .i64 (v.w : Int), .int .u64 (v.n : Int)] 185)) := (Below.refl _ _).alloc (Nat.le_refl _) _
  have HB1 := Lib.hid hB1
  have HM1 := Lib.hid (h.fresh hB1 0)
  have HX1 := Lib.hid (Blk.new w 185 #[.int .i64 (v.t : Int), .int .i64 (v.w : Int), .int .u64 (v.n : Int)])
  have HO1 := Lib.hid (show newO o w.heap.size 0 w.heap.size = 0 from newO_new (Nat.le_refl _))
  obtain ⟨β, hβ⟩ : ∃ x, M.β = x := ⟨_, rfl⟩
  obtain ⟨bb, hbb⟩ : ∃ x, M.bb = x := ⟨_, rfl⟩
  obtain ⟨sb, hsb⟩ : ∃ x, M.sb = x := ⟨_, rfl⟩
  obtain ⟨a0, a1, a2, a9, f2⟩ := HM1.out.head.cells
  rw [hβ] at a0 a1 a2 f2
  rw [hbb] at a0
  rw [hβ]
  have Hβ := Lib.hid hβ
  have Hbb := Lib.hid hbb
  have Hsb := Lib.hid hsb
  clear h hs a1 a2 a9 f2 hβ hbb hsb hB1
  go_enter Tryz.func173, Tryz.ntmps173
  go_wp2_with fail
  go_at_call 201
  rw [← Hbb.out]
  refine (berr_is HM1.out.buf).mono ?_
  rintro e w' ⟨rfl, rfl⟩
  go_wp2_with fail
  go_at_call 127
  rw [← Hβ.out]
  refine (fail_ok HM1.out).mono ?_
  rintro e W2 ⟨rfl, o2, hM2, hT2⟩
  have hX2 := HX1.out.to_ hT2 (by rw [HO1.out]; exact bld_0)
  have HO2 := Lib.hid (show o2 w.heap.size = 0 by rw [hT2.ow _ HX1.out.lt]; exact HO1.out)
  obtain ⟨b0, b1, b2, b9, f2⟩ := hM2.head.cells
  rw [Hβ.out] at b1 b2
  rw [Hsb.out] at b1
  rw [Hβ.out]
  have x0 : W2.cell? ⟨w.heap.size, 0, none⟩ = some (.int .i64 (v.t : Int)) := hX2.cell 0
  have x1 : W2.cell? ⟨w.heap.size, 1, none⟩ = some (.int .i64 (v.w : Int)) := hX2.cell 1
  have x2 : W2.cell? ⟨w.heap.size, 2, none⟩ = some (.int .u64 (v.n : Int)) := hX2.cell 2
  have HM2 := Lib.hid hM2
  have HT2 := Lib.hid hT2
  have HX2 := Lib.hid hX2
  clear hX2 b0 b9 f2 hM2 hT2 a0
  go_wp2_with fail
  have HL := Lib.hid (show b.s.length + [v].length ≤ 65536 from HS.out)
  have hB3 : Below W2.heap.size W2 (W2.alloc (.cells #[.int .i64 (v.t : Int), .int .i64 (v.w : Int), .int .u64 (v.n : Int)] 185)).drew := ((Below.refl _ _).alloc (Nat.le_refl _) _).drew
  have HB3 := Lib.hid hB3
  have HM3 := Lib.hid (HM2.out.pure hB3)
  have HI := Lib.hid (show IsV (W2.alloc (.cells #[.int .i64 (v.t : Int), .int .i64 (v.w : Int), .int .u64 (v.n : Int)] 185)).drew (some ⟨W2.heap.size, 0, none⟩) 1 ([v].map vv) from isv_one W2 (vv v))
  have hlt := Nat.ne_of_lt (lt_of_cell b1)
  simp only at hlt
  have hltx := Nat.ne_of_lt (lt_of_cell x0)
  simp only at hltx
  clear hB3
  rw [← Hsb.out] at b1
  go_region_held3 (fun w' => w'.cell? ⟨β, 1, none⟩ = some (.pointer (some ⟨M.sb, 0, none⟩)) ∧ w'.cell? ⟨w.heap.size, 0, none⟩ = some (.int .i64 (v.t : Int)) ∧ w'.cell? ⟨w.heap.size, 1, none⟩ = some (.int .i64 (v.w : Int)) ∧ w'.cell? ⟨w.heap.size, 2, none⟩ = some (.int .u64 (v.n : Int))) (first | with_reducible exact ⟨b1, x0, x1, x2⟩ | with_reducible exact ⟨kdrew b1, kdrew x0, kdrew x1, kdrew x2⟩ | with_reducible exact ⟨kdrew (kalloc _ b1), kdrew (kalloc _ x0), kdrew (kalloc _ x1), kdrew (kalloc _ x2)⟩ | with_reducible exact ⟨y1, y2, y3, y4⟩ | with_reducible exact ⟨z1, z2, z3, z4⟩) (first | (go_at_call 222; (with_reducible refine (spush_is M.sb b.s [v] _ _ _ _ o2 HM3.out.stk HI.out HL.out).mono ?_); rintro e W4 ⟨rfl, o4, hS4, hT4⟩; have hM4 := HM3.out.stk_ hT4 hS4; have y1 := hT4.cell (kdrew (kalloc _ b1)) (by rw [show o2 β = 2 by rw [← Hβ.out]; exact HM2.out.head.own]; omega); have y2 := hT4.cell (kdrew (kalloc _ x0)) (by rw [HO2.out]; omega); have y3 := hT4.cell (kdrew (kalloc _ x1)) (by rw [HO2.out]; omega); have y4 := hT4.cell (kdrew (kalloc _ x2)) (by rw [HO2.out]; omega); have HM4 := Lib.hid hM4; have HT4 := Lib.hid hT4; have HO4 := Lib.hid (show o4 w.heap.size = 0 by rw [hT4.ow _ (Nat.lt_of_lt_of_le (lt_of_cell x0) HB3.out.size)]; exact HO2.out); clear hS4 hT4 hM4) | (go_at_call 127; rw [← Hβ.out]; (with_reducible refine (fail_ok HM4.out).mono ?_); rintro e W5 ⟨rfl, o5, hM5, hT5⟩; have z1 := hM5.head.cells.2.1; rw [Hβ.out] at z1; have z2 := hT5.cell y2 (by rw [HO4.out]; exact bld_0); have z3 := hT5.cell y3 (by rw [HO4.out]; exact bld_0); have z4 := hT5.cell y4 (by rw [HO4.out]; exact bld_0); have HM5 := Lib.hid hM5; have HT5 := Lib.hid hT5; clear hM5 hT5))
  go_end0
  refine ⟨rfl, o5, HM5.out, ?_⟩
  exact (To.fresh _ HB1.out o 0).trans (HT2.out.trans (To.from_pure HB3.out ((HT4.out.mono fun _ h => bld_3 h).trans HT5.out)))
end Go.Proofs.YtfoifdoaleaekaaGreat
