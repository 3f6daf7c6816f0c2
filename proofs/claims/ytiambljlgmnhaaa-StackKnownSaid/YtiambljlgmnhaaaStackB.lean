/-
  The walks over the stack's methods and the reference's.
-/
import Derived.Test.YtiambljlgmnhaaaStackA
namespace Go.Proofs.Ytiambljlgmnhaaa
open Go.RowKit Go.Acc

/-- A list of values and a second result, the list in new memory. -/
def Out2 (w : World) (m : List V3) (x : Value) (e : Ending) (w' : World) : Prop :=
  ∃ A n c, e = .returned (.tuple #[.slice A n c, x]) ∧ OwnV w' w.heap.size A n c m ∧ Below w.heap.size w w'

/-- A stack at block b, its row in block g. -/
def Stk (w : World) (B b : Nat) (g : Option Nat) (l : List V3) : Prop :=
  ∃ A n c, Blk w b 57 #[.slice A n c, .bool true] ∧ OwnV w B A n c l ∧ A.map (·.block) = g ∧ n ≤ 65536 ∧ B ≤ b
def StkR (w : World) (B b : Nat) (g : Option Nat) (l : List V3) : Prop :=
  ∃ A n c, Blk w b 41 #[.slice A n c] ∧ OwnV w B A n c l ∧ A.map (·.block) = g ∧ n ≤ 65536 ∧ B ≤ b

def fromL (l : List V3) (s : Int) : List V3 := if 0 ≤ s ∧ s ≤ l.length then l.drop s.toNat else []
def fromB (l : List V3) (s : Int) : Bool := decide (0 ≤ s ∧ s ≤ l.length)
def fromE (l : List V3) (s : Int) : Int := if 0 ≤ s ∧ s ≤ l.length then 0 else 140
theorem from_yes (l : List V3) (k : Nat) (h : k ≤ l.length) : fromL l k = l.drop k ∧ fromB l k = true ∧ fromE l k = 0 :=
  ⟨by unfold fromL; rw [if_pos (by omega)]; simp, decide_eq_true (by omega), if_pos (by omega)⟩
theorem from_no (l : List V3) (s : Int) (h : s < 0 ∨ (l.length : Int) < s) : fromL l s = [] ∧ fromB l s = false ∧ fromE l s = 140 :=
  ⟨if_neg (by omega), decide_eq_false (by omega), if_neg (by omega)⟩

set_option maxHeartbeats 400000 in
theorem none_spec (b : Nat) (w : World) (h : w.cell? ⟨b, 1, none⟩ = some (.bool true)) :
    Calls Try.prog 25 #[.pointer (some ⟨b, 0, none⟩)] w fun e w' => e = .returned (.bool false) ∧ w = w' := by
  go_enter Try.func25, Try.ntmps25
  go_wp2
  go_ret
  exact ⟨rfl, rfl⟩

set_option maxHeartbeats 400000 in
theorem from0_spec (B b : Nat) (g : Option Nat) (l : List V3) (s : Int) (w : World) (h : Stk w B b g l) :
    Calls Try.prog 26 #[.pointer (some ⟨b, 0, none⟩), .int .i64 s] w (Out2 w (fromL l s) (.bool (fromB l s))) := by
  obtain ⟨A, n, c, hb, hown, _, hl, _⟩ := h
  have c0 : w.cell? ⟨b, 0, none⟩ = some (.slice A n c) := hb.cell 0
  have hr := hown.is
  have hc := hown.cap.1
  have hlen := hown.1
  clear hb hown
  by_cases h1 : s < 0 ∨ (n : Int) < s
  · obtain ⟨e1, e2, _⟩ := from_no l s (by rw [hlen]; exact h1)
    rw [e1, e2]
    clear hr hlen e1 e2
    rcases h1 with h1 | h1
    · go_enter Try.func26, Try.ntmps26
      go_wp2
      go_ret2
      exact ⟨none, 0, 0, rfl, Own.nil _ _, Below.refl _ _⟩
    · have h0 : ¬ s < 0 := by omega
      go_enter Try.func26, Try.ntmps26
      go_wp2
      go_ret2
      exact ⟨none, 0, 0, rfl, Own.nil _ _, Below.refl _ _⟩
  · obtain ⟨k, rfl⟩ := Int.eq_ofNat_of_zero_le (a := s) (by omega)
    have hk : k ≤ n := by omega
    obtain ⟨e1, e2, _⟩ := from_yes l k (by rw [hlen]; exact hk)
    rw [e1, e2]
    have HR := Lib.hid hr
    clear hr h1 e1 e2 hlen
    go_enter Try.func26, Try.ntmps26
    go_wp2_with fail
    · refine (clone_spec A _ _ (l.drop k) w (HR.out.cut0 (by assumption) hc) (by omega)).mono ?_
      rintro e w' ⟨A', n', c', rfl, ho, hbw⟩
      go_wp2
      go_ret2
      exact ⟨A', n', c', rfl, ho, hbw⟩
    · refine (clone_spec _ _ _ (l.drop k) w (HR.out.cut1 vc_len) (by omega)).mono ?_
      rintro e w' ⟨A', n', c', rfl, ho, hbw⟩
      go_wp2
      go_ret2
      exact ⟨A', n', c', rfl, ho, hbw⟩

set_option maxHeartbeats 400000 in
theorem from_spec (B b : Nat) (g : Option Nat) (l : List V3) (s : Int) (w : World) (h : Stk w B b g l) :
    Calls Try.prog 14 #[.pointer (some ⟨b, 0, none⟩), .int .i64 s] w (Out2 w (fromL l s) (.int .i64 (fromE l s))) := by
  have HS := Lib.hid h
  obtain ⟨A, n, c, hb, hown, _, hl, _⟩ := h
  have c1 : w.cell? ⟨b, 1, none⟩ = some (.bool true) := hb.cell 1
  have hlen := hown.1
  clear hb hown
  by_cases h1 : s < 0 ∨ (n : Int) < s
  · obtain ⟨e1, e2, e3⟩ := from_no l s (by rw [hlen]; exact h1)
    rw [e1, e3]
    have E1 := Lib.hid e1
    have E2 := Lib.hid e2
    clear hlen e1 e2 e3 h1
    go_enter Try.func14, Try.ntmps14
    go_wp2_with (go_at_call 25; refine (none_spec b _ (by assumption)).mono ?_; rintro e w' ⟨rfl, rfl⟩)
    refine (from0_spec B b g l s w HS.out).mono ?_
    rw [E1.out, E2.out]
    rintro e w' ⟨A', n', c', rfl, ho, hbw⟩
    go_wp2
    go_ret2
    exact ⟨none, 0, 0, rfl, Own.nil _ _, hbw⟩
  · obtain ⟨k, rfl⟩ := Int.eq_ofNat_of_zero_le (a := s) (by omega)
    have hk : k ≤ n := by omega
    obtain ⟨e1, e2, e3⟩ := from_yes l k (by rw [hlen]; exact hk)
    rw [e3]
    have E2 := Lib.hid e2
    clear h1 e1 e2 e3 hlen
    go_enter Try.func14, Try.ntmps14
    go_wp2_with (go_at_call 25; refine (none_spec b _ (by assumption)).mono ?_; rintro e w' ⟨rfl, rfl⟩)
    refine (from0_spec B b g l k w HS.out).mono ?_
    rw [E2.out]
    rintro e w' ⟨A', n', c', rfl, ho, hbw⟩
    go_wp2
    go_ret2
    exact ⟨A', n', c', rfl, ho, hbw⟩

set_option maxHeartbeats 400000 in
theorem len_spec (B b : Nat) (g : Option Nat) (l : List V3) (w : World) (h : Stk w B b g l) :
    Calls Try.prog 21 #[.pointer (some ⟨b, 0, none⟩)] w fun e w' => e = .returned (.int .i64 l.length) ∧ w = w' := by
  obtain ⟨A, n, c, hb, hown, _, hl, _⟩ := h
  have c0 : w.cell? ⟨b, 0, none⟩ = some (.slice A n c) := hb.cell 0
  have c1 : w.cell? ⟨b, 1, none⟩ = some (.bool true) := hb.cell 1
  rw [hown.1]
  clear hb hown
  go_enter Try.func21, Try.ntmps21
  go_wp2_with (go_at_call 25; refine (none_spec b _ (by assumption)).mono ?_; rintro e w' ⟨rfl, rfl⟩)
  go_ret
  exact ⟨rfl, rfl⟩

/-- What a push or a pop leaves. -/
def Pushed (w : World) (b : Nat) (g : Option Nat) (T : World → Option Nat → Prop) (er : Int) (e : Ending) (w' : World) : Prop :=
  e = .returned (.int .i64 er) ∧ ∃ g', T w' g' ∧ (g' = g ∨ g' = some w.heap.size) ∧ Fr (fun k => k = b ∨ some k = g) w w'

theorem Stk.pure {w w' : World} {B b : Nat} {g : Option Nat} {l : List V3} (h : Stk w B b g l) (hb : Below w.heap.size w w') : Stk w' B b g l := by
  obtain ⟨A, n, c, h1, h2, h3⟩ := h
  exact ⟨A, n, c, h1.pure hb, h2.pure hb, h3⟩
theorem Stk.fr {w w' : World} {B b : Nat} {g : Option Nat} {l : List V3} {S : Nat → Prop} (h : Stk w B b g l) (hb : Fr S w w') (h1 : ¬ S b) (h2 : ∀ k, g = some k → ¬ S k) : Stk w' B b g l := by
  obtain ⟨A, n, c, b1, b2, b3, b4⟩ := h
  exact ⟨A, n, c, b1.fr hb h1, b2.fr hb (fun ad h => h2 _ (by rw [← b3, h]; rfl)), b3, b4⟩
theorem push_post0 {w w1 : World} {A A1 : Option Addr} {B b n c n2 c1 : Nat} {g : Option Nat} {l : List V3} {T : TypeId} {cs : List Value} (hT : 49 ≠ T) (hg : A.map (·.block) = g) (hb : Blk w1 b T (.slice A n c :: cs).toArray) (ho : OwnV w1 B A1 (n + n2) c1 l)
    (hf : Fr (fun k => ∃ ad, A = some ad ∧ k = ad.block) w w1) (hat : A1.map (·.block) = A.map (·.block) ∨ A1.map (·.block) = some w.heap.size) (hlt : b < w.heap.size) :
    ∃ g', (Blk (w1.setCell ⟨b, 0, none⟩ (.slice A1 (n + n2) c1)) b T (.slice A1 (n + n2) c1 :: cs).toArray ∧ OwnV (w1.setCell ⟨b, 0, none⟩ (.slice A1 (n + n2) c1)) B A1 (n + n2) c1 l ∧ A1.map (·.block) = g') ∧ (g' = g ∨ g' = some w.heap.size) ∧
      Fr (fun k => k = b ∨ some k = g) w (w1.setCell ⟨b, 0, none⟩ (.slice A1 (n + n2) c1)) := by
  have hset : Fr (fun k => k = b) w1 (w1.setCell ⟨b, 0, none⟩ (.slice A1 (n + n2) c1)) := Fr.setCell (S := fun k => k = b) (Fr.refl _ _) (fun _ => rfl) _
  refine ⟨A1.map (·.block), ⟨by have := hb.set_ 0 (.slice A1 (n + n2) c1); simpa using this, ho.fr hset ?_, rfl⟩, ?_, ?_⟩
  · rintro ad rfl rfl
    exact own_blk_ne ho.2 hb hT (by simp [Value.ownBlock])
  · rw [← hg]; exact hat
  · refine (hf.mono ?_).setCell (fun _ => .inl rfl) _
    rintro i _ ⟨ad, rfl, rfl⟩
    exact .inr (by rw [← hg]; rfl)
theorem pop_blk {w : World} {b : Nat} {T : TypeId} {u v : Value} {cs : List Value} (hb : Blk w b T (u :: cs).toArray) : Blk (w.setCell ⟨b, 0, none⟩ v) b T (v :: cs).toArray := by
  have := hb.set_ 0 v; simpa using this
theorem pop_own {w : World} {A : Option Addr} {B b n c k : Nat} {l : List V3} {T : TypeId} {u : Value} {cs : List Value} {v : Value} (hT : 49 ≠ T) (hb : Blk w b T (u :: cs).toArray) (ho : OwnV w B A n c l) : OwnV (w.setCell ⟨b, 0, none⟩ v) B A (n - k) c (l.take (n - k)) := by
  refine (ho.fr (Fr.setCell (S := fun k => k = b) (Fr.refl _ _) (fun _ => rfl) v) ?_).take vc_len (by omega)
  rintro ad rfl rfl
  exact own_blk_ne ho.2 hb hT (by simp [Value.ownBlock])
theorem pop_post {w w' : World} {A A' : Option Addr} {B b n c n' c' : Nat} {l m : List V3} {T : TypeId} {u : Value} {cs : List Value} {v : Value} (hT : 49 ≠ T) (hb : Blk w' b T (u :: cs).toArray) (_ho : OwnV w' B A n c l) (ho : OwnV w' w.heap.size A' n' c' m) (_hbw : Below w.heap.size w w') (hlt : b < w.heap.size) :
    OwnV (w'.setCell ⟨b, 0, none⟩ v) w.heap.size A' n' c' m := by
  have _ := hT
  have _ := hb
  refine ho.fr (Fr.setCell (S := fun k => k = b) (Fr.refl _ _) (fun _ => rfl) v) ?_
  rintro ad rfl rfl
  have := (ho.addr ad rfl).2.1
  omega
theorem push_post {w w1 : World} {A A1 : Option Addr} {B b n c n2 c1 : Nat} {g : Option Nat} {l : List V3} (hg : A.map (·.block) = g) (hb : Blk w1 b 57 #[.slice A n c, .bool true]) (ho : OwnV w1 B A1 (n + n2) c1 l)
    (hf : Fr (fun k => ∃ ad, A = some ad ∧ k = ad.block) w w1) (hat : A1.map (·.block) = A.map (·.block) ∨ A1.map (·.block) = some w.heap.size) (hn : n + n2 ≤ 65536) (hB : B ≤ b) (hlt : b < w.heap.size) :
    ∃ g', Stk (w1.setCell ⟨b, 0, none⟩ (.slice A1 (n + n2) c1)) B b g' l ∧ (g' = g ∨ g' = some w.heap.size) ∧ Fr (fun k => k = b ∨ some k = g) w (w1.setCell ⟨b, 0, none⟩ (.slice A1 (n + n2) c1)) := by
  have hset : Fr (fun k => k = b) w1 (w1.setCell ⟨b, 0, none⟩ (.slice A1 (n + n2) c1)) := Fr.setCell (S := fun k => k = b) (Fr.refl _ _) (fun _ => rfl) _
  refine ⟨A1.map (·.block), ⟨A1, n + n2, c1, hb.set_ 0 _, ho.fr hset ?_, rfl, hn, hB⟩, ?_, ?_⟩
  · rintro ad rfl rfl
    exact own_blk_ne ho.2 hb (by decide) (by simp [Value.ownBlock])
  · rw [← hg]; exact hat
  · refine (hf.mono ?_).setCell (fun _ => .inl rfl) _
    rintro i _ ⟨ad, rfl, rfl⟩
    exact .inr (by rw [← hg]; rfl)

set_option maxHeartbeats 400000 in
theorem push_spec (B b : Nat) (g : Option Nat) (l m : List V3) (A2 : Option Addr) (n2 c2 : Nat) (w : World) (h : Stk w B b g l) (hm : IsV w A2 n2 m) (hlm : l.length + m.length ≤ 65536) (hB : B ≤ w.heap.size) :
    Calls Try.prog 17 #[.pointer (some ⟨b, 0, none⟩), .slice A2 n2 c2] w (Pushed w b g (fun w' g' => Stk w' B b g' (l ++ m)) 0) := by
  obtain ⟨A, n, c, hb, hown, hg, hl, hBb⟩ := h
  have c0 : w.cell? ⟨b, 0, none⟩ = some (.slice A n c) := hb.cell 0
  have c1 : w.cell? ⟨b, 1, none⟩ = some (.bool true) := hb.cell 1
  rw [hown.1, hm.1] at hlm
  have hne : ∀ ad, A = some ad → ad.block ≠ b := by
    rintro ad rfl e
    exact own_blk_ne hown.2 hb (by decide) (by simp [Value.ownBlock, e])
  have HO := Lib.hid hown
  have HM := Lib.hid hm
  have HB := Lib.hid hb
  have HN := Lib.hid hne
  have hlt := hb.lt
  clear hb hown hm hne
  go_enter Try.func17, Try.ntmps17
  go_wp2_with (first | (go_at_call 25; refine (none_spec b _ (by assumption)).mono ?_; rintro e w' ⟨rfl, rfl⟩) | ((at_builtin; refine wpl_app _ rfl (.tmp 24) (.tmp 25) _ rfl 49 _ 3 24 Try.underlying27 info_v rfl (by omega) vc_len vc_one _ _ _ _ _ rfl HO.out _ _ _ _ rfl HM.out (by omega) hB ?_; intro A1 c1 w1 hown1 hfr1 hat1); have B1 := HB.out.fr hfr1 (by rintro ⟨ad, h, h'⟩; exact HN.out ad h h'.symm); have d0 : w1.cell? ⟨b, 0, none⟩ = some (.slice A n c) := B1.cell 0; have f0 := B1.frozen 0; have HB1 := Lib.hid B1; clear B1))
  go_ret
  exact ⟨rfl, push_post hg HB1.out hown1 hfr1 hat1 hlm hBb hlt⟩

set_option maxHeartbeats 400000 in
theorem push_no (B b : Nat) (g : Option Nat) (l : List V3) (A2 : Option Addr) (n2 c2 : Nat) (w : World) (h : Stk w B b g l) (hlm : 65536 < l.length + n2) :
    Calls Try.prog 17 #[.pointer (some ⟨b, 0, none⟩), .slice A2 n2 c2] w fun e w' => e = .returned (.int .i64 5) ∧ w = w' := by
  obtain ⟨A, n, c, hb, hown, hg, hl, hBb⟩ := h
  have c0 : w.cell? ⟨b, 0, none⟩ = some (.slice A n c) := hb.cell 0
  have c1 : w.cell? ⟨b, 1, none⟩ = some (.bool true) := hb.cell 1
  rw [hown.1] at hlm
  clear hb hown
  go_enter Try.func17, Try.ntmps17
  go_wp2_with (go_at_call 25; refine (none_spec b _ (by assumption)).mono ?_; rintro e w' ⟨rfl, rfl⟩)
  go_ret
  exact ⟨rfl, rfl⟩

def popE (l : List V3) (s : Int) : Int := if 0 ≤ s ∧ s ≤ l.length then 0 else 140
def popL (l : List V3) (s : Int) : List V3 := if 0 ≤ s ∧ s ≤ l.length then l.drop (l.length - s.toNat) else []
def popR (l : List V3) (s : Int) : List V3 := if 0 ≤ s ∧ s ≤ l.length then l.take (l.length - s.toNat) else l
theorem pop_yes (l : List V3) (k : Nat) (h : k ≤ l.length) : popL l k = l.drop (l.length - k) ∧ popR l k = l.take (l.length - k) ∧ popE l k = 0 :=
  ⟨by unfold popL; rw [if_pos (by omega)]; simp, by unfold popR; rw [if_pos (by omega)]; simp, if_pos (by omega)⟩
theorem pop_no (l : List V3) (s : Int) (h : s < 0 ∨ (l.length : Int) < s) : popL l s = [] ∧ popR l s = l ∧ popE l s = 140 :=
  ⟨if_neg (by omega), if_neg (by omega), if_neg (by omega)⟩

def Popped (w : World) (b : Nat) (T : World → Prop) (m : List V3) (er : Int) (e : Ending) (w' : World) : Prop :=
  ∃ A n c, e = .returned (.tuple #[.slice A n c, .int .i64 er]) ∧ OwnV w' w.heap.size A n c m ∧ T w' ∧ Fr (fun k => k = b) w w'

set_option maxHeartbeats 400000 in
theorem pop_spec (B b : Nat) (g : Option Nat) (l : List V3) (s : Int) (w : World) (h : Stk w B b g l) (hs : -9223372036854775808 ≤ s) (hs2 : s ≤ 9223372036854775807) :
    Calls Try.prog 12 #[.pointer (some ⟨b, 0, none⟩), .int .i64 s] w (Popped w b (fun w' => Stk w' B b g (popR l s)) (popL l s) (popE l s)) := by
  have HS := Lib.hid h
  obtain ⟨n, hlen, hl⟩ : ∃ n, l.length = n ∧ n ≤ 65536 := by obtain ⟨A, n, c, hb, hown, hg, hl, hBb⟩ := h; exact ⟨n, hown.1, hl⟩
  clear h
  by_cases h1 : s < 0 ∨ (n : Int) < s
  · obtain ⟨e1, e2, e3⟩ := pop_no l s (by rw [hlen]; exact h1)
    rw [e1, e2, e3]
    clear e1 e2 e3
    rcases h1 with h1 | h1
    · obtain ⟨f1, f2, f3⟩ := from_no l (-1) (.inl (by omega))
      have F1 := Lib.hid f1
      have F3 := Lib.hid f3
      have HL := Lib.hid hlen
      clear f1 f2 f3 hlen
      go_enter Try.func12, Try.ntmps12
      go_wp2_with (go_at_call 21; refine (len_spec B b g l _ HS.out).mono ?_; rw [HL.out]; rintro e w' ⟨rfl, rfl⟩)
      refine (from_spec B b g l (-1) w HS.out).mono ?_
      rw [F1.out, F3.out]
      rintro e w' ⟨A', n', c', rfl, ho, hbw⟩
      go_wp2
      go_ret2
      exact ⟨A', n', c', rfl, ho, HS.out.pure hbw, Fr.of_below hbw _⟩
    · obtain ⟨f1, f2, f3⟩ := from_no l ((n : Int) - s) (.inl (by omega))
      have F1 := Lib.hid f1
      have F3 := Lib.hid f3
      have HL := Lib.hid hlen
      have h0 : ¬ s < 0 := by omega
      clear f1 f2 f3 hlen
      go_enter Try.func12, Try.ntmps12
      go_wp2_with (go_at_call 21; refine (len_spec B b g l _ HS.out).mono ?_; rw [HL.out]; rintro e w' ⟨rfl, rfl⟩)
      refine (from_spec B b g l _ w HS.out).mono ?_
      rw [F1.out, F3.out]
      rintro e w' ⟨A', n', c', rfl, ho, hbw⟩
      go_wp2
      go_ret2
      exact ⟨A', n', c', rfl, ho, HS.out.pure hbw, Fr.of_below hbw _⟩
  · obtain ⟨k, rfl⟩ := Int.eq_ofNat_of_zero_le (a := s) (by omega)
    have hk : k ≤ n := by omega
    obtain ⟨e1, e2, e3⟩ := pop_yes l k (by rw [hlen]; exact hk)
    rw [e1, e2, e3]
    obtain ⟨f1, f2, f3⟩ := from_yes l (n - k) (by omega)
    have ek : ((n - k : Nat) : Int) = (n : Int) - k := by omega
    rw [ek] at f1 f3
    have F1 := Lib.hid f1
    have F3 := Lib.hid f3
    have HL := Lib.hid hlen
    clear e1 e2 e3 f1 f2 f3 ek h1 hlen
    obtain ⟨A, n0, c, hb, hown, hg, hl, hBb⟩ := HS.out
    obtain rfl : n = n0 := HL.out.symm.trans hown.1
    have HB := Lib.hid hb
    have HO := Lib.hid hown
    have hlt := hb.lt
    have hcap := hown.cap.1
    clear hb hown
    go_enter Try.func12, Try.ntmps12
    go_wp2_with (go_at_call 21; refine (len_spec B b g l _ HS.out).mono ?_; rw [HL.out]; rintro e w' ⟨rfl, rfl⟩)
    refine (from_spec B b g l _ w HS.out).mono ?_
    rw [F1.out, F3.out]
    rintro e w' ⟨A', n', c', rfl, ho, hbw⟩
    have B1 := HB.out.pure hbw
    have d0 : w'.cell? ⟨b, 0, none⟩ = some (.slice A n c) := B1.cell 0
    have f0 := B1.frozen 0
    have HB1 := Lib.hid B1
    clear B1
    go_wp2
    go_ret2
    rw [HL.out]
    exact ⟨A', n', c', rfl, pop_post (T := 57) (by decide) (cs := [.bool true]) HB1.out (HO.out.pure hbw) ho hbw hlt, ⟨A, n - k, c, pop_blk HB1.out, pop_own (by decide) HB1.out (HO.out.pure hbw), hg, by omega, hBb⟩, Fr.setCell (S := fun k => k = b) (Fr.of_below hbw _) (fun _ => rfl) _⟩

theorem Stk.ge {w : World} {B b : Nat} {g : Option Nat} {l : List V3} (h : Stk w B b g l) : B ≤ b ∧ b < w.heap.size ∧ ∀ k, g = some k → B ≤ k ∧ k < w.heap.size ∧ k ≠ b := by
  obtain ⟨A, n, c, h1, h2, rfl, _, h4⟩ := h
  refine ⟨h4, h1.lt, fun k hk => ?_⟩
  cases A with
  | none => cases hk
  | some ad =>
    injection hk with hk
    subst hk
    exact ⟨(h2.addr ad rfl).2.1, (h2.addr ad rfl).2.2, fun e => own_blk_ne h2.2 h1 (by decide) (by simp [Value.ownBlock, e])⟩
theorem Stk.rebase {w : World} {B B' b : Nat} {g : Option Nat} {l : List V3} (h : Stk w B b g l) (hB : B' ≤ B) : Stk w B' b g l := by
  obtain ⟨A, n, c, h1, h2, h3, h4, h5⟩ := h
  exact ⟨A, n, c, h1, h2.rebase hB, h3, h4, by omega⟩
theorem StkR.ge {w : World} {B b : Nat} {g : Option Nat} {l : List V3} (h : StkR w B b g l) : B ≤ b ∧ b < w.heap.size ∧ ∀ k, g = some k → B ≤ k ∧ k < w.heap.size ∧ k ≠ b := by
  obtain ⟨A, n, c, h1, h2, rfl, _, h4⟩ := h
  refine ⟨h4, h1.lt, fun k hk => ?_⟩
  cases A with
  | none => cases hk
  | some ad =>
    injection hk with hk
    subst hk
    exact ⟨(h2.addr ad rfl).2.1, (h2.addr ad rfl).2.2, fun e => own_blk_ne h2.2 h1 (by decide) (by simp [Value.ownBlock, e])⟩
theorem StkR.rebase {w : World} {B B' b : Nat} {g : Option Nat} {l : List V3} (h : StkR w B b g l) (hB : B' ≤ B) : StkR w B' b g l := by
  obtain ⟨A, n, c, h1, h2, h3, h4, h5⟩ := h
  exact ⟨A, n, c, h1, h2.rebase hB, h3, h4, by omega⟩
theorem StkR.pure {w w' : World} {B b : Nat} {g : Option Nat} {l : List V3} (h : StkR w B b g l) (hb : Below w.heap.size w w') : StkR w' B b g l := by
  obtain ⟨A, n, c, h1, h2, h3⟩ := h
  exact ⟨A, n, c, h1.pure hb, h2.pure hb, h3⟩
theorem StkR.fr {w w' : World} {B b : Nat} {g : Option Nat} {l : List V3} {S : Nat → Prop} (h : StkR w B b g l) (hb : Fr S w w') (h1 : ¬ S b) (h2 : ∀ k, g = some k → ¬ S k) : StkR w' B b g l := by
  obtain ⟨A, n, c, b1, b2, b3, b4⟩ := h
  exact ⟨A, n, c, b1.fr hb h1, b2.fr hb (fun ad h => h2 _ (by rw [← b3, h]; rfl)), b3, b4⟩

set_option maxHeartbeats 400000 in
theorem rfrom_spec (B b : Nat) (g : Option Nat) (l : List V3) (s : Int) (w : World) (h : StkR w B b g l) :
    Calls Try.prog 15 #[.pointer (some ⟨b, 0, none⟩), .int .i64 s] w (Out2 w (fromL l s) (.int .i64 (fromE l s))) := by
  obtain ⟨A, n, c, hb, hown, _, hl, _⟩ := h
  have c0 : w.cell? ⟨b, 0, none⟩ = some (.slice A n c) := hb.cell 0
  have hr := hown.is
  have hc := hown.cap.1
  have hlen := hown.1
  clear hb hown
  by_cases h1 : s < 0 ∨ (n : Int) < s
  · obtain ⟨e1, _, e2⟩ := from_no l s (by rw [hlen]; exact h1)
    rw [e1, e2]
    clear hr hlen e1 e2
    rcases h1 with h1 | h1
    · go_enter Try.func15, Try.ntmps15
      go_wp2
      go_ret2
      exact ⟨none, 0, 0, rfl, Own.nil _ _, Below.refl _ _⟩
    · have h0 : ¬ s < 0 := by omega
      go_enter Try.func15, Try.ntmps15
      go_wp2
      go_ret2
      exact ⟨none, 0, 0, rfl, Own.nil _ _, Below.refl _ _⟩
  · obtain ⟨k, rfl⟩ := Int.eq_ofNat_of_zero_le (a := s) (by omega)
    have hk : k ≤ n := by omega
    obtain ⟨e1, _, e2⟩ := from_yes l k (by rw [hlen]; exact hk)
    rw [e1, e2]
    have HR := Lib.hid hr
    clear hr h1 e1 e2 hlen
    go_enter Try.func15, Try.ntmps15
    go_wp2_with fail
    · refine (copied_spec A _ _ (l.drop k) w (HR.out.cut0 (by assumption) hc) (by omega)).mono ?_
      rintro e w' ⟨A', n', c', rfl, ho, hbw⟩
      go_wp2
      go_ret2
      exact ⟨A', n', c', rfl, ho, hbw⟩
    · refine (copied_spec _ _ _ (l.drop k) w (HR.out.cut1 vc_len) (by omega)).mono ?_
      rintro e w' ⟨A', n', c', rfl, ho, hbw⟩
      go_wp2
      go_ret2
      exact ⟨A', n', c', rfl, ho, hbw⟩

set_option maxHeartbeats 400000 in
theorem rpush_spec (B b : Nat) (g : Option Nat) (l m : List V3) (A2 : Option Addr) (n2 c2 : Nat) (w : World) (h : StkR w B b g l) (hm : IsV w A2 n2 m) (hlm : l.length + m.length ≤ 65536) (hB : B ≤ w.heap.size) :
    Calls Try.prog 18 #[.pointer (some ⟨b, 0, none⟩), .slice A2 n2 c2] w (Pushed w b g (fun w' g' => StkR w' B b g' (l ++ m)) 0) := by
  obtain ⟨A, n, c, hb, hown, hg, hl, hBb⟩ := h
  have c0 : w.cell? ⟨b, 0, none⟩ = some (.slice A n c) := hb.cell 0
  rw [hown.1, hm.1] at hlm
  have hne : ∀ ad, A = some ad → ad.block ≠ b := by
    rintro ad rfl e
    exact own_blk_ne hown.2 hb (by decide) (by simp [Value.ownBlock, e])
  have HO := Lib.hid hown
  have HM := Lib.hid hm
  have HB := Lib.hid hb
  have HN := Lib.hid hne
  have hlt := hb.lt
  clear hb hown hm hne
  go_enter Try.func18, Try.ntmps18
  go_wp2_with ((at_builtin; refine wpl_app _ rfl (.tmp 18) (.tmp 19) _ rfl 49 _ 3 24 Try.underlying27 info_v rfl (by omega) vc_len vc_one _ _ _ _ _ rfl HO.out _ _ _ _ rfl HM.out (by omega) hB ?_; intro A1 c1 w1 hown1 hfr1 hat1); have B1 := HB.out.fr hfr1 (by rintro ⟨ad, h, h'⟩; exact HN.out ad h h'.symm); have d0 : w1.cell? ⟨b, 0, none⟩ = some (.slice A n c) := B1.cell 0; have f0 := B1.frozen 0; have HB1 := Lib.hid B1; clear B1)
  go_ret
  obtain ⟨g', h1, h2⟩ := push_post0 (T := 41) (by decide) (cs := []) hg HB1.out hown1 hfr1 hat1 hlt
  exact ⟨rfl, g', ⟨A1, n + n2, c1, h1.1, h1.2.1, h1.2.2, hlm, hBb⟩, h2⟩

set_option maxHeartbeats 400000 in
theorem rpush_no (B b : Nat) (g : Option Nat) (l : List V3) (A2 : Option Addr) (n2 c2 : Nat) (w : World) (h : StkR w B b g l) (hlm : 65536 < l.length + n2) (hn : n2 ≤ 65536) :
    Calls Try.prog 18 #[.pointer (some ⟨b, 0, none⟩), .slice A2 n2 c2] w fun e w' => e = .returned (.int .i64 5) ∧ w = w' := by
  obtain ⟨A, n, c, hb, hown, hg, hl, hBb⟩ := h
  have c0 : w.cell? ⟨b, 0, none⟩ = some (.slice A n c) := hb.cell 0
  rw [hown.1] at hlm
  clear hb hown
  go_enter Try.func18, Try.ntmps18
  go_wp2
  go_ret
  exact ⟨rfl, rfl⟩

set_option maxHeartbeats 400000 in
theorem rpop_spec (B b : Nat) (g : Option Nat) (l : List V3) (s : Int) (w : World) (h : StkR w B b g l) :
    Calls Try.prog 13 #[.pointer (some ⟨b, 0, none⟩), .int .i64 s] w (Popped w b (fun w' => StkR w' B b g (popR l s)) (popL l s) (popE l s)) := by
  obtain ⟨A, n, c, hb, hown, hg, hl, hBb⟩ := h
  have c0 : w.cell? ⟨b, 0, none⟩ = some (.slice A n c) := hb.cell 0
  have hr := hown.is
  have hc := hown.cap.1
  have hlen := hown.1
  have HB := Lib.hid hb
  have HO := Lib.hid hown
  have hlt := hb.lt
  clear hb hown
  by_cases h1 : s < 0 ∨ (n : Int) < s
  · obtain ⟨e1, e2, e3⟩ := pop_no l s (by rw [hlen]; exact h1)
    rw [e1, e2, e3]
    clear hr hlen e1 e2 e3
    rcases h1 with h1 | h1
    · go_enter Try.func13, Try.ntmps13
      go_wp2
      go_ret2
      exact ⟨none, 0, 0, rfl, Own.nil _ _, ⟨A, n, c, HB.out, HO.out, hg, hl, hBb⟩, Fr.refl _ _⟩
    · have h0 : ¬ s < 0 := by omega
      go_enter Try.func13, Try.ntmps13
      go_wp2
      go_ret2
      exact ⟨none, 0, 0, rfl, Own.nil _ _, ⟨A, n, c, HB.out, HO.out, hg, hl, hBb⟩, Fr.refl _ _⟩
  · obtain ⟨k, rfl⟩ := Int.eq_ofNat_of_zero_le (a := s) (by omega)
    have hk : k ≤ n := by omega
    obtain ⟨e1, e2, e3⟩ := pop_yes l k (by rw [hlen]; exact hk)
    rw [e1, e2, e3, hlen]
    have HR := Lib.hid hr
    clear hr h1 e1 e2 e3 hlen
    go_enter Try.func13, Try.ntmps13
    go_wp2_with fail
    · obtain rfl : c = n - k := by assumption
      refine (copied_spec A _ _ (l.drop (n - k)) w (HR.out.cut0 rfl hc) (by omega)).mono ?_
      rintro e w' ⟨A', n', c', rfl, ho, hbw⟩
      have B1 := HB.out.pure hbw
      have d0 : w'.cell? ⟨b, 0, none⟩ = some (.slice A n (n - k)) := B1.cell 0
      have f0 := B1.frozen 0
      have HB1 := Lib.hid B1
      clear B1
      go_wp2
      go_ret2
      exact ⟨A', n', c', rfl, pop_post (T := 41) (by decide) (cs := []) HB1.out (HO.out.pure hbw) ho hbw hlt, ⟨A, n - k, n - k, pop_blk HB1.out, pop_own (by decide) HB1.out (HO.out.pure hbw), hg, by omega, hBb⟩, Fr.setCell (S := fun k => k = b) (Fr.of_below hbw _) (fun _ => rfl) _⟩
    · refine (copied_spec _ _ _ (l.drop (n - k)) w (HR.out.cut1 vc_len) (by omega)).mono ?_
      rintro e w' ⟨A', n', c', rfl, ho, hbw⟩
      have B1 := HB.out.pure hbw
      have d0 : w'.cell? ⟨b, 0, none⟩ = some (.slice A n c) := B1.cell 0
      have f0 := B1.frozen 0
      have HB1 := Lib.hid B1
      clear B1
      go_wp2
      go_ret2
      exact ⟨A', n', c', rfl, pop_post (T := 41) (by decide) (cs := []) HB1.out (HO.out.pure hbw) ho hbw hlt, ⟨A, n - k, c, pop_blk HB1.out, pop_own (by decide) HB1.out (HO.out.pure hbw), hg, by omega, hBb⟩, Fr.setCell (S := fun k => k = b) (Fr.of_below hbw _) (fun _ => rfl) _⟩

set_option maxHeartbeats 400000 in
theorem new_spec (w : World) :
    Calls Try.prog 9 #[] w fun e w' => ∃ b, e = .returned (.pointer (some ⟨b, 0, none⟩)) ∧ Stk w' w.heap.size b none [] ∧ Below w.heap.size w w' := by
  go_enter Try.func9, Try.ntmps9
  go_wp2
  go_ret
  exact ⟨_, rfl, ⟨none, 0, 0, Blk.new w _ _, Own.nil _ _, rfl, by omega, Nat.le_refl _⟩, (Below.refl _ _).alloc (Nat.le_refl _) _⟩
set_option maxHeartbeats 400000 in
theorem rnew_spec (w : World) :
    Calls Try.prog 10 #[] w fun e w' => ∃ b, e = .returned (.pointer (some ⟨b, 0, none⟩)) ∧ StkR w' w.heap.size b none [] ∧ Below w.heap.size w w' := by
  go_enter Try.func10, Try.ntmps10
  go_wp2
  go_ret
  exact ⟨_, rfl, ⟨none, 0, 0, Blk.new w _ _, Own.nil _ _, rfl, by omega, Nat.le_refl _⟩, (Below.refl _ _).alloc (Nat.le_refl _) _⟩

end Go.Proofs.Ytiambljlgmnhaaa
