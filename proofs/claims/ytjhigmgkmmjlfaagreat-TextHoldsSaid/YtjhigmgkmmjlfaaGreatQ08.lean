/-
  Package build, plain: how much a tree adds to the builder's state; the bound for cut trees. No program in sight.
  Package buf: Align, Num.
  Package buf: Num, sum, Text.
-/
import Derived.Test.YtjhigmgkmmjlfaaGreatQ07
namespace Go.Proofs.YtjhigmgkmmjlfaaGreat
open Go.Acc
def keysCost : List (List UInt8) → Nat
  | [] => 0
  | s :: r => s.length + 20 + keysCost r
mutual
/-- What a node may add: to the bytes, the stack, the pools, all taken together. -/
def Tr.cost : Tr → Nat
  | .mk _ _ _ s ks l => 64 + 2 * s.length + keysCost ks + Tr.costL l
def Tr.costL : List Tr → Nat
  | [] => 0
  | t :: r => 40 + Tr.cost t + Tr.costL r
end
def Bd.size (b : Bd) : Nat := b.b.length + b.s.length + b.keys.length + b.texts.length + b.lists.length + b.names.length + b.vals.length
theorem padN_le {w : Nat} (n : Nat) (hw : w ≤ 8) : padN w n ≤ 7 := by
  unfold padN
  rcases Nat.eq_zero_or_pos w with rfl | h
  · simp
  · have := Nat.mod_lt (w - n % w) h
    omega
theorem alignB_len {w : Nat} (b : List UInt8) (hw : w ≤ 8) : (alignB w b).length ≤ b.length + 7 := by
  have := padN_le b.length hw
  simp [alignB]; omega
theorem elemsB_len {w : Nat} (vs : List Bv) (l : List UInt8) (hw : w ≤ 8) : (elemsB w l vs).length ≤ l.length + 8 * vs.length := by
  obtain ⟨m, e, h⟩ := elemsB_app w vs l
  have := Nat.mul_le_mul_right vs.length hw
  rw [e, List.length_append]; omega
theorem bVec_len (t : Nat) (len tags : Bool) (l : List Bv) (b : List UInt8) : (bVec t len tags l b).1.length ≤ b.length + 15 + 9 * l.length := by
  have h8 : fitAll b.length (if len = true then 1 else 0) none l ≤ 8 := leastW_le _
  have h1 := alignB_len b h8
  unfold bVec
  simp only [List.length_append]
  have h2 := elemsB_len l (alignB (fitAll b.length (if len = true then 1 else 0) none l) b ++ (if len = true then leBytes (fitAll b.length (if len = true then 1 else 0) none l) l.length else [])) h8
  have h3 : (if len = true then leBytes (fitAll b.length (if len = true then 1 else 0) none l) l.length else []).length ≤ 8 := by
    split
    · rw [leBytes_length]; exact leastW_le _
    · simp
  have h4 : (if tags = true then l.map (bTag (fitAll b.length (if len = true then 1 else 0) none l)) else []).length ≤ l.length := by
    split <;> simp
  rw [List.length_append] at h2
  omega
theorem mapB_len (k : Bv) (l : List Bv) (b : List UInt8) : (mapB k l b).1.length ≤ b.length + 31 + 9 * l.length := by
  have h8 : fitAll b.length 3 (some k) l ≤ 8 := leastW_le _
  have h1 := alignB_len b h8
  unfold mapB
  simp only [List.length_append, List.length_map]
  generalize hw : fitAll b.length 3 (some k) l = w at *
  have h2 := elemsB_len l (alignB w b ++ leBytes w ((alignB w b).length - k.n) ++ leBytes w k.w ++ leBytes w l.length) h8
  simp only [List.length_append, leBytes_length] at h2
  omega
theorem putP_len (l : List (List UInt8 × Nat)) (k : List UInt8) (a : Nat) : (putP l k a).length ≤ l.length + 1 := by
  unfold putP; split <;> simp
theorem put_size (f : Nat) (s : List UInt8) (b : Bd) : (b.put f s).1.size ≤ b.size + s.length + 3 ∧ (b.put f s).1.s = b.s := by
  unfold Bd.put
  have h := putP_len b.keys s b.b.length
  cases (if onF f 1 = true then getP b.keys s else none) with
  | some a => exact ⟨by simp; omega, rfl⟩
  | none => exact ⟨by simp [Bd.size]; omega, rfl⟩
theorem key_size (f : Nat) (s : List UInt8) (b : Bd) : (b.key f s).size ≤ b.size + s.length + 4 := by
  have h := (put_size f s b).1
  simp only [Bd.key, Bd.push, Bd.size, List.length_append, List.length_cons, List.length_nil] at h ⊢
  omega
theorem puts_size (f : Nat) : ∀ (l : List Tr) (b : Bd), (b.puts f (l.map Tr.s)).1.size + 90 * l.length ≤ b.size + Tr.costL l
  | [], b => by simp [Bd.puts, Tr.costL]
  | .mk k n u s ks c :: r, b => by
    have h1 := (put_size f s b).1
    have h2 := puts_size f r (b.put f s).1
    simp only [List.map_cons, Bd.puts, Tr.costL, Tr.cost, Tr.s, List.length_cons]
    omega
theorem puts_len (f : Nat) : ∀ (l : List (List UInt8)) (b : Bd), (b.puts f l).2.length = l.length
  | [], b => by simp [Bd.puts]
  | s :: r, b => by simp [Bd.puts, puts_len f r]
theorem vec_size (t : Nat) (len tags : Bool) (l : List Bv) (b : Bd) : (b.vec t len tags l).size ≤ b.size + 16 + 9 * l.length := by
  have h := bVec_len t len tags l b.b
  simp only [Bd.vec, Bd.size, List.length_append, List.length_cons, List.length_nil]
  omega
theorem costL_len (l : List Tr) : 40 * l.length ≤ Tr.costL l := by
  induction l with
  | nil => simp
  | cons t r ih => simp only [Tr.costL, List.length_cons]; omega
theorem str_size (f : Nat) (s : List UInt8) (b : Bd) : (b.str f s).size ≤ b.size + s.length + 20 := by
  have h8 : bWidth s.length ≤ 8 := bWidth_le _
  have h1 := alignB_len b.b h8
  unfold Bd.str
  cases (if onF f 2 = true then getP b.texts s else none) with
  | some a => simp [Bd.push, Bd.size]; omega
  | none =>
    have h := putP_len b.texts s (alignB (bWidth s.length) b.b ++ leBytes (bWidth s.length) s.length).length
    simp only [Bd.size, List.length_append, leBytes_length, List.length_cons, List.length_nil] at h ⊢
    omega
theorem blob_size (s : List UInt8) (b : Bd) : (b.blob s).size ≤ b.size + s.length + 20 := by
  have h8 : bWidth s.length ≤ 8 := bWidth_le _
  have h1 := alignB_len b.b h8
  unfold Bd.blob
  simp only [Bd.size, List.length_append, leBytes_length, List.length_cons, List.length_nil]
  omega
theorem apart_size (t w n : Nat) (b : Bd) (hw : w ≤ 8) : (b.apart t w n).size ≤ b.size + 20 := by
  have h1 := alignB_len b.b hw
  unfold Bd.apart
  simp only [Bd.size, List.length_append, leBytes_length, List.length_cons, List.length_nil]
  omega
theorem push_size (b : Bd) (v : Bv) : (b.push v).size = b.size + 1 := by
  simp [Bd.push, Bd.size]; omega
theorem leaf_size (f : Nat) (k n : Int) (u : Nat) (s : List UInt8) (b : Bd) : (b.leaf f k n u s).size ≤ b.size + 64 + 2 * s.length := by
  have h1 := key_size f s b
  have h2 := str_size f s b
  have h3 := blob_size s b
  have h4 := apart_size 6 (bWidthI n) (bits n) b (bWidthI_le _)
  have h5 := apart_size 7 (bWidth u) u b (bWidth_le _)
  unfold Bd.leaf
  (repeat' split) <;> (try rw [push_size]) <;> omega
theorem flat_size (f : Nat) (k : Int) (l : List Tr) (b : Bd) : (b.flat f k l).size ≤ b.size + 64 + Tr.costL l := by
  have hl := costL_len l
  have hp := puts_size f l b
  have hn := puts_len f (l.map Tr.s) b
  rw [List.length_map] at hn
  have hv : ∀ (t : Nat) (len tags : Bool) (x : List Bv), x.length = l.length → (b.vec t len tags x).size ≤ b.size + 64 + Tr.costL l := by
    intro t len tags x hx
    have := vec_size t len tags x b
    omega
  unfold Bd.flat
  split
  · exact hv _ _ _ _ (by simp)
  split
  · exact hv _ _ _ _ (by simp)
  split
  · exact hv _ _ _ _ (by simp)
  split
  · -- keys: the strings twice
    have h := vec_size 14 true false (b.puts f (l.map Tr.s)).2 (b.puts f (l.map Tr.s)).1
    show (Bd.vec 14 true false (b.puts f (l.map Tr.s)).2 (b.puts f (l.map Tr.s)).1).size ≤ _
    omega
  split
  · exact hv _ _ _ _ (by simp)
  · exact hv _ _ _ _ (by simp)
theorem endVec_size (start : Nat) (b : Bd) (n : Nat) (h : (b.s.drop start).length = n) : (b.endVec start).size ≤ b.size + 16 + 9 * n := by
  have h1 := bVec_len 10 true true (b.s.drop start) b.b
  have h3 : (b.s.take start).length ≤ b.s.length := by rw [List.length_take]; omega
  simp only [Bd.endVec, Bd.vec, Bd.size, List.length_append, List.length_cons, List.length_nil]
  omega
theorem callsL_size (f : Nat) : ∀ (c : List Tr), (∀ t ∈ c, Does f t) → (∀ t ∈ c, ∀ b, Good b → (Bd.calls f t b).size ≤ b.size + t.cost) → ∀ b, Good b → (Bd.callsL f c b).size + 40 * c.length ≤ b.size + Tr.costL c
  | [], _, _, b, h => by simp [Bd.callsL, Tr.costL]
  | t :: r, hd, hc, b, h => by
    obtain ⟨v, e1, s1, r1⟩ := hd t (by simp) b h
    have h1 := hc t (by simp) b h
    have h2 := callsL_size f r (fun t ht => hd t (by simp [ht])) (fun t ht => hc t (by simp [ht])) (Bd.calls f t b) s1.2
    simp only [Bd.callsL, Tr.costL, List.length_cons]
    omega
theorem callsM_size (f : Nat) : ∀ (c : List Tr) (ks : List (List UInt8)), ks.length = c.length → (∀ t ∈ c, Does f t) → (∀ t ∈ c, ∀ b, Good b → (Bd.calls f t b).size ≤ b.size + t.cost) → ∀ b, Good b → (Bd.callsM f ks c b).size + 50 * c.length ≤ b.size + keysCost ks + Tr.costL c
  | [], ks, hk, _, _, b, h => by simp [Bd.callsM, Tr.costL]
  | t :: r, [], hk, _, _, _, _ => by simp at hk
  | t :: r, s :: ks, hk, hd, hc, b, h => by
    obtain ⟨kv, e0, s0, k0⟩ := key_law f s b h
    have h0 := key_size f s b
    obtain ⟨v, e1, s1, r1⟩ := hd t (by simp) (b.key f s) s0.2
    have h1 := hc t (by simp) (b.key f s) s0.2
    have h2 := callsM_size f r ks (by simpa using hk) (fun t ht => hd t (by simp [ht])) (fun t ht => hc t (by simp [ht])) (Bd.calls f t (b.key f s)) s1.2
    have ee : Bd.callsM f (s :: ks) (t :: r) b = Bd.callsM f ks r (Bd.calls f t (b.key f s)) := by rw [Bd.callsM]; rfl
    rw [ee]
    simp only [Tr.costL, List.length_cons, keysCost]
    omega
theorem endMap_size (f : Nat) (ks : List (List UInt8)) (start : Nat) (b : Bd) (n : Nat) (h1 : (evens (b.s.drop start)).length = n) (h2 : (odds (b.s.drop start)).length = n) :
    (b.endMap f ks start).size ≤ b.size + 50 + 18 * n := by
  have h3 : (b.s.take start).length ≤ b.s.length := by rw [List.length_take]; omega
  unfold Bd.endMap
  simp only []
  cases (if onF f 4 = true then getP b.lists (ks.flatMap fun s => s ++ [0]) else none) with
  | some i =>
    have h := mapB_len (b.vals.getD i ⟨0, 0, 0⟩) (odds (b.s.drop start)) b.b
    simp only [Bd.size, List.length_append, List.length_cons, List.length_nil] at h ⊢
    omega
  | none =>
    have h4 := bVec_len 14 true false (evens (b.s.drop start)) b.b
    have h := mapB_len (bVec 14 true false (evens (b.s.drop start)) b.b).2 (odds (b.s.drop start)) (bVec 14 true false (evens (b.s.drop start)) b.b).1
    have h5 := putP_len b.lists (ks.flatMap fun s => s ++ [0]) b.vals.length
    simp only [Bd.size, List.length_append, List.length_cons, List.length_nil] at h ⊢
    omega
theorem calls_size (f : Nat) (t : Tr) (h : Ok t) : ∀ b, Good b → (Bd.calls f t b).size ≤ b.size + t.cost := by
  induction h with
  | leaf n u s ks c h1 h2 =>
    intro b hg
    rename_i k
    have e : Bd.calls f (.mk k n u s ks c) b = b.leaf f k n u s := by
      rw [Bd.calls, if_neg (by omega), if_neg (by omega), if_pos h2]
    rw [e, Tr.cost]
    have := leaf_size f k n u s b
    omega
  | flat n u s ks c h1 h2 =>
    intro b hg
    rename_i k
    have e : Bd.calls f (.mk k n u s ks c) b = b.flat f k c := by
      rw [Bd.calls, if_neg (by omega), if_neg (by omega), if_neg (by omega)]
    rw [e, Tr.cost]
    have := flat_size f k c b
    omega
  | vec n u s ks hd ih =>
    intro b hg
    rename_i c
    obtain ⟨vs, e1, l1, s1, r1⟩ := callsL_law f c (fun t ht => calls_law f t (hd t ht)) b hg
    have h1 := callsL_size f c (fun t ht => calls_law f t (hd t ht)) ih b hg
    have e : Bd.calls f (.mk 10 n u s ks c) b = (Bd.callsL f c b).endVec b.s.length := by rw [Bd.calls, if_pos rfl]
    have hv : (Bd.callsL f c b).s.drop b.s.length = vs := by rw [e1]; simp
    have h2 := endVec_size b.s.length (Bd.callsL f c b) c.length (by rw [hv, l1])
    rw [e, Tr.cost]
    omega
  | map n u s hl h0 hd ih =>
    intro b hg
    rename_i c ks
    obtain ⟨kvs, vs, e1, l1, s1, k1, r1⟩ := callsM_law f c ks hl (fun t ht => calls_law f t (hd t ht)) b hg
    have h1 := callsM_size f c ks hl (fun t ht => calls_law f t (hd t ht)) ih b hg
    have e : Bd.calls f (.mk 17 n u s ks c) b = (Bd.callsM f ks c b).endMap f ks b.s.length := by
      rw [Bd.calls, if_neg (by omega), if_pos rfl]
    have hv : (Bd.callsM f ks c b).s.drop b.s.length = both kvs vs := by rw [e1]; simp
    obtain ⟨ev, od⟩ := evens_both kvs vs (by rw [k1.1, l1, hl])
    have h2 := endMap_size f ks b.s.length (Bd.callsM f ks c b) c.length (by rw [hv, ev, k1.1, hl]) (by rw [hv, od, l1])
    rw [e, Tr.cost]
    omega
end Go.Proofs.YtjhigmgkmmjlfaaGreat

namespace Go.Proofs.YtjhigmgkmmjlfaaGreat
open Go.RowKit Go.Acc
theorem pad_tmod (n y : Nat) (hy : 0 < y) : ∃ r p : Nat, (n : Int).tmod y = r ∧ r < y ∧ ((y : Int) - (r : Int)).tmod y = p ∧ padN y n = p := by
  have h1 : (n : Int).tmod y = ((n % y : Nat) : Int) := by rw [Int.tmod_eq_emod_of_nonneg (by omega)]; rfl
  have h2 := Nat.mod_lt n hy
  refine ⟨n % y, padN y n, h1, h2, ?_, rfl⟩
  rw [show (y : Int) - ((n % y : Nat) : Int) = ((y - n % y : Nat) : Int) by omega, Int.tmod_eq_emod_of_nonneg (by omega)]
  rfl
theorem wrap_in (n : Int) (h : -9223372036854775808 ≤ n ∧ n ≤ 9223372036854775807) : IntKind.i64.wrap n = n := by rw [IntKind.wrap_i64]; omega
theorem bisb_drew {w : World} {A : Option Addr} {n : Nat} {l : List UInt8} (h : IsB w A n l) : IsB w.drew A n l := h
set_option maxRecDepth 100000 in
set_option maxHeartbeats 1000000 in
theorem balign1_spec (bx bw b y : Nat) (l : List UInt8) (w : World) (o : Nat → Nat) (h : Buf w o b l) (hx : Blk w bx 170 #[.pointer (some ⟨b, 0, none⟩)]) (hw : Blk w bw 3 #[.int .i64 (y : Int)]) (hy : isW (y : Int) = true) (ox : o bx ≠ 1) (ow : o bw ≠ 1) (hm : l.length + 7 ≤ 1048576) :
    Calls Tryz.prog 219 #[.pointer (some ⟨bx, 0, none⟩), .pointer (some ⟨bw, 0, none⟩)] w (BufTo w o b (alignB y l)) := by
  have x0 : w.cell? ⟨bx, 0, none⟩ = some (.pointer (some ⟨b, 0, none⟩)) := hx.cell 0
  have w0 : w.cell? ⟨bw, 0, none⟩ = some (.int .i64 (y : Int)) := hw.cell 0
  obtain ⟨n, hn⟩ : ∃ n, l.length = n := ⟨_, rfl⟩
  have hn' : n ≤ 1048576 := by omega
  have hy8 : 1 ≤ y ∧ y ≤ 8 := by have := isW_iff.1 hy; omega
  obtain ⟨r, p, e1, hr, e2, e3⟩ := pad_tmod n y (by omega)
  have hp7 : p ≤ 7 := by rw [← e3]; exact padN_le n hy8.2
  have hy0 : (0 : Int) < (y : Int) := by omega
  have hyn : ¬ y = 0 := by omega
  have hy9 : (y : Int) ≤ 8 := by omega
  have hr0 : (0 : Int) ≤ (r : Int) := by omega
  have hr1 : (r : Int) < (y : Int) := by omega
  have hp0 : (0 : Int) ≤ (p : Int) := by omega
  have hp1 : (p : Int) ≤ 7 := by omega
  obtain ⟨Z, hZ1, hZ2, hmk⟩ := make_b p (by omega)
  have HZ2 := Lib.hid hZ2
  have HZ1 := Lib.hid hZ1
  clear hZ1 hZ2
  have HY := Lib.hid hy
  have H := Lib.hid h
  have HNN := Lib.hid hn
  have HP := Lib.hid e3
  have HL := Lib.hid (show l.length + p ≤ 1048576 by omega)
  clear hx hw hy h hn hm e3
  have hwr : IntKind.i64.wrap ((y : Int) - (r : Int)) = (y : Int) - (r : Int) := wrap_in ((y : Int) - (r : Int)) (by omega)
  go_enter Tryz.func219, Tryz.ntmps219
  have HI := Lib.hid (ownb_lit w Z p 0 (List.replicate p (0 : UInt8)) (Nat.zero_le _) (by simp) (by omega) HZ2.out).is
  go_region_held3 (fun w' => w'.cell? ⟨bx, 0, none⟩ = some (.pointer (some ⟨b, 0, none⟩)) ∧ w'.cell? ⟨bw, 0, none⟩ = some (.int .i64 (y : Int))) (first | with_reducible exact ⟨x0, w0⟩ | with_reducible exact ⟨kdrew x0, kdrew w0⟩ | with_reducible exact ⟨kdrew (kalloc _ x0), kdrew (kalloc _ w0)⟩ | with_reducible exact ⟨x1, w1⟩) (first | (go_at_call 150; (with_reducible refine (blen_is n H.out.drew HNN.out).mono ?_); rintro e w' ⟨rfl, rfl⟩) | (go_at_call 220; (with_reducible refine (bput_spec b p p _ l (List.replicate p (0 : UInt8)) _ o (H.out.alloc _).drew (bisb_drew HI.out) HL.out).mono ?_); rintro e w' ⟨rfl, o', hB, hT⟩; have x1 := hT.cell (kdrew (kalloc _ x0)) ox; have w1 := hT.cell (kdrew (kalloc _ w0)) ow; have HB := Lib.hid hB; have HT := Lib.hid hT; clear hB hT))
  go_end0
  have e3 : alignB y l = l ++ List.replicate p 0 := by unfold alignB; rw [HNN.out, HP.out]
  rw [e3]
  exact ⟨rfl, o', HB.out, To.from_pure ((Below.refl _ _).alloc (Nat.le_refl _) _) HT.out.from_drew⟩
set_option maxHeartbeats 1000000 in
theorem balign_spec (b y : Nat) (l : List UInt8) (w : World) (o : Nat → Nat) (h : Buf w o b l) (hy : isW (y : Int) = true) (hm : l.length + 7 ≤ 1048576) :
    Calls Tryz.prog 151 #[.pointer (some ⟨b, 0, none⟩), .int .i64 (y : Int)] w (BufTo w o b (alignB y l)) := by
  have H := Lib.hid h
  have HY := Lib.hid hy
  clear h hy
  go_enter Tryz.func151, Tryz.ntmps151
  go_wp2_with fail
  have hB : Below w.heap.size w ((w.alloc (.cells #[.pointer (some ⟨b, 0, none⟩)] 170)).alloc (.cells #[.int .i64 (y : Int)] 3)) := ((Below.refl _ _).alloc (Nat.le_refl _) _).alloc (by simp) _
  have hK1 := (Blk.new w 170 #[.pointer (some ⟨b, 0, none⟩)]).alloc (.cells #[.int .i64 (y : Int)] 3)
  have hK2 := blk_new2 w (.cells #[.pointer (some ⟨b, 0, none⟩)] 170) 3 #[.int .i64 (y : Int)]
  have HBW := Lib.hid hB
  refine (bwith_spec b y 219 _ _ _ HY.out Tryz.call219 ((balign1_spec w.heap.size (w.heap.size + 1) b y l _ (newO o w.heap.size 0) (H.out.fresh hB 0) hK1 hK2 HY.out (by rw [newO_new (by omega)]; omega) (by rw [newO_new (by omega)]; omega) hm).mono fun e w' h => ⟨h.1, h⟩)).mono ?_
  rintro e w' ⟨rfl, o', hB', hT⟩
  have HE := Lib.hid (show BufTo w o b (alignB y l) (.returned (.tuple #[])) w' from BufTo.from_fresh HBW.out ⟨rfl, o', hB', hT⟩)
  clear hB hK1 hK2 hB' hT HBW
  go_wp2
  go_end0
  exact HE.out
end Go.Proofs.YtjhigmgkmmjlfaaGreat

namespace Go.Proofs.YtjhigmgkmmjlfaaGreat
open Go.RowKit Go.Acc
theorem blk_new3 (w : World) (o o' : Obj) (t : TypeId) (cs : Array Value) : Blk (((w.alloc o).alloc o').alloc (.cells cs t)) (w.heap.size + 1 + 1) t cs := by
  have h := blk_new2 (w.alloc o) o' t cs
  have e : (w.alloc o).heap.size = w.heap.size + 1 := by simp
  rw [e] at h
  exact h
set_option maxHeartbeats 1000000 in
theorem bnum1_spec (bx bw bu b y u : Nat) (l : List UInt8) (w : World) (o : Nat → Nat) (h : Buf w o b l) (hx : Blk w bx 170 #[.pointer (some ⟨b, 0, none⟩)]) (hw : Blk w bw 3 #[.int .i64 (y : Int)]) (hu : Blk w bu 22 #[.int .u64 (u : Int)])
    (hy : isW (y : Int) = true) (hf : fitsU y u = true) (hu64 : (u : Int) < 18446744073709551616) (hm : l.length + y ≤ 1048576) :
    Calls Tryz.prog 221 #[.pointer (some ⟨bw, 0, none⟩), .pointer (some ⟨bu, 0, none⟩), .pointer (some ⟨bx, 0, none⟩)] w (BufTo w o b (l ++ leBytes y u)) := by
  have w0 : w.cell? ⟨bw, 0, none⟩ = some (.int .i64 (y : Int)) := hw.cell 0
  have u0 : w.cell? ⟨bu, 0, none⟩ = some (.int .u64 (u : Int)) := hu.cell 0
  have H := Lib.hid h
  have HX := Lib.hid hx
  have HU := Lib.hid hu64
  have e1 : putE (y : Int) (fitsU (y : Int).toNat u) = 0 := by
    rw [show (y : Int).toNat = y from rfl, hf]; simp [putE, hy]
  have e2 : putB [] (y : Int) u (fitsU (y : Int).toNat u) = leBytes y u := by
    rw [show (y : Int).toNat = y from rfl, hf]; simp [putB, hy]
  have hP := put_spec none 0 0 u (y : Int) [] w (Is.nil _ _) (Nat.le_refl _) (by omega) hu64
  rw [e1, e2] at hP
  have HP := Lib.hid hP
  clear h hx hw hu hy hf hu64 e1 e2 hP
  go_enter Tryz.func221, Tryz.ntmps221
  go_wp2_with fail
  go_at_call 222
  refine HP.out.mono ?_
  rintro e w1 ⟨A, n, c, rfl, hO, hB⟩
  have hn : n = y := by rw [← hO.1, leBytes_length]
  have x1 : w1.cell? ⟨bx, 0, none⟩ = some (.pointer (some ⟨b, 0, none⟩)) := (HX.out.pure hB).cell 0
  have HI := Lib.hid (show IsB w1 A y (leBytes y u) by have h := hO.is; rw [hn] at h; exact h)
  have HN := Lib.hid hn
  have H1 := Lib.hid (H.out.pure hB)
  have HB := Lib.hid hB
  clear hO hB w0 u0 hn
  rw [HN.out]
  go_wp2_with fail
  go_at_call 220
  refine (bput_spec b y _ _ l (leBytes y u) _ o H1.out HI.out hm).mono ?_
  intro e w2 hB2
  obtain rfl := hB2.1
  have HB2 := Lib.hid hB2
  clear hB2
  go_wp2
  go_end0
  exact HB2.out.from_pure HB.out
set_option maxHeartbeats 1000000 in
theorem bnum_spec (b y u : Nat) (l : List UInt8) (w : World) (o : Nat → Nat) (h : Buf w o b l) (hy : isW (y : Int) = true) (hf : fitsU y u = true) (hu64 : (u : Int) < 18446744073709551616) (hm : l.length + y ≤ 1048576) :
    Calls Tryz.prog 154 #[.pointer (some ⟨b, 0, none⟩), .int .i64 (y : Int), .int .u64 (u : Int)] w (BufTo w o b (l ++ leBytes y u)) := by
  have H := Lib.hid h
  have HY := Lib.hid hy
  have HF := Lib.hid hf
  have HU := Lib.hid hu64
  clear h hy hf hu64
  go_enter Tryz.func154, Tryz.ntmps154
  go_wp2_with fail
  have hB : Below w.heap.size w (((w.alloc (.cells #[.pointer (some ⟨b, 0, none⟩)] 170)).alloc (.cells #[.int .i64 (y : Int)] 3)).alloc (.cells #[.int .u64 (u : Int)] 22)) := (((Below.refl _ _).alloc (Nat.le_refl _) _).alloc (by simp) _).alloc (by simp; omega) _
  have hK1 := ((Blk.new w 170 #[.pointer (some ⟨b, 0, none⟩)]).alloc (.cells #[.int .i64 (y : Int)] 3)).alloc (.cells #[.int .u64 (u : Int)] 22)
  have hK2 := (blk_new2 w (.cells #[.pointer (some ⟨b, 0, none⟩)] 170) 3 #[.int .i64 (y : Int)]).alloc (.cells #[.int .u64 (u : Int)] 22)
  have hK3 := blk_new3 w (.cells #[.pointer (some ⟨b, 0, none⟩)] 170) (.cells #[.int .i64 (y : Int)] 3) 22 #[.int .u64 (u : Int)]
  have HBW := Lib.hid hB
  refine (bwith_spec b y 221 _ _ _ HY.out Tryz.call221 ((bnum1_spec w.heap.size (w.heap.size + 1) (w.heap.size + 1 + 1) b y u l _ o (H.out.pure hB) hK1 hK2 hK3 HY.out HF.out HU.out hm).mono fun e w' h => ⟨h.1, h⟩)).mono ?_
  rintro e w' ⟨rfl, o', hB', hT⟩
  have HE := Lib.hid (show BufTo w o b (l ++ leBytes y u) (.returned (.tuple #[])) w' from BufTo.from_pure HBW.out ⟨rfl, o', hB', hT⟩)
  clear hB hK1 hK2 hK3 hB' hT HBW
  go_wp2
  go_end0
  exact HE.out
/-- A string's cell. -/
def stc (s : List UInt8) : List Value := [.string ⟨s.toArray⟩]
theorem stc_len (s : List UInt8) : (stc s).length = 1 := rfl
theorem stc_one (s : List UInt8) : ∀ u ∈ stc s, u.oneCell' = true := by
  intro u hu
  simp [stc] at hu
  subst hu
  rfl
abbrev IsS := Is stc
theorem iss_at {w : World} {A : Option Addr} {n : Nat} {l : List (List UInt8)} (h : IsS w A n l) {k : Nat} (hk : k < n) :
    ∃ b off, A = some ⟨b, off, none⟩ ∧ ∃ hk : k < l.length, w.cell? ⟨b, off + k, none⟩ = some (.string ⟨l[k].toArray⟩) := by
  obtain ⟨b, off, e, hk', hc⟩ := h.at_ stc_len (by omega) hk
  exact ⟨b, off, e, hk', by have := hc 0 (by omega); simpa [stc] using this⟩
theorem flat_take (l : List (List UInt8)) {k : Nat} (hk : k < l.length) : (l.take (k + 1)).flatten = (l.take k).flatten ++ l[k] := by
  rw [List.take_succ_eq_append_getElem hk, List.flatten_append]; simp
theorem flat_le (l : List (List UInt8)) (k : Nat) : (l.take k).flatten.length ≤ l.flatten.length := by
  conv => rhs; rw [← List.take_append_drop k l]
  rw [List.flatten_append, List.length_append]; omega
set_option maxHeartbeats 400000 in
theorem bsum_spec (A : Option Addr) (n c : Nat) (l : List (List UInt8)) (w : World) (h : IsS w A n l) (hm : l.flatten.length ≤ 1048576) (hn : n ≤ 1048576) :
    Calls Tryz.prog 225 #[.slice A n c] w fun e w' => e = .returned (.int .i64 (l.flatten.length : Int)) ∧ ∃ nd, w' = w.drewN nd := by
  go_enter Tryz.func225, Tryz.ntmps225
  go_wp2
  go_loopw [2, 7] (fun s i wr => ∃ k : Nat, k ≤ n ∧ i = .int .i64 k ∧ s = .int .i64 ((l.take k).flatten.length : Int) ∧ ∃ nd, wr = w.drewN nd) (fun _ i _ => n - (intOf i).toNat)
  case atStart => exact ⟨0, Nat.zero_le _, rfl, rfl, 0, rfl⟩
  case round =>
    obtain ⟨k, hk, rfl, rfl, nd, rfl⟩ := hrel
    by_cases hlt : k < n
    · obtain ⟨b1, o1, rfl, hk1, a0⟩ := iss_at h hlt
      have hs := Lib.hid (flat_take l hk1)
      have h1 := flat_le l (k + 1)
      rw [hs.out, List.length_append] at h1
      generalize hP : (l.take k).flatten.length = P at *
      have HPP := Lib.hid hP
      clear hP h
      go_wp2
      go_roundw
      case rel => exact ⟨k + 1, by omega, by go_num, by rw [hs.out, List.length_append, HPP.out]; go_num, ⟨_, rfl⟩⟩
      case measure => simp [intOf]; omega
    · have hk' : k = n := by omega
      have e := Lib.hid (show (l.take k).flatten.length = l.flatten.length by rw [hk', List.take_of_length_le (by rw [h.1]; exact Nat.le_refl _)])
      clear h hk'
      go_wp2
      go_ret
      exact ⟨by rw [e.out]; rfl, nd, rfl⟩
end Go.Proofs.YtjhigmgkmmjlfaaGreat
