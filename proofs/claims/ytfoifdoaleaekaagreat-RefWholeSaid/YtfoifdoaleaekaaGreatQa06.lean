/-
  Package build, plain: how much a tree adds to the builder's state; the bound for cut trees. No program in sight.
  Package le and its reference: copies of bytes, comparison of bytes, the digits of the reference.
  Package le: appending and setting integers.
  Words for the builder's memory: each block has an owner, a label; a call changes only the blocks of some labels, and says whom the new blocks belong to.
-/
import Derived.Test.YtfoifdoaleaekaaGreatQa05
namespace Go.Proofs.YtfoifdoaleaekaaGreat
open Go.Acc
def keysCost : List (List UInt8) → Nat
  | [] => 0
  | s :: r => s.length + 20 + keysCost r
mutual
/-- What a node may add: to the bytes, the stack, the pools, all taken together. -/
def Tr.cost : Tr → Nat
  | .mk _ _ _ s ks l => 64 + 2 * s.length + keysCost ks + Tr.costL l
def Tr.costL : List Tr → Nat
  | [] => 0
  | t :: r => 40 + Tr.cost t + Tr.costL r
end
def Bd.size (b : Bd) : Nat := b.b.length + b.s.length + b.keys.length + b.texts.length + b.lists.length + b.names.length + b.vals.length
theorem padN_le {w : Nat} (n : Nat) (hw : w ≤ 8) : padN w n ≤ 7 := by
  unfold padN
  rcases Nat.eq_zero_or_pos w with rfl | h
  · simp
  · have := Nat.mod_lt (w - n % w) h
    omega
theorem alignB_len {w : Nat} (b : List UInt8) (hw : w ≤ 8) : (alignB w b).length ≤ b.length + 7 := by
  have := padN_le b.length hw
  simp [alignB]; omega
theorem elemsB_len {w : Nat} (vs : List Bv) (l : List UInt8) (hw : w ≤ 8) : (elemsB w l vs).length ≤ l.length + 8 * vs.length := by
  obtain ⟨m, e, h⟩ := elemsB_app w vs l
  have := Nat.mul_le_mul_right vs.length hw
  rw [e, List.length_append]; omega
theorem bVec_len (t : Nat) (len tags : Bool) (l : List Bv) (b : List UInt8) : (bVec t len tags l b).1.length ≤ b.length + 15 + 9 * l.length := by
  have h8 : fitAll b.length (if len = true then 1 else 0) none l ≤ 8 := leastW_le _
  have h1 := alignB_len b h8
  unfold bVec
  simp only [List.length_append]
  have h2 := elemsB_len l (alignB (fitAll b.length (if len = true then 1 else 0) none l) b ++ (if len = true then leBytes (fitAll b.length (if len = true then 1 else 0) none l) l.length else [])) h8
  have h3 : (if len = true then leBytes (fitAll b.length (if len = true then 1 else 0) none l) l.length else []).length ≤ 8 := by
    split
    · rw [leBytes_length]; exact leastW_le _
    · simp
  have h4 : (if tags = true then l.map (bTag (fitAll b.length (if len = true then 1 else 0) none l)) else []).length ≤ l.length := by
    split <;> simp
  rw [List.length_append] at h2
  omega
theorem mapB_len (k : Bv) (l : List Bv) (b : List UInt8) : (mapB k l b).1.length ≤ b.length + 31 + 9 * l.length := by
  have h8 : fitAll b.length 3 (some k) l ≤ 8 := leastW_le _
  have h1 := alignB_len b h8
  unfold mapB
  simp only [List.length_append, List.length_map]
  generalize hw : fitAll b.length 3 (some k) l = w at *
  have h2 := elemsB_len l (alignB w b ++ leBytes w ((alignB w b).length - k.n) ++ leBytes w k.w ++ leBytes w l.length) h8
  simp only [List.length_append, leBytes_length] at h2
  omega
theorem putP_len (l : List (List UInt8 × Nat)) (k : List UInt8) (a : Nat) : (putP l k a).length ≤ l.length + 1 := by
  unfold putP; split <;> simp
theorem put_size (f : Nat) (s : List UInt8) (b : Bd) : (b.put f s).1.size ≤ b.size + s.length + 3 ∧ (b.put f s).1.s = b.s := by
  unfold Bd.put
  have h := putP_len b.keys s b.b.length
  cases (if onF f 1 = true then getP b.keys s else none) with
  | some a => exact ⟨by simp; omega, rfl⟩
  | none => exact ⟨by simp [Bd.size]; omega, rfl⟩
theorem key_size (f : Nat) (s : List UInt8) (b : Bd) : (b.key f s).size ≤ b.size + s.length + 4 := by
  have h := (put_size f s b).1
  simp only [Bd.key, Bd.push, Bd.size, List.length_append, List.length_cons, List.length_nil] at h ⊢
  omega
theorem puts_size (f : Nat) : ∀ (l : List Tr) (b : Bd), (b.puts f (l.map Tr.s)).1.size + 90 * l.length ≤ b.size + Tr.costL l
  | [], b => by simp [Bd.puts, Tr.costL]
  | .mk k n u s ks c :: r, b => by
    have h1 := (put_size f s b).1
    have h2 := puts_size f r (b.put f s).1
    simp only [List.map_cons, Bd.puts, Tr.costL, Tr.cost, Tr.s, List.length_cons]
    omega
theorem puts_len (f : Nat) : ∀ (l : List (List UInt8)) (b : Bd), (b.puts f l).2.length = l.length
  | [], b => by simp [Bd.puts]
  | s :: r, b => by simp [Bd.puts, puts_len f r]
theorem vec_size (t : Nat) (len tags : Bool) (l : List Bv) (b : Bd) : (b.vec t len tags l).size ≤ b.size + 16 + 9 * l.length := by
  have h := bVec_len t len tags l b.b
  simp only [Bd.vec, Bd.size, List.length_append, List.length_cons, List.length_nil]
  omega
theorem costL_len (l : List Tr) : 40 * l.length ≤ Tr.costL l := by
  induction l with
  | nil => simp
  | cons t r ih => simp only [Tr.costL, List.length_cons]; omega
theorem str_size (f : Nat) (s : List UInt8) (b : Bd) : (b.str f s).size ≤ b.size + s.length + 20 := by
  have h8 : bWidth s.length ≤ 8 := bWidth_le _
  have h1 := alignB_len b.b h8
  unfold Bd.str
  cases (if onF f 2 = true then getP b.texts s else none) with
  | some a => simp [Bd.push, Bd.size]; omega
  | none =>
    have h := putP_len b.texts s (alignB (bWidth s.length) b.b ++ leBytes (bWidth s.length) s.length).length
    simp only [Bd.size, List.length_append, leBytes_length, List.length_cons, List.length_nil] at h ⊢
    omega
theorem blob_size (s : List UInt8) (b : Bd) : (b.blob s).size ≤ b.size + s.length + 20 := by
  have h8 : bWidth s.length ≤ 8 := bWidth_le _
  have h1 := alignB_len b.b h8
  unfold Bd.blob
  simp only [Bd.size, List.length_append, leBytes_length, List.length_cons, List.length_nil]
  omega
theorem apart_size (t w n : Nat) (b : Bd) (hw : w ≤ 8) : (b.apart t w n).size ≤ b.size + 20 := by
  have h1 := alignB_len b.b hw
  unfold Bd.apart
  simp only [Bd.size, List.length_append, leBytes_length, List.length_cons, List.length_nil]
  omega
theorem push_size (b : Bd) (v : Bv) : (b.push v).size = b.size + 1 := by
  simp [Bd.push, Bd.size]; omega
theorem leaf_size (f : Nat) (k n : Int) (u : Nat) (s : List UInt8) (b : Bd) : (b.leaf f k n u s).size ≤ b.size + 64 + 2 * s.length := by
  have h1 := key_size f s b
  have h2 := str_size f s b
  have h3 := blob_size s b
  have h4 := apart_size 6 (bWidthI n) (bits n) b (bWidthI_le _)
  have h5 := apart_size 7 (bWidth u) u b (bWidth_le _)
  unfold Bd.leaf
  (repeat' split) <;> (try rw [push_size]) <;> omega
theorem flat_size (f : Nat) (k : Int) (l : List Tr) (b : Bd) : (b.flat f k l).size ≤ b.size + 64 + Tr.costL l := by
  have hl := costL_len l
  have hp := puts_size f l b
  have hn := puts_len f (l.map Tr.s) b
  rw [List.length_map] at hn
  have hv : ∀ (t : Nat) (len tags : Bool) (x : List Bv), x.length = l.length → (b.vec t len tags x).size ≤ b.size + 64 + Tr.costL l := by
    intro t len tags x hx
    have := vec_size t len tags x b
    omega
  unfold Bd.flat
  split
  · exact hv _ _ _ _ (by simp)
  split
  · exact hv _ _ _ _ (by simp)
  split
  · exact hv _ _ _ _ (by simp)
  split
  · -- keys: the strings twice
    have h := vec_size 14 true false (b.puts f (l.map Tr.s)).2 (b.puts f (l.map Tr.s)).1
    show (Bd.vec 14 true false (b.puts f (l.map Tr.s)).2 (b.puts f (l.map Tr.s)).1).size ≤ _
    omega
  split
  · exact hv _ _ _ _ (by simp)
  · exact hv _ _ _ _ (by simp)
theorem endVec_size (start : Nat) (b : Bd) (n : Nat) (h : (b.s.drop start).length = n) : (b.endVec start).size ≤ b.size + 16 + 9 * n := by
  have h1 := bVec_len 10 true true (b.s.drop start) b.b
  have h3 : (b.s.take start).length ≤ b.s.length := by rw [List.length_take]; omega
  simp only [Bd.endVec, Bd.vec, Bd.size, List.length_append, List.length_cons, List.length_nil]
  omega
theorem callsL_size (f : Nat) : ∀ (c : List Tr), (∀ t ∈ c, Does f t) → (∀ t ∈ c, ∀ b, Good b → (Bd.calls f t b).size ≤ b.size + t.cost) → ∀ b, Good b → (Bd.callsL f c b).size + 40 * c.length ≤ b.size + Tr.costL c
  | [], _, _, b, h => by simp [Bd.callsL, Tr.costL]
  | t :: r, hd, hc, b, h => by
    obtain ⟨v, e1, s1, r1⟩ := hd t (by simp) b h
    have h1 := hc t (by simp) b h
    have h2 := callsL_size f r (fun t ht => hd t (by simp [ht])) (fun t ht => hc t (by simp [ht])) (Bd.calls f t b) s1.2
    simp only [Bd.callsL, Tr.costL, List.length_cons]
    omega
theorem callsM_size (f : Nat) : ∀ (c : List Tr) (ks : List (List UInt8)), ks.length = c.length → (∀ t ∈ c, Does f t) → (∀ t ∈ c, ∀ b, Good b → (Bd.calls f t b).size ≤ b.size + t.cost) → ∀ b, Good b → (Bd.callsM f ks c b).size + 50 * c.length ≤ b.size + keysCost ks + Tr.costL c
  | [], ks, hk, _, _, b, h => by simp [Bd.callsM, Tr.costL]
  | t :: r, [], hk, _, _, _, _ => by simp at hk
  | t :: r, s :: ks, hk, hd, hc, b, h => by
    obtain ⟨kv, e0, s0, k0⟩ := key_law f s b h
    have h0 := key_size f s b
    obtain ⟨v, e1, s1, r1⟩ := hd t (by simp) (b.key f s) s0.2
    have h1 := hc t (by simp) (b.key f s) s0.2
    have h2 := callsM_size f r ks (by simpa using hk) (fun t ht => hd t (by simp [ht])) (fun t ht => hc t (by simp [ht])) (Bd.calls f t (b.key f s)) s1.2
    have ee : Bd.callsM f (s :: ks) (t :: r) b = Bd.callsM f ks r (Bd.calls f t (b.key f s)) := by rw [Bd.callsM]; rfl
    rw [ee]
    simp only [Tr.costL, List.length_cons, keysCost]
    omega
theorem endMap_size (f : Nat) (ks : List (List UInt8)) (start : Nat) (b : Bd) (n : Nat) (h1 : (evens (b.s.drop start)).length = n) (h2 : (odds (b.s.drop start)).length = n) :
    (b.endMap f ks start).size ≤ b.size + 50 + 18 * n := by
  have h3 : (b.s.take start).length ≤ b.s.length := by rw [List.length_take]; omega
  unfold Bd.endMap
  simp only []
  cases (if onF f 4 = true then getP b.lists (ks.flatMap fun s => s ++ [0]) else none) with
  | some i =>
    have h := mapB_len (b.vals.getD i ⟨0, 0, 0⟩) (odds (b.s.drop start)) b.b
    simp only [Bd.size, List.length_append, List.length_cons, List.length_nil] at h ⊢
    omega
  | none =>
    have h4 := bVec_len 14 true false (evens (b.s.drop start)) b.b
    have h := mapB_len (bVec 14 true false (evens (b.s.drop start)) b.b).2 (odds (b.s.drop start)) (bVec 14 true false (evens (b.s.drop start)) b.b).1
    have h5 := putP_len b.lists (ks.flatMap fun s => s ++ [0]) b.vals.length
    simp only [Bd.size, List.length_append, List.length_cons, List.length_nil] at h ⊢
    omega
theorem calls_size (f : Nat) (t : Tr) (h : Ok t) : ∀ b, Good b → (Bd.calls f t b).size ≤ b.size + t.cost := by
  induction h with
  | leaf n u s ks c h1 h2 =>
    intro b hg
    rename_i k
    have e : Bd.calls f (.mk k n u s ks c) b = b.leaf f k n u s := by
      rw [Bd.calls, if_neg (by omega), if_neg (by omega), if_pos h2]
    rw [e, Tr.cost]
    have := leaf_size f k n u s b
    omega
  | flat n u s ks c h1 h2 =>
    intro b hg
    rename_i k
    have e : Bd.calls f (.mk k n u s ks c) b = b.flat f k c := by
      rw [Bd.calls, if_neg (by omega), if_neg (by omega), if_neg (by omega)]
    rw [e, Tr.cost]
    have := flat_size f k c b
    omega
  | vec n u s ks hd ih =>
    intro b hg
    rename_i c
    obtain ⟨vs, e1, l1, s1, r1⟩ := callsL_law f c (fun t ht => calls_law f t (hd t ht)) b hg
    have h1 := callsL_size f c (fun t ht => calls_law f t (hd t ht)) ih b hg
    have e : Bd.calls f (.mk 10 n u s ks c) b = (Bd.callsL f c b).endVec b.s.length := by rw [Bd.calls, if_pos rfl]
    have hv : (Bd.callsL f c b).s.drop b.s.length = vs := by rw [e1]; simp
    have h2 := endVec_size b.s.length (Bd.callsL f c b) c.length (by rw [hv, l1])
    rw [e, Tr.cost]
    omega
  | map n u s hl h0 hd ih =>
    intro b hg
    rename_i c ks
    obtain ⟨kvs, vs, e1, l1, s1, k1, r1⟩ := callsM_law f c ks hl (fun t ht => calls_law f t (hd t ht)) b hg
    have h1 := callsM_size f c ks hl (fun t ht => calls_law f t (hd t ht)) ih b hg
    have e : Bd.calls f (.mk 17 n u s ks c) b = (Bd.callsM f ks c b).endMap f ks b.s.length := by
      rw [Bd.calls, if_neg (by omega), if_pos rfl]
    have hv : (Bd.callsM f ks c b).s.drop b.s.length = both kvs vs := by rw [e1]; simp
    obtain ⟨ev, od⟩ := evens_both kvs vs (by rw [k1.1, l1, hl])
    have h2 := endMap_size f ks b.s.length (Bd.callsM f ks c b) c.length (by rw [hv, ev, k1.1, hl]) (by rw [hv, od, l1])
    rw [e, Tr.cost]
    omega
end Go.Proofs.YtfoifdoaleaekaaGreat

namespace Go.Proofs.YtfoifdoaleaekaaGreat
open Go.RowKit Go.Acc

theorem info_b : (Tryz.prog.info? 5).map (fun i => (i.zero, i.size, i.bytes)) = some (some (.int .u8 0), 1, 1) := by kernel_rfl

def CopiedB (w : World) (m : List UInt8) (e : Ending) (w' : World) : Prop :=
  ∃ A n c, e = .returned (.slice A n c) ∧ OwnB w' w.heap.size A n c m ∧ Below w.heap.size w w'
theorem copiedb_post {w w1 w' : World} {A : Option Addr} {n c : Nat} {l m : List UInt8} (h : OwnB w' w.heap.size A n c l) (hl : l = m) (h1 : Below w.heap.size w w1) {S : Nat → Prop} (hg : Fr S w1 w') (hS : ∀ k, k < w.heap.size → ¬ S k) : CopiedB w m (.returned (.slice A n c)) w' := by
  subst hl
  exact ⟨A, n, c, rfl, h, h1.trans (hg.belowB hS h1.size)⟩
set_option maxHeartbeats 400000 in
theorem cloneb_spec (A : Option Addr) (n c : Nat) (l : List UInt8) (w : World) (h : IsB w A n l) (hl : n ≤ 1099511627776) :
    Calls Tryz.prog 203 #[.slice A n c] w (CopiedB w l) := by
  have hnil := fun (w : World) (A : Option Addr) (n c : Nat) => Lib.run_eql_slice_nil (P := Tryz.prog) w 29 5 A n c 0 0 Tryz.underlying29
  rcases A with _ | a
  · obtain ⟨rfl, rfl⟩ := h.none_ bc_len (by omega)
    clear h hl
    go_enter Tryz.func203, Tryz.ntmps203
    go_wp2_with fail
    go_ret
    exact ⟨none, 0, 0, rfl, Own.nil _ _, Below.refl _ _⟩
  · have hr : IsB (w.alloc (.cells #[] 5)) (some a) n l := h.alloc _
    have ho : OwnB (w.alloc (.cells #[] 5)) w.heap.size (some ⟨w.heap.size, 0, none⟩) 0 0 [] := ⟨rfl, World.ownsRow_lit w #[] 0 (Nat.le_refl _) (Nat.zero_le _) rfl⟩
    have HR := Lib.hid hr
    clear h hr
    go_enter Tryz.func203, Tryz.ntmps203
    go_wp2_with (at_builtin; refine wpl_app _ rfl (.tmp 5) (.tmp 6) _ rfl 5 _ 1 1 Tryz.underlying29 info_b rfl (by omega) bc_len bc_one _ _ _ _ _ rfl ho _ _ _ _ rfl HR.out (by omega) (by simp) ?_; intro A1 c1 w1 hown1 hfr1 hat1)
    go_ret
    exact copiedb_post (by simpa using hown1) rfl ((Below.refl _ _).alloc (Nat.le_refl _) _) hfr1 (by rintro k hk ⟨ad, h, h'⟩; injection h with h; subst h; simp at h'; omega)

/-- The bytes of a slice as a string. -/
theorem run_str {w : World} {A : Option Addr} {n c : Nat} {l : List UInt8} (h : IsB w A n l) : (convert 29 9 (.slice A n c)).run Tryz.prog w = .ok (.string ⟨l.toArray⟩) w := by
  rcases Nat.eq_zero_or_pos n with h0 | h0
  · subst h0
    obtain rfl : l = [] := List.eq_nil_of_length_eq_zero h.1
    rw [run_convert_bytes_string w 29 9 5 A 0 c Tryz.underlying29 Tryz.underlying5 Tryz.underlying9]
    cases A with
    | none => simp [Conv.bytesToString]; rfl
    | some a =>
      have := run_bytesToString (P := Tryz.prog) w a 0 c [] (by simp [loadCells, loadCellsFrom])
      rw [this]; rfl
  · obtain ⟨b, off, rfl, _⟩ := h.some_ bc_len (by omega) h0
    have := run_convert_bytes_arg (P := Tryz.prog) w 29 5 Tryz.underlying29 Tryz.underlying5 b off n c (l.map fun x => (x.toNat : Int)) (by simp [h.1]) (fun i hi => by
      obtain ⟨b', off', e, hk, hc⟩ := isb_at h hi
      injection e with e; injection e with e1 e2; subst e1 e2
      rw [hc]
      simp [List.getD, List.getElem?_eq_getElem hk]) 9 Tryz.underlying9
    have e0 : ∀ m : List UInt8, (m.map fun x : UInt8 => (x.toNat : Int)).map (fun n => UInt8.ofNat n.toNat) = m := by
      intro m
      induction m with
      | nil => rfl
      | cons x m ih => rw [List.map_cons, List.map_cons, ih, Int.toNat_natCast, UInt8.ofNat_toNat]
    have e : strOfNums (l.map fun x : UInt8 => (x.toNat : Int)) = ⟨l.toArray⟩ := by
      unfold strOfNums
      rw [e0]
    rw [this, e]

end Go.Proofs.YtfoifdoaleaekaaGreat

namespace Go.Proofs.YtfoifdoaleaekaaGreat
open Go.RowKit Go.Acc

/-- A stretch of an owned row of bytes is replaced. -/
theorem own_seg {w : World} {B g n c : Nat} {l : List UInt8} (h : OwnB w B (some ⟨g, 0, none⟩) n c l) : ∃ cur, Blk w g 5 cur ∧ n ≤ cur.size ∧
    (∀ (w' : World) (cur' : Array Value) (off k : Nat) (m : List UInt8), Blk w' g 5 cur' → Seg cur off (m.flatMap bc) k cur' → m.length = k → off + k ≤ n → OwnB w' B (some ⟨g, 0, none⟩) n c (l.take off ++ m ++ l.drop (off + k))) := by
  obtain ⟨hl, h1, h2⟩ := h
  rcases h2 with ⟨hv, _⟩ | ⟨g', cap, cur, hv, hb, hg, hnc, hcm, hcs, htake⟩
  · cases hv
  · injection hv with e1 _ e3
    injection e1 with e1
    injection e1 with e1
    subst e1 e3
    simp only [Nat.mul_one] at hcs htake h1
    refine ⟨cur, hg, by omega, ?_⟩
    intro w' cur' off k m hB hS hm hk
    refine ⟨by simp; omega, ?_, .inr ⟨g, c, cur', rfl, hb, hB, hnc, hcm, by rw [hS.1, Nat.mul_one]; exact hcs, ?_⟩⟩
    · rw [fm_length bc_len]; simp; omega
    · rw [Nat.mul_one, hS.take (by rw [fm_length bc_len]; omega) hk (by omega), htake, List.flatMap_append, List.flatMap_append, fm_take bc_len, fm_drop bc_len, Nat.mul_one, Nat.mul_one]

def putE (x : Int) (b : Bool) : Int := if isW x = true then (if b = true then 0 else 10) else 2
def putB (l : List UInt8) (x : Int) (u : Nat) (b : Bool) : List UInt8 := if isW x = true ∧ b = true then l ++ leBytes x.toNat u else []
def PutW (w : World) (m : List UInt8) (er : Int) (e : Ending) (w' : World) : Prop :=
  ∃ A n c, e = .returned (.tuple #[.slice A n c, .int .i64 er]) ∧ OwnB w' w.heap.size A n c m ∧ Below w.heap.size w w'
set_option maxHeartbeats 1000000 in
theorem behind_spec (A : Option Addr) (n c u F : Nat) (x : Int) (l : List UInt8) (caps : Array Value) (b : Bool) (w : World) (h : IsB w A n l) (hc : n ≤ c) (hn : n ≤ 1099511627776) (hu : (u : Int) < 18446744073709551616)
    (hF : ∀ (args : Array Value) (w : World), (callFunc F args).run Tryz.prog w = .ok (.enter F args) w)
    (hfit : isW x = true → Calls Tryz.prog F caps w fun e w' => e = .returned (.bool b) ∧ w = w') :
    Calls Tryz.prog 234 #[.slice A n c, .int .i64 x, .int .u64 u, .func (.func F) #[] caps] w (PutW w (putB l x u b) (putE x b)) := by
  have HR := Lib.hid h
  have HU := Lib.hid hu
  have HFIT := Lib.hid hfit
  clear h hu hfit
  cases hx : isW x with
  | false =>
    have e1 := Lib.hid (show putE x b = 2 by simp [putE, hx])
    have e2 := Lib.hid (show putB l x u b = [] by simp [putB, hx])
    have HX := Lib.hid hx
    clear hx
    go_enter Tryz.func234, Tryz.ntmps234
    go_wp2_with (go_at_call 138; refine (is_spec x _).mono ?_; rw [HX.out]; rintro e w' ⟨rfl, rfl⟩)
    go_ret2
    rw [e1.out, e2.out]
    exact ⟨none, 0, 0, rfl, Own.nil _ _, Below.refl _ _⟩
  | true =>
    cases b with
    | false =>
      have e1 := Lib.hid (show putE x false = 10 by simp [putE, hx])
      have e2 := Lib.hid (show putB l x u false = [] by simp [putB])
      have HX := Lib.hid hx
      clear hx
      go_enter Tryz.func234, Tryz.ntmps234
      go_wp2_with (go_at_call 138; refine (is_spec x _).mono ?_; rw [HX.out]; rintro e w' ⟨rfl, rfl⟩)
      refine (HFIT.out HX.out).mono ?_
      rintro e w' ⟨rfl, rfl⟩
      clear hF
      go_wp2
      go_ret2
      rw [e1.out, e2.out]
      exact ⟨none, 0, 0, rfl, Own.nil _ _, Below.refl _ _⟩
    | true =>
      have hx8 : (1 : Int) ≤ x ∧ (x : Int) ≤ 8 := by have := isW_iff.1 hx; omega
      obtain ⟨y, rfl⟩ : ∃ y : Nat, x = y := ⟨x.toNat, by omega⟩
      have hy1 : 1 ≤ y := by omega
      have hy8 : y ≤ 8 := by omega
      have e1 := Lib.hid (show putE y true = 0 by simp [putE, hx])
      have e2 := Lib.hid (show putB l y u true = l ++ leBytes y u by simp [putB, hx])
      have HX := Lib.hid hx
      clear hx hx8
      go_enter Tryz.func234, Tryz.ntmps234
      go_wp2_with (go_at_call 138; refine (is_spec y _).mono ?_; rw [HX.out]; rintro e w' ⟨rfl, rfl⟩)
      refine (HFIT.out HX.out).mono ?_
      rintro e w' ⟨rfl, rfl⟩
      clear hF
      go_wp2_with (first
        | (go_at_call 203; refine (cloneb_spec A n c l _ HR.out hn).mono ?_; rintro e w1 ⟨A1, n1, c1, rfl, hO1, hB1⟩; obtain rfl : n1 = n := (by rw [← hO1.1, HR.out.1]); have HO1 := Lib.hid hO1; have HB1 := Lib.hid hB1; clear hO1 hB1)
        | (at_builtin; refine wpl_zeros _ rfl (.tmp 20) (.tmp 21) _ _ rfl 5 _ 1 1 _ _ Tryz.underlying29 Tryz.underlying3 info_b rfl (by omega) bc_len bc_one (0 : UInt8) rfl _ _ _ _ _ rfl HO1.out y _ rfl rfl (by omega) (by omega) HB1.out.size ?_; intro A2 c2 w2 hown2 hfr2 hat2; have HO2 := Lib.hid hown2; have HF2 := Lib.hid hfr2; clear hown2 hfr2 hat2; have hcap2 := HO2.out.cap; rcases A2 with _ | ad2))
      · exact absurd (HO2.out.is.none_ bc_len (by omega)).2 (by omega)
      · obtain ⟨had, hge, hlt⟩ := HO2.out.addr ad2 rfl
        obtain ⟨g, rfl⟩ : ∃ g, ad2 = ⟨g, 0, none⟩ := ⟨_, had⟩
        obtain ⟨cur, hK, hsz, hback⟩ := own_seg HO2.out
        rw [add_none, Nat.zero_add]
        refine (digits_spec g n1 y (c2 - n1) u cur w2 hK (by omega) hy8 HU.out).mono ?_
        rintro e w3 ⟨rfl, cur3, hK3, hS3, hF3⟩
        have HO3 := Lib.hid (hback w3 cur3 n1 y _ hK3 hS3 (leBytes_length _ _) (Nat.le_refl _))
        have HF3 := Lib.hid hF3
        clear hK hback hK3 hS3 hF3
        go_wp2
        go_ret2
        rw [e1.out, e2.out]
        refine ⟨some ⟨g, 0, none⟩, n1 + y, c2, rfl, ?_, ?_⟩
        · have e3 := HO3.out
          rw [List.take_left' HR.out.1, List.drop_eq_nil_of_le (by simp [HR.out.1]), List.append_nil] at e3
          exact e3
        · refine below_fr (below_fr HB1.out HF2.out ?_) HF3.out ?_
          · rintro k ⟨ad, h, rfl⟩
            exact (HO1.out.addr ad h).2.1
          · rintro k rfl
            exact hge
/-- The caught width and integer. -/
theorem putc_spec (a b u : Nat) (x : Int) (w : World) (ha : Blk w a 3 #[.int .i64 x]) (hb : Blk w b 22 #[.int .u64 u]) (hx : isW x = true) (hu : (u : Int) < 18446744073709551616) :
    Calls Tryz.prog 235 #[.pointer (some ⟨a, 0, none⟩), .pointer (some ⟨b, 0, none⟩)] w fun e w' => e = .returned (.bool (fitsU x.toNat u)) ∧ w = w' := by
  obtain ⟨y, rfl⟩ : ∃ y : Nat, x = y := ⟨x.toNat, by have := isW_iff.1 hx; omega⟩
  have c1 : w.cell? ⟨a, 0, none⟩ = some (.int .i64 y) := ha.cell 0
  have c2 : w.cell? ⟨b, 0, none⟩ = some (.int .u64 u) := hb.cell 0
  have HX := Lib.hid hx
  have HU := Lib.hid hu
  clear ha hb hx hu
  go_enter Tryz.func235, Tryz.ntmps235
  go_wp2_with (go_at_call 236; refine (fits_spec y u w HX.out HU.out).mono ?_; rintro e w1 ⟨rfl, rfl⟩)
  go_ret
  exact ⟨rfl, rfl⟩
theorem putw_lift {w W : World} {m : List UInt8} {er : Int} {e : Ending} {w' : World} (hB : Below w.heap.size w W) (h : PutW W m er e w') : PutW w m er e w' := by
  obtain ⟨A, n, c, he, hO, hB'⟩ := h
  exact ⟨A, n, c, he, hO.rebase hB.size, pure_trans hB hB'⟩
theorem wrapu (m : Int) : IntKind.u64.wrap m = (((m % 18446744073709551616).toNat : Nat) : Int) := by
  show m % 18446744073709551616 = _
  omega
theorem blk_new2 (w : World) (o : Obj) (t : TypeId) (cs : Array Value) : Blk ((w.alloc o).alloc (.cells cs t)) (w.heap.size + 1) t cs := by
  have h := Blk.new (w.alloc o) t cs
  have e : (w.alloc o).heap.size = w.heap.size + 1 := by simp
  rw [e] at h
  exact h
set_option maxHeartbeats 1000000 in
theorem put_spec (A : Option Addr) (n c u : Nat) (x : Int) (l : List UInt8) (w : World) (h : IsB w A n l) (hc : n ≤ c) (hn : n ≤ 1099511627776) (hu : (u : Int) < 18446744073709551616) :
    Calls Tryz.prog 199 #[.slice A n c, .int .i64 x, .int .u64 u] w (PutW w (putB l x u (fitsU x.toNat u)) (putE x (fitsU x.toNat u))) := by
  have HR := Lib.hid h
  have HU := Lib.hid hu
  have HV := HU
  clear h hu
  go_enter Tryz.func199, Tryz.ntmps199
  go_wp2_with fail
  skip
  have hK1 := (Blk.new w 3 #[.int .i64 x]).alloc (.cells #[.int .u64 (u : Int)] 22)
  have hK2 := blk_new2 w (.cells #[.int .i64 x] 3) 22 #[.int .u64 (u : Int)]
  have hfit := fun hx => putc_spec w.heap.size (w.heap.size + 1) u x _ hK1 hK2 hx HU.out
  have hI := (HR.out.alloc (.cells #[.int .i64 x] 3)).alloc (.cells #[.int .u64 (u : Int)] 22)
  refine (behind_spec A n c _ 235 x l _ _ _ hI hc hn HV.out Tryz.call235 hfit).mono ?_
  intro e w1 hP
  obtain ⟨A1, n1, c1, rfl, hO, hB⟩ := hP
  have HO := Lib.hid hO
  have HB := Lib.hid hB
  clear hO hB
  go_wp2
  go_ret2
  exact putw_lift (((Below.refl _ _).alloc (Nat.le_refl _) _).alloc (by simp) _) ⟨A1, n1, c1, rfl, HO.out, HB.out⟩
end Go.Proofs.YtfoifdoaleaekaaGreat

namespace Go.Acc
open Go.RowKit
/-- A call: it changes only blocks whose owners are in I; the old blocks keep their owners. -/
structure To (I : Nat → Prop) (w : World) (o : Nat → Nat) (w' : World) (o' : Nat → Nat) : Prop where
  fr : Fr (fun k => I (o k)) w w'
  ow : ∀ k, k < w.heap.size → o' k = o k
section
variable {I J : Nat → Prop} {w w' w'' : World} {o o' o'' : Nat → Nat}
theorem To.refl (I : Nat → Prop) (w : World) (o : Nat → Nat) : To I w o w o := ⟨Fr.refl _ _, fun _ _ => rfl⟩
theorem To.pure (I : Nat → Prop) (h : Below w.heap.size w w') (o : Nat → Nat) : To I w o w' o := ⟨Fr.of_below h _, fun _ _ => rfl⟩
/-- New blocks get an owner. -/
def newO (o : Nat → Nat) (N i : Nat) : Nat → Nat := fun k => if k < N then o k else i
theorem newO_old {N i k : Nat} (h : k < N) : newO o N i k = o k := if_pos h
theorem newO_new {N i k : Nat} (h : N ≤ k) : newO o N i k = i := if_neg (by omega)
theorem To.fresh (I : Nat → Prop) (h : Below w.heap.size w w') (o : Nat → Nat) (i : Nat) : To I w o w' (newO o w.heap.size i) := ⟨Fr.of_below h _, fun _ hk => newO_old hk⟩
theorem To.of_fr {S : Nat → Prop} (h : Fr S w w') (hS : ∀ k, k < w.heap.size → S k → I (o k)) (i : Nat) : To I w o w' (newO o w.heap.size i) := ⟨h.mono hS, fun _ hk => newO_old hk⟩
theorem To.of_fr0 {S : Nat → Prop} (h : Fr S w w') (hS : ∀ k, k < w.heap.size → S k → I (o k)) : To I w o w' o := ⟨h.mono hS, fun _ _ => rfl⟩
theorem To.trans (h : To I w o w' o') (k : To I w' o' w'' o'') : To I w o w'' o'' :=
  ⟨h.fr.trans k.fr fun i hi hI => by rw [h.ow i hi] at hI; exact hI, fun i hi => (k.ow i (Nat.lt_of_lt_of_le hi h.fr.size)).trans (h.ow i hi)⟩
theorem To.mono (h : To I w o w' o') (hJ : ∀ i, I i → J i) : To J w o w' o' := ⟨h.fr.mono fun _ _ hi => hJ _ hi, h.ow⟩
theorem To.size (h : To I w o w' o') : w.heap.size ≤ w'.heap.size := h.fr.size
/-- Nothing of I is old: the call is pure. -/
theorem To.below (h : To I w o w' o') (hI : ∀ k, k < w.heap.size → ¬ I (o k)) : Below w.heap.size w w' := h.fr.below hI
theorem To.keep {k : Nat} (h : To I w o w' o') (hk : k < w.heap.size) (hI : ¬ I (o k)) : w'.heap[k]? = w.heap[k]? := h.fr.block k hk hI
theorem Blk.to_ {g : Nat} {t : TypeId} {cs : Array Value} (hb : Blk w g t cs) (h : To I w o w' o') (hI : ¬ I (o g)) : Blk w' g t cs := hb.fr h.fr hI
/-- A slice value whose block, if any, belongs to i. -/
def Of (o : Nat → Nat) (A : Option Addr) (i : Nat) : Prop := ∀ ad, A = some ad → o ad.block = i
theorem Of.none_ (i : Nat) : Of o none i := fun _ h => by cases h
variable {α : Type} {f : α → List Value} {sz n c B i : Nat} {e : TypeId} {A : Option Addr} {l : List α}
theorem Of.to_ (h : Of o A i) (ho : Own f sz e w B A n c l) (ht : To I w o w' o') : Of o' A i := fun ad hA => by
  rw [ht.ow _ (ho.addr ad hA).2.2]; exact h ad hA
theorem Own.to_ (ho : Own f sz e w B A n c l) (h : Of o A i) (ht : To I w o w' o') (hI : ¬ I i) : Own f sz e w' B A n c l :=
  ho.fr ht.fr fun ad hA => by rw [h ad hA]; exact hI
theorem Is.to_ (ho : Is f w A n l) (h : Of o A i) (ht : To I w o w' o') (hI : ¬ I i) : Is f w' A n l :=
  ho.fr ht.fr fun ad hA => by rw [h ad hA]; exact hI
/-- What an append leaves: the row's owner. -/
theorem Of.grown {A' : Option Addr} {N : Nat} (h : Of o A i) (ho : Own f sz e w B A n c l) (hN : w.heap.size ≤ N) (hat : A'.map (·.block) = A.map (·.block) ∨ A'.map (·.block) = some N) (hw : N = w.heap.size) : Of (newO o w.heap.size i) A' i := by
  intro ad hA
  subst hA hw
  rcases hat with e | e
  · cases hA : A with
    | none => subst hA; simp at e
    | some a =>
      subst hA
      simp at e
      rw [e, newO_old (ho.addr a rfl).2.2]
      exact h a rfl
  · simp at e
    rw [e, newO_new (Nat.le_refl _)]
theorem To.cell {p : Addr} {u : Value} (h : To I w o w' o') (hc : w.cell? p = some u) (hI : ¬ I (o p.block)) : w'.cell? p = some u := cell_fr h.fr hc hI
theorem kdrew {p : Addr} {u : Value} (h : w.cell? p = some u) : w.drew.cell? p = some u := h
theorem kdrewN {p : Addr} {u : Value} (n : Nat) (h : w.cell? p = some u) : (w.drewN n).cell? p = some u := h
theorem kalloc {p : Addr} {u : Value} (b : Obj) (h : w.cell? p = some u) : (w.alloc b).cell? p = some u := cell_pure ((Below.refl _ _).alloc (Nat.le_refl _) b) h
theorem To.from_drew (h : To I w.drew o w' o') : To I w o w' o' := ⟨(Fr.refl _ w).drew.trans h.fr fun _ _ h => h, h.ow⟩
theorem To.from_pure {I : Nat → Prop} (hb : Below w.heap.size w w') (h : To I w' o w'' o'') : To I w o w'' o'' := (To.pure I hb o).trans h
end
end Go.Acc
