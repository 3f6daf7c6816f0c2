/-
  Build of a key, a string, a blob; Check of such a node.
-/
import Derived.Test.YtjhigmgkmmjlfaaGreatQThA
namespace Go.Proofs.YtjhigmgkmmjlfaaGreat
open Go.RowKit Go.Acc
/-- The error of such a node. -/
def txtE (k : Int) (s : List UInt8) : Int := if k = 5 then kErr s else 0
theorem keyed_txt {k : Int} (s : List UInt8) (hk : k = 5 ∨ k = 6 ∨ k = 7) (W : World) : Calls Tryz.prog 55 #[.agg #[.int .i64 k, .int .i64 0, .int .u64 ((0 : Nat) : Int), .string ⟨s.toArray⟩, .slice none 0 0, .slice none 0 0]] W fun e W' => e = .returned (.int .i64 (txtE k s)) ∧ Below W.heap.size W W' := by
  rcases hk with rfl | rfl | rfl
  · exact keyed_5 0 0 s none 0 none 0 W
  · exact keyed_none 6 0 0 s none 0 none 0 W (by decide)
  · exact keyed_none 7 0 0 s none 0 none 0 W (by decide)
theorem check_txt {k : Int} (s : List UInt8) (hk : k = 5 ∨ k = 6 ∨ k = 7) (w : World) : Calls Tryz.prog 13 #[.agg #[.int .i64 k, .int .i64 0, .int .u64 ((0 : Nat) : Int), .string ⟨s.toArray⟩, .slice none 0 0, .slice none 0 0]] w fun e w' => e = .returned (.int .i64 (txtE k s)) ∧ Below w.heap.size w w' :=
  check_leaf (.inr ⟨hk, rfl, rfl⟩) _ w fun W => keyed_txt s hk W
/-- The document of a key, a string, a blob. -/
theorem build_txt (fl : Int) {k : Int} {s : List UInt8} (hk : k = 5 ∨ k = 6 ∨ k = 7) (hs : s.length ≤ 300) (hz : txtE k s = 0) :
    ∃ y, leastW (fitsV (txtV k s) (txtB k s).length 0) = y ∧ (docB (txtB k s) (txtV k s) y).length ≤ 1048576 ∧ ∀ w, Calls Tryz.prog 12 #[.agg #[.int .i64 k, .int .i64 0, .int .u64 ((0 : Nat) : Int), .string ⟨s.toArray⟩, .slice none 0 0, .slice none 0 0], .int .i64 fl] w (DocW w (docB (txtB k s) (txtV k s) y)) := by
  obtain ⟨f1, f2, f3, f4, f5⟩ := txt_facts s hk hs
  have hf := finok_gen f1 f2 f4 (by omega)
  refine ⟨_, rfl, ?_, fun w => ?_⟩
  · have h8 := alignB_le8 (txtB k s) hf.w
    have hw := w_cases hf.w
    unfold docB
    simp only [List.length_append, leBytes_length, List.length_cons, List.length_nil]
    omega
  obtain ⟨e1, e2⟩ := leaf_txt (Go.Proofs.YtjhigmgkmmjlfaaGreat.bits fl) 0 0 s hk
  generalize leastW (fitsV (txtV k s) (txtB k s).length 0) = y at *
  have hf' : FinOk (Bd.new.leaf (Go.Proofs.YtjhigmgkmmjlfaaGreat.bits fl) k 0 0 s).b (txtV k s) y := by rw [e1]; exact hf
  have hc := capped_leaf fl (Bd.new.leaf (Go.Proofs.YtjhigmgkmmjlfaaGreat.bits fl) k 0 0 s) (txtV k s) y k 0 0 s
  have hd : docB (txtB k s) (txtV k s) y = alignB y (Bd.new.leaf (Go.Proofs.YtjhigmgkmmjlfaaGreat.bits fl) k 0 0 s).b ++ leBytes y (elemN y (alignB y (Bd.new.leaf (Go.Proofs.YtjhigmgkmmjlfaaGreat.bits fl) k 0 0 s).b).length (txtV k s)) ++ [bTag y (txtV k s), UInt8.ofNat y] := by rw [e1]; rfl
  rw [hd]
  refine build_lift fl k 0 0 s _ w fun W => hc W (fun W1 => ksorted_leaf (.inr ⟨hk, rfl, rfl⟩) W1 fun W2 => by have h := keyed_txt s hk W2; rw [hz] at h; exact h) (fun M W1 o hM => ?_) e2 hf'
  refine callsleaf_spec M fl _ k 0 0 s none 0 0 none 0 0 W1 o (by omega) fun W2 hW2 => leaft_spec M fl Bd.new k 0 0 s none 0 0 none 0 0 W2 o (hM.pure hW2) ⟨by decide, ?_, by decide⟩ ⟨by decide, ?_, by decide, by decide⟩ hk ?_
  · show 0 + s.length + 21 ≤ _; omega
  · show 0 + s.length + 1 ≤ _; omega
  · rintro rfl
    unfold txtE kErr at hz
    rw [if_pos rfl] at hz
    cases h : hasZero s with
    | false => rfl
    | true => rw [h] at hz; simp at hz
theorem build_txt_err (fl : Int) {k : Int} {s : List UInt8} (hk : k = 5 ∨ k = 6 ∨ k = 7) (hz : txtE k s ≠ 0) (w : World) :
    Calls Tryz.prog 12 #[.agg #[.int .i64 k, .int .i64 0, .int .u64 ((0 : Nat) : Int), .string ⟨s.toArray⟩, .slice none 0 0, .slice none 0 0], .int .i64 fl] w fun e w' => e = .returned (.tuple #[.slice none 0 0, .int .i64 (txtE k s)]) ∧ Below w.heap.size w w' :=
  build_err fl (txtE k s) k 0 0 s w fun W => capped_err fl (txtE k s) k 0 0 s W hz fun W1 => ksorted_err k 0 0 s (txtE k s) W1 hz fun W2 => check_txt s hk W2
end Go.Proofs.YtjhigmgkmmjlfaaGreat
