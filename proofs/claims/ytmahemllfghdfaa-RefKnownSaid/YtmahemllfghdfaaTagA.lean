/-
  Packages tag, width and their references: the walks.
-/
import Derived.Test.YtmahemllfghdfaaTagP
import Derived.Test.YtmahemllfghdfaaLeA
import Derived.Deep.WholeRow
namespace Go.Proofs.Ytmahemllfghdfaa
open Go.RowKit Go.Acc
def tCells : Array Value := (tRows.flatMap fun r => [Value.int .i64 r.1, .int .i64 r.2.1, .int .i64 r.2.2]).toArray
def tZero : Array Value := Array.replicate 111 (Value.int .i64 0)
theorem tinfo : (Try.prog.info? 61).map (fun i => (i.zero, i.size)) = some (some (Value.agg tZero), 111) := by kernel_rfl
theorem upon_skip_of {P : Program} {o : Oper} {a : Act} {next : Act → World → Prop} {Q : Exit → Act → World → Prop} {r : Result Unit} {w' : World} (h : r = .ok () w') (hk : next (a.put o.dst undef) w') :
    o.upon P a next Q (r.andThen fun _ w' => .ok .skip w') := by subst h; exact hk
set_option maxRecDepth 100000 in
set_option maxHeartbeats 1000000 in
theorem tkinds_spec (w : World) : Calls Try.prog 41 #[] w fun e w' => e = .returned (.agg tCells) ∧ Below w.heap.size w w' := by
  have hz := (zero_of_info tinfo).1
  have hsz : tZero.size = 111 := rfl
  go_enter Try.func41, Try.ntmps41
  go_wp2
  refine upon_skip_of (w' := w.alloc (.cells tCells 61)) ?_ ?_
  · refine Eq.trans ?_ (run_storeCells_new (P := Try.prog) w 61 tZero tCells (by kernel_rfl) (by kernel_rfl) (by kernel_rfl))
    kernel_rfl
  · have hld := run_loadVar_new (P := Try.prog) w 61 tCells 37 53 Try.underlying61 (by kernel_rfl)
    clear hz hsz
    go_wp2
    refine bodyPost_ret (v := .agg tCells) ?_ rfl ⟨rfl, (Below.refl _ _).alloc (Nat.le_refl _) _⟩
    refine results_cell_row (fn := Try.f41) rfl _ _ w.heap.size 61 tCells (0, 0) _ ?_ (heap_alloc_last w _) Try.underlying61 rfl (by kernel_rfl)
    rfl
end Go.Proofs.Ytmahemllfghdfaa
