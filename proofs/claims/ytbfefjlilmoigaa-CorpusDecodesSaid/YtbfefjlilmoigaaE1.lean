/- Walks over corpus: the reading's end caught. -/
import Derived.Test.YtbfefjlilmoigaaD3
import Derived.Defers
import Derived.Recover
namespace Go.Proofs.Ytbfefjlilmoigaa
open Go.RowKit
set_option linter.unusedVariables false

theorem as68 (v : Value) (w : World) : (Instr.typeAssert (.iface 68 v) 20 68 true).run Try.prog w = .ok (.tuple #[v, .bool true]) w := by kernel_rfl

set_option maxHeartbeats 1000000 in
set_option maxRecDepth 100000 in
theorem catch_idle (p q : Addr) (w : World) :
    CallsD Try.prog 49 #[.pointer (some p), .pointer (some q)] .returning w fun e u' w' => e = .returned (.tuple #[]) ∧ u' = .returning ∧ w = w' := by
  refine callsD_of_wpS Try.func49 rfl fun c₀ cs hu => ?_
  apply wpS_seq
  apply wpS_region
  simp [wpOpsS, go_sem, recoverD, hu, Try.ntmps49, Exit.thenS]
  refine wpS_of_wp ?_
  show Code.wp _ _ _ ⟨#[.pointer (some p), .pointer (some q), .nilIface, undef, undef, .nilIface, undef, undef, undef, undef, undef, undef, undef, undef, undef, undef, undef, undef, undef], []⟩ _
  go_wp2_with fail
  exact ⟨rfl, .returning, by cases c₀; simp_all, _, results_none rfl _ _ _, rfl, rfl, rfl⟩

set_option maxHeartbeats 1000000 in
set_option maxRecDepth 100000 in
theorem catch_wrong (B p q : Nat) (x0 x1 y : Value) (z : Int) (w : World) (hp : Row w p 37 #[x0, x1]) (hq : Row w q 38 #[y]) (hpq : p ≠ q) (hBp : B ≤ p) (hBq : B ≤ q) :
    CallsD Try.prog 49 #[.pointer (some ⟨p, 0, none⟩), .pointer (some ⟨q, 0, none⟩)] (.panicking [{ v := .iface 68 (.agg #[.int .i64 z]), recovered := false }]) w fun e u' w' =>
      e = .returned (.tuple #[]) ∧ u' = .panicking [{ v := .iface 68 (.agg #[.int .i64 z]), recovered := true }] ∧ Row w' p 37 #[.int .u32 0, .slice none 0 0] ∧ Row w' q 38 #[.int .i64 z] ∧ Below B w w' := by
  refine callsD_of_wpS Try.func49 rfl fun c₀ cs hu => ?_
  apply wpS_seq
  apply wpS_region
  simp [wpOpsS, go_sem, recoverD, hu, Try.ntmps49, Exit.thenS]
  refine wpS_of_wp ?_
  show Code.wp _ _ _ ⟨#[.pointer (some ⟨p, 0, none⟩), .pointer (some ⟨q, 0, none⟩), .iface 68 (.agg #[.int .i64 z]), undef, undef, .iface 68 (.agg #[.int .i64 z]), undef, undef, undef, undef, undef, undef, undef, undef, undef, undef, undef, undef, undef], []⟩ _
  have hA := as68 (.agg #[.int .i64 z])
  have hp1 := hide (hp.alloc (.cells #[.int .i64 z] 68))
  have hq1 := hide (hq.alloc (.cells #[.int .i64 z] 68))
  have hn1 : Hid (Row (w.alloc (.cells #[.int .i64 z] 68)) w.heap.size 68 #[.int .i64 z]) := Row.new _ _ _
  have hb1 := hide (below_alloc w (.cells #[.int .i64 z] 68))
  have hlp := hp.lt
  have hlq := hq.lt
  clear hp hq hu
  go_wp2_with fail
  generalize w.alloc (.cells #[.int .i64 z] 68) = w1 at *
  generalize hs : w.heap.size = s at *
  have c0 := (hn1.out.cell 0).trans (show _ = some (.int .i64 z) from rfl)
  have p0 := (hp1.out.cell 0).trans (show _ = some x0 from rfl)
  have p1 := (hp1.out.cell 1).trans (show _ = some x1 from rfl)
  have q0 := (hq1.out.cell 0).trans (show _ = some y from rfl)
  have fp0 := hp1.out.frozen 0
  have fp1 := hp1.out.frozen 1
  have fq0 := hq1.out.frozen 0
  have hpq' : ¬ q = p := fun e => hpq e.symm
  have hps : ¬ p = s := by omega
  have hqs : ¬ q = s := by omega
  have hps' : ¬ s = p := by omega
  have hqs' : ¬ s = q := by omega
  go_region
  exact ⟨rfl, _, rfl, _, results_none rfl _ _ _, rfl, rfl, ((hp1.out.put 0 _).put 1 _).far (p := ⟨q, 0, none⟩) hpq _, ((hq1.out.far (p := ⟨p, 0, none⟩) hpq' _).far (p := ⟨p, 1, none⟩) hpq' _).put 0 _, ((((hb1.out.mono (by omega)).setCell (p := ⟨p, 0, none⟩) hBp _).setCell (p := ⟨p, 1, none⟩) hBp _).setCell (p := ⟨q, 0, none⟩) hBq _).drew⟩
end Go.Proofs.Ytbfefjlilmoigaa
