/-
  The reference's small functions on loans: Principal, Interest, Left, within, Valid, Outstanding.
  The reference's Left, Outstanding, Great.
-/
import Derived.Test.YtdlmoijeflchgaaLa
namespace Go.Proofs.Ytdlmoijeflchgaa.Ln
open Go.RowKit
open Go.Proofs.Ytdlmoijeflchgaa

/-- No installment has a day behind the last one. -/
def Dok (ds : List Du) : Prop := ∀ d ∈ ds, d.day ≤ 9223372036854775807
theorem rvalid_any (n : Int) (w : World) : Calls Try.prog 28 #[.int .i64 n] w fun e w' => e = .returned (.bool (dayB n)) ∧ w = w' := by
  unfold dayB
  by_cases h : 0 ≤ n
  · by_cases h2 : n ≤ 73048
    · rw [decide_eq_true ⟨h, h2⟩]
      go_enter Try.func28, Try.ntmps28
      go_wp2_with fail
      go_ret
      exact ⟨by simp, rfl⟩
    · rw [decide_eq_false (by omega)]
      go_enter Try.func28, Try.ntmps28
      go_wp2_with fail
      go_ret
      exact ⟨by simp, rfl⟩
  · rw [decide_eq_false (by omega)]
    go_enter Try.func28, Try.ntmps28
    go_wp2_with fail
    go_ret
    exact ⟨by simp, rfl⟩
/-- Where the loop stands. -/
def rprinR (W0 : World) (ds : List Du) (day : Int) (g : Nat) (s5 s6 : Value) (W : World) : Prop := ∃ k : Nat, k + g = ds.length ∧ s6 = .int .i64 k ∧ s5 = .int .i64 (P (due (ds.take k) day)) ∧ W = W0
/-- Where the loop stands. -/
def rintR (W0 : World) (ds : List Du) (day : Int) (g : Nat) (s5 s6 : Value) (W : World) : Prop := ∃ k : Nat, k + g = ds.length ∧ s6 = .int .i64 k ∧ s5 = .int .i64 (I (due (ds.take k) day)) ∧ W = W0
end Go.Proofs.Ytdlmoijeflchgaa.Ln

namespace Go.Proofs.Ytdlmoijeflchgaa.Ln
open Go.RowKit
open Go.Proofs.Ytdlmoijeflchgaa

/-- A whole block loaded in a region that draws its order. -/
theorem quiet_load_row {P : Program} {C : World → Prop} {a : Act} {o : Oper} {K : Act → Prop} (ty : TypeId) (x : Operand) (ho : o.op = .load ty x)
    (g : Nat) (hx : a.eval x = .pointer (some ⟨g, 0, none⟩)) (t : TypeId) (cs : Array Value) (fr : Nat × Nat) (d : TypeDesc) (hg : ∀ w, C w → w.heap[g]? = some (.cells cs t fr))
    (hu : P.underlying ty = some d) (hd : (match d with | .struct _ | .array _ _ => true | _ => false) = true) (hi : (P.info? ty).map (·.size) = some cs.size)
    (hk : K (a.put o.dst (.agg cs))) : o.quiet P a C K :=
  Reg.quiet_run (v := .agg cs) (fun w hw => by
    unfold execOp
    simp only [ho, hx, Instr.loadAt, Instr.sureAddr, Sem.run_bind, Sem.run_pure, Result.andThen_ok, run_loadVar_row w g t ty cs fr d (hg w hw) hu hd hi]) hk
theorem rdue_all {ds : List Du} (h : Dok ds) : due ds 9223372036854775807 = ds := due_all h

def greatB (l : Lo) : Bool := decide (300 < l.ds.length) || decide (100 < l.cs.length)
end Go.Proofs.Ytdlmoijeflchgaa.Ln
