/-
  slices.Clone at changes of loans.
-/
import Derived.Test.YtaibocobeibobaaLn5
namespace Go.Proofs.Ytaibocobeibobaa.Ln
open Go.RowKit
open Go.Proofs.Ytaibocobeibobaa

/-- A change in memory. -/
def tenc (t : Tm) : List Value := [.int .i64 (t).me, .int .i64 (t).pr, .int .i64 (t).ppm, .int .i64 (t).stt, .int .i64 (t).ev, .int .i64 (t).ct, .int .i64 (t).ba, .int .i64 (t).mo, .int .i64 (t).pen, .int .i64 (t).fe, .string (t).cal, .string (t).cur]
def cenc (c : Ch) : List Value := .int .i64 c.day :: .int .i64 c.amt :: tenc c.old
theorem cenc_len (d : Ch) : (cenc d).length = 14 := rfl
theorem cenc_one (d : Ch) : ∀ u ∈ cenc d, u.oneCell' = true := by
  intro u hu
  simp only [cenc, tenc, List.mem_cons, List.not_mem_nil, or_false] at hu
  rcases hu with rfl | rfl | rfl | rfl | rfl | rfl | rfl | rfl | rfl | rfl | rfl | rfl | rfl | rfl <;> rfl
theorem chg_info : (Try.prog.info? 68).map (fun i => (i.zero, i.size, i.bytes)) = some (some (.agg #[.int .i64 0, .int .i64 0, .int .i64 0, .int .i64 0, .int .i64 0, .int .i64 0, .int .i64 0, .int .i64 0, .int .i64 0, .int .i64 0, .int .i64 0, .int .i64 0, .string .empty, .string .empty]), 14, 128) := by kernel_rfl

set_option maxHeartbeats 2000000 in
/-- slices.Clone at installments. -/
theorem clonec_any (a : Option Addr) (cap : Nat) (cs : List Ch) (w : World) (h : RowIn cenc w a cs) (hl : cs.length ≤ 100000) :
    Calls Try.prog 38 #[.slice a cs.length cap] w fun e w' => Below w.heap.size w w' ∧
      ((a = none ∧ cs = [] ∧ e = .returned (.slice none 0 0)) ∨ ∃ g c, e = .returned (.slice (some ⟨g, 0, none⟩) cs.length c) ∧ OwnR cenc 14 68 w' w.heap.size g c cs) := by
  have HR := Lib.hid h
  cases a with
  | none =>
    have h0 : cs = [] := by
      rcases Nat.eq_zero_or_pos cs.length with h0 | h0
      · exact List.length_eq_zero_iff.1 h0
      · obtain ⟨b, off, ha, _⟩ := h h0; cases ha
    subst h0
    clear h hl
    have q24 : ∀ (w : World) (n c n' c' : Nat), (binOp .eql 25 (.slice none n c) (.slice none n' c')).run Try.prog w = .ok (.bool true) w := fun w n c n' c' => Lib.run_eql_slice_nil w _ _ none n c n' c' Try.underlying25
    go_enter Try.func38, Try.ntmps38
    go_wp2_with fail
    go_ret
    exact ⟨Below.refl _ _, .inl (by simp)⟩
  | some ad =>
    obtain ⟨i, hi, hzz⟩ := Option.map_eq_some_iff.1 chg_info
    simp only [Prod.mk.injEq] at hzz
    obtain ⟨hz, hsz, hby⟩ := hzz
    have HI := Lib.hid (And.intro hi (And.intro hz (And.intro hsz hby)))
    clear h hi hz hsz hby
    have q24 : ∀ (w : World) (n c n' c' : Nat), (binOp .eql 25 (.slice (some ad) n c) (.slice none n' c')).run Try.prog w = .ok (.bool false) w := fun w n c n' c' => Lib.run_eql_slice_nil w _ _ (some ad) n c n' c' Try.underlying25
    go_enter Try.func38, Try.ntmps38
    go_wp2_with (at_builtin; refine wpList_append_own _ rfl _ _ 25 rfl w.heap.size 68 i (.agg #[.int .i64 0, .int .i64 0, .int .i64 0, .int .i64 0, .int .i64 0, .int .i64 0, .int .i64 0, .int .i64 0, .int .i64 0, .int .i64 0, .int .i64 0, .int .i64 0, .string .empty, .string .empty]) 14 128 Try.underlying25 HI.out.1 HI.out.2.1 HI.out.2.2.1 HI.out.2.2.2 rfl (by decide) _ _ _ rfl (World.ownsRow_made w #[] 0 (Nat.le_refl _) (Nat.zero_le _) (by simp)) ad cs.length cap (flat cenc cs) rfl ?qc1 ?qc2 ?qc3 ?qc4 ?qc5 ?qc6 ?_)
    case qc1 => exact flat_len cenc_len cs
    case qc2 =>
      intro j u hj
      have h0 : 0 < cs.length := by
        rcases Nat.eq_zero_or_pos cs.length with h0 | h0
        · rw [List.length_eq_zero_iff.1 h0] at hj; simp [flat] at hj
        · exact h0
      obtain ⟨b, off, ha, hc⟩ := HR.out h0
      obtain rfl := Option.some.inj ha
      rw [show (⟨b, off, none⟩ : Addr).add j = ⟨b, off + j, none⟩ from Go.WideShapes.add_plain ..]
      exact Lib.cell?_alloc_some _ (hc j u hj)
    case qc3 => exact flat_mem cenc_one cs
    case qc4 => rw [Nat.zero_add]; unfold maxLen; omega
    case qc5 => rw [Nat.zero_add]; omega
    case qc6 => simp
    intro v' w1 hown hgrow hnl
    have hnn : v' ≠ .slice none 0 0 := hnl
    obtain ⟨g, c, rfl, ho⟩ := OwnR.of hown hnn
    go_wp2_with fail
    go_ret
    exact ⟨((Below.refl _ w).alloc (Nat.le_refl _) _).grown hgrow (by simp) (by intro k hk; simp [Value.ownBlock] at hk; omega), .inr ⟨g, c, rfl, ho⟩⟩
end Go.Proofs.Ytaibocobeibobaa.Ln
