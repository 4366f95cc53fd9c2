/-
  A loan among the arguments, with room for its installments.
-/
import Derived.Test.YtaanicginfjgdaaGreatDoorOl
namespace Go.Proofs.YtaanicginfjgdaaGreatDoor.Ol
open Go Go.ChangeShapes Go.WideShapes Go.ChangeAt Go.RowKit
open Go.Proofs.YtaanicginfjgdaaGreatDoor
open Go.Proofs.YtaanicginfjgdaaGreatDoor.Ln
set_option maxRecDepth 100000
set_option linter.unusedVariables false

section
variable {H : Type} {ec : TypeId × Value → H} {w : World} {base : Nat} {spare : Nat → Bool} {held : Bool} {m : Nat} {x : DataW H × List MemPlace}
theorem loan_room {l : Lo} {da ca : Option Addr} {dk ck : Nat} (h : DataW.trod ec Tryz.prog w base spare held m 27 [.int .i64 (l).id, .int .i64 (l).ac, .int .i64 (l).st, .int .i64 (l).pp, .int .i64 (l).pi, .int .i64 (l).fee, .int .i64 (l).pen, .int .i64 (l).chg, .int .i64 (l).prov, .int .i64 (l).loss, .int .i64 (l).rcv, .int .i64 ((l).tm).me, .int .i64 ((l).tm).pr, .int .i64 ((l).tm).ppm, .int .i64 ((l).tm).stt, .int .i64 ((l).tm).ev, .int .i64 ((l).tm).ct, .int .i64 ((l).tm).ba, .int .i64 ((l).tm).mo, .int .i64 ((l).tm).pen, .int .i64 ((l).tm).fe, .string ((l).tm).cal, .string ((l).tm).cur, .slice da (l).ds.length dk, .slice ca (l).cs.length ck] = some x) : l.ds.length ≤ dk := by
  obtain ⟨xs, n, _, _, hl, hxl, hf⟩ := DataW.trod_struct Tryz.underlying27 h
  match xs, hxl with
  | [x0, x1, x2, x3, x4, x5, x6, x7, x8, x9, x10, x11, x12, x13], _ =>
    have h12 := hf 12 _ rfl
    simp [cDl] at h12
    rcases Deep.open_slice Tryz.underlying24 h12 with ⟨e, _⟩ | ⟨a, len, cap, k, n', D, Pl, e, _, hlc, _⟩
    · simp at e
      rw [e.2.1]
      exact Nat.zero_le _
    · simp at e
      omega
theorem loan_fee {l : Lo} {da ca : Option Addr} {dk ck : Nat} (h : DataW.trod ec Tryz.prog w base spare held m 27 [.int .i64 (l).id, .int .i64 (l).ac, .int .i64 (l).st, .int .i64 (l).pp, .int .i64 (l).pi, .int .i64 (l).fee, .int .i64 (l).pen, .int .i64 (l).chg, .int .i64 (l).prov, .int .i64 (l).loss, .int .i64 (l).rcv, .int .i64 ((l).tm).me, .int .i64 ((l).tm).pr, .int .i64 ((l).tm).ppm, .int .i64 ((l).tm).stt, .int .i64 ((l).tm).ev, .int .i64 ((l).tm).ct, .int .i64 ((l).tm).ba, .int .i64 ((l).tm).mo, .int .i64 ((l).tm).pen, .int .i64 ((l).tm).fe, .string ((l).tm).cal, .string ((l).tm).cur, .slice da (l).ds.length dk, .slice ca (l).cs.length ck] = some x) : -9223372036854775808 ≤ l.tm.fe ∧ l.tm.fe ≤ 9223372036854775807 := by
  obtain ⟨xs, n, _, _, hl, hxl, hf⟩ := DataW.trod_struct Tryz.underlying27 h
  match xs, hxl with
  | [x0, x1, x2, x3, x4, x5, x6, x7, x8, x9, x10, x11, x12, x13], _ =>
    have h11 := hf 11 _ rfl
    simp [cT] at h11
    obtain ⟨ys, k, _, _, hl2, hyl, hg⟩ := DataW.trod_struct Tryz.underlying23 h11
    match ys, hyl with
    | [y0, y1, y2, y3, y4, y5, y6, y7, y8, y9, y10, y11], _ =>
      have h9 := hg 9 _ rfl
      simp [cI] at h9
      obtain ⟨a, e, h1, h2⟩ := fI h9
      simp at e
      omega
end
/-- A loan among the arguments, with room. -/
theorem open_ploan_arg {H : Type} {ec : TypeId × Value → H} {W : World} {r : Reach} {b0 base : Nat} {sp : Nat → Bool} {v : Value} {d : DataW H} {p : List MemPlace}
    (hv : Value.okWide Tryz.prog W r b0 27 v) (h : DataW.Trod ec Tryz.prog W base sp true 27 v d p) :
    ∃ (l : Lo) (da ca : Option Addr) (dk ck : Nat), v = (.agg #[.int .i64 (l).id, .int .i64 (l).ac, .int .i64 (l).st, .int .i64 (l).pp, .int .i64 (l).pi, .int .i64 (l).fee, .int .i64 (l).pen, .int .i64 (l).chg, .int .i64 (l).prov, .int .i64 (l).loss, .int .i64 (l).rcv, .int .i64 ((l).tm).me, .int .i64 ((l).tm).pr, .int .i64 ((l).tm).ppm, .int .i64 ((l).tm).stt, .int .i64 ((l).tm).ev, .int .i64 ((l).tm).ct, .int .i64 ((l).tm).ba, .int .i64 ((l).tm).mo, .int .i64 ((l).tm).pen, .int .i64 ((l).tm).fe, .string ((l).tm).cal, .string ((l).tm).cur, .slice da (l).ds.length dk, .slice ca (l).cs.length ck]) ∧ RowIn denc W da l.ds ∧ Dok l.ds ∧ RowIn cenc W ca l.cs ∧ l.ds.length ≤ dk := by
  obtain ⟨l, da, ca, dk, ck, e, h1, h2, h3⟩ := open_loan_arg hv h
  refine ⟨l, da, ca, dk, ck, e, h1, h2, h3, ?_⟩
  subst e
  obtain ⟨fuel, hf⟩ := h
  exact loan_room hf
/-- The same, and its fee's rate is an int. -/
theorem open_qloan_arg {H : Type} {ec : TypeId × Value → H} {W : World} {r : Reach} {b0 base : Nat} {sp : Nat → Bool} {v : Value} {d : DataW H} {p : List MemPlace}
    (hv : Value.okWide Tryz.prog W r b0 27 v) (h : DataW.Trod ec Tryz.prog W base sp true 27 v d p) :
    ∃ (l : Lo) (da ca : Option Addr) (dk ck : Nat), v = (.agg #[.int .i64 (l).id, .int .i64 (l).ac, .int .i64 (l).st, .int .i64 (l).pp, .int .i64 (l).pi, .int .i64 (l).fee, .int .i64 (l).pen, .int .i64 (l).chg, .int .i64 (l).prov, .int .i64 (l).loss, .int .i64 (l).rcv, .int .i64 ((l).tm).me, .int .i64 ((l).tm).pr, .int .i64 ((l).tm).ppm, .int .i64 ((l).tm).stt, .int .i64 ((l).tm).ev, .int .i64 ((l).tm).ct, .int .i64 ((l).tm).ba, .int .i64 ((l).tm).mo, .int .i64 ((l).tm).pen, .int .i64 ((l).tm).fe, .string ((l).tm).cal, .string ((l).tm).cur, .slice da (l).ds.length dk, .slice ca (l).cs.length ck]) ∧ RowIn denc W da l.ds ∧ Dok l.ds ∧ RowIn cenc W ca l.cs ∧ l.ds.length ≤ dk ∧ (-9223372036854775808 ≤ l.tm.fe ∧ l.tm.fe ≤ 9223372036854775807) := by
  obtain ⟨l, da, ca, dk, ck, e, h1, h2, h3, h4⟩ := open_ploan_arg hv h
  refine ⟨l, da, ca, dk, ck, e, h1, h2, h3, h4, ?_⟩
  subst e
  obtain ⟨fuel, hf⟩ := h
  exact loan_fee hf
end Go.Proofs.YtaanicginfjgdaaGreatDoor.Ol
