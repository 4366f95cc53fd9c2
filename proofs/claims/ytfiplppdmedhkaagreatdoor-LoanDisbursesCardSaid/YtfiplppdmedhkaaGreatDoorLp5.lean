/-
  Both Pays, whatever comes; the reference's Same.
-/
import Derived.Test.YtfiplppdmedhkaaGreatDoorLp4
import Derived.Test.YtfiplppdmedhkaaGreatDoorLp1
import Derived.Test.YtfiplppdmedhkaaGreatDoorLr9
import Derived.Deep.MidRow
namespace Go.Proofs.YtfiplppdmedhkaaGreatDoor.Ln
open Go.RowKit
open Go.Proofs.YtfiplppdmedhkaaGreatDoor
set_option maxRecDepth 100000

/-- Nothing, and what Pay returns. -/
def zTm : Tm := ⟨0, 0, 0, 0, 0, 0, 0, 0, 0, 0, .empty, .empty⟩
def zLo : Lo := ⟨0, 0, 0, 0, 0, 0, 0, 0, 0, 0, 0, zTm, [], []⟩
def payA (l : Lo) (n on : Int) : Lo := if payE l n on = 0 then payL l n on else zLo
def payP (l : Lo) (n on : Int) : List Pa := if payE l n on = 0 then (payD l n on).pps else []
theorem RowIn.none {α : Type} {enc : α → List Value} {W : World} {a : Option Addr} : RowIn enc W a [] := fun h => absurd h (Nat.not_lt_zero _)
/-- A loan in memory. -/
structure LoIn (W : World) (l : Lo) (da ca : Option Addr) : Prop where
  d : RowIn denc W da l.ds
  c : RowIn cenc W ca l.cs
theorem LoIn.later {W W' : World} {l : Lo} {da ca : Option Addr} (h : LoIn W l da ca) (hb : Below W.heap.size W W') : LoIn W' l da ca := ⟨h.d.later hb, h.c.later hb⟩
theorem payL_same (l : Lo) (n on : Int) : (payL l n on).ds = l.ds ∧ (payL l n on).cs = l.cs := by unfold payL; exact ⟨(done_same _).1, (done_same _).2⟩
theorem pay_any (l : Lo) (da ca : Option Addr) (dk ck : Nat) (n on : Int) (w : World) (h : LoIn w l da ca) (hn : l.ds.length ≤ 100000) :
    Calls Tryz.prog 38 #[(.agg #[.int .i64 (l).id, .int .i64 (l).ac, .int .i64 (l).st, .int .i64 (l).pp, .int .i64 (l).pi, .int .i64 (l).fee, .int .i64 (l).pen, .int .i64 (l).chg, .int .i64 (l).prov, .int .i64 (l).loss, .int .i64 (l).rcv, .int .i64 ((l).tm).me, .int .i64 ((l).tm).pr, .int .i64 ((l).tm).ppm, .int .i64 ((l).tm).stt, .int .i64 ((l).tm).ev, .int .i64 ((l).tm).ct, .int .i64 ((l).tm).ba, .int .i64 ((l).tm).mo, .int .i64 ((l).tm).pen, .int .i64 ((l).tm).fe, .string ((l).tm).cal, .string ((l).tm).cur, .slice da (l).ds.length dk, .slice ca (l).cs.length ck]), .int .i64 n, .int .i64 on] w fun e w' => ∃ a c da' dk' ca' ck', e = .returned (.tuple #[(.agg #[.int .i64 ((payA l n on)).id, .int .i64 ((payA l n on)).ac, .int .i64 ((payA l n on)).st, .int .i64 ((payA l n on)).pp, .int .i64 ((payA l n on)).pi, .int .i64 ((payA l n on)).fee, .int .i64 ((payA l n on)).pen, .int .i64 ((payA l n on)).chg, .int .i64 ((payA l n on)).prov, .int .i64 ((payA l n on)).loss, .int .i64 ((payA l n on)).rcv, .int .i64 (((payA l n on)).tm).me, .int .i64 (((payA l n on)).tm).pr, .int .i64 (((payA l n on)).tm).ppm, .int .i64 (((payA l n on)).tm).stt, .int .i64 (((payA l n on)).tm).ev, .int .i64 (((payA l n on)).tm).ct, .int .i64 (((payA l n on)).tm).ba, .int .i64 (((payA l n on)).tm).mo, .int .i64 (((payA l n on)).tm).pen, .int .i64 (((payA l n on)).tm).fe, .string (((payA l n on)).tm).cal, .string (((payA l n on)).tm).cur, .slice da' ((payA l n on)).ds.length dk', .slice ca' ((payA l n on)).cs.length ck']), .slice a (payP l n on).length c, .int .i64 (payE l n on)]) ∧ RowIn penc w' a (payP l n on) ∧ LoIn w' (payA l n on) da' ca' ∧ Below w.heap.size w w' := by
  have hd := dues_of_row (by omega) h.d
  by_cases he : payE l n on = 0
  · refine (pay_ok l da ca dk ck n on w hd h.c he).mono fun e w' hh => ?_
    obtain ⟨a, c, da', dk', ca', ck', rfl, h1, h2, h3, h4⟩ := hh
    have e1 : payA l n on = payL l n on := if_pos he
    have e2 : payP l n on = (payD l n on).pps := if_pos he
    have s := payL_same l n on
    rw [e1, e2, he]
    exact ⟨a, c, da', dk', ca', ck', rfl, h1, ⟨by rw [s.1]; exact h2, by rw [s.2]; exact h3⟩, h4⟩
  · refine (pay_errs l da ca dk ck n on w hd he).mono fun e w' hh => ?_
    obtain ⟨rfl, h4⟩ := hh
    have e1 : payA l n on = zLo := if_neg he
    have e2 : payP l n on = [] := if_neg he
    rw [e1, e2]
    exact ⟨none, 0, none, 0, none, 0, rfl, .none, ⟨.none, .none⟩, h4⟩
end Go.Proofs.YtfiplppdmedhkaaGreatDoor.Ln
