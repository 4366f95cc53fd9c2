/-
  Owed of package loan.
-/
import Derived.Test.YtaibocobeibobaaLnQ
import Derived.Test.YtaibocobeibobaaLn2
namespace Go.Proofs.Ytaibocobeibobaa.Ln
open Go.RowKit
open Go.Proofs.Ytaibocobeibobaa

theorem pparts_len (l : List Pa) : (pparts l).length ≤ l.length := List.length_filter_le ..
set_option maxHeartbeats 4000000 in
theorem owed_any (l : Lo) (da ca : Option Addr) (dk ck : Nat) (on : Int) (w : World) (h : DuesIn w da l.ds) (hl : l.ds.length ≤ 100000) :
    Calls Try.prog 13 #[(.agg #[.int .i64 (l).id, .int .i64 (l).ac, .int .i64 (l).st, .int .i64 (l).pp, .int .i64 (l).pi, .int .i64 (l).fee, .int .i64 (l).pen, .int .i64 (l).chg, .int .i64 (l).prov, .int .i64 (l).loss, .int .i64 (l).rcv, .int .i64 ((l).tm).me, .int .i64 ((l).tm).pr, .int .i64 ((l).tm).ppm, .int .i64 ((l).tm).stt, .int .i64 ((l).tm).ev, .int .i64 ((l).tm).ct, .int .i64 ((l).tm).ba, .int .i64 ((l).tm).mo, .int .i64 ((l).tm).pen, .int .i64 ((l).tm).fe, .string ((l).tm).cal, .string ((l).tm).cur, .slice da (l).ds.length dk, .slice ca (l).cs.length ck]), .int .i64 on] w fun e w' => ∃ g, e = .returned (.slice (some ⟨g, 0, none⟩) (powed l on).length 4) ∧ w.heap.size ≤ g ∧ RowIn penc w' (some ⟨g, 0, none⟩) (powed l on) ∧ Below w.heap.size w w' := by
  have b0 := Below.refl w.heap.size w
  have bb : Below w.heap.size w (w.alloc (.cells #[.int .i64 (l).id, .int .i64 (l).ac, .int .i64 (l).st, .int .i64 (l).pp, .int .i64 (l).pi, .int .i64 (l).fee, .int .i64 (l).pen, .int .i64 (l).chg, .int .i64 (l).prov, .int .i64 (l).loss, .int .i64 (l).rcv, .int .i64 ((l).tm).me, .int .i64 ((l).tm).pr, .int .i64 ((l).tm).ppm, .int .i64 ((l).tm).stt, .int .i64 ((l).tm).ev, .int .i64 ((l).tm).ct, .int .i64 ((l).tm).ba, .int .i64 ((l).tm).mo, .int .i64 ((l).tm).pen, .int .i64 ((l).tm).fe, .string ((l).tm).cal, .string ((l).tm).cur, .slice da (l).ds.length dk, .slice ca (l).cs.length ck] 27)) := b0.alloc (Nat.le_refl _) _
  have HU := Lib.hid (due_any da dk l.ds on _ (h.later bb) hl)
  have HS := Lib.hid (fun (a : Option Addr) (c : Nat) (W : World) (hW : DuesIn W a (due l.ds on)) => sums_any a c (due l.ds on) W hW)
  have HQ := Lib.hid (fun (W : World) (ho : OwnR penc 2 54 W w.heap.size W.heap.size 4 [⟨1, l.fee⟩]) => ho)
  have HO := Lib.hid (show powed l on = pparts [⟨1, l.fee⟩, ⟨2, l.pen⟩, ⟨3, wrap64 (I (due l.ds on) - l.pi)⟩, ⟨4, wrap64 (P (due l.ds on) - l.pp)⟩] from rfl)
  clear h HQ
  generalize P (due l.ds on) = p at *
  generalize I (due l.ds on) = i at *
  generalize powed l on = r at *
  generalize hdu : due l.ds on = du at *
  clear hdu
  go_enter Try.func13, Try.ntmps13
  go_wp2_with fail
  refine (HU.out).mono ?_
  rintro e w2 ⟨a', c', rfl, hdi, hb2⟩
  have hk := Bk.Blk.later (g := w.heap.size) hb2 (Bk.Blk.nw10 (W := w) (cs := #[.int .i64 (l).id, .int .i64 (l).ac, .int .i64 (l).st, .int .i64 (l).pp, .int .i64 (l).pi, .int .i64 (l).fee, .int .i64 (l).pen, .int .i64 (l).chg, .int .i64 (l).prov, .int .i64 (l).loss, .int .i64 (l).rcv, .int .i64 ((l).tm).me, .int .i64 ((l).tm).pr, .int .i64 ((l).tm).ppm, .int .i64 ((l).tm).stt, .int .i64 ((l).tm).ev, .int .i64 ((l).tm).ct, .int .i64 ((l).tm).ba, .int .i64 ((l).tm).mo, .int .i64 ((l).tm).pen, .int .i64 ((l).tm).fe, .string ((l).tm).cal, .string ((l).tm).cur, .slice da (l).ds.length dk, .slice ca (l).cs.length ck]) (t := 27))
  have b2 := bl2 hb2 bb
  have HS2 := Lib.hid (HS.out a' c' w2 hdi)
  clear hb2 hdi HS
  go_wp2_with fail
  refine (HS2.out).mono ?_
  rintro e w3 ⟨rfl, hb3⟩
  replace hk := hk.later hb3
  have b3 := bl2 hb3 b2
  have z3 := b3.size
  clear hb3
  have l3 := hk.c3
  have l4 := hk.c4
  have l5 := hk.c5
  have l6 := hk.c6
  have HD := Lib.hid (pdel_any 31 #[] (fun p => decide (p.am ≤ 0)) w.heap.size w3.heap.size 4 [⟨1, l.fee⟩, ⟨2, l.pen⟩, ⟨3, wrap64 (i - l.pi)⟩, ⟨4, wrap64 (p - l.pp)⟩]
    (w3.alloc (.cells #[.int .i64 1, .int .i64 l.fee, .int .i64 2, .int .i64 l.pen, .int .i64 3, .int .i64 (wrap64 (i - l.pi)), .int .i64 4, .int .i64 (wrap64 (p - l.pp))] 54)) (enters_of Try.func31 (by kernel_rfl) rfl) (owed1_any _ _)
    ⟨z3, by decide, [], by simp, Bk.Blk.nw10⟩ (by simp) (by simp))
  rw [owed_filter, ← HO.out] at HD
  go_wp2_with fail
  refine (HD.out).mono ?_
  rintro e w4 ⟨rfl, hrow, hb4⟩
  go_wp2_with fail
  go_ret
  exact ⟨_, rfl, z3, hrow, (b3.alloc z3 _).trans hb4⟩
end Go.Proofs.Ytaibocobeibobaa.Ln
