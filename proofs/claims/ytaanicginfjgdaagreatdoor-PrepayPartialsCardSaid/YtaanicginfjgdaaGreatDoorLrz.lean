/-
 The reference's ranged.
 The reference's Check.
-/
import Derived.Test.YtaanicginfjgdaaGreatDoorLb
namespace Go.Proofs.YtaanicginfjgdaaGreatDoor.Ln
open Go.RowKit
open Go.Proofs.YtaanicginfjgdaaGreatDoor

theorem rrg_ways (l : Lo) : (l.id < 1) ∨ (1 ≤ l.id ∧ l.ac < 1000) ∨ (1 ≤ l.id ∧ 1000 ≤ l.ac ∧ l.st < 1) ∨ (1 ≤ l.id ∧ 1000 ≤ l.ac ∧ 1 ≤ l.st ∧ 3 < l.st) ∨ (1 ≤ l.id ∧ 1000 ≤ l.ac ∧ 1 ≤ l.st ∧ l.st ≤ 3 ∧ l.pp < 0) ∨ (1 ≤ l.id ∧ 1000 ≤ l.ac ∧ 1 ≤ l.st ∧ l.st ≤ 3 ∧ 0 ≤ l.pp ∧ l.pi < 0) ∨ (1 ≤ l.id ∧ 1000 ≤ l.ac ∧ 1 ≤ l.st ∧ l.st ≤ 3 ∧ 0 ≤ l.pp ∧ 0 ≤ l.pi ∧ l.rcv < 0) ∨ (1 ≤ l.id ∧ 1000 ≤ l.ac ∧ 1 ≤ l.st ∧ l.st ≤ 3 ∧ 0 ≤ l.pp ∧ 0 ≤ l.pi ∧ 0 ≤ l.rcv ∧ amt l.fee = false) ∨ (1 ≤ l.id ∧ 1000 ≤ l.ac ∧ 1 ≤ l.st ∧ l.st ≤ 3 ∧ 0 ≤ l.pp ∧ 0 ≤ l.pi ∧ 0 ≤ l.rcv ∧ amt l.fee = true ∧ amt l.pen = false) ∨ (1 ≤ l.id ∧ 1000 ≤ l.ac ∧ 1 ≤ l.st ∧ l.st ≤ 3 ∧ 0 ≤ l.pp ∧ 0 ≤ l.pi ∧ 0 ≤ l.rcv ∧ amt l.fee = true ∧ amt l.pen = true ∧ amt l.prov = false) ∨ (1 ≤ l.id ∧ 1000 ≤ l.ac ∧ 1 ≤ l.st ∧ l.st ≤ 3 ∧ 0 ≤ l.pp ∧ 0 ≤ l.pi ∧ 0 ≤ l.rcv ∧ amt l.fee = true ∧ amt l.pen = true ∧ amt l.prov = true ∧ amt l.loss = false) ∨ (1 ≤ l.id ∧ 1000 ≤ l.ac ∧ 1 ≤ l.st ∧ l.st ≤ 3 ∧ 0 ≤ l.pp ∧ 0 ≤ l.pi ∧ 0 ≤ l.rcv ∧ amt l.fee = true ∧ amt l.pen = true ∧ amt l.prov = true ∧ amt l.loss = true ∧ dayB l.chg = false) ∨ (1 ≤ l.id ∧ 1000 ≤ l.ac ∧ 1 ≤ l.st ∧ l.st ≤ 3 ∧ 0 ≤ l.pp ∧ 0 ≤ l.pi ∧ 0 ≤ l.rcv ∧ amt l.fee = true ∧ amt l.pen = true ∧ amt l.prov = true ∧ amt l.loss = true ∧ dayB l.chg = true ∧ rateB l.tm.pen = false) ∨ (1 ≤ l.id ∧ 1000 ≤ l.ac ∧ 1 ≤ l.st ∧ l.st ≤ 3 ∧ 0 ≤ l.pp ∧ 0 ≤ l.pi ∧ 0 ≤ l.rcv ∧ amt l.fee = true ∧ amt l.pen = true ∧ amt l.prov = true ∧ amt l.loss = true ∧ dayB l.chg = true ∧ rateB l.tm.pen = true ∧ rateB l.tm.fe = false) ∨ (1 ≤ l.id ∧ 1000 ≤ l.ac ∧ 1 ≤ l.st ∧ l.st ≤ 3 ∧ 0 ≤ l.pp ∧ 0 ≤ l.pi ∧ 0 ≤ l.rcv ∧ amt l.fee = true ∧ amt l.pen = true ∧ amt l.prov = true ∧ amt l.loss = true ∧ dayB l.chg = true ∧ rateB l.tm.pen = true ∧ rateB l.tm.fe = true ∧ l.ds.length < 1) ∨ (1 ≤ l.id ∧ 1000 ≤ l.ac ∧ 1 ≤ l.st ∧ l.st ≤ 3 ∧ 0 ≤ l.pp ∧ 0 ≤ l.pi ∧ 0 ≤ l.rcv ∧ amt l.fee = true ∧ amt l.pen = true ∧ amt l.prov = true ∧ amt l.loss = true ∧ dayB l.chg = true ∧ rateB l.tm.pen = true ∧ rateB l.tm.fe = true ∧ 1 ≤ l.ds.length ∧ 240 < l.ds.length) ∨ (1 ≤ l.id ∧ 1000 ≤ l.ac ∧ 1 ≤ l.st ∧ l.st ≤ 3 ∧ 0 ≤ l.pp ∧ 0 ≤ l.pi ∧ 0 ≤ l.rcv ∧ amt l.fee = true ∧ amt l.pen = true ∧ amt l.prov = true ∧ amt l.loss = true ∧ dayB l.chg = true ∧ rateB l.tm.pen = true ∧ rateB l.tm.fe = true ∧ 1 ≤ l.ds.length ∧ l.ds.length ≤ 240 ∧ 64 < l.cs.length) ∨ (1 ≤ l.id ∧ 1000 ≤ l.ac ∧ 1 ≤ l.st ∧ l.st ≤ 3 ∧ 0 ≤ l.pp ∧ 0 ≤ l.pi ∧ 0 ≤ l.rcv ∧ amt l.fee = true ∧ amt l.pen = true ∧ amt l.prov = true ∧ amt l.loss = true ∧ dayB l.chg = true ∧ rateB l.tm.pen = true ∧ rateB l.tm.fe = true ∧ 1 ≤ l.ds.length ∧ l.ds.length ≤ 240 ∧ l.cs.length ≤ 64) := by
 by_cases c0 : l.id < 1
 ·exact .inl c0
 have n0 : 1 ≤ l.id := by omega
 by_cases c1 : l.ac < 1000
 ·exact .inr (.inl ⟨n0, c1⟩)
 have n1 : 1000 ≤ l.ac := by omega
 by_cases c2 : l.st < 1
 ·exact .inr (.inr (.inl ⟨n0, n1, c2⟩))
 have n2 : 1 ≤ l.st := by omega
 by_cases c3 : 3 < l.st
 ·exact .inr (.inr (.inr (.inl ⟨n0, n1, n2, c3⟩)))
 have n3 : l.st ≤ 3 := by omega
 by_cases c4 : l.pp < 0
 ·exact .inr (.inr (.inr (.inr (.inl ⟨n0, n1, n2, n3, c4⟩))))
 have n4 : 0 ≤ l.pp := by omega
 by_cases c5 : l.pi < 0
 ·exact .inr (.inr (.inr (.inr (.inr (.inl ⟨n0, n1, n2, n3, n4, c5⟩)))))
 have n5 : 0 ≤ l.pi := by omega
 by_cases c6 : l.rcv < 0
 ·exact .inr (.inr (.inr (.inr (.inr (.inr (.inl ⟨n0, n1, n2, n3, n4, n5, c6⟩))))))
 have n6 : 0 ≤ l.rcv := by omega
 by_cases c7 : amt l.fee = false
 ·exact .inr (.inr (.inr (.inr (.inr (.inr (.inr (.inl ⟨n0, n1, n2, n3, n4, n5, n6, c7⟩)))))))
 have n7 : amt l.fee = true := by simpa using c7
 by_cases c8 : amt l.pen = false
 ·exact .inr (.inr (.inr (.inr (.inr (.inr (.inr (.inr (.inl ⟨n0, n1, n2, n3, n4, n5, n6, n7, c8⟩))))))))
 have n8 : amt l.pen = true := by simpa using c8
 by_cases c9 : amt l.prov = false
 ·exact .inr (.inr (.inr (.inr (.inr (.inr (.inr (.inr (.inr (.inl ⟨n0, n1, n2, n3, n4, n5, n6, n7, n8, c9⟩)))))))))
 have n9 : amt l.prov = true := by simpa using c9
 by_cases c10 : amt l.loss = false
 ·exact .inr (.inr (.inr (.inr (.inr (.inr (.inr (.inr (.inr (.inr (.inl ⟨n0, n1, n2, n3, n4, n5, n6, n7, n8, n9, c10⟩))))))))))
 have n10 : amt l.loss = true := by simpa using c10
 by_cases c11 : dayB l.chg = false
 ·exact .inr (.inr (.inr (.inr (.inr (.inr (.inr (.inr (.inr (.inr (.inr (.inl ⟨n0, n1, n2, n3, n4, n5, n6, n7, n8, n9, n10, c11⟩)))))))))))
 have n11 : dayB l.chg = true := by simpa using c11
 by_cases c12 : rateB l.tm.pen = false
 ·exact .inr (.inr (.inr (.inr (.inr (.inr (.inr (.inr (.inr (.inr (.inr (.inr (.inl ⟨n0, n1, n2, n3, n4, n5, n6, n7, n8, n9, n10, n11, c12⟩))))))))))))
 have n12 : rateB l.tm.pen = true := by simpa using c12
 by_cases c13 : rateB l.tm.fe = false
 ·exact .inr (.inr (.inr (.inr (.inr (.inr (.inr (.inr (.inr (.inr (.inr (.inr (.inr (.inl ⟨n0, n1, n2, n3, n4, n5, n6, n7, n8, n9, n10, n11, n12, c13⟩)))))))))))))
 have n13 : rateB l.tm.fe = true := by simpa using c13
 by_cases c14 : l.ds.length < 1
 ·exact .inr (.inr (.inr (.inr (.inr (.inr (.inr (.inr (.inr (.inr (.inr (.inr (.inr (.inr (.inl ⟨n0, n1, n2, n3, n4, n5, n6, n7, n8, n9, n10, n11, n12, n13, c14⟩))))))))))))))
 have n14 : 1 ≤ l.ds.length := by omega
 by_cases c15 : 240 < l.ds.length
 ·exact .inr (.inr (.inr (.inr (.inr (.inr (.inr (.inr (.inr (.inr (.inr (.inr (.inr (.inr (.inr (.inl ⟨n0, n1, n2, n3, n4, n5, n6, n7, n8, n9, n10, n11, n12, n13, n14, c15⟩)))))))))))))))
 have n15 : l.ds.length ≤ 240 := by omega
 by_cases c16 : 64 < l.cs.length
 ·exact .inr (.inr (.inr (.inr (.inr (.inr (.inr (.inr (.inr (.inr (.inr (.inr (.inr (.inr (.inr (.inr (.inl ⟨n0, n1, n2, n3, n4, n5, n6, n7, n8, n9, n10, n11, n12, n13, n14, n15, c16⟩))))))))))))))))
 have n16 : l.cs.length ≤ 64 := by omega
 exact .inr (.inr (.inr (.inr (.inr (.inr (.inr (.inr (.inr (.inr (.inr (.inr (.inr (.inr (.inr (.inr (.inr (⟨n0, n1, n2, n3, n4, n5, n6, n7, n8, n9, n10, n11, n12, n13, n14, n15, n16⟩)))))))))))))))))
theorem within_amt (n : Int) (W : World) : Calls Tryz.prog 127 #[.int .i64 n, .int .i64 1000000000000] W fun e w' => e = .returned (.bool (amt n)) ∧ W = w' := within_any n 1000000000000 W
theorem within_rate (n : Int) (W : World) : Calls Tryz.prog 127 #[.int .i64 n, .int .i64 1000000] W fun e w' => e = .returned (.bool (rateB n)) ∧ W = w' := within_any n 1000000 W
def RGR (A0 : Option Addr) (D0 : Nat) (w : World) (ds : List Du) (g : Nat) (s3 : Value) (W : World) : Prop := ∃ k : Nat, k + g = ds.length ∧ s3 = .int .i64 k ∧ (∀ j, j < k → dueB ds[j]! = true) ∧ Below w.heap.size w W ∧ W.cell? ⟨w.heap.size, 23, none⟩ = some (.slice A0 ds.length D0)
set_option maxHeartbeats 16000000 in
theorem rranged_any (l : Lo) (da ca : Option Addr) (dk ck : Nat) (w : World) (h : DuesIn w da l.ds) :
  Calls Tryz.prog 93 #[(.agg #[.int .i64 (l).id, .int .i64 (l).ac, .int .i64 (l).st, .int .i64 (l).pp, .int .i64 (l).pi, .int .i64 (l).fee, .int .i64 (l).pen, .int .i64 (l).chg, .int .i64 (l).prov, .int .i64 (l).loss, .int .i64 (l).rcv, .int .i64 ((l).tm).me, .int .i64 ((l).tm).pr, .int .i64 ((l).tm).ppm, .int .i64 ((l).tm).stt, .int .i64 ((l).tm).ev, .int .i64 ((l).tm).ct, .int .i64 ((l).tm).ba, .int .i64 ((l).tm).mo, .int .i64 ((l).tm).pen, .int .i64 ((l).tm).fe, .string ((l).tm).cal, .string ((l).tm).cur, .slice da (l).ds.length dk, .slice ca (l).cs.length ck])] w fun e w' => e = .returned (.bool (rangedB l)) ∧ Below w.heap.size w w' := by
 have HD := Lib.hid h
 have HW := Lib.hid within_amt
 have HR1 := Lib.hid within_rate
 have HV := Lib.hid (fun (n : Int) (W : World) => rvalid_any n W)
 have bb : Below w.heap.size w (w.alloc (.cells #[.int .i64 (l).id, .int .i64 (l).ac, .int .i64 (l).st, .int .i64 (l).pp, .int .i64 (l).pi, .int .i64 (l).fee, .int .i64 (l).pen, .int .i64 (l).chg, .int .i64 (l).prov, .int .i64 (l).loss, .int .i64 (l).rcv, .int .i64 ((l).tm).me, .int .i64 ((l).tm).pr, .int .i64 ((l).tm).ppm, .int .i64 ((l).tm).stt, .int .i64 ((l).tm).ev, .int .i64 ((l).tm).ct, .int .i64 ((l).tm).ba, .int .i64 ((l).tm).mo, .int .i64 ((l).tm).pen, .int .i64 ((l).tm).fe, .string ((l).tm).cal, .string ((l).tm).cur, .slice da (l).ds.length dk, .slice ca (l).cs.length ck] 27)) := (Below.refl _ _).alloc (Nat.le_refl _) _
 have hk := Bk.Blk.nw10 (W := w) (cs := #[.int .i64 (l).id, .int .i64 (l).ac, .int .i64 (l).st, .int .i64 (l).pp, .int .i64 (l).pi, .int .i64 (l).fee, .int .i64 (l).pen, .int .i64 (l).chg, .int .i64 (l).prov, .int .i64 (l).loss, .int .i64 (l).rcv, .int .i64 ((l).tm).me, .int .i64 ((l).tm).pr, .int .i64 ((l).tm).ppm, .int .i64 ((l).tm).stt, .int .i64 ((l).tm).ev, .int .i64 ((l).tm).ct, .int .i64 ((l).tm).ba, .int .i64 ((l).tm).mo, .int .i64 ((l).tm).pen, .int .i64 ((l).tm).fe, .string ((l).tm).cal, .string ((l).tm).cur, .slice da (l).ds.length dk, .slice ca (l).cs.length ck]) (t := 27)
 have c23 := hk.c23
 clear h hk
 obtain ⟨r, hr⟩ : ∃ r, r = rangedB l := ⟨_, rfl⟩
 rw [← hr]
 have HR := Lib.hid hr
 clear hr
 have hn := HD.out.1
 rcases rrg_ways l with h0 | ⟨h0, h1⟩ | ⟨h0, h1, h2⟩ | ⟨h0, h1, h2, h3⟩ | ⟨h0, h1, h2, h3, h4⟩ | ⟨h0, h1, h2, h3, h4, h5⟩ | ⟨h0, h1, h2, h3, h4, h5, h6⟩ | ⟨h0, h1, h2, h3, h4, h5, h6, h7⟩ | ⟨h0, h1, h2, h3, h4, h5, h6, h7, h8⟩ | ⟨h0, h1, h2, h3, h4, h5, h6, h7, h8, h9⟩ | ⟨h0, h1, h2, h3, h4, h5, h6, h7, h8, h9, h10⟩ | ⟨h0, h1, h2, h3, h4, h5, h6, h7, h8, h9, h10, h11⟩ | ⟨h0, h1, h2, h3, h4, h5, h6, h7, h8, h9, h10, h11, h12⟩ | ⟨h0, h1, h2, h3, h4, h5, h6, h7, h8, h9, h10, h11, h12, h13⟩ | ⟨h0, h1, h2, h3, h4, h5, h6, h7, h8, h9, h10, h11, h12, h13, h14⟩ | ⟨h0, h1, h2, h3, h4, h5, h6, h7, h8, h9, h10, h11, h12, h13, h14, h15⟩ | ⟨h0, h1, h2, h3, h4, h5, h6, h7, h8, h9, h10, h11, h12, h13, h14, h15, h16⟩ | ⟨h0, h1, h2, h3, h4, h5, h6, h7, h8, h9, h10, h11, h12, h13, h14, h15, h16⟩
 ·have HF := Lib.hid (show r = false by rw [HR.out]; exact rg_bad fun hh => by have hh := rg_no hh; first | omega | simp [*] at hh)
  clear c23
  go_enter Tryz.func93, Tryz.ntmps93
  go_wp2_with fail
  go_ret
  exact ⟨by rw [HF.out]; rfl, bb⟩
 ·have HF := Lib.hid (show r = false by rw [HR.out]; exact rg_bad fun hh => by have hh := rg_no hh; first | omega | simp [*] at hh)
  clear c23
  go_enter Tryz.func93, Tryz.ntmps93
  go_wp2_with fail
  go_ret
  exact ⟨by rw [HF.out]; rfl, bb⟩
 ·have HF := Lib.hid (show r = false by rw [HR.out]; exact rg_bad fun hh => by have hh := rg_no hh; first | omega | simp [*] at hh)
  clear c23
  go_enter Tryz.func93, Tryz.ntmps93
  go_wp2_with fail
  go_ret
  exact ⟨by rw [HF.out]; rfl, bb⟩
 ·have HF := Lib.hid (show r = false by rw [HR.out]; exact rg_bad fun hh => by have hh := rg_no hh; first | omega | simp [*] at hh)
  clear c23
  go_enter Tryz.func93, Tryz.ntmps93
  go_wp2_with fail
  go_ret
  exact ⟨by rw [HF.out]; rfl, bb⟩
 ·have HF := Lib.hid (show r = false by rw [HR.out]; exact rg_bad fun hh => by have hh := rg_no hh; first | omega | simp [*] at hh)
  clear c23
  go_enter Tryz.func93, Tryz.ntmps93
  go_wp2_with fail
  go_ret
  exact ⟨by rw [HF.out]; rfl, bb⟩
 ·have HF := Lib.hid (show r = false by rw [HR.out]; exact rg_bad fun hh => by have hh := rg_no hh; first | omega | simp [*] at hh)
  clear c23
  go_enter Tryz.func93, Tryz.ntmps93
  go_wp2_with fail
  go_ret
  exact ⟨by rw [HF.out]; rfl, bb⟩
 ·have HF := Lib.hid (show r = false by rw [HR.out]; exact rg_bad fun hh => by have hh := rg_no hh; first | omega | simp [*] at hh)
  clear c23
  go_enter Tryz.func93, Tryz.ntmps93
  go_wp2_with fail
  go_ret
  exact ⟨by rw [HF.out]; rfl, bb⟩
 ·have HF := Lib.hid (show r = false by rw [HR.out]; exact rg_bad fun hh => by have hh := rg_no hh; first | omega | simp [*] at hh)
  clear c23
  go_enter Tryz.func93, Tryz.ntmps93
  go_wp2_with fail
  refine (HW.out _ _).mono ?_
  rintro e w1 ⟨rfl, rfl⟩
  rw [h7]
  go_wp2_with fail
  go_ret
  exact ⟨by rw [HF.out]; rfl, bb⟩
 ·have HF := Lib.hid (show r = false by rw [HR.out]; exact rg_bad fun hh => by have hh := rg_no hh; first | omega | simp [*] at hh)
  clear c23
  go_enter Tryz.func93, Tryz.ntmps93
  go_wp2_with fail
  refine (HW.out _ _).mono ?_
  rintro e w1 ⟨rfl, rfl⟩
  rw [h7]
  go_wp2_with fail
  refine (HW.out _ _).mono ?_
  rintro e w1 ⟨rfl, rfl⟩
  rw [h8]
  go_wp2_with fail
  go_ret
  exact ⟨by rw [HF.out]; rfl, bb⟩
 ·have HF := Lib.hid (show r = false by rw [HR.out]; exact rg_bad fun hh => by have hh := rg_no hh; first | omega | simp [*] at hh)
  clear c23
  go_enter Tryz.func93, Tryz.ntmps93
  go_wp2_with fail
  refine (HW.out _ _).mono ?_
  rintro e w1 ⟨rfl, rfl⟩
  rw [h7]
  go_wp2_with fail
  refine (HW.out _ _).mono ?_
  rintro e w1 ⟨rfl, rfl⟩
  rw [h8]
  go_wp2_with fail
  refine (HW.out _ _).mono ?_
  rintro e w1 ⟨rfl, rfl⟩
  rw [h9]
  go_wp2_with fail
  go_ret
  exact ⟨by rw [HF.out]; rfl, bb⟩
 ·have HF := Lib.hid (show r = false by rw [HR.out]; exact rg_bad fun hh => by have hh := rg_no hh; first | omega | simp [*] at hh)
  clear c23
  go_enter Tryz.func93, Tryz.ntmps93
  go_wp2_with fail
  refine (HW.out _ _).mono ?_
  rintro e w1 ⟨rfl, rfl⟩
  rw [h7]
  go_wp2_with fail
  refine (HW.out _ _).mono ?_
  rintro e w1 ⟨rfl, rfl⟩
  rw [h8]
  go_wp2_with fail
  refine (HW.out _ _).mono ?_
  rintro e w1 ⟨rfl, rfl⟩
  rw [h9]
  go_wp2_with fail
  refine (HW.out _ _).mono ?_
  rintro e w1 ⟨rfl, rfl⟩
  rw [h10]
  go_wp2_with fail
  go_ret
  exact ⟨by rw [HF.out]; rfl, bb⟩
 ·have HF := Lib.hid (show r = false by rw [HR.out]; exact rg_bad fun hh => by have hh := rg_no hh; first | omega | simp [*] at hh)
  clear c23
  go_enter Tryz.func93, Tryz.ntmps93
  go_wp2_with fail
  refine (HW.out _ _).mono ?_
  rintro e w1 ⟨rfl, rfl⟩
  rw [h7]
  go_wp2_with fail
  refine (HW.out _ _).mono ?_
  rintro e w1 ⟨rfl, rfl⟩
  rw [h8]
  go_wp2_with fail
  refine (HW.out _ _).mono ?_
  rintro e w1 ⟨rfl, rfl⟩
  rw [h9]
  go_wp2_with fail
  refine (HW.out _ _).mono ?_
  rintro e w1 ⟨rfl, rfl⟩
  rw [h10]
  go_wp2_with fail
  refine (HV.out _ _).mono ?_
  rintro e w1 ⟨rfl, rfl⟩
  rw [h11]
  go_wp2_with fail
  go_ret
  exact ⟨by rw [HF.out]; rfl, bb⟩
 ·have HF := Lib.hid (show r = false by rw [HR.out]; exact rg_bad fun hh => by have hh := rg_no hh; first | omega | simp [*] at hh)
  clear c23
  go_enter Tryz.func93, Tryz.ntmps93
  go_wp2_with fail
  refine (HW.out _ _).mono ?_
  rintro e w1 ⟨rfl, rfl⟩
  rw [h7]
  go_wp2_with fail
  refine (HW.out _ _).mono ?_
  rintro e w1 ⟨rfl, rfl⟩
  rw [h8]
  go_wp2_with fail
  refine (HW.out _ _).mono ?_
  rintro e w1 ⟨rfl, rfl⟩
  rw [h9]
  go_wp2_with fail
  refine (HW.out _ _).mono ?_
  rintro e w1 ⟨rfl, rfl⟩
  rw [h10]
  go_wp2_with fail
  refine (HV.out _ _).mono ?_
  rintro e w1 ⟨rfl, rfl⟩
  rw [h11]
  go_wp2_with fail
  refine (HR1.out _ _).mono ?_
  rintro e w1 ⟨rfl, rfl⟩
  rw [h12]
  go_wp2_with fail
  go_ret
  exact ⟨by rw [HF.out]; rfl, bb⟩
 ·have HF := Lib.hid (show r = false by rw [HR.out]; exact rg_bad fun hh => by have hh := rg_no hh; first | omega | simp [*] at hh)
  clear c23
  go_enter Tryz.func93, Tryz.ntmps93
  go_wp2_with fail
  refine (HW.out _ _).mono ?_
  rintro e w1 ⟨rfl, rfl⟩
  rw [h7]
  go_wp2_with fail
  refine (HW.out _ _).mono ?_
  rintro e w1 ⟨rfl, rfl⟩
  rw [h8]
  go_wp2_with fail
  refine (HW.out _ _).mono ?_
  rintro e w1 ⟨rfl, rfl⟩
  rw [h9]
  go_wp2_with fail
  refine (HW.out _ _).mono ?_
  rintro e w1 ⟨rfl, rfl⟩
  rw [h10]
  go_wp2_with fail
  refine (HV.out _ _).mono ?_
  rintro e w1 ⟨rfl, rfl⟩
  rw [h11]
  go_wp2_with fail
  refine (HR1.out _ _).mono ?_
  rintro e w1 ⟨rfl, rfl⟩
  rw [h12]
  go_wp2_with fail
  refine (HR1.out _ _).mono ?_
  rintro e w1 ⟨rfl, rfl⟩
  rw [h13]
  go_wp2_with fail
  go_ret
  exact ⟨by rw [HF.out]; rfl, bb⟩
 ·have HF := Lib.hid (show r = false by rw [HR.out]; exact rg_bad fun hh => by have hh := rg_no hh; first | omega | simp [*] at hh)
  clear c23
  go_enter Tryz.func93, Tryz.ntmps93
  go_wp2_with fail
  refine (HW.out _ _).mono ?_
  rintro e w1 ⟨rfl, rfl⟩
  rw [h7]
  go_wp2_with fail
  refine (HW.out _ _).mono ?_
  rintro e w1 ⟨rfl, rfl⟩
  rw [h8]
  go_wp2_with fail
  refine (HW.out _ _).mono ?_
  rintro e w1 ⟨rfl, rfl⟩
  rw [h9]
  go_wp2_with fail
  refine (HW.out _ _).mono ?_
  rintro e w1 ⟨rfl, rfl⟩
  rw [h10]
  go_wp2_with fail
  refine (HV.out _ _).mono ?_
  rintro e w1 ⟨rfl, rfl⟩
  rw [h11]
  go_wp2_with fail
  refine (HR1.out _ _).mono ?_
  rintro e w1 ⟨rfl, rfl⟩
  rw [h12]
  go_wp2_with fail
  refine (HR1.out _ _).mono ?_
  rintro e w1 ⟨rfl, rfl⟩
  rw [h13]
  go_wp2_with fail
  go_ret
  exact ⟨by rw [HF.out]; rfl, bb⟩
 ·have HF := Lib.hid (show r = false by rw [HR.out]; exact rg_bad fun hh => by have hh := rg_no hh; first | omega | simp [*] at hh)
  clear c23
  go_enter Tryz.func93, Tryz.ntmps93
  go_wp2_with fail
  refine (HW.out _ _).mono ?_
  rintro e w1 ⟨rfl, rfl⟩
  rw [h7]
  go_wp2_with fail
  refine (HW.out _ _).mono ?_
  rintro e w1 ⟨rfl, rfl⟩
  rw [h8]
  go_wp2_with fail
  refine (HW.out _ _).mono ?_
  rintro e w1 ⟨rfl, rfl⟩
  rw [h9]
  go_wp2_with fail
  refine (HW.out _ _).mono ?_
  rintro e w1 ⟨rfl, rfl⟩
  rw [h10]
  go_wp2_with fail
  refine (HV.out _ _).mono ?_
  rintro e w1 ⟨rfl, rfl⟩
  rw [h11]
  go_wp2_with fail
  refine (HR1.out _ _).mono ?_
  rintro e w1 ⟨rfl, rfl⟩
  rw [h12]
  go_wp2_with fail
  refine (HR1.out _ _).mono ?_
  rintro e w1 ⟨rfl, rfl⟩
  rw [h13]
  go_wp2_with fail
  go_ret
  exact ⟨by rw [HF.out]; rfl, bb⟩
 ·have HF := Lib.hid (show r = false by rw [HR.out]; exact rg_bad fun hh => by have hh := rg_no hh; first | omega | simp [*] at hh)
  clear c23
  go_enter Tryz.func93, Tryz.ntmps93
  go_wp2_with fail
  refine (HW.out _ _).mono ?_
  rintro e w1 ⟨rfl, rfl⟩
  rw [h7]
  go_wp2_with fail
  refine (HW.out _ _).mono ?_
  rintro e w1 ⟨rfl, rfl⟩
  rw [h8]
  go_wp2_with fail
  refine (HW.out _ _).mono ?_
  rintro e w1 ⟨rfl, rfl⟩
  rw [h9]
  go_wp2_with fail
  refine (HW.out _ _).mono ?_
  rintro e w1 ⟨rfl, rfl⟩
  rw [h10]
  go_wp2_with fail
  refine (HV.out _ _).mono ?_
  rintro e w1 ⟨rfl, rfl⟩
  rw [h11]
  go_wp2_with fail
  refine (HR1.out _ _).mono ?_
  rintro e w1 ⟨rfl, rfl⟩
  rw [h12]
  go_wp2_with fail
  refine (HR1.out _ _).mono ?_
  rintro e w1 ⟨rfl, rfl⟩
  rw [h13]
  go_wp2_with fail
  go_ret
  exact ⟨by rw [HF.out]; rfl, bb⟩
 ·go_enter Tryz.func93, Tryz.ntmps93
  go_wp2_with fail
  refine (HW.out _ _).mono ?_
  rintro e w1 ⟨rfl, rfl⟩
  rw [h7]
  go_wp2_with fail
  refine (HW.out _ _).mono ?_
  rintro e w1 ⟨rfl, rfl⟩
  rw [h8]
  go_wp2_with fail
  refine (HW.out _ _).mono ?_
  rintro e w1 ⟨rfl, rfl⟩
  rw [h9]
  go_wp2_with fail
  refine (HW.out _ _).mono ?_
  rintro e w1 ⟨rfl, rfl⟩
  rw [h10]
  go_wp2_with fail
  refine (HV.out _ _).mono ?_
  rintro e w1 ⟨rfl, rfl⟩
  rw [h11]
  go_wp2_with fail
  refine (HR1.out _ _).mono ?_
  rintro e w1 ⟨rfl, rfl⟩
  rw [h12]
  go_wp2_with fail
  refine (HR1.out _ _).mono ?_
  rintro e w1 ⟨rfl, rfl⟩
  rw [h13]
  go_wp2_with fail
  generalize w.alloc (.cells _ 27) = wb at *
  go_loopg [3] l.ds.length (RGR da dk w l.ds)
  case atStart => exact ⟨0, by omega, rfl, fun j hj => by omega, bb, c23⟩
  case round =>
   clear c23 bb
   obtain ⟨k, hk, rfl, hall, hbr, c23⟩ := hrel
   have HA := Lib.hid hall
   have hz := hbr.size
   clear hall
   by_cases hlt : k < l.ds.length
   ·obtain ⟨b, off, rfl, hc⟩ := HD.out.2 (by omega)
    obtain ⟨c0, c1, c2, c3⟩ := hc k hlt
    replace c0 := cell_later hbr c0
    replace c1 := cell_later hbr c1
    replace c2 := cell_later hbr c2
    replace c3 := cell_later hbr c3
    have HBAD := Lib.hid (fun (hv : dueB l.ds[k]! = false) => (show r = false by
     rw [HR.out]
     exact rg_bad fun hh => by
      have hh := (rg_no hh).2.2.2.2.2.2.2.2.2.2.2.2.2.2.2.2.2
      have := List.all_eq_true.1 hh l.ds[k] (List.getElem_mem hlt)
      rw [getElem!_pos l.ds k hlt, this] at hv
      cases hv))
    have hblt := World.block_lt_of_cell? _ _ c23
    have hbr2 : Below w.heap.size w (wr.alloc (.cells #[.int .i64 l.ds[k]!.no, .int .i64 l.ds[k]!.day, .int .i64 l.ds[k]!.pr, .int .i64 l.ds[k]!.it] 53)) := hbr.alloc hz _
    have c23' : (wr.alloc (.cells #[.int .i64 l.ds[k]!.no, .int .i64 l.ds[k]!.day, .int .i64 l.ds[k]!.pr, .int .i64 l.ds[k]!.it] 53)).cell? ⟨w.heap.size, 23, none⟩ = some (.slice (some ⟨b, off, none⟩) l.ds.length dk) := cell_later ((Below.refl _ _).alloc (Nat.le_refl _) _) c23
    have HNX := Lib.hid (fun (hv : dueB l.ds[k]! = true) (j : Nat) (hj : j < k + 1) => (show dueB l.ds[j]! = true by
     by_cases e : j = k
     ·subst e; exact hv
     ·exact HA.out j (by omega)))
    clear hc
    generalize l.ds[k]! = d at *
    have HC23 := Lib.hid c23'
    clear c23'
    cases h1 : dayB d.day
    ·have HF := Lib.hid (HBAD.out (by unfold dueB; rw [h1]; rfl))
     have HV1 := Lib.hid h1
     clear h1
     go_wp2_with fail
     refine (HV.out _ _).mono ?_
     rintro e w1 ⟨rfl, rfl⟩
     rw [HV1.out]
     go_wp2_with fail
     go_ret
     exact ⟨by rw [HF.out]; rfl, hbr2⟩
    ·cases h2 : amt d.pr
     ·have HF := Lib.hid (HBAD.out (by unfold dueB; rw [h1, h2]; rfl))
      have HV1 := Lib.hid h1
      have HV2 := Lib.hid h2
      clear h1 h2
      go_wp2_with fail
      refine (HV.out _ _).mono ?_
      rintro e w1 ⟨rfl, rfl⟩
      rw [HV1.out]
      go_wp2_with fail
      refine (HW.out _ _).mono ?_
      rintro e w1 ⟨rfl, rfl⟩
      rw [HV2.out]
      go_wp2_with fail
      go_ret
      exact ⟨by rw [HF.out]; rfl, hbr2⟩
     ·cases h3 : amt d.it
      ·have HF := Lib.hid (HBAD.out (by unfold dueB; rw [h1, h2, h3]; rfl))
       have HV1 := Lib.hid h1
       have HV2 := Lib.hid h2
       have HV3 := Lib.hid h3
       clear h1 h2 h3
       go_wp2_with fail
       refine (HV.out _ _).mono ?_
       rintro e w1 ⟨rfl, rfl⟩
       rw [HV1.out]
       go_wp2_with fail
       refine (HW.out _ _).mono ?_
       rintro e w1 ⟨rfl, rfl⟩
       rw [HV2.out]
       go_wp2_with fail
       refine (HW.out _ _).mono ?_
       rintro e w1 ⟨rfl, rfl⟩
       rw [HV3.out]
       go_wp2_with fail
       go_ret
       exact ⟨by rw [HF.out]; rfl, hbr2⟩
      ·have HG := Lib.hid (HNX.out (by unfold dueB; rw [h1, h2, h3]; rfl))
       have HV1 := Lib.hid h1
       have HV2 := Lib.hid h2
       have HV3 := Lib.hid h3
       clear h1 h2 h3
       go_wp2_with fail
       refine (HV.out _ _).mono ?_
       rintro e w1 ⟨rfl, rfl⟩
       rw [HV1.out]
       go_wp2_with fail
       refine (HW.out _ _).mono ?_
       rintro e w1 ⟨rfl, rfl⟩
       rw [HV2.out]
       go_wp2_with fail
       refine (HW.out _ _).mono ?_
       rintro e w1 ⟨rfl, rfl⟩
       rw [HV3.out]
       go_wp2_with fail
       go_roundg (gk - 1)
       case measure => omega
       case rel => exact ⟨k + 1, by omega, by go_num, HG.out, hbr2, HC23.out⟩
   ·have HE := Lib.hid (show r = true by
     rw [HR.out]
     refine rg_yes ⟨h0, h1, h2, h3, h4, h5, h6, h11, h12, h13, h14, h15, h16, h7, h8, h9, h10, List.all_eq_true.2 fun x hx => ?_⟩
     obtain ⟨j, hj, rfl⟩ := List.mem_iff_getElem.1 hx
     have := HA.out j (by omega)
     rwa [getElem!_pos l.ds j hj] at this)
    go_wp2_with fail
    go_ret
    exact ⟨by rw [HE.out]; rfl, hbr⟩
end Go.Proofs.YtaanicginfjgdaaGreatDoor.Ln

namespace Go.Proofs.YtaanicginfjgdaaGreatDoor.Ln
open Go.RowKit
open Go.Proofs.YtaanicginfjgdaaGreatDoor

def RCR (w : World) (ds : List Du) (C0 : Array Value) (g : Nat) (s3 : Value) (W : World) : Prop := ∃ k : Nat, k + g = ds.length ∧ s3 = .int .i64 k ∧ (∀ i, i < k → ds[i]!.no = (i : Int) + 1 ∧ (i = 0 ∨ ds[i - 1]!.day ≤ ds[i]!.day)) ∧ Below w.heap.size w W ∧ Bk.Blk W w.heap.size C0 27

set_option maxHeartbeats 4000000 in
theorem rcheck_r (l : Lo) (da ca : Option Addr) (dk ck : Nat) (w : World) (h : DuesIn w da l.ds) (hd : Dok l.ds) (hr : rangedB l = false) :
  Calls Tryz.prog 56 #[(.agg #[.int .i64 (l).id, .int .i64 (l).ac, .int .i64 (l).st, .int .i64 (l).pp, .int .i64 (l).pi, .int .i64 (l).fee, .int .i64 (l).pen, .int .i64 (l).chg, .int .i64 (l).prov, .int .i64 (l).loss, .int .i64 (l).rcv, .int .i64 ((l).tm).me, .int .i64 ((l).tm).pr, .int .i64 ((l).tm).ppm, .int .i64 ((l).tm).stt, .int .i64 ((l).tm).ev, .int .i64 ((l).tm).ct, .int .i64 ((l).tm).ba, .int .i64 ((l).tm).mo, .int .i64 ((l).tm).pen, .int .i64 ((l).tm).fe, .string ((l).tm).cal, .string ((l).tm).cur, .slice da (l).ds.length dk, .slice ca (l).cs.length ck])] w fun e w' => e = .returned (.int .i64 (chk l)) ∧ Below w.heap.size w w' := by
 have hp := fun (W : World) (hW : Below w.heap.size w W) => rprin_any l da ca dk ck 9223372036854775807 W (h.later hW)
 have hi := fun (W : World) (hW : Below w.heap.size w W) => rint_any l da ca dk ck 9223372036854775807 W (h.later hW)
 rw [rdue_all hd] at hp hi
 have HP := Lib.hid hp
 have HI := Lib.hid hi
 have HL := Lib.hid (fun (W : World) (hW : Below w.heap.size w W) => rleft_any l da ca dk ck W (h.later hW) hd)
 have HG := Lib.hid (fun (W : World) (hW : Below w.heap.size w W) => rranged_any l da ca dk ck W (h.later hW))
 have HD := Lib.hid h
 have hn := h.1
 have bb : Below w.heap.size w (w.alloc (.cells #[.int .i64 (l).id, .int .i64 (l).ac, .int .i64 (l).st, .int .i64 (l).pp, .int .i64 (l).pi, .int .i64 (l).fee, .int .i64 (l).pen, .int .i64 (l).chg, .int .i64 (l).prov, .int .i64 (l).loss, .int .i64 (l).rcv, .int .i64 ((l).tm).me, .int .i64 ((l).tm).pr, .int .i64 ((l).tm).ppm, .int .i64 ((l).tm).stt, .int .i64 ((l).tm).ev, .int .i64 ((l).tm).ct, .int .i64 ((l).tm).ba, .int .i64 ((l).tm).mo, .int .i64 ((l).tm).pen, .int .i64 ((l).tm).fe, .string ((l).tm).cal, .string ((l).tm).cur, .slice da (l).ds.length dk, .slice ca (l).cs.length ck] 27)) := (Below.refl _ _).alloc (Nat.le_refl _) _
 clear hp hi h
 have HF := Lib.hid (chk_1 hr)
 have HV := Lib.hid hr
 clear hr
 go_enter Tryz.func56, Tryz.ntmps56
 go_wp2_with (refine wpList_load_row rfl 27 _ rfl _ rfl _ _ _ _ (Bk.Blk.nw10) Tryz.underlying27 rfl (by kernel_rfl) ?_)
 refine (HG.out _ bb).mono ?_
 rintro e w1 ⟨rfl, hb1⟩
 have hk := Bk.Blk.later (g := w.heap.size) hb1 (by first | with_reducible exact Bk.Blk.nw10 | with_reducible exact Bk.Blk.nw20 | with_reducible exact Bk.Blk.nw21 | with_reducible exact Bk.Blk.nw30 | with_reducible exact Bk.Blk.nw31 | with_reducible exact Bk.Blk.nw32 | with_reducible exact Bk.Blk.nw40 | with_reducible exact Bk.Blk.nw41 | with_reducible exact Bk.Blk.nw42 | with_reducible exact Bk.Blk.nw43)
 have bw1 := bl2 hb1 bb
 rw [HV.out]
 clear hb1
 go_wp2_with fail
 go_ret
 exact ⟨by rw [HF.out]; rfl, bw1⟩

set_option maxHeartbeats 16000000 in
set_option maxRecDepth 100000 in
theorem rcheck_any (l : Lo) (da ca : Option Addr) (dk ck : Nat) (w : World) (h : DuesIn w da l.ds) (hd : Dok l.ds) :
  Calls Tryz.prog 56 #[(.agg #[.int .i64 (l).id, .int .i64 (l).ac, .int .i64 (l).st, .int .i64 (l).pp, .int .i64 (l).pi, .int .i64 (l).fee, .int .i64 (l).pen, .int .i64 (l).chg, .int .i64 (l).prov, .int .i64 (l).loss, .int .i64 (l).rcv, .int .i64 ((l).tm).me, .int .i64 ((l).tm).pr, .int .i64 ((l).tm).ppm, .int .i64 ((l).tm).stt, .int .i64 ((l).tm).ev, .int .i64 ((l).tm).ct, .int .i64 ((l).tm).ba, .int .i64 ((l).tm).mo, .int .i64 ((l).tm).pen, .int .i64 ((l).tm).fe, .string ((l).tm).cal, .string ((l).tm).cur, .slice da (l).ds.length dk, .slice ca (l).cs.length ck])] w fun e w' => e = .returned (.int .i64 (chk l)) ∧ Below w.heap.size w w' := by
 cases hr : rangedB l
 ·exact rcheck_r l da ca dk ck w h hd hr
 have hw0 : ordB l.ds = true → Way l.pp (P l.ds) l.pi (I l.ds) l.rcv l.loss l.tm.pr l.st l.cs.length (leftB l) (chk l) := way_of l hr
 have h10 := fun (ho : ordB l.ds = false) => chk_10 hr ho
 have hp := fun (W : World) (hW : Below w.heap.size w W) => rprin_any l da ca dk ck 9223372036854775807 W (h.later hW)
 have hi := fun (W : World) (hW : Below w.heap.size w W) => rint_any l da ca dk ck 9223372036854775807 W (h.later hW)
 rw [rdue_all hd] at hp hi
 have HP := Lib.hid hp
 have HI := Lib.hid hi
 have HL := Lib.hid (fun (W : World) (hW : Below w.heap.size w W) => rleft_any l da ca dk ck W (h.later hW) hd)
 have HG := Lib.hid (fun (W : World) (hW : Below w.heap.size w W) => rranged_any l da ca dk ck W (h.later hW))
 have HD := Lib.hid h
 have hn := h.1
 have bb : Below w.heap.size w (w.alloc (.cells #[.int .i64 (l).id, .int .i64 (l).ac, .int .i64 (l).st, .int .i64 (l).pp, .int .i64 (l).pi, .int .i64 (l).fee, .int .i64 (l).pen, .int .i64 (l).chg, .int .i64 (l).prov, .int .i64 (l).loss, .int .i64 (l).rcv, .int .i64 ((l).tm).me, .int .i64 ((l).tm).pr, .int .i64 ((l).tm).ppm, .int .i64 ((l).tm).stt, .int .i64 ((l).tm).ev, .int .i64 ((l).tm).ct, .int .i64 ((l).tm).ba, .int .i64 ((l).tm).mo, .int .i64 ((l).tm).pen, .int .i64 ((l).tm).fe, .string ((l).tm).cal, .string ((l).tm).cur, .slice da (l).ds.length dk, .slice ca (l).cs.length ck] 27)) := (Below.refl _ _).alloc (Nat.le_refl _) _
 clear hp hi h
 have HV := Lib.hid hr
 have HWAY := Lib.hid hw0
 have HTEN := Lib.hid h10
 obtain ⟨c, hc⟩ : ∃ c, c = chk l := ⟨_, rfl⟩
 rw [← hc] at HWAY HTEN ⊢
 clear hr hw0 h10 hc
 go_enter Tryz.func56, Tryz.ntmps56
 go_wp2_with (refine wpList_load_row rfl 27 _ rfl _ rfl _ _ _ _ (Bk.Blk.nw10) Tryz.underlying27 rfl (by kernel_rfl) ?_)
 refine (HG.out _ bb).mono ?_
 rintro e w1 ⟨rfl, hb1⟩
 have hk := Bk.Blk.later (g := w.heap.size) hb1 (by first | with_reducible exact Bk.Blk.nw10 | with_reducible exact Bk.Blk.nw20 | with_reducible exact Bk.Blk.nw21 | with_reducible exact Bk.Blk.nw30 | with_reducible exact Bk.Blk.nw31 | with_reducible exact Bk.Blk.nw32 | with_reducible exact Bk.Blk.nw40 | with_reducible exact Bk.Blk.nw41 | with_reducible exact Bk.Blk.nw42 | with_reducible exact Bk.Blk.nw43)
 have bw1 := bl2 hb1 bb
 rw [HV.out]
 clear hb1
 have l23 := hk.c23
 go_wp2_with fail
 clear l23
 go_loopg [3] l.ds.length (RCR w l.ds #[.int .i64 (l).id, .int .i64 (l).ac, .int .i64 (l).st, .int .i64 (l).pp, .int .i64 (l).pi, .int .i64 (l).fee, .int .i64 (l).pen, .int .i64 (l).chg, .int .i64 (l).prov, .int .i64 (l).loss, .int .i64 (l).rcv, .int .i64 ((l).tm).me, .int .i64 ((l).tm).pr, .int .i64 ((l).tm).ppm, .int .i64 ((l).tm).stt, .int .i64 ((l).tm).ev, .int .i64 ((l).tm).ct, .int .i64 ((l).tm).ba, .int .i64 ((l).tm).mo, .int .i64 ((l).tm).pen, .int .i64 ((l).tm).fe, .string ((l).tm).cal, .string ((l).tm).cur, .slice da (l).ds.length dk, .slice ca (l).cs.length ck])
 case atStart => exact ⟨0, by omega, rfl, fun i hi => by omega, bw1, hk⟩
 case round =>
  clear hk bw1
  obtain ⟨k, hkk, rfl, hg, bwr, hk⟩ := hrel
  have HGG := Lib.hid hg
  have hz := bwr.size
  have l23 := hk.c23
  by_cases hlt : k < l.ds.length
  ·have HST := Lib.hid (ordB_step hg hlt)
   obtain ⟨b, off, rfl, hc⟩ := HD.out.2 (by omega)
   obtain ⟨c0, c1, c2, c3⟩ := hc k hlt
   have hcase : (¬ (l.ds[k]!.no = (k : Int) + 1)) ∨ (l.ds[k]!.no = (k : Int) + 1 ∧ k = 0) ∨ (l.ds[k]!.no = (k : Int) + 1 ∧ 0 < k ∧ l.ds[k]!.day < l.ds[k - 1]!.day) ∨ (l.ds[k]!.no = (k : Int) + 1 ∧ 0 < k ∧ l.ds[k - 1]!.day ≤ l.ds[k]!.day) := by omega
   rcases hcase with h1 | ⟨h1, h2⟩ | ⟨h1, h2, h3⟩ | ⟨h1, h2, h3⟩
   ·have HF := Lib.hid (HST.out.2 (fun h => h1 h.1))
    have g1 : (l.ds[k]!.no != (k : Int) + 1) = true := bne_iff_ne.2 h1
    clear hc hg h1 c2 c3
    generalize l.ds[k]! = d at *
    have hw : IntKind.i64.wrap ((k : Int) + 1) = (k : Int) + 1 := by rw [IntKind.wrap_i64]; omega
    go_wp2_with fail
    have q23 : ∀ W', Reg.Cls wr W' → W'.cell? ⟨w.heap.size, 23, none⟩ = _ := fun W' hW => (hk.later hW).c23
    have qa : ∀ W', Reg.Cls wr W' → W'.cell? ⟨b, off + k * 4, none⟩ = _ := fun W' hW => hW.cell (cell_later bwr c0)
    have qb : ∀ W', Reg.Cls wr W' → W'.cell? ⟨b, off + k * 4 + 1, none⟩ = _ := fun W' hW => hW.cell (cell_later bwr c1)
    clear c0 c1 l23
    have HQ := Lib.hid (fun (W' : World) (hW : Reg.Cls wr W') => hk.later hW)
    refine Reg.region_quiet (by kernel_rfl) (by kernel_rfl) ?_
    iterate 29 (first | go_big_quiet_skip | (go_big_quiet_want; (first | (refine quiet_load_row 27 _ rfl _ rfl _ _ _ _ (HQ.out) Tryz.underlying27 rfl (by kernel_rfl) ?_; (simp only [Act.put, List.setIfInBounds_toArray, List.set_cons_zero, List.set_cons_succ]; go_big_quiet_on)) | (go_big_quiet_op; go_big_quiet_on) | (apply Reg.quiet_run; (intro W hW; skip; go_simp; (first | done | rfl | exact ⟨rfl, rfl⟩ )); (simp only [Act.put, List.setIfInBounds_toArray, List.set_cons_zero, List.set_cons_succ]; go_big_quiet_on)) | (apply Reg.quiet_call; (intro W hW; go_simp; (first | done | rfl | exact ⟨rfl, rfl⟩)); (intro W hW; (first | fail)); (simp only [Act.put, List.setIfInBounds_toArray, List.set_cons_zero, List.set_cons_succ]; go_big_quiet_on)))))
    refine wpQuiet_nil ?_
    intro w2 hW
    replace hk := hk.later hW
    have b2 := bl2 hW bwr
    clear hW HQ
    go_wp2_with fail
    go_ret
    exact ⟨by rw [HTEN.out HF.out]; rfl, b2⟩
   ·have HG2 := Lib.hid (HST.out.1 ⟨h1, .inl h2⟩)
    subst h2
    rw [Nat.zero_mul, Nat.add_zero] at c0 c1
    have g1 : (l.ds[0]!.no != 1) = false := by rw [h1]; rfl
    clear hc hg h1 c2 c3
    generalize l.ds[0]! = d at *
    have hw : IntKind.i64.wrap (0 + 1) = 1 := by decide
    have hw2 : IntKind.i64.wrap 1 = 1 := by decide
    go_wp2_with fail
    have q23 : ∀ W', Reg.Cls wr W' → W'.cell? ⟨w.heap.size, 23, none⟩ = _ := fun W' hW => (hk.later hW).c23
    have qa : ∀ W', Reg.Cls wr W' → W'.cell? ⟨b, off, none⟩ = _ := fun W' hW => hW.cell (cell_later bwr c0)
    have qb : ∀ W', Reg.Cls wr W' → W'.cell? ⟨b, off + 1, none⟩ = _ := fun W' hW => hW.cell (cell_later bwr c1)
    clear c0 c1 l23
    have HQ := Lib.hid (fun (W' : World) (hW : Reg.Cls wr W') => hk.later hW)
    refine Reg.region_quiet (by kernel_rfl) (by kernel_rfl) ?_
    iterate 29 (first | go_big_quiet_skip | (go_big_quiet_want; (first | (refine quiet_load_row 27 _ rfl _ rfl _ _ _ _ (HQ.out) Tryz.underlying27 rfl (by kernel_rfl) ?_; (simp only [Act.put, List.setIfInBounds_toArray, List.set_cons_zero, List.set_cons_succ]; go_big_quiet_on)) | (go_big_quiet_op; go_big_quiet_on) | (apply Reg.quiet_run; (intro W hW; skip; go_simp; (first | done | rfl | exact ⟨rfl, rfl⟩ )); (simp only [Act.put, List.setIfInBounds_toArray, List.set_cons_zero, List.set_cons_succ]; go_big_quiet_on)) | (apply Reg.quiet_call; (intro W hW; go_simp; (first | done | rfl | exact ⟨rfl, rfl⟩)); (intro W hW; (first | fail)); (simp only [Act.put, List.setIfInBounds_toArray, List.set_cons_zero, List.set_cons_succ]; go_big_quiet_on)))))
    refine wpQuiet_nil ?_
    intro w2 hW
    replace hk := hk.later hW
    have b2 := bl2 hW bwr
    clear hW HQ
    go_wp2_with fail
    go_roundg (gk - 1)
    case measure => omega
    case rel => exact ⟨1, by omega, by go_num, HG2.out, b2, hk⟩
   ·obtain ⟨m, rfl⟩ : ∃ m, k = m + 1 := ⟨k - 1, by omega⟩
    rw [show m + 1 - 1 = m by omega] at h3 HST
    have cq := (hc m (by omega)).2.1
    have HF := Lib.hid (HST.out.2 (fun h => by rcases h.2 with h | h <;> omega))
    have g1 : (l.ds[m + 1]!.no != (m : Int) + 1 + 1) = false := by rw [h1]; exact (bne_self_eq_false _)
    clear hc hg h1 HST c2 c3
    generalize l.ds[m + 1]! = d at *
    generalize l.ds[m]!.day = pd at *
    have hw : IntKind.i64.wrap ((m : Int) + 1 + 1) = (m : Int) + 1 + 1 := by rw [IntKind.wrap_i64]; omega
    have hw2 : IntKind.i64.wrap ((m : Int) + 1 - 1) = (m : Int) := by rw [IntKind.wrap_i64]; omega
    have hw3 : IntKind.i64.wrap (m : Int) = (m : Int) := by rw [IntKind.wrap_i64]; omega
    have hml : m < l.ds.length := by omega
    go_wp2_with fail
    have q23 : ∀ W', Reg.Cls wr W' → W'.cell? ⟨w.heap.size, 23, none⟩ = _ := fun W' hW => (hk.later hW).c23
    have qa : ∀ W', Reg.Cls wr W' → W'.cell? ⟨b, off + (m + 1) * 4, none⟩ = _ := fun W' hW => hW.cell (cell_later bwr c0)
    have qb : ∀ W', Reg.Cls wr W' → W'.cell? ⟨b, off + (m + 1) * 4 + 1, none⟩ = _ := fun W' hW => hW.cell (cell_later bwr c1)
    have qd : ∀ W', Reg.Cls wr W' → W'.cell? ⟨b, off + m * 4 + 1, none⟩ = _ := fun W' hW => hW.cell (cell_later bwr cq)
    clear c0 c1 cq l23
    have HQ := Lib.hid (fun (W' : World) (hW : Reg.Cls wr W') => hk.later hW)
    refine Reg.region_quiet (by kernel_rfl) (by kernel_rfl) ?_
    iterate 29 (first | go_big_quiet_skip | (go_big_quiet_want; (first | (refine quiet_load_row 27 _ rfl _ rfl _ _ _ _ (HQ.out) Tryz.underlying27 rfl (by kernel_rfl) ?_; (simp only [Act.put, List.setIfInBounds_toArray, List.set_cons_zero, List.set_cons_succ]; go_big_quiet_on)) | (go_big_quiet_op; go_big_quiet_on) | (apply Reg.quiet_run; (intro W hW; skip; go_simp; (first | done | rfl | exact ⟨rfl, rfl⟩ )); (simp only [Act.put, List.setIfInBounds_toArray, List.set_cons_zero, List.set_cons_succ]; go_big_quiet_on)) | (apply Reg.quiet_call; (intro W hW; go_simp; (first | done | rfl | exact ⟨rfl, rfl⟩)); (intro W hW; (first | fail)); (simp only [Act.put, List.setIfInBounds_toArray, List.set_cons_zero, List.set_cons_succ]; go_big_quiet_on)))))
    refine wpQuiet_nil ?_
    intro w2 hW
    replace hk := hk.later hW
    have b2 := bl2 hW bwr
    clear hW HQ
    go_wp2_with fail
    go_ret
    exact ⟨by rw [HTEN.out HF.out]; rfl, b2⟩
   ·obtain ⟨m, rfl⟩ : ∃ m, k = m + 1 := ⟨k - 1, by omega⟩
    rw [show m + 1 - 1 = m by omega] at h3 HST
    have cq := (hc m (by omega)).2.1
    have HG2 := Lib.hid (HST.out.1 ⟨h1, .inr h3⟩)
    have g1 : (l.ds[m + 1]!.no != (m : Int) + 1 + 1) = false := by rw [h1]; exact (bne_self_eq_false _)
    clear hc hg h1 HST c2 c3
    generalize l.ds[m + 1]! = d at *
    generalize l.ds[m]!.day = pd at *
    have hw : IntKind.i64.wrap ((m : Int) + 1 + 1) = (m : Int) + 1 + 1 := by rw [IntKind.wrap_i64]; omega
    have hw2 : IntKind.i64.wrap ((m : Int) + 1 - 1) = (m : Int) := by rw [IntKind.wrap_i64]; omega
    have hw3 : IntKind.i64.wrap (m : Int) = (m : Int) := by rw [IntKind.wrap_i64]; omega
    have hml : m < l.ds.length := by omega
    go_wp2_with fail
    have q23 : ∀ W', Reg.Cls wr W' → W'.cell? ⟨w.heap.size, 23, none⟩ = _ := fun W' hW => (hk.later hW).c23
    have qa : ∀ W', Reg.Cls wr W' → W'.cell? ⟨b, off + (m + 1) * 4, none⟩ = _ := fun W' hW => hW.cell (cell_later bwr c0)
    have qb : ∀ W', Reg.Cls wr W' → W'.cell? ⟨b, off + (m + 1) * 4 + 1, none⟩ = _ := fun W' hW => hW.cell (cell_later bwr c1)
    have qd : ∀ W', Reg.Cls wr W' → W'.cell? ⟨b, off + m * 4 + 1, none⟩ = _ := fun W' hW => hW.cell (cell_later bwr cq)
    clear c0 c1 cq l23
    have HQ := Lib.hid (fun (W' : World) (hW : Reg.Cls wr W') => hk.later hW)
    refine Reg.region_quiet (by kernel_rfl) (by kernel_rfl) ?_
    iterate 29 (first | go_big_quiet_skip | (go_big_quiet_want; (first | (refine quiet_load_row 27 _ rfl _ rfl _ _ _ _ (HQ.out) Tryz.underlying27 rfl (by kernel_rfl) ?_; (simp only [Act.put, List.setIfInBounds_toArray, List.set_cons_zero, List.set_cons_succ]; go_big_quiet_on)) | (go_big_quiet_op; go_big_quiet_on) | (apply Reg.quiet_run; (intro W hW; skip; go_simp; (first | done | rfl | exact ⟨rfl, rfl⟩ )); (simp only [Act.put, List.setIfInBounds_toArray, List.set_cons_zero, List.set_cons_succ]; go_big_quiet_on)) | (apply Reg.quiet_call; (intro W hW; go_simp; (first | done | rfl | exact ⟨rfl, rfl⟩)); (intro W hW; (first | fail)); (simp only [Act.put, List.setIfInBounds_toArray, List.set_cons_zero, List.set_cons_succ]; go_big_quiet_on)))))
    refine wpQuiet_nil ?_
    intro w2 hW
    replace hk := hk.later hW
    have b2 := bl2 hW bwr
    clear hW HQ
    go_wp2_with fail
    go_roundg (gk - 1)
    case measure => omega
    case rel => exact ⟨m + 2, by omega, by go_num, HG2.out, b2, hk⟩
  ·have HT := Lib.hid (ordB_all (ds := l.ds) (fun i hi => HGG.out i (by omega)))
   have hw := HWAY.out HT.out
   clear hg
   go_wp2_with fail
   generalize P l.ds = p at *
   generalize I l.ds = i at *
   generalize leftB l = f at *
   clear l23
   cases hw with
   | a h1 =>
    have g1 : decide (p < l.pp) = true := decide_eq_true h1
    have q3 : ∀ W', Reg.Cls wr W' → W'.cell? ⟨w.heap.size, 3, none⟩ = _ := fun W' hW => (hk.later hW).c3
    have q4 : ∀ W', Reg.Cls wr W' → W'.cell? ⟨w.heap.size, 4, none⟩ = _ := fun W' hW => (hk.later hW).c4
    have q9 : ∀ W', Reg.Cls wr W' → W'.cell? ⟨w.heap.size, 9, none⟩ = _ := fun W' hW => (hk.later hW).c9
    have q10 : ∀ W', Reg.Cls wr W' → W'.cell? ⟨w.heap.size, 10, none⟩ = _ := fun W' hW => (hk.later hW).c10
    have HQ := Lib.hid (fun (W' : World) (hW : Reg.Cls wr W') => hk.later hW)
    refine Reg.region_quiet (by kernel_rfl) (by kernel_rfl) ?_
    iterate 19 (first | go_big_quiet_skip | (go_big_quiet_want; (first | (refine quiet_load_row 27 _ rfl _ rfl _ _ _ _ (HQ.out) Tryz.underlying27 rfl (by kernel_rfl) ?_; (simp only [Act.put, List.setIfInBounds_toArray, List.set_cons_zero, List.set_cons_succ]; go_big_quiet_on)) | (go_big_quiet_op; go_big_quiet_on) | (apply Reg.quiet_run; (intro W hW; skip; go_simp; (first | done | rfl | exact ⟨rfl, rfl⟩ )); (simp only [Act.put, List.setIfInBounds_toArray, List.set_cons_zero, List.set_cons_succ]; go_big_quiet_on)) | (apply Reg.quiet_call; (intro W hW; go_simp; (first | done | rfl | exact ⟨rfl, rfl⟩)); (intro W hW; (first | (go_at_call 59; exact Reg.cls_call hW (HP.out _ (bl2 hW bwr))) | (go_at_call 94; exact Reg.cls_call hW (HI.out _ (bl2 hW bwr))) | (go_at_call 95; exact Reg.cls_call hW (HL.out _ (bl2 hW bwr))))); (simp only [Act.put, List.setIfInBounds_toArray, List.set_cons_zero, List.set_cons_succ]; go_big_quiet_on)))))
    refine wpQuiet_nil ?_
    intro w3 hW
    replace hk := hk.later hW
    have bw3 := bl2 hW bwr
    clear hW HQ q3 q4 q9 q10
    go_wp2_with fail
    go_ret
    exact ⟨rfl, bw3⟩
   | b h1 h2 =>
    have g1 : decide (p < l.pp) = false := decide_eq_false (by omega)
    have g2 : decide (i < l.pi) = true := decide_eq_true h2
    have q3 : ∀ W', Reg.Cls wr W' → W'.cell? ⟨w.heap.size, 3, none⟩ = _ := fun W' hW => (hk.later hW).c3
    have q4 : ∀ W', Reg.Cls wr W' → W'.cell? ⟨w.heap.size, 4, none⟩ = _ := fun W' hW => (hk.later hW).c4
    have q9 : ∀ W', Reg.Cls wr W' → W'.cell? ⟨w.heap.size, 9, none⟩ = _ := fun W' hW => (hk.later hW).c9
    have q10 : ∀ W', Reg.Cls wr W' → W'.cell? ⟨w.heap.size, 10, none⟩ = _ := fun W' hW => (hk.later hW).c10
    have HQ := Lib.hid (fun (W' : World) (hW : Reg.Cls wr W') => hk.later hW)
    refine Reg.region_quiet (by kernel_rfl) (by kernel_rfl) ?_
    iterate 19 (first | go_big_quiet_skip | (go_big_quiet_want; (first | (refine quiet_load_row 27 _ rfl _ rfl _ _ _ _ (HQ.out) Tryz.underlying27 rfl (by kernel_rfl) ?_; (simp only [Act.put, List.setIfInBounds_toArray, List.set_cons_zero, List.set_cons_succ]; go_big_quiet_on)) | (go_big_quiet_op; go_big_quiet_on) | (apply Reg.quiet_run; (intro W hW; skip; go_simp; (first | done | rfl | exact ⟨rfl, rfl⟩ )); (simp only [Act.put, List.setIfInBounds_toArray, List.set_cons_zero, List.set_cons_succ]; go_big_quiet_on)) | (apply Reg.quiet_call; (intro W hW; go_simp; (first | done | rfl | exact ⟨rfl, rfl⟩)); (intro W hW; (first | (go_at_call 59; exact Reg.cls_call hW (HP.out _ (bl2 hW bwr))) | (go_at_call 94; exact Reg.cls_call hW (HI.out _ (bl2 hW bwr))) | (go_at_call 95; exact Reg.cls_call hW (HL.out _ (bl2 hW bwr))))); (simp only [Act.put, List.setIfInBounds_toArray, List.set_cons_zero, List.set_cons_succ]; go_big_quiet_on)))))
    refine wpQuiet_nil ?_
    intro w3 hW
    replace hk := hk.later hW
    have bw3 := bl2 hW bwr
    clear hW HQ q3 q4 q9 q10
    go_wp2_with fail
    go_ret
    exact ⟨rfl, bw3⟩
   | c h1 h2 h3 =>
    have g1 : decide (p < l.pp) = false := decide_eq_false (by omega)
    have g2 : decide (i < l.pi) = false := decide_eq_false (by omega)
    have g3 : decide (l.loss < l.rcv) = true := decide_eq_true h3
    have q3 : ∀ W', Reg.Cls wr W' → W'.cell? ⟨w.heap.size, 3, none⟩ = _ := fun W' hW => (hk.later hW).c3
    have q4 : ∀ W', Reg.Cls wr W' → W'.cell? ⟨w.heap.size, 4, none⟩ = _ := fun W' hW => (hk.later hW).c4
    have q9 : ∀ W', Reg.Cls wr W' → W'.cell? ⟨w.heap.size, 9, none⟩ = _ := fun W' hW => (hk.later hW).c9
    have q10 : ∀ W', Reg.Cls wr W' → W'.cell? ⟨w.heap.size, 10, none⟩ = _ := fun W' hW => (hk.later hW).c10
    have HQ := Lib.hid (fun (W' : World) (hW : Reg.Cls wr W') => hk.later hW)
    refine Reg.region_quiet (by kernel_rfl) (by kernel_rfl) ?_
    iterate 19 (first | go_big_quiet_skip | (go_big_quiet_want; (first | (refine quiet_load_row 27 _ rfl _ rfl _ _ _ _ (HQ.out) Tryz.underlying27 rfl (by kernel_rfl) ?_; (simp only [Act.put, List.setIfInBounds_toArray, List.set_cons_zero, List.set_cons_succ]; go_big_quiet_on)) | (go_big_quiet_op; go_big_quiet_on) | (apply Reg.quiet_run; (intro W hW; skip; go_simp; (first | done | rfl | exact ⟨rfl, rfl⟩ )); (simp only [Act.put, List.setIfInBounds_toArray, List.set_cons_zero, List.set_cons_succ]; go_big_quiet_on)) | (apply Reg.quiet_call; (intro W hW; go_simp; (first | done | rfl | exact ⟨rfl, rfl⟩)); (intro W hW; (first | (go_at_call 59; exact Reg.cls_call hW (HP.out _ (bl2 hW bwr))) | (go_at_call 94; exact Reg.cls_call hW (HI.out _ (bl2 hW bwr))) | (go_at_call 95; exact Reg.cls_call hW (HL.out _ (bl2 hW bwr))))); (simp only [Act.put, List.setIfInBounds_toArray, List.set_cons_zero, List.set_cons_succ]; go_big_quiet_on)))))
    refine wpQuiet_nil ?_
    intro w3 hW
    replace hk := hk.later hW
    have bw3 := bl2 hW bwr
    clear hW HQ q3 q4 q9 q10
    go_wp2_with fail
    go_ret
    exact ⟨rfl, bw3⟩
   | d h1 h2 h3 h4 h5 =>
    have g1 : decide (p < l.pp) = false := decide_eq_false (by omega)
    have g2 : decide (i < l.pi) = false := decide_eq_false (by omega)
    have g3 : decide (l.loss < l.rcv) = false := decide_eq_false (by omega)
    have q1 : ((l.cs.length : Int) == 0) = true := by rw [h4]; rfl
    have q2 : (p != l.tm.pr) = true := bne_iff_ne.2 h5
    clear h4 h5
    have q3 : ∀ W', Reg.Cls wr W' → W'.cell? ⟨w.heap.size, 3, none⟩ = _ := fun W' hW => (hk.later hW).c3
    have q4 : ∀ W', Reg.Cls wr W' → W'.cell? ⟨w.heap.size, 4, none⟩ = _ := fun W' hW => (hk.later hW).c4
    have q9 : ∀ W', Reg.Cls wr W' → W'.cell? ⟨w.heap.size, 9, none⟩ = _ := fun W' hW => (hk.later hW).c9
    have q10 : ∀ W', Reg.Cls wr W' → W'.cell? ⟨w.heap.size, 10, none⟩ = _ := fun W' hW => (hk.later hW).c10
    have HQ := Lib.hid (fun (W' : World) (hW : Reg.Cls wr W') => hk.later hW)
    refine Reg.region_quiet (by kernel_rfl) (by kernel_rfl) ?_
    iterate 19 (first | go_big_quiet_skip | (go_big_quiet_want; (first | (refine quiet_load_row 27 _ rfl _ rfl _ _ _ _ (HQ.out) Tryz.underlying27 rfl (by kernel_rfl) ?_; (simp only [Act.put, List.setIfInBounds_toArray, List.set_cons_zero, List.set_cons_succ]; go_big_quiet_on)) | (go_big_quiet_op; go_big_quiet_on) | (apply Reg.quiet_run; (intro W hW; skip; go_simp; (first | done | rfl | exact ⟨rfl, rfl⟩ )); (simp only [Act.put, List.setIfInBounds_toArray, List.set_cons_zero, List.set_cons_succ]; go_big_quiet_on)) | (apply Reg.quiet_call; (intro W hW; go_simp; (first | done | rfl | exact ⟨rfl, rfl⟩)); (intro W hW; (first | (go_at_call 59; exact Reg.cls_call hW (HP.out _ (bl2 hW bwr))) | (go_at_call 94; exact Reg.cls_call hW (HI.out _ (bl2 hW bwr))) | (go_at_call 95; exact Reg.cls_call hW (HL.out _ (bl2 hW bwr))))); (simp only [Act.put, List.setIfInBounds_toArray, List.set_cons_zero, List.set_cons_succ]; go_big_quiet_on)))))
    refine wpQuiet_nil ?_
    intro w3 hW
    replace hk := hk.later hW
    have bw3 := bl2 hW bwr
    clear hW HQ q3 q4 q9 q10
    go_wp2_with fail
    have q2 : ∀ W', Reg.Cls w3 W' → W'.cell? ⟨w.heap.size, 2, none⟩ = _ := fun W' hW => (hk.later hW).c2
    have q12 : ∀ W', Reg.Cls w3 W' → W'.cell? ⟨w.heap.size, 12, none⟩ = _ := fun W' hW => (hk.later hW).c12
    have q24 : ∀ W', Reg.Cls w3 W' → W'.cell? ⟨w.heap.size, 24, none⟩ = _ := fun W' hW => (hk.later hW).c24
    have HQ := Lib.hid (fun (W' : World) (hW : Reg.Cls w3 W') => hk.later hW)
    refine Reg.region_quiet (by kernel_rfl) (by kernel_rfl) ?_
    iterate 25 (first | go_big_quiet_skip | (go_big_quiet_want; (first | (refine quiet_load_row 27 _ rfl _ rfl _ _ _ _ (HQ.out) Tryz.underlying27 rfl (by kernel_rfl) ?_; (simp only [Act.put, List.setIfInBounds_toArray, List.set_cons_zero, List.set_cons_succ]; go_big_quiet_on)) | (go_big_quiet_op; go_big_quiet_on) | (apply Reg.quiet_run; (intro W hW; skip; go_simp; (first | done | rfl | exact ⟨rfl, rfl⟩ )); (simp only [Act.put, List.setIfInBounds_toArray, List.set_cons_zero, List.set_cons_succ]; go_big_quiet_on)) | (apply Reg.quiet_call; (intro W hW; go_simp; (first | done | rfl | exact ⟨rfl, rfl⟩)); (intro W hW; (first | (go_at_call 59; exact Reg.cls_call hW (HP.out _ (bl2 hW bw3))) | (go_at_call 94; exact Reg.cls_call hW (HI.out _ (bl2 hW bw3))) | (go_at_call 95; exact Reg.cls_call hW (HL.out _ (bl2 hW bw3))))); (simp only [Act.put, List.setIfInBounds_toArray, List.set_cons_zero, List.set_cons_succ]; go_big_quiet_on)))))
    refine wpQuiet_nil ?_
    intro w4 hW
    replace hk := hk.later hW
    have bw4 := bl2 hW bw3
    clear hW HQ q2 q12 q24
    go_wp2_with fail
    go_ret
    exact ⟨rfl, bw4⟩
   | e h1 h2 h3 h4 h5 =>
    have g1 : decide (p < l.pp) = false := decide_eq_false (by omega)
    have g2 : decide (i < l.pi) = false := decide_eq_false (by omega)
    have g3 : decide (l.loss < l.rcv) = false := decide_eq_false (by omega)
    have hcs : (((l.cs.length : Int) == 0) = true ∧ (p != l.tm.pr) = false) ∨ ((l.cs.length : Int) == 0) = false := by
     rcases h4 with ⟨h4, h⟩ | h4
     ·exact .inl ⟨by rw [h4]; rfl, by rw [h]; exact bne_self_eq_false _⟩
     ·exact .inr (beq_eq_false_iff_ne.2 (by omega))
    have hst : ((l.st == 1) = false ∧ (l.st != 3) = true ∧ f = true) ∨ ((l.st == 1) = true ∧ (l.st != 3) = true ∧ f = false) := by
     rcases h5 with ⟨h5, h⟩ | ⟨h5, h⟩
     ·exact .inl ⟨by rw [h5]; rfl, by rw [h5]; rfl, h⟩
     ·exact .inr ⟨by rw [h5]; rfl, by rw [h5]; rfl, h⟩
    clear h4 h5
    have q3 : ∀ W', Reg.Cls wr W' → W'.cell? ⟨w.heap.size, 3, none⟩ = _ := fun W' hW => (hk.later hW).c3
    have q4 : ∀ W', Reg.Cls wr W' → W'.cell? ⟨w.heap.size, 4, none⟩ = _ := fun W' hW => (hk.later hW).c4
    have q9 : ∀ W', Reg.Cls wr W' → W'.cell? ⟨w.heap.size, 9, none⟩ = _ := fun W' hW => (hk.later hW).c9
    have q10 : ∀ W', Reg.Cls wr W' → W'.cell? ⟨w.heap.size, 10, none⟩ = _ := fun W' hW => (hk.later hW).c10
    have HQ := Lib.hid (fun (W' : World) (hW : Reg.Cls wr W') => hk.later hW)
    refine Reg.region_quiet (by kernel_rfl) (by kernel_rfl) ?_
    iterate 19 (first | go_big_quiet_skip | (go_big_quiet_want; (first | (refine quiet_load_row 27 _ rfl _ rfl _ _ _ _ (HQ.out) Tryz.underlying27 rfl (by kernel_rfl) ?_; (simp only [Act.put, List.setIfInBounds_toArray, List.set_cons_zero, List.set_cons_succ]; go_big_quiet_on)) | (go_big_quiet_op; go_big_quiet_on) | (apply Reg.quiet_run; (intro W hW; skip; go_simp; (first | done | rfl | exact ⟨rfl, rfl⟩ )); (simp only [Act.put, List.setIfInBounds_toArray, List.set_cons_zero, List.set_cons_succ]; go_big_quiet_on)) | (apply Reg.quiet_call; (intro W hW; go_simp; (first | done | rfl | exact ⟨rfl, rfl⟩)); (intro W hW; (first | (go_at_call 59; exact Reg.cls_call hW (HP.out _ (bl2 hW bwr))) | (go_at_call 94; exact Reg.cls_call hW (HI.out _ (bl2 hW bwr))) | (go_at_call 95; exact Reg.cls_call hW (HL.out _ (bl2 hW bwr))))); (simp only [Act.put, List.setIfInBounds_toArray, List.set_cons_zero, List.set_cons_succ]; go_big_quiet_on)))))
    refine wpQuiet_nil ?_
    intro w3 hW
    replace hk := hk.later hW
    have bw3 := bl2 hW bwr
    clear hW HQ q3 q4 q9 q10
    go_wp2_with fail
    rcases hcs with ⟨q1, q2⟩ | q1
    all_goals rcases hst with ⟨s2, s3, rfl⟩ | ⟨s2, s3, rfl⟩
    all_goals
     have q2 : ∀ W', Reg.Cls w3 W' → W'.cell? ⟨w.heap.size, 2, none⟩ = _ := fun W' hW => (hk.later hW).c2
     have q12 : ∀ W', Reg.Cls w3 W' → W'.cell? ⟨w.heap.size, 12, none⟩ = _ := fun W' hW => (hk.later hW).c12
     have q24 : ∀ W', Reg.Cls w3 W' → W'.cell? ⟨w.heap.size, 24, none⟩ = _ := fun W' hW => (hk.later hW).c24
     have HQ := Lib.hid (fun (W' : World) (hW : Reg.Cls w3 W') => hk.later hW)
     refine Reg.region_quiet (by kernel_rfl) (by kernel_rfl) ?_
     iterate 25 (first | go_big_quiet_skip | (go_big_quiet_want; (first | (refine quiet_load_row 27 _ rfl _ rfl _ _ _ _ (HQ.out) Tryz.underlying27 rfl (by kernel_rfl) ?_; (simp only [Act.put, List.setIfInBounds_toArray, List.set_cons_zero, List.set_cons_succ]; go_big_quiet_on)) | (go_big_quiet_op; go_big_quiet_on) | (apply Reg.quiet_run; (intro W hW; skip; go_simp; (first | done | rfl | exact ⟨rfl, rfl⟩ )); (simp only [Act.put, List.setIfInBounds_toArray, List.set_cons_zero, List.set_cons_succ]; go_big_quiet_on)) | (apply Reg.quiet_call; (intro W hW; go_simp; (first | done | rfl | exact ⟨rfl, rfl⟩)); (intro W hW; (first | (go_at_call 59; exact Reg.cls_call hW (HP.out _ (bl2 hW bw3))) | (go_at_call 94; exact Reg.cls_call hW (HI.out _ (bl2 hW bw3))) | (go_at_call 95; exact Reg.cls_call hW (HL.out _ (bl2 hW bw3))))); (simp only [Act.put, List.setIfInBounds_toArray, List.set_cons_zero, List.set_cons_succ]; go_big_quiet_on)))))
     refine wpQuiet_nil ?_
     intro w4 hW
     replace hk := hk.later hW
     have bw4 := bl2 hW bw3
     clear hW HQ q2 q12 q24
     go_wp2_with fail
     go_ret
     exact ⟨rfl, bw4⟩
   | g h1 h2 h3 h4 h5 h6 =>
    have g1 : decide (p < l.pp) = false := decide_eq_false (by omega)
    have g2 : decide (i < l.pi) = false := decide_eq_false (by omega)
    have g3 : decide (l.loss < l.rcv) = false := decide_eq_false (by omega)
    have hcs : (((l.cs.length : Int) == 0) = true ∧ (p != l.tm.pr) = false) ∨ ((l.cs.length : Int) == 0) = false := by
     rcases h4 with ⟨h4, h⟩ | h4
     ·exact .inl ⟨by rw [h4]; rfl, by rw [h]; exact bne_self_eq_false _⟩
     ·exact .inr (beq_eq_false_iff_ne.2 (by omega))
    have hst : ((l.st == 1) = false ∧ (l.st != 3) = true ∧ f = false) ∨ ((l.st == 1) = true ∧ (l.st != 3) = true ∧ f = true) := by
     rcases h5 with ⟨h5, h⟩ | ⟨h5, h⟩
     ·exact .inl ⟨by rw [h5]; rfl, by rw [h5]; rfl, h⟩
     ·exact .inr ⟨by rw [h5]; rfl, by rw [h5]; rfl, h⟩
    have hls : (l.loss != 0) = true ∨ ((l.loss != 0) = false ∧ (l.rcv != 0) = true) := by
     rcases h6 with h | ⟨h, h'⟩
     ·exact .inl (bne_iff_ne.2 h)
     ·exact .inr ⟨by rw [h]; rfl, bne_iff_ne.2 h'⟩
    clear h4 h5 h6
    have q3 : ∀ W', Reg.Cls wr W' → W'.cell? ⟨w.heap.size, 3, none⟩ = _ := fun W' hW => (hk.later hW).c3
    have q4 : ∀ W', Reg.Cls wr W' → W'.cell? ⟨w.heap.size, 4, none⟩ = _ := fun W' hW => (hk.later hW).c4
    have q9 : ∀ W', Reg.Cls wr W' → W'.cell? ⟨w.heap.size, 9, none⟩ = _ := fun W' hW => (hk.later hW).c9
    have q10 : ∀ W', Reg.Cls wr W' → W'.cell? ⟨w.heap.size, 10, none⟩ = _ := fun W' hW => (hk.later hW).c10
    have HQ := Lib.hid (fun (W' : World) (hW : Reg.Cls wr W') => hk.later hW)
    refine Reg.region_quiet (by kernel_rfl) (by kernel_rfl) ?_
    iterate 19 (first | go_big_quiet_skip | (go_big_quiet_want; (first | (refine quiet_load_row 27 _ rfl _ rfl _ _ _ _ (HQ.out) Tryz.underlying27 rfl (by kernel_rfl) ?_; (simp only [Act.put, List.setIfInBounds_toArray, List.set_cons_zero, List.set_cons_succ]; go_big_quiet_on)) | (go_big_quiet_op; go_big_quiet_on) | (apply Reg.quiet_run; (intro W hW; skip; go_simp; (first | done | rfl | exact ⟨rfl, rfl⟩ )); (simp only [Act.put, List.setIfInBounds_toArray, List.set_cons_zero, List.set_cons_succ]; go_big_quiet_on)) | (apply Reg.quiet_call; (intro W hW; go_simp; (first | done | rfl | exact ⟨rfl, rfl⟩)); (intro W hW; (first | (go_at_call 59; exact Reg.cls_call hW (HP.out _ (bl2 hW bwr))) | (go_at_call 94; exact Reg.cls_call hW (HI.out _ (bl2 hW bwr))) | (go_at_call 95; exact Reg.cls_call hW (HL.out _ (bl2 hW bwr))))); (simp only [Act.put, List.setIfInBounds_toArray, List.set_cons_zero, List.set_cons_succ]; go_big_quiet_on)))))
    refine wpQuiet_nil ?_
    intro w3 hW
    replace hk := hk.later hW
    have bw3 := bl2 hW bwr
    clear hW HQ q3 q4 q9 q10
    go_wp2_with fail
    rcases hcs with ⟨q1, q2⟩ | q1
    all_goals rcases hst with ⟨s2, s3, rfl⟩ | ⟨s2, s3, rfl⟩
    all_goals
     have q2 : ∀ W', Reg.Cls w3 W' → W'.cell? ⟨w.heap.size, 2, none⟩ = _ := fun W' hW => (hk.later hW).c2
     have q12 : ∀ W', Reg.Cls w3 W' → W'.cell? ⟨w.heap.size, 12, none⟩ = _ := fun W' hW => (hk.later hW).c12
     have q24 : ∀ W', Reg.Cls w3 W' → W'.cell? ⟨w.heap.size, 24, none⟩ = _ := fun W' hW => (hk.later hW).c24
     have HQ := Lib.hid (fun (W' : World) (hW : Reg.Cls w3 W') => hk.later hW)
     refine Reg.region_quiet (by kernel_rfl) (by kernel_rfl) ?_
     iterate 25 (first | go_big_quiet_skip | (go_big_quiet_want; (first | (refine quiet_load_row 27 _ rfl _ rfl _ _ _ _ (HQ.out) Tryz.underlying27 rfl (by kernel_rfl) ?_; (simp only [Act.put, List.setIfInBounds_toArray, List.set_cons_zero, List.set_cons_succ]; go_big_quiet_on)) | (go_big_quiet_op; go_big_quiet_on) | (apply Reg.quiet_run; (intro W hW; skip; go_simp; (first | done | rfl | exact ⟨rfl, rfl⟩ )); (simp only [Act.put, List.setIfInBounds_toArray, List.set_cons_zero, List.set_cons_succ]; go_big_quiet_on)) | (apply Reg.quiet_call; (intro W hW; go_simp; (first | done | rfl | exact ⟨rfl, rfl⟩)); (intro W hW; (first | (go_at_call 59; exact Reg.cls_call hW (HP.out _ (bl2 hW bw3))) | (go_at_call 94; exact Reg.cls_call hW (HI.out _ (bl2 hW bw3))) | (go_at_call 95; exact Reg.cls_call hW (HL.out _ (bl2 hW bw3))))); (simp only [Act.put, List.setIfInBounds_toArray, List.set_cons_zero, List.set_cons_succ]; go_big_quiet_on)))))
     refine wpQuiet_nil ?_
     intro w4 hW
     replace hk := hk.later hW
     have bw4 := bl2 hW bw3
     clear hW HQ q2 q12 q24
     have l2 := hk.c2
     have l9 := hk.c9
     have l10 := hk.c10
     rcases hls with r1 | ⟨r1, r2⟩
     all_goals
      go_wp2_with fail
      go_ret
      exact ⟨rfl, bw4⟩
   | k h1 h2 h3 h4 h5 h6 h7 =>
    have g1 : decide (p < l.pp) = false := decide_eq_false (by omega)
    have g2 : decide (i < l.pi) = false := decide_eq_false (by omega)
    have g3 : decide (l.loss < l.rcv) = false := decide_eq_false (by omega)
    have hcs : (((l.cs.length : Int) == 0) = true ∧ (p != l.tm.pr) = false) ∨ ((l.cs.length : Int) == 0) = false := by
     rcases h4 with ⟨h4, h⟩ | h4
     ·exact .inl ⟨by rw [h4]; rfl, by rw [h]; exact bne_self_eq_false _⟩
     ·exact .inr (beq_eq_false_iff_ne.2 (by omega))
    have hst : ((l.st == 1) = false ∧ (l.st != 3) = true ∧ f = false) ∨ ((l.st == 1) = true ∧ (l.st != 3) = true ∧ f = true) := by
     rcases h5 with ⟨h5, h⟩ | ⟨h5, h⟩
     ·exact .inl ⟨by rw [h5]; rfl, by rw [h5]; rfl, h⟩
     ·exact .inr ⟨by rw [h5]; rfl, by rw [h5]; rfl, h⟩
    have r1 : (l.loss != 0) = false := by rw [h6]; rfl
    have r2 : (l.rcv != 0) = false := by rw [h7]; rfl
    clear h4 h5 h6 h7
    have q3 : ∀ W', Reg.Cls wr W' → W'.cell? ⟨w.heap.size, 3, none⟩ = _ := fun W' hW => (hk.later hW).c3
    have q4 : ∀ W', Reg.Cls wr W' → W'.cell? ⟨w.heap.size, 4, none⟩ = _ := fun W' hW => (hk.later hW).c4
    have q9 : ∀ W', Reg.Cls wr W' → W'.cell? ⟨w.heap.size, 9, none⟩ = _ := fun W' hW => (hk.later hW).c9
    have q10 : ∀ W', Reg.Cls wr W' → W'.cell? ⟨w.heap.size, 10, none⟩ = _ := fun W' hW => (hk.later hW).c10
    have HQ := Lib.hid (fun (W' : World) (hW : Reg.Cls wr W') => hk.later hW)
    refine Reg.region_quiet (by kernel_rfl) (by kernel_rfl) ?_
    iterate 19 (first | go_big_quiet_skip | (go_big_quiet_want; (first | (refine quiet_load_row 27 _ rfl _ rfl _ _ _ _ (HQ.out) Tryz.underlying27 rfl (by kernel_rfl) ?_; (simp only [Act.put, List.setIfInBounds_toArray, List.set_cons_zero, List.set_cons_succ]; go_big_quiet_on)) | (go_big_quiet_op; go_big_quiet_on) | (apply Reg.quiet_run; (intro W hW; skip; go_simp; (first | done | rfl | exact ⟨rfl, rfl⟩ )); (simp only [Act.put, List.setIfInBounds_toArray, List.set_cons_zero, List.set_cons_succ]; go_big_quiet_on)) | (apply Reg.quiet_call; (intro W hW; go_simp; (first | done | rfl | exact ⟨rfl, rfl⟩)); (intro W hW; (first | (go_at_call 59; exact Reg.cls_call hW (HP.out _ (bl2 hW bwr))) | (go_at_call 94; exact Reg.cls_call hW (HI.out _ (bl2 hW bwr))) | (go_at_call 95; exact Reg.cls_call hW (HL.out _ (bl2 hW bwr))))); (simp only [Act.put, List.setIfInBounds_toArray, List.set_cons_zero, List.set_cons_succ]; go_big_quiet_on)))))
    refine wpQuiet_nil ?_
    intro w3 hW
    replace hk := hk.later hW
    have bw3 := bl2 hW bwr
    clear hW HQ q3 q4 q9 q10
    go_wp2_with fail
    rcases hcs with ⟨q1, q2⟩ | q1
    all_goals rcases hst with ⟨s2, s3, rfl⟩ | ⟨s2, s3, rfl⟩
    all_goals
     have q2 : ∀ W', Reg.Cls w3 W' → W'.cell? ⟨w.heap.size, 2, none⟩ = _ := fun W' hW => (hk.later hW).c2
     have q12 : ∀ W', Reg.Cls w3 W' → W'.cell? ⟨w.heap.size, 12, none⟩ = _ := fun W' hW => (hk.later hW).c12
     have q24 : ∀ W', Reg.Cls w3 W' → W'.cell? ⟨w.heap.size, 24, none⟩ = _ := fun W' hW => (hk.later hW).c24
     have HQ := Lib.hid (fun (W' : World) (hW : Reg.Cls w3 W') => hk.later hW)
     refine Reg.region_quiet (by kernel_rfl) (by kernel_rfl) ?_
     iterate 25 (first | go_big_quiet_skip | (go_big_quiet_want; (first | (refine quiet_load_row 27 _ rfl _ rfl _ _ _ _ (HQ.out) Tryz.underlying27 rfl (by kernel_rfl) ?_; (simp only [Act.put, List.setIfInBounds_toArray, List.set_cons_zero, List.set_cons_succ]; go_big_quiet_on)) | (go_big_quiet_op; go_big_quiet_on) | (apply Reg.quiet_run; (intro W hW; skip; go_simp; (first | done | rfl | exact ⟨rfl, rfl⟩ )); (simp only [Act.put, List.setIfInBounds_toArray, List.set_cons_zero, List.set_cons_succ]; go_big_quiet_on)) | (apply Reg.quiet_call; (intro W hW; go_simp; (first | done | rfl | exact ⟨rfl, rfl⟩)); (intro W hW; (first | (go_at_call 59; exact Reg.cls_call hW (HP.out _ (bl2 hW bw3))) | (go_at_call 94; exact Reg.cls_call hW (HI.out _ (bl2 hW bw3))) | (go_at_call 95; exact Reg.cls_call hW (HL.out _ (bl2 hW bw3))))); (simp only [Act.put, List.setIfInBounds_toArray, List.set_cons_zero, List.set_cons_succ]; go_big_quiet_on)))))
     refine wpQuiet_nil ?_
     intro w4 hW
     replace hk := hk.later hW
     have bw4 := bl2 hW bw3
     clear hW HQ q2 q12 q24
     have l2 := hk.c2
     have l9 := hk.c9
     have l10 := hk.c10
     go_wp2_with fail
     go_ret
     exact ⟨rfl, bw4⟩
   | m h1 h2 h3 h4 h5 =>
    have g1 : decide (p < l.pp) = false := decide_eq_false (by omega)
    have g2 : decide (i < l.pi) = false := decide_eq_false (by omega)
    have g3 : decide (l.loss < l.rcv) = false := decide_eq_false (by omega)
    have hcs : (((l.cs.length : Int) == 0) = true ∧ (p != l.tm.pr) = false) ∨ ((l.cs.length : Int) == 0) = false := by
     rcases h4 with ⟨h4, h⟩ | h4
     ·exact .inl ⟨by rw [h4]; rfl, by rw [h]; exact bne_self_eq_false _⟩
     ·exact .inr (beq_eq_false_iff_ne.2 (by omega))
    have s3 : (l.st != 3) = false := by rw [h5]; rfl
    clear h4 h5
    have q3 : ∀ W', Reg.Cls wr W' → W'.cell? ⟨w.heap.size, 3, none⟩ = _ := fun W' hW => (hk.later hW).c3
    have q4 : ∀ W', Reg.Cls wr W' → W'.cell? ⟨w.heap.size, 4, none⟩ = _ := fun W' hW => (hk.later hW).c4
    have q9 : ∀ W', Reg.Cls wr W' → W'.cell? ⟨w.heap.size, 9, none⟩ = _ := fun W' hW => (hk.later hW).c9
    have q10 : ∀ W', Reg.Cls wr W' → W'.cell? ⟨w.heap.size, 10, none⟩ = _ := fun W' hW => (hk.later hW).c10
    have HQ := Lib.hid (fun (W' : World) (hW : Reg.Cls wr W') => hk.later hW)
    refine Reg.region_quiet (by kernel_rfl) (by kernel_rfl) ?_
    iterate 19 (first | go_big_quiet_skip | (go_big_quiet_want; (first | (refine quiet_load_row 27 _ rfl _ rfl _ _ _ _ (HQ.out) Tryz.underlying27 rfl (by kernel_rfl) ?_; (simp only [Act.put, List.setIfInBounds_toArray, List.set_cons_zero, List.set_cons_succ]; go_big_quiet_on)) | (go_big_quiet_op; go_big_quiet_on) | (apply Reg.quiet_run; (intro W hW; skip; go_simp; (first | done | rfl | exact ⟨rfl, rfl⟩ )); (simp only [Act.put, List.setIfInBounds_toArray, List.set_cons_zero, List.set_cons_succ]; go_big_quiet_on)) | (apply Reg.quiet_call; (intro W hW; go_simp; (first | done | rfl | exact ⟨rfl, rfl⟩)); (intro W hW; (first | (go_at_call 59; exact Reg.cls_call hW (HP.out _ (bl2 hW bwr))) | (go_at_call 94; exact Reg.cls_call hW (HI.out _ (bl2 hW bwr))) | (go_at_call 95; exact Reg.cls_call hW (HL.out _ (bl2 hW bwr))))); (simp only [Act.put, List.setIfInBounds_toArray, List.set_cons_zero, List.set_cons_succ]; go_big_quiet_on)))))
    refine wpQuiet_nil ?_
    intro w3 hW
    replace hk := hk.later hW
    have bw3 := bl2 hW bwr
    clear hW HQ q3 q4 q9 q10
    go_wp2_with fail
    rcases hcs with ⟨q1, q2⟩ | q1
    all_goals
     have q2 : ∀ W', Reg.Cls w3 W' → W'.cell? ⟨w.heap.size, 2, none⟩ = _ := fun W' hW => (hk.later hW).c2
     have q12 : ∀ W', Reg.Cls w3 W' → W'.cell? ⟨w.heap.size, 12, none⟩ = _ := fun W' hW => (hk.later hW).c12
     have q24 : ∀ W', Reg.Cls w3 W' → W'.cell? ⟨w.heap.size, 24, none⟩ = _ := fun W' hW => (hk.later hW).c24
     have HQ := Lib.hid (fun (W' : World) (hW : Reg.Cls w3 W') => hk.later hW)
     refine Reg.region_quiet (by kernel_rfl) (by kernel_rfl) ?_
     iterate 25 (first | go_big_quiet_skip | (go_big_quiet_want; (first | (refine quiet_load_row 27 _ rfl _ rfl _ _ _ _ (HQ.out) Tryz.underlying27 rfl (by kernel_rfl) ?_; (simp only [Act.put, List.setIfInBounds_toArray, List.set_cons_zero, List.set_cons_succ]; go_big_quiet_on)) | (go_big_quiet_op; go_big_quiet_on) | (apply Reg.quiet_run; (intro W hW; skip; go_simp; (first | done | rfl | exact ⟨rfl, rfl⟩ )); (simp only [Act.put, List.setIfInBounds_toArray, List.set_cons_zero, List.set_cons_succ]; go_big_quiet_on)) | (apply Reg.quiet_call; (intro W hW; go_simp; (first | done | rfl | exact ⟨rfl, rfl⟩)); (intro W hW; (first | (go_at_call 59; exact Reg.cls_call hW (HP.out _ (bl2 hW bw3))) | (go_at_call 94; exact Reg.cls_call hW (HI.out _ (bl2 hW bw3))) | (go_at_call 95; exact Reg.cls_call hW (HL.out _ (bl2 hW bw3))))); (simp only [Act.put, List.setIfInBounds_toArray, List.set_cons_zero, List.set_cons_succ]; go_big_quiet_on)))))
     refine wpQuiet_nil ?_
     intro w4 hW
     replace hk := hk.later hW
     have bw4 := bl2 hW bw3
     clear hW HQ q2 q12 q24
     have l2 := hk.c2
     have l9 := hk.c9
     have l10 := hk.c10
     go_wp2_with fail
     go_ret
     exact ⟨rfl, bw4⟩
end Go.Proofs.YtaanicginfjgdaaGreatDoor.Ln
