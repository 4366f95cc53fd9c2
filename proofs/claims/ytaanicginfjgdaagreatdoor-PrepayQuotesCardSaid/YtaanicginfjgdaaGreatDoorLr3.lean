/-
 The reference's ranged.
-/
import Derived.Test.YtaanicginfjgdaaGreatDoorLb
namespace Go.Proofs.YtaanicginfjgdaaGreatDoor.Ln
open Go.RowKit
open Go.Proofs.YtaanicginfjgdaaGreatDoor

theorem rrg_ways (l : Lo) : (l.id < 1) ∨ (1 ≤ l.id ∧ l.ac < 1000) ∨ (1 ≤ l.id ∧ 1000 ≤ l.ac ∧ l.st < 1) ∨ (1 ≤ l.id ∧ 1000 ≤ l.ac ∧ 1 ≤ l.st ∧ 3 < l.st) ∨ (1 ≤ l.id ∧ 1000 ≤ l.ac ∧ 1 ≤ l.st ∧ l.st ≤ 3 ∧ l.pp < 0) ∨ (1 ≤ l.id ∧ 1000 ≤ l.ac ∧ 1 ≤ l.st ∧ l.st ≤ 3 ∧ 0 ≤ l.pp ∧ l.pi < 0) ∨ (1 ≤ l.id ∧ 1000 ≤ l.ac ∧ 1 ≤ l.st ∧ l.st ≤ 3 ∧ 0 ≤ l.pp ∧ 0 ≤ l.pi ∧ l.rcv < 0) ∨ (1 ≤ l.id ∧ 1000 ≤ l.ac ∧ 1 ≤ l.st ∧ l.st ≤ 3 ∧ 0 ≤ l.pp ∧ 0 ≤ l.pi ∧ 0 ≤ l.rcv ∧ amt l.fee = false) ∨ (1 ≤ l.id ∧ 1000 ≤ l.ac ∧ 1 ≤ l.st ∧ l.st ≤ 3 ∧ 0 ≤ l.pp ∧ 0 ≤ l.pi ∧ 0 ≤ l.rcv ∧ amt l.fee = true ∧ amt l.pen = false) ∨ (1 ≤ l.id ∧ 1000 ≤ l.ac ∧ 1 ≤ l.st ∧ l.st ≤ 3 ∧ 0 ≤ l.pp ∧ 0 ≤ l.pi ∧ 0 ≤ l.rcv ∧ amt l.fee = true ∧ amt l.pen = true ∧ amt l.prov = false) ∨ (1 ≤ l.id ∧ 1000 ≤ l.ac ∧ 1 ≤ l.st ∧ l.st ≤ 3 ∧ 0 ≤ l.pp ∧ 0 ≤ l.pi ∧ 0 ≤ l.rcv ∧ amt l.fee = true ∧ amt l.pen = true ∧ amt l.prov = true ∧ amt l.loss = false) ∨ (1 ≤ l.id ∧ 1000 ≤ l.ac ∧ 1 ≤ l.st ∧ l.st ≤ 3 ∧ 0 ≤ l.pp ∧ 0 ≤ l.pi ∧ 0 ≤ l.rcv ∧ amt l.fee = true ∧ amt l.pen = true ∧ amt l.prov = true ∧ amt l.loss = true ∧ dayB l.chg = false) ∨ (1 ≤ l.id ∧ 1000 ≤ l.ac ∧ 1 ≤ l.st ∧ l.st ≤ 3 ∧ 0 ≤ l.pp ∧ 0 ≤ l.pi ∧ 0 ≤ l.rcv ∧ amt l.fee = true ∧ amt l.pen = true ∧ amt l.prov = true ∧ amt l.loss = true ∧ dayB l.chg = true ∧ rateB l.tm.pen = false) ∨ (1 ≤ l.id ∧ 1000 ≤ l.ac ∧ 1 ≤ l.st ∧ l.st ≤ 3 ∧ 0 ≤ l.pp ∧ 0 ≤ l.pi ∧ 0 ≤ l.rcv ∧ amt l.fee = true ∧ amt l.pen = true ∧ amt l.prov = true ∧ amt l.loss = true ∧ dayB l.chg = true ∧ rateB l.tm.pen = true ∧ rateB l.tm.fe = false) ∨ (1 ≤ l.id ∧ 1000 ≤ l.ac ∧ 1 ≤ l.st ∧ l.st ≤ 3 ∧ 0 ≤ l.pp ∧ 0 ≤ l.pi ∧ 0 ≤ l.rcv ∧ amt l.fee = true ∧ amt l.pen = true ∧ amt l.prov = true ∧ amt l.loss = true ∧ dayB l.chg = true ∧ rateB l.tm.pen = true ∧ rateB l.tm.fe = true ∧ l.ds.length < 1) ∨ (1 ≤ l.id ∧ 1000 ≤ l.ac ∧ 1 ≤ l.st ∧ l.st ≤ 3 ∧ 0 ≤ l.pp ∧ 0 ≤ l.pi ∧ 0 ≤ l.rcv ∧ amt l.fee = true ∧ amt l.pen = true ∧ amt l.prov = true ∧ amt l.loss = true ∧ dayB l.chg = true ∧ rateB l.tm.pen = true ∧ rateB l.tm.fe = true ∧ 1 ≤ l.ds.length ∧ 240 < l.ds.length) ∨ (1 ≤ l.id ∧ 1000 ≤ l.ac ∧ 1 ≤ l.st ∧ l.st ≤ 3 ∧ 0 ≤ l.pp ∧ 0 ≤ l.pi ∧ 0 ≤ l.rcv ∧ amt l.fee = true ∧ amt l.pen = true ∧ amt l.prov = true ∧ amt l.loss = true ∧ dayB l.chg = true ∧ rateB l.tm.pen = true ∧ rateB l.tm.fe = true ∧ 1 ≤ l.ds.length ∧ l.ds.length ≤ 240 ∧ 64 < l.cs.length) ∨ (1 ≤ l.id ∧ 1000 ≤ l.ac ∧ 1 ≤ l.st ∧ l.st ≤ 3 ∧ 0 ≤ l.pp ∧ 0 ≤ l.pi ∧ 0 ≤ l.rcv ∧ amt l.fee = true ∧ amt l.pen = true ∧ amt l.prov = true ∧ amt l.loss = true ∧ dayB l.chg = true ∧ rateB l.tm.pen = true ∧ rateB l.tm.fe = true ∧ 1 ≤ l.ds.length ∧ l.ds.length ≤ 240 ∧ l.cs.length ≤ 64) := by
 by_cases c0 : l.id < 1
 ·exact .inl c0
 have n0 : 1 ≤ l.id := by omega
 by_cases c1 : l.ac < 1000
 ·exact .inr (.inl ⟨n0, c1⟩)
 have n1 : 1000 ≤ l.ac := by omega
 by_cases c2 : l.st < 1
 ·exact .inr (.inr (.inl ⟨n0, n1, c2⟩))
 have n2 : 1 ≤ l.st := by omega
 by_cases c3 : 3 < l.st
 ·exact .inr (.inr (.inr (.inl ⟨n0, n1, n2, c3⟩)))
 have n3 : l.st ≤ 3 := by omega
 by_cases c4 : l.pp < 0
 ·exact .inr (.inr (.inr (.inr (.inl ⟨n0, n1, n2, n3, c4⟩))))
 have n4 : 0 ≤ l.pp := by omega
 by_cases c5 : l.pi < 0
 ·exact .inr (.inr (.inr (.inr (.inr (.inl ⟨n0, n1, n2, n3, n4, c5⟩)))))
 have n5 : 0 ≤ l.pi := by omega
 by_cases c6 : l.rcv < 0
 ·exact .inr (.inr (.inr (.inr (.inr (.inr (.inl ⟨n0, n1, n2, n3, n4, n5, c6⟩))))))
 have n6 : 0 ≤ l.rcv := by omega
 by_cases c7 : amt l.fee = false
 ·exact .inr (.inr (.inr (.inr (.inr (.inr (.inr (.inl ⟨n0, n1, n2, n3, n4, n5, n6, c7⟩)))))))
 have n7 : amt l.fee = true := by simpa using c7
 by_cases c8 : amt l.pen = false
 ·exact .inr (.inr (.inr (.inr (.inr (.inr (.inr (.inr (.inl ⟨n0, n1, n2, n3, n4, n5, n6, n7, c8⟩))))))))
 have n8 : amt l.pen = true := by simpa using c8
 by_cases c9 : amt l.prov = false
 ·exact .inr (.inr (.inr (.inr (.inr (.inr (.inr (.inr (.inr (.inl ⟨n0, n1, n2, n3, n4, n5, n6, n7, n8, c9⟩)))))))))
 have n9 : amt l.prov = true := by simpa using c9
 by_cases c10 : amt l.loss = false
 ·exact .inr (.inr (.inr (.inr (.inr (.inr (.inr (.inr (.inr (.inr (.inl ⟨n0, n1, n2, n3, n4, n5, n6, n7, n8, n9, c10⟩))))))))))
 have n10 : amt l.loss = true := by simpa using c10
 by_cases c11 : dayB l.chg = false
 ·exact .inr (.inr (.inr (.inr (.inr (.inr (.inr (.inr (.inr (.inr (.inr (.inl ⟨n0, n1, n2, n3, n4, n5, n6, n7, n8, n9, n10, c11⟩)))))))))))
 have n11 : dayB l.chg = true := by simpa using c11
 by_cases c12 : rateB l.tm.pen = false
 ·exact .inr (.inr (.inr (.inr (.inr (.inr (.inr (.inr (.inr (.inr (.inr (.inr (.inl ⟨n0, n1, n2, n3, n4, n5, n6, n7, n8, n9, n10, n11, c12⟩))))))))))))
 have n12 : rateB l.tm.pen = true := by simpa using c12
 by_cases c13 : rateB l.tm.fe = false
 ·exact .inr (.inr (.inr (.inr (.inr (.inr (.inr (.inr (.inr (.inr (.inr (.inr (.inr (.inl ⟨n0, n1, n2, n3, n4, n5, n6, n7, n8, n9, n10, n11, n12, c13⟩)))))))))))))
 have n13 : rateB l.tm.fe = true := by simpa using c13
 by_cases c14 : l.ds.length < 1
 ·exact .inr (.inr (.inr (.inr (.inr (.inr (.inr (.inr (.inr (.inr (.inr (.inr (.inr (.inr (.inl ⟨n0, n1, n2, n3, n4, n5, n6, n7, n8, n9, n10, n11, n12, n13, c14⟩))))))))))))))
 have n14 : 1 ≤ l.ds.length := by omega
 by_cases c15 : 240 < l.ds.length
 ·exact .inr (.inr (.inr (.inr (.inr (.inr (.inr (.inr (.inr (.inr (.inr (.inr (.inr (.inr (.inr (.inl ⟨n0, n1, n2, n3, n4, n5, n6, n7, n8, n9, n10, n11, n12, n13, n14, c15⟩)))))))))))))))
 have n15 : l.ds.length ≤ 240 := by omega
 by_cases c16 : 64 < l.cs.length
 ·exact .inr (.inr (.inr (.inr (.inr (.inr (.inr (.inr (.inr (.inr (.inr (.inr (.inr (.inr (.inr (.inr (.inl ⟨n0, n1, n2, n3, n4, n5, n6, n7, n8, n9, n10, n11, n12, n13, n14, n15, c16⟩))))))))))))))))
 have n16 : l.cs.length ≤ 64 := by omega
 exact .inr (.inr (.inr (.inr (.inr (.inr (.inr (.inr (.inr (.inr (.inr (.inr (.inr (.inr (.inr (.inr (.inr (⟨n0, n1, n2, n3, n4, n5, n6, n7, n8, n9, n10, n11, n12, n13, n14, n15, n16⟩)))))))))))))))))
theorem within_amt (n : Int) (W : World) : Calls Tryz.prog 127 #[.int .i64 n, .int .i64 1000000000000] W fun e w' => e = .returned (.bool (amt n)) ∧ W = w' := within_any n 1000000000000 W
theorem within_rate (n : Int) (W : World) : Calls Tryz.prog 127 #[.int .i64 n, .int .i64 1000000] W fun e w' => e = .returned (.bool (rateB n)) ∧ W = w' := within_any n 1000000 W
def RGR (A0 : Option Addr) (D0 : Nat) (w : World) (ds : List Du) (g : Nat) (s3 : Value) (W : World) : Prop := ∃ k : Nat, k + g = ds.length ∧ s3 = .int .i64 k ∧ (∀ j, j < k → dueB ds[j]! = true) ∧ Below w.heap.size w W ∧ W.cell? ⟨w.heap.size, 23, none⟩ = some (.slice A0 ds.length D0)
set_option maxHeartbeats 16000000 in
theorem rranged_any (l : Lo) (da ca : Option Addr) (dk ck : Nat) (w : World) (h : DuesIn w da l.ds) :
  Calls Tryz.prog 93 #[(.agg #[.int .i64 (l).id, .int .i64 (l).ac, .int .i64 (l).st, .int .i64 (l).pp, .int .i64 (l).pi, .int .i64 (l).fee, .int .i64 (l).pen, .int .i64 (l).chg, .int .i64 (l).prov, .int .i64 (l).loss, .int .i64 (l).rcv, .int .i64 ((l).tm).me, .int .i64 ((l).tm).pr, .int .i64 ((l).tm).ppm, .int .i64 ((l).tm).stt, .int .i64 ((l).tm).ev, .int .i64 ((l).tm).ct, .int .i64 ((l).tm).ba, .int .i64 ((l).tm).mo, .int .i64 ((l).tm).pen, .int .i64 ((l).tm).fe, .string ((l).tm).cal, .string ((l).tm).cur, .slice da (l).ds.length dk, .slice ca (l).cs.length ck])] w fun e w' => e = .returned (.bool (rangedB l)) ∧ Below w.heap.size w w' := by
 have HD := Lib.hid h
 have HW := Lib.hid within_amt
 have HR1 := Lib.hid within_rate
 have HV := Lib.hid (fun (n : Int) (W : World) => rvalid_any n W)
 have bb : Below w.heap.size w (w.alloc (.cells #[.int .i64 (l).id, .int .i64 (l).ac, .int .i64 (l).st, .int .i64 (l).pp, .int .i64 (l).pi, .int .i64 (l).fee, .int .i64 (l).pen, .int .i64 (l).chg, .int .i64 (l).prov, .int .i64 (l).loss, .int .i64 (l).rcv, .int .i64 ((l).tm).me, .int .i64 ((l).tm).pr, .int .i64 ((l).tm).ppm, .int .i64 ((l).tm).stt, .int .i64 ((l).tm).ev, .int .i64 ((l).tm).ct, .int .i64 ((l).tm).ba, .int .i64 ((l).tm).mo, .int .i64 ((l).tm).pen, .int .i64 ((l).tm).fe, .string ((l).tm).cal, .string ((l).tm).cur, .slice da (l).ds.length dk, .slice ca (l).cs.length ck] 27)) := (Below.refl _ _).alloc (Nat.le_refl _) _
 have hk := Bk.Blk.nw10 (W := w) (cs := #[.int .i64 (l).id, .int .i64 (l).ac, .int .i64 (l).st, .int .i64 (l).pp, .int .i64 (l).pi, .int .i64 (l).fee, .int .i64 (l).pen, .int .i64 (l).chg, .int .i64 (l).prov, .int .i64 (l).loss, .int .i64 (l).rcv, .int .i64 ((l).tm).me, .int .i64 ((l).tm).pr, .int .i64 ((l).tm).ppm, .int .i64 ((l).tm).stt, .int .i64 ((l).tm).ev, .int .i64 ((l).tm).ct, .int .i64 ((l).tm).ba, .int .i64 ((l).tm).mo, .int .i64 ((l).tm).pen, .int .i64 ((l).tm).fe, .string ((l).tm).cal, .string ((l).tm).cur, .slice da (l).ds.length dk, .slice ca (l).cs.length ck]) (t := 27)
 have c23 := hk.c23
 clear h hk
 obtain ⟨r, hr⟩ : ∃ r, r = rangedB l := ⟨_, rfl⟩
 rw [← hr]
 have HR := Lib.hid hr
 clear hr
 have hn := HD.out.1
 rcases rrg_ways l with h0 | ⟨h0, h1⟩ | ⟨h0, h1, h2⟩ | ⟨h0, h1, h2, h3⟩ | ⟨h0, h1, h2, h3, h4⟩ | ⟨h0, h1, h2, h3, h4, h5⟩ | ⟨h0, h1, h2, h3, h4, h5, h6⟩ | ⟨h0, h1, h2, h3, h4, h5, h6, h7⟩ | ⟨h0, h1, h2, h3, h4, h5, h6, h7, h8⟩ | ⟨h0, h1, h2, h3, h4, h5, h6, h7, h8, h9⟩ | ⟨h0, h1, h2, h3, h4, h5, h6, h7, h8, h9, h10⟩ | ⟨h0, h1, h2, h3, h4, h5, h6, h7, h8, h9, h10, h11⟩ | ⟨h0, h1, h2, h3, h4, h5, h6, h7, h8, h9, h10, h11, h12⟩ | ⟨h0, h1, h2, h3, h4, h5, h6, h7, h8, h9, h10, h11, h12, h13⟩ | ⟨h0, h1, h2, h3, h4, h5, h6, h7, h8, h9, h10, h11, h12, h13, h14⟩ | ⟨h0, h1, h2, h3, h4, h5, h6, h7, h8, h9, h10, h11, h12, h13, h14, h15⟩ | ⟨h0, h1, h2, h3, h4, h5, h6, h7, h8, h9, h10, h11, h12, h13, h14, h15, h16⟩ | ⟨h0, h1, h2, h3, h4, h5, h6, h7, h8, h9, h10, h11, h12, h13, h14, h15, h16⟩
 ·have HF := Lib.hid (show r = false by rw [HR.out]; exact rg_bad fun hh => by have hh := rg_no hh; first | omega | simp [*] at hh)
  clear c23
  go_enter Tryz.func93, Tryz.ntmps93
  go_wp2_with fail
  go_ret
  exact ⟨by rw [HF.out]; rfl, bb⟩
 ·have HF := Lib.hid (show r = false by rw [HR.out]; exact rg_bad fun hh => by have hh := rg_no hh; first | omega | simp [*] at hh)
  clear c23
  go_enter Tryz.func93, Tryz.ntmps93
  go_wp2_with fail
  go_ret
  exact ⟨by rw [HF.out]; rfl, bb⟩
 ·have HF := Lib.hid (show r = false by rw [HR.out]; exact rg_bad fun hh => by have hh := rg_no hh; first | omega | simp [*] at hh)
  clear c23
  go_enter Tryz.func93, Tryz.ntmps93
  go_wp2_with fail
  go_ret
  exact ⟨by rw [HF.out]; rfl, bb⟩
 ·have HF := Lib.hid (show r = false by rw [HR.out]; exact rg_bad fun hh => by have hh := rg_no hh; first | omega | simp [*] at hh)
  clear c23
  go_enter Tryz.func93, Tryz.ntmps93
  go_wp2_with fail
  go_ret
  exact ⟨by rw [HF.out]; rfl, bb⟩
 ·have HF := Lib.hid (show r = false by rw [HR.out]; exact rg_bad fun hh => by have hh := rg_no hh; first | omega | simp [*] at hh)
  clear c23
  go_enter Tryz.func93, Tryz.ntmps93
  go_wp2_with fail
  go_ret
  exact ⟨by rw [HF.out]; rfl, bb⟩
 ·have HF := Lib.hid (show r = false by rw [HR.out]; exact rg_bad fun hh => by have hh := rg_no hh; first | omega | simp [*] at hh)
  clear c23
  go_enter Tryz.func93, Tryz.ntmps93
  go_wp2_with fail
  go_ret
  exact ⟨by rw [HF.out]; rfl, bb⟩
 ·have HF := Lib.hid (show r = false by rw [HR.out]; exact rg_bad fun hh => by have hh := rg_no hh; first | omega | simp [*] at hh)
  clear c23
  go_enter Tryz.func93, Tryz.ntmps93
  go_wp2_with fail
  go_ret
  exact ⟨by rw [HF.out]; rfl, bb⟩
 ·have HF := Lib.hid (show r = false by rw [HR.out]; exact rg_bad fun hh => by have hh := rg_no hh; first | omega | simp [*] at hh)
  clear c23
  go_enter Tryz.func93, Tryz.ntmps93
  go_wp2_with fail
  refine (HW.out _ _).mono ?_
  rintro e w1 ⟨rfl, rfl⟩
  rw [h7]
  go_wp2_with fail
  go_ret
  exact ⟨by rw [HF.out]; rfl, bb⟩
 ·have HF := Lib.hid (show r = false by rw [HR.out]; exact rg_bad fun hh => by have hh := rg_no hh; first | omega | simp [*] at hh)
  clear c23
  go_enter Tryz.func93, Tryz.ntmps93
  go_wp2_with fail
  refine (HW.out _ _).mono ?_
  rintro e w1 ⟨rfl, rfl⟩
  rw [h7]
  go_wp2_with fail
  refine (HW.out _ _).mono ?_
  rintro e w1 ⟨rfl, rfl⟩
  rw [h8]
  go_wp2_with fail
  go_ret
  exact ⟨by rw [HF.out]; rfl, bb⟩
 ·have HF := Lib.hid (show r = false by rw [HR.out]; exact rg_bad fun hh => by have hh := rg_no hh; first | omega | simp [*] at hh)
  clear c23
  go_enter Tryz.func93, Tryz.ntmps93
  go_wp2_with fail
  refine (HW.out _ _).mono ?_
  rintro e w1 ⟨rfl, rfl⟩
  rw [h7]
  go_wp2_with fail
  refine (HW.out _ _).mono ?_
  rintro e w1 ⟨rfl, rfl⟩
  rw [h8]
  go_wp2_with fail
  refine (HW.out _ _).mono ?_
  rintro e w1 ⟨rfl, rfl⟩
  rw [h9]
  go_wp2_with fail
  go_ret
  exact ⟨by rw [HF.out]; rfl, bb⟩
 ·have HF := Lib.hid (show r = false by rw [HR.out]; exact rg_bad fun hh => by have hh := rg_no hh; first | omega | simp [*] at hh)
  clear c23
  go_enter Tryz.func93, Tryz.ntmps93
  go_wp2_with fail
  refine (HW.out _ _).mono ?_
  rintro e w1 ⟨rfl, rfl⟩
  rw [h7]
  go_wp2_with fail
  refine (HW.out _ _).mono ?_
  rintro e w1 ⟨rfl, rfl⟩
  rw [h8]
  go_wp2_with fail
  refine (HW.out _ _).mono ?_
  rintro e w1 ⟨rfl, rfl⟩
  rw [h9]
  go_wp2_with fail
  refine (HW.out _ _).mono ?_
  rintro e w1 ⟨rfl, rfl⟩
  rw [h10]
  go_wp2_with fail
  go_ret
  exact ⟨by rw [HF.out]; rfl, bb⟩
 ·have HF := Lib.hid (show r = false by rw [HR.out]; exact rg_bad fun hh => by have hh := rg_no hh; first | omega | simp [*] at hh)
  clear c23
  go_enter Tryz.func93, Tryz.ntmps93
  go_wp2_with fail
  refine (HW.out _ _).mono ?_
  rintro e w1 ⟨rfl, rfl⟩
  rw [h7]
  go_wp2_with fail
  refine (HW.out _ _).mono ?_
  rintro e w1 ⟨rfl, rfl⟩
  rw [h8]
  go_wp2_with fail
  refine (HW.out _ _).mono ?_
  rintro e w1 ⟨rfl, rfl⟩
  rw [h9]
  go_wp2_with fail
  refine (HW.out _ _).mono ?_
  rintro e w1 ⟨rfl, rfl⟩
  rw [h10]
  go_wp2_with fail
  refine (HV.out _ _).mono ?_
  rintro e w1 ⟨rfl, rfl⟩
  rw [h11]
  go_wp2_with fail
  go_ret
  exact ⟨by rw [HF.out]; rfl, bb⟩
 ·have HF := Lib.hid (show r = false by rw [HR.out]; exact rg_bad fun hh => by have hh := rg_no hh; first | omega | simp [*] at hh)
  clear c23
  go_enter Tryz.func93, Tryz.ntmps93
  go_wp2_with fail
  refine (HW.out _ _).mono ?_
  rintro e w1 ⟨rfl, rfl⟩
  rw [h7]
  go_wp2_with fail
  refine (HW.out _ _).mono ?_
  rintro e w1 ⟨rfl, rfl⟩
  rw [h8]
  go_wp2_with fail
  refine (HW.out _ _).mono ?_
  rintro e w1 ⟨rfl, rfl⟩
  rw [h9]
  go_wp2_with fail
  refine (HW.out _ _).mono ?_
  rintro e w1 ⟨rfl, rfl⟩
  rw [h10]
  go_wp2_with fail
  refine (HV.out _ _).mono ?_
  rintro e w1 ⟨rfl, rfl⟩
  rw [h11]
  go_wp2_with fail
  refine (HR1.out _ _).mono ?_
  rintro e w1 ⟨rfl, rfl⟩
  rw [h12]
  go_wp2_with fail
  go_ret
  exact ⟨by rw [HF.out]; rfl, bb⟩
 ·have HF := Lib.hid (show r = false by rw [HR.out]; exact rg_bad fun hh => by have hh := rg_no hh; first | omega | simp [*] at hh)
  clear c23
  go_enter Tryz.func93, Tryz.ntmps93
  go_wp2_with fail
  refine (HW.out _ _).mono ?_
  rintro e w1 ⟨rfl, rfl⟩
  rw [h7]
  go_wp2_with fail
  refine (HW.out _ _).mono ?_
  rintro e w1 ⟨rfl, rfl⟩
  rw [h8]
  go_wp2_with fail
  refine (HW.out _ _).mono ?_
  rintro e w1 ⟨rfl, rfl⟩
  rw [h9]
  go_wp2_with fail
  refine (HW.out _ _).mono ?_
  rintro e w1 ⟨rfl, rfl⟩
  rw [h10]
  go_wp2_with fail
  refine (HV.out _ _).mono ?_
  rintro e w1 ⟨rfl, rfl⟩
  rw [h11]
  go_wp2_with fail
  refine (HR1.out _ _).mono ?_
  rintro e w1 ⟨rfl, rfl⟩
  rw [h12]
  go_wp2_with fail
  refine (HR1.out _ _).mono ?_
  rintro e w1 ⟨rfl, rfl⟩
  rw [h13]
  go_wp2_with fail
  go_ret
  exact ⟨by rw [HF.out]; rfl, bb⟩
 ·have HF := Lib.hid (show r = false by rw [HR.out]; exact rg_bad fun hh => by have hh := rg_no hh; first | omega | simp [*] at hh)
  clear c23
  go_enter Tryz.func93, Tryz.ntmps93
  go_wp2_with fail
  refine (HW.out _ _).mono ?_
  rintro e w1 ⟨rfl, rfl⟩
  rw [h7]
  go_wp2_with fail
  refine (HW.out _ _).mono ?_
  rintro e w1 ⟨rfl, rfl⟩
  rw [h8]
  go_wp2_with fail
  refine (HW.out _ _).mono ?_
  rintro e w1 ⟨rfl, rfl⟩
  rw [h9]
  go_wp2_with fail
  refine (HW.out _ _).mono ?_
  rintro e w1 ⟨rfl, rfl⟩
  rw [h10]
  go_wp2_with fail
  refine (HV.out _ _).mono ?_
  rintro e w1 ⟨rfl, rfl⟩
  rw [h11]
  go_wp2_with fail
  refine (HR1.out _ _).mono ?_
  rintro e w1 ⟨rfl, rfl⟩
  rw [h12]
  go_wp2_with fail
  refine (HR1.out _ _).mono ?_
  rintro e w1 ⟨rfl, rfl⟩
  rw [h13]
  go_wp2_with fail
  go_ret
  exact ⟨by rw [HF.out]; rfl, bb⟩
 ·have HF := Lib.hid (show r = false by rw [HR.out]; exact rg_bad fun hh => by have hh := rg_no hh; first | omega | simp [*] at hh)
  clear c23
  go_enter Tryz.func93, Tryz.ntmps93
  go_wp2_with fail
  refine (HW.out _ _).mono ?_
  rintro e w1 ⟨rfl, rfl⟩
  rw [h7]
  go_wp2_with fail
  refine (HW.out _ _).mono ?_
  rintro e w1 ⟨rfl, rfl⟩
  rw [h8]
  go_wp2_with fail
  refine (HW.out _ _).mono ?_
  rintro e w1 ⟨rfl, rfl⟩
  rw [h9]
  go_wp2_with fail
  refine (HW.out _ _).mono ?_
  rintro e w1 ⟨rfl, rfl⟩
  rw [h10]
  go_wp2_with fail
  refine (HV.out _ _).mono ?_
  rintro e w1 ⟨rfl, rfl⟩
  rw [h11]
  go_wp2_with fail
  refine (HR1.out _ _).mono ?_
  rintro e w1 ⟨rfl, rfl⟩
  rw [h12]
  go_wp2_with fail
  refine (HR1.out _ _).mono ?_
  rintro e w1 ⟨rfl, rfl⟩
  rw [h13]
  go_wp2_with fail
  go_ret
  exact ⟨by rw [HF.out]; rfl, bb⟩
 ·have HF := Lib.hid (show r = false by rw [HR.out]; exact rg_bad fun hh => by have hh := rg_no hh; first | omega | simp [*] at hh)
  clear c23
  go_enter Tryz.func93, Tryz.ntmps93
  go_wp2_with fail
  refine (HW.out _ _).mono ?_
  rintro e w1 ⟨rfl, rfl⟩
  rw [h7]
  go_wp2_with fail
  refine (HW.out _ _).mono ?_
  rintro e w1 ⟨rfl, rfl⟩
  rw [h8]
  go_wp2_with fail
  refine (HW.out _ _).mono ?_
  rintro e w1 ⟨rfl, rfl⟩
  rw [h9]
  go_wp2_with fail
  refine (HW.out _ _).mono ?_
  rintro e w1 ⟨rfl, rfl⟩
  rw [h10]
  go_wp2_with fail
  refine (HV.out _ _).mono ?_
  rintro e w1 ⟨rfl, rfl⟩
  rw [h11]
  go_wp2_with fail
  refine (HR1.out _ _).mono ?_
  rintro e w1 ⟨rfl, rfl⟩
  rw [h12]
  go_wp2_with fail
  refine (HR1.out _ _).mono ?_
  rintro e w1 ⟨rfl, rfl⟩
  rw [h13]
  go_wp2_with fail
  go_ret
  exact ⟨by rw [HF.out]; rfl, bb⟩
 ·go_enter Tryz.func93, Tryz.ntmps93
  go_wp2_with fail
  refine (HW.out _ _).mono ?_
  rintro e w1 ⟨rfl, rfl⟩
  rw [h7]
  go_wp2_with fail
  refine (HW.out _ _).mono ?_
  rintro e w1 ⟨rfl, rfl⟩
  rw [h8]
  go_wp2_with fail
  refine (HW.out _ _).mono ?_
  rintro e w1 ⟨rfl, rfl⟩
  rw [h9]
  go_wp2_with fail
  refine (HW.out _ _).mono ?_
  rintro e w1 ⟨rfl, rfl⟩
  rw [h10]
  go_wp2_with fail
  refine (HV.out _ _).mono ?_
  rintro e w1 ⟨rfl, rfl⟩
  rw [h11]
  go_wp2_with fail
  refine (HR1.out _ _).mono ?_
  rintro e w1 ⟨rfl, rfl⟩
  rw [h12]
  go_wp2_with fail
  refine (HR1.out _ _).mono ?_
  rintro e w1 ⟨rfl, rfl⟩
  rw [h13]
  go_wp2_with fail
  generalize w.alloc (.cells #[.int .i64 (l).id, .int .i64 (l).ac, .int .i64 (l).st, .int .i64 (l).pp, .int .i64 (l).pi, .int .i64 (l).fee, .int .i64 (l).pen, .int .i64 (l).chg, .int .i64 (l).prov, .int .i64 (l).loss, .int .i64 (l).rcv, .int .i64 ((l).tm).me, .int .i64 ((l).tm).pr, .int .i64 ((l).tm).ppm, .int .i64 ((l).tm).stt, .int .i64 ((l).tm).ev, .int .i64 ((l).tm).ct, .int .i64 ((l).tm).ba, .int .i64 ((l).tm).mo, .int .i64 ((l).tm).pen, .int .i64 ((l).tm).fe, .string ((l).tm).cal, .string ((l).tm).cur, .slice da (l).ds.length dk, .slice ca (l).cs.length ck] 27) = wb at *
  go_loopg [3] l.ds.length (RGR da dk w l.ds)
  case atStart => exact ⟨0, by omega, rfl, fun j hj => by omega, bb, c23⟩
  case round =>
   clear c23 bb
   obtain ⟨k, hk, rfl, hall, hbr, c23⟩ := hrel
   have HA := Lib.hid hall
   have hz := hbr.size
   clear hall
   by_cases hlt : k < l.ds.length
   ·obtain ⟨b, off, rfl, hc⟩ := HD.out.2 (by omega)
    obtain ⟨c0, c1, c2, c3⟩ := hc k hlt
    replace c0 := cell_later hbr c0
    replace c1 := cell_later hbr c1
    replace c2 := cell_later hbr c2
    replace c3 := cell_later hbr c3
    have HBAD := Lib.hid (fun (hv : dueB l.ds[k]! = false) => (show r = false by
     rw [HR.out]
     exact rg_bad fun hh => by
      have hh := (rg_no hh).2.2.2.2.2.2.2.2.2.2.2.2.2.2.2.2.2
      have := List.all_eq_true.1 hh l.ds[k] (List.getElem_mem hlt)
      rw [getElem!_pos l.ds k hlt, this] at hv
      cases hv))
    have hblt := World.block_lt_of_cell? _ _ c23
    have hbr2 : Below w.heap.size w (wr.alloc (.cells #[.int .i64 l.ds[k]!.no, .int .i64 l.ds[k]!.day, .int .i64 l.ds[k]!.pr, .int .i64 l.ds[k]!.it] 53)) := hbr.alloc hz _
    have c23' : (wr.alloc (.cells #[.int .i64 l.ds[k]!.no, .int .i64 l.ds[k]!.day, .int .i64 l.ds[k]!.pr, .int .i64 l.ds[k]!.it] 53)).cell? ⟨w.heap.size, 23, none⟩ = some (.slice (some ⟨b, off, none⟩) l.ds.length dk) := cell_later ((Below.refl _ _).alloc (Nat.le_refl _) _) c23
    have HNX := Lib.hid (fun (hv : dueB l.ds[k]! = true) (j : Nat) (hj : j < k + 1) => (show dueB l.ds[j]! = true by
     by_cases e : j = k
     ·subst e; exact hv
     ·exact HA.out j (by omega)))
    clear hc
    generalize l.ds[k]! = d at *
    have HC23 := Lib.hid c23'
    clear c23'
    cases h1 : dayB d.day
    ·have HF := Lib.hid (HBAD.out (by unfold dueB; rw [h1]; rfl))
     have HV1 := Lib.hid h1
     clear h1
     go_wp2_with fail
     refine (HV.out _ _).mono ?_
     rintro e w1 ⟨rfl, rfl⟩
     rw [HV1.out]
     go_wp2_with fail
     go_ret
     exact ⟨by rw [HF.out]; rfl, hbr2⟩
    ·cases h2 : amt d.pr
     ·have HF := Lib.hid (HBAD.out (by unfold dueB; rw [h1, h2]; rfl))
      have HV1 := Lib.hid h1
      have HV2 := Lib.hid h2
      clear h1 h2
      go_wp2_with fail
      refine (HV.out _ _).mono ?_
      rintro e w1 ⟨rfl, rfl⟩
      rw [HV1.out]
      go_wp2_with fail
      refine (HW.out _ _).mono ?_
      rintro e w1 ⟨rfl, rfl⟩
      rw [HV2.out]
      go_wp2_with fail
      go_ret
      exact ⟨by rw [HF.out]; rfl, hbr2⟩
     ·cases h3 : amt d.it
      ·have HF := Lib.hid (HBAD.out (by unfold dueB; rw [h1, h2, h3]; rfl))
       have HV1 := Lib.hid h1
       have HV2 := Lib.hid h2
       have HV3 := Lib.hid h3
       clear h1 h2 h3
       go_wp2_with fail
       refine (HV.out _ _).mono ?_
       rintro e w1 ⟨rfl, rfl⟩
       rw [HV1.out]
       go_wp2_with fail
       refine (HW.out _ _).mono ?_
       rintro e w1 ⟨rfl, rfl⟩
       rw [HV2.out]
       go_wp2_with fail
       refine (HW.out _ _).mono ?_
       rintro e w1 ⟨rfl, rfl⟩
       rw [HV3.out]
       go_wp2_with fail
       go_ret
       exact ⟨by rw [HF.out]; rfl, hbr2⟩
      ·have HG := Lib.hid (HNX.out (by unfold dueB; rw [h1, h2, h3]; rfl))
       have HV1 := Lib.hid h1
       have HV2 := Lib.hid h2
       have HV3 := Lib.hid h3
       clear h1 h2 h3
       go_wp2_with fail
       refine (HV.out _ _).mono ?_
       rintro e w1 ⟨rfl, rfl⟩
       rw [HV1.out]
       go_wp2_with fail
       refine (HW.out _ _).mono ?_
       rintro e w1 ⟨rfl, rfl⟩
       rw [HV2.out]
       go_wp2_with fail
       refine (HW.out _ _).mono ?_
       rintro e w1 ⟨rfl, rfl⟩
       rw [HV3.out]
       go_wp2_with fail
       go_roundg (gk - 1)
       case measure => omega
       case rel => exact ⟨k + 1, by omega, by go_num, HG.out, hbr2, HC23.out⟩
   ·have HE := Lib.hid (show r = true by
     rw [HR.out]
     refine rg_yes ⟨h0, h1, h2, h3, h4, h5, h6, h11, h12, h13, h14, h15, h16, h7, h8, h9, h10, List.all_eq_true.2 fun x hx => ?_⟩
     obtain ⟨j, hj, rfl⟩ := List.mem_iff_getElem.1 hx
     have := HA.out j (by omega)
     rwa [getElem!_pos l.ds j hj] at this)
    go_wp2_with fail
    go_ret
    exact ⟨by rw [HE.out]; rfl, hbr⟩
end Go.Proofs.YtaanicginfjgdaaGreatDoor.Ln
