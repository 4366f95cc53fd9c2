/-
  slices.IndexFunc and ContainsFunc at installments, whatever the predicate; numbers of package loan.
-/
import Derived.Test.YtaibocobeibobaaLn2
import Derived.ProofKit
import Derived.Shelf.Abstract
namespace Go.Proofs.Ytaibocobeibobaa.Ln
open Go.RowKit
open Go.Proofs.Ytaibocobeibobaa

/-- An installment as a value. -/
def dv (d : Du) : Value := .agg #[.int .i64 d.no, .int .i64 d.day, .int .i64 d.pr, .int .i64 d.it]
/-- What IndexFunc answers. -/
def Idx {α : Type} [Inhabited α] (p : α → Bool) (l : List α) (r : Int) : Prop := (r = -1 ∧ ∀ j, j < l.length → p l[j]! = false) ∨ ∃ k : Nat, k < l.length ∧ r = k ∧ p l[k]! = true ∧ ∀ j, j < k → p l[j]! = false
/-- A predicate that is called answers p, in every later world. -/
def Pred (g : Nat) (lb : Array Value) (p : Du → Bool) (w : World) : Prop := ∀ (d : Du) (W : World), Below w.heap.size w W → Calls Try.prog g (#[dv d] ++ lb) W fun e w' => e = .returned (.bool (p d)) ∧ Below W.heap.size W w'
/-- Where IndexFunc stands. -/
def XR (w : World) (p : Du → Bool) (ds : List Du) (g : Nat) (s8 : Value) (W : World) : Prop := ∃ k : Nat, k + g = ds.length ∧ s8 = .int .i64 k ∧ (∀ j, j < k → p ds[j]! = false) ∧ Below w.heap.size w W
set_option maxHeartbeats 2000000 in
theorem ixd_any (g : Nat) (lb : Array Value) (p : Du → Bool) (a : Option Addr) (cap : Nat) (ds : List Du) (w : World) (h : DuesIn w a ds) (eg : ∀ args w, (callFunc g args).run Try.prog w = .ok (.enter g args) w) (hp : Pred g lb p w) :
    Calls Try.prog 51 #[.slice a ds.length cap, .func (.func g) #[] lb] w fun e w' => ∃ r, e = .returned (.int .i64 r) ∧ Idx p ds r ∧ Below w.heap.size w w' := by
  have H := Lib.hid h
  have HP := Lib.hid hp
  have hn := h.1
  clear h hp
  go_enter Try.func51, Try.ntmps51
  go_wp2_with fail
  go_loopg [8] ds.length (XR w p ds)
  case atStart => exact ⟨0, by omega, rfl, fun j hj => by omega, Below.refl _ _⟩
  case round =>
    obtain ⟨k, hk, rfl, hall, hbr⟩ := hrel
    have HA := Lib.hid hall
    clear hall
    by_cases hlt : k < ds.length
    · obtain ⟨b, off, rfl, hc⟩ := H.out.2 (by omega)
      obtain ⟨c0, c1, c2, c3⟩ := hc k hlt
      replace c0 := cell_later hbr c0
      replace c1 := cell_later hbr c1
      replace c2 := cell_later hbr c2
      replace c3 := cell_later hbr c3
      have hcall := HP.out ds[k]! wr hbr
      unfold dv at hcall
      generalize hd : ds[k]! = d at *
      have HD := Lib.hid hd
      clear hc hd
      cases hv : p d
      · rw [hv] at hcall
        have HV := Lib.hid hv
        clear hv
        go_wp2_with fail
        refine hcall.mono ?_
        rintro e w1 ⟨rfl, hb⟩
        go_wp2_with fail
        go_roundg (gk - 1)
        case measure => omega
        case rel => exact ⟨k + 1, by omega, by go_num, fun j hj => by
          by_cases e : j = k
          · subst e; rw [HD.out]; exact HV.out
          · exact HA.out j (by omega), bl2 hb hbr⟩
      · rw [hv] at hcall
        have HV := Lib.hid hv
        clear hv
        go_wp2_with fail
        refine hcall.mono ?_
        rintro e w1 ⟨rfl, hb⟩
        go_wp2_with fail
        go_ret
        exact ⟨k, rfl, .inr ⟨k, hlt, rfl, by rw [HD.out]; exact HV.out, HA.out⟩, bl2 hb hbr⟩
    · go_wp2_with fail
      go_ret
      exact ⟨-1, rfl, .inl ⟨rfl, fun j hj => HA.out j (by omega)⟩, hbr⟩
theorem any_idx {p : Du → Bool} {ds : List Du} {r : Int} (h : Idx p ds r) : (0 ≤ r ∧ ds.any p = true) ∨ (r < 0 ∧ ds.any p = false) := by
  rcases h with ⟨rfl, h⟩ | ⟨k, hk, rfl, h1, _⟩
  · refine .inr ⟨by omega, ?_⟩
    rw [List.any_eq_false]
    intro x hx
    obtain ⟨j, hj, rfl⟩ := List.mem_iff_getElem.1 hx
    have := h j hj
    rw [getElem!_pos ds j hj] at this
    simp [this]
  · refine .inl ⟨by omega, List.any_eq_true.2 ⟨ds[k], List.getElem_mem hk, ?_⟩⟩
    rw [getElem!_pos ds k hk] at h1
    exact h1
theorem contd_any (g : Nat) (lb : Array Value) (p : Du → Bool) (a : Option Addr) (cap : Nat) (ds : List Du) (w : World) (h : DuesIn w a ds) (eg : ∀ args w, (callFunc g args).run Try.prog w = .ok (.enter g args) w) (hp : Pred g lb p w) :
    Calls Try.prog 44 #[.slice a ds.length cap, .func (.func g) #[] lb] w fun e w' => e = .returned (.bool (ds.any p)) ∧ Below w.heap.size w w' := by
  have HC := Lib.hid (ixd_any g lb p a cap ds w h eg hp)
  clear h hp
  go_enter Try.func44, Try.ntmps44
  go_wp2_with fail
  refine (HC.out).mono ?_
  rintro e w1 ⟨r, rfl, hr, hb⟩
  rcases any_idx hr with ⟨h1, h2⟩ | ⟨h1, h2⟩
  · have H2 := Lib.hid h2
    clear h2 hr
    go_wp2_with fail
    go_ret
    exact ⟨by rw [H2.out]; first | rfl | (simp; omega), hb⟩
  · have H2 := Lib.hid h2
    clear h2 hr
    go_wp2_with fail
    go_ret
    exact ⟨by rw [H2.out]; first | rfl | (simp; omega), hb⟩
/-- The closure of numbers. -/
theorem nums1_any (w : World) : Pred 45 #[] (fun d => !dueB d) w := by
  intro d W _
  have H1 := Lib.hid (fun (n : Int) (W : World) => day_any n W)
  have H2 := Lib.hid (fun (n : Int) (W : World) => amount_any n W)
  show Calls Try.prog 45 #[.agg #[.int .i64 d.no, .int .i64 d.day, .int .i64 d.pr, .int .i64 d.it]] W _
  cases h1 : dayB d.day
  · have HV := Lib.hid h1
    clear h1
    go_enter Try.func45, Try.ntmps45
    go_wp2_with fail
    refine (H1.out _ _).mono ?_
    rintro e w1 ⟨rfl, rfl⟩
    rw [HV.out]
    go_wp2_with fail
    go_ret
    exact ⟨by show _ = Ending.returned (Value.bool !(dayB d.day && amt d.pr && amt d.it)); rw [HV.out]; rfl, (Below.refl _ _).alloc (Nat.le_refl _) _⟩
  · cases h2 : amt d.pr
    · have HV := Lib.hid h1
      have HW := Lib.hid h2
      clear h1 h2
      go_enter Try.func45, Try.ntmps45
      go_wp2_with fail
      refine (H1.out _ _).mono ?_
      rintro e w1 ⟨rfl, rfl⟩
      rw [HV.out]
      go_wp2_with fail
      refine (H2.out _ _).mono ?_
      rintro e w1 ⟨rfl, rfl⟩
      rw [HW.out]
      go_wp2_with fail
      go_ret
      exact ⟨by show _ = Ending.returned (Value.bool !(dayB d.day && amt d.pr && amt d.it)); rw [HV.out, HW.out]; rfl, (Below.refl _ _).alloc (Nat.le_refl _) _⟩
    · have HV := Lib.hid h1
      have HW := Lib.hid h2
      clear h1 h2
      go_enter Try.func45, Try.ntmps45
      go_wp2_with fail
      refine (H1.out _ _).mono ?_
      rintro e w1 ⟨rfl, rfl⟩
      rw [HV.out]
      go_wp2_with fail
      refine (H2.out _ _).mono ?_
      rintro e w1 ⟨rfl, rfl⟩
      rw [HW.out]
      go_wp2_with fail
      refine (H2.out _ _).mono ?_
      rintro e w1 ⟨rfl, rfl⟩
      generalize hv : amt d.it = v
      have HX := Lib.hid hv
      clear hv
      go_wp2_with fail
      go_ret
      exact ⟨by show _ = Ending.returned (Value.bool !(dayB d.day && amt d.pr && amt d.it)); rw [HV.out, HW.out, HX.out]; simp, (Below.refl _ _).alloc (Nat.le_refl _) _⟩

theorem rg_no {l : Lo} (h : rangedB l = true) : 1 ≤ l.id ∧ 1000 ≤ l.ac ∧ 1 ≤ l.st ∧ l.st ≤ 3 ∧ 0 ≤ l.pp ∧ 0 ≤ l.pi ∧ 0 ≤ l.rcv ∧ dayB l.chg = true ∧ rateB l.tm.pen = true ∧ rateB l.tm.fe = true ∧ 1 ≤ l.ds.length ∧ l.ds.length ≤ 240 ∧ l.cs.length ≤ 64 ∧ amt l.fee = true ∧ amt l.pen = true ∧ amt l.prov = true ∧ amt l.loss = true ∧ l.ds.all dueB = true := by
  simp only [rangedB, Bool.and_eq_true, decide_eq_true_eq] at h
  obtain ⟨⟨⟨⟨⟨⟨⟨⟨⟨⟨⟨⟨⟨⟨⟨⟨⟨a1, a2⟩, a3⟩, a4⟩, a5⟩, a6⟩, a7⟩, a8⟩, a9⟩, b1⟩, b2⟩, b3⟩, b4⟩, b5⟩, b6⟩, b7⟩, b8⟩, b9⟩ := h
  exact ⟨a1, a2, a3, a4, a5, a6, a7, a8, a9, b1, b2, b3, b4, b5, b6, b7, b8, b9⟩
theorem rg_yes {l : Lo} (h : 1 ≤ l.id ∧ 1000 ≤ l.ac ∧ 1 ≤ l.st ∧ l.st ≤ 3 ∧ 0 ≤ l.pp ∧ 0 ≤ l.pi ∧ 0 ≤ l.rcv ∧ dayB l.chg = true ∧ rateB l.tm.pen = true ∧ rateB l.tm.fe = true ∧ 1 ≤ l.ds.length ∧ l.ds.length ≤ 240 ∧ l.cs.length ≤ 64 ∧ amt l.fee = true ∧ amt l.pen = true ∧ amt l.prov = true ∧ amt l.loss = true ∧ l.ds.all dueB = true) : rangedB l = true := by
  obtain ⟨a1, a2, a3, a4, a5, a6, a7, a8, a9, b1, b2, b3, b4, b5, b6, b7, b8, b9⟩ := h
  simp only [rangedB, Bool.and_eq_true, decide_eq_true_eq]
  exact ⟨⟨⟨⟨⟨⟨⟨⟨⟨⟨⟨⟨⟨⟨⟨⟨⟨a1, a2⟩, a3⟩, a4⟩, a5⟩, a6⟩, a7⟩, a8⟩, a9⟩, b1⟩, b2⟩, b3⟩, b4⟩, b5⟩, b6⟩, b7⟩, b8⟩, b9⟩
theorem rg_bad {l : Lo} (h : ¬ (rangedB l = true)) : rangedB l = false := by cases hv : rangedB l <;> simp_all
/-- The four amounts of a loan, by their place. -/
def am4 (l : Lo) : List Int := [l.fee, l.pen, l.prov, l.loss]
theorem all_not {ds : List Du} : ds.any (fun d => !dueB d) = !ds.all dueB := by
  induction ds with
  | nil => rfl
  | cons d l ih => simp only [List.any_cons, List.all_cons, ih, Bool.not_and]
theorem ix4_0 (a b c d : Value) (W : World) : (Instr.index 71 (.agg #[a, b, c, d]) (.int .i64 0)).run Try.prog W = .ok a W := by
  simp [Instr.index, run_underlying Try.underlying71, asIntOf, go_sem]
theorem ix4_1 (a b c d : Value) (W : World) : (Instr.index 71 (.agg #[a, b, c, d]) (.int .i64 1)).run Try.prog W = .ok b W := by
  simp [Instr.index, run_underlying Try.underlying71, asIntOf, go_sem]
theorem ix4_2 (a b c d : Value) (W : World) : (Instr.index 71 (.agg #[a, b, c, d]) (.int .i64 2)).run Try.prog W = .ok c W := by
  simp [Instr.index, run_underlying Try.underlying71, asIntOf, go_sem]
theorem ix4_3 (a b c d : Value) (W : World) : (Instr.index 71 (.agg #[a, b, c, d]) (.int .i64 3)).run Try.prog W = .ok d W := by
  simp [Instr.index, run_underlying Try.underlying71, asIntOf, go_sem]
/-- Where the loop over the four amounts stands. -/
def NR (l : Lo) (W0 : World) (g : Nat) (s83 : Value) (W : World) : Prop := ∃ k : Nat, k + g = 4 ∧ s83 = .int .i64 k ∧ (∀ j, j < k → amt (am4 l)[j]! = true) ∧ W = W0
theorem rg_ways (l : Lo) : (l.id < 1) ∨ (1 ≤ l.id ∧ l.ac < 1000) ∨ (1 ≤ l.id ∧ 1000 ≤ l.ac ∧ l.st < 1) ∨ (1 ≤ l.id ∧ 1000 ≤ l.ac ∧ 1 ≤ l.st ∧ 3 < l.st) ∨ (1 ≤ l.id ∧ 1000 ≤ l.ac ∧ 1 ≤ l.st ∧ l.st ≤ 3 ∧ l.pp < 0) ∨ (1 ≤ l.id ∧ 1000 ≤ l.ac ∧ 1 ≤ l.st ∧ l.st ≤ 3 ∧ 0 ≤ l.pp ∧ l.pi < 0) ∨ (1 ≤ l.id ∧ 1000 ≤ l.ac ∧ 1 ≤ l.st ∧ l.st ≤ 3 ∧ 0 ≤ l.pp ∧ 0 ≤ l.pi ∧ l.rcv < 0) ∨ (1 ≤ l.id ∧ 1000 ≤ l.ac ∧ 1 ≤ l.st ∧ l.st ≤ 3 ∧ 0 ≤ l.pp ∧ 0 ≤ l.pi ∧ 0 ≤ l.rcv ∧ dayB l.chg = false) ∨ (1 ≤ l.id ∧ 1000 ≤ l.ac ∧ 1 ≤ l.st ∧ l.st ≤ 3 ∧ 0 ≤ l.pp ∧ 0 ≤ l.pi ∧ 0 ≤ l.rcv ∧ dayB l.chg = true ∧ rateB l.tm.pen = false) ∨ (1 ≤ l.id ∧ 1000 ≤ l.ac ∧ 1 ≤ l.st ∧ l.st ≤ 3 ∧ 0 ≤ l.pp ∧ 0 ≤ l.pi ∧ 0 ≤ l.rcv ∧ dayB l.chg = true ∧ rateB l.tm.pen = true ∧ rateB l.tm.fe = false) ∨ (1 ≤ l.id ∧ 1000 ≤ l.ac ∧ 1 ≤ l.st ∧ l.st ≤ 3 ∧ 0 ≤ l.pp ∧ 0 ≤ l.pi ∧ 0 ≤ l.rcv ∧ dayB l.chg = true ∧ rateB l.tm.pen = true ∧ rateB l.tm.fe = true ∧ l.ds.length < 1) ∨ (1 ≤ l.id ∧ 1000 ≤ l.ac ∧ 1 ≤ l.st ∧ l.st ≤ 3 ∧ 0 ≤ l.pp ∧ 0 ≤ l.pi ∧ 0 ≤ l.rcv ∧ dayB l.chg = true ∧ rateB l.tm.pen = true ∧ rateB l.tm.fe = true ∧ 1 ≤ l.ds.length ∧ 240 < l.ds.length) ∨ (1 ≤ l.id ∧ 1000 ≤ l.ac ∧ 1 ≤ l.st ∧ l.st ≤ 3 ∧ 0 ≤ l.pp ∧ 0 ≤ l.pi ∧ 0 ≤ l.rcv ∧ dayB l.chg = true ∧ rateB l.tm.pen = true ∧ rateB l.tm.fe = true ∧ 1 ≤ l.ds.length ∧ l.ds.length ≤ 240 ∧ 64 < l.cs.length) ∨ (1 ≤ l.id ∧ 1000 ≤ l.ac ∧ 1 ≤ l.st ∧ l.st ≤ 3 ∧ 0 ≤ l.pp ∧ 0 ≤ l.pi ∧ 0 ≤ l.rcv ∧ dayB l.chg = true ∧ rateB l.tm.pen = true ∧ rateB l.tm.fe = true ∧ 1 ≤ l.ds.length ∧ l.ds.length ≤ 240 ∧ l.cs.length ≤ 64) := by
  by_cases c0 : l.id < 1
  · exact .inl c0
  have n0 : 1 ≤ l.id := by omega
  by_cases c1 : l.ac < 1000
  · exact .inr (.inl ⟨n0, c1⟩)
  have n1 : 1000 ≤ l.ac := by omega
  by_cases c2 : l.st < 1
  · exact .inr (.inr (.inl ⟨n0, n1, c2⟩))
  have n2 : 1 ≤ l.st := by omega
  by_cases c3 : 3 < l.st
  · exact .inr (.inr (.inr (.inl ⟨n0, n1, n2, c3⟩)))
  have n3 : l.st ≤ 3 := by omega
  by_cases c4 : l.pp < 0
  · exact .inr (.inr (.inr (.inr (.inl ⟨n0, n1, n2, n3, c4⟩))))
  have n4 : 0 ≤ l.pp := by omega
  by_cases c5 : l.pi < 0
  · exact .inr (.inr (.inr (.inr (.inr (.inl ⟨n0, n1, n2, n3, n4, c5⟩)))))
  have n5 : 0 ≤ l.pi := by omega
  by_cases c6 : l.rcv < 0
  · exact .inr (.inr (.inr (.inr (.inr (.inr (.inl ⟨n0, n1, n2, n3, n4, n5, c6⟩))))))
  have n6 : 0 ≤ l.rcv := by omega
  by_cases c7 : dayB l.chg = false
  · exact .inr (.inr (.inr (.inr (.inr (.inr (.inr (.inl ⟨n0, n1, n2, n3, n4, n5, n6, c7⟩)))))))
  have n7 : dayB l.chg = true := by simpa using c7
  by_cases c8 : rateB l.tm.pen = false
  · exact .inr (.inr (.inr (.inr (.inr (.inr (.inr (.inr (.inl ⟨n0, n1, n2, n3, n4, n5, n6, n7, c8⟩))))))))
  have n8 : rateB l.tm.pen = true := by simpa using c8
  by_cases c9 : rateB l.tm.fe = false
  · exact .inr (.inr (.inr (.inr (.inr (.inr (.inr (.inr (.inr (.inl ⟨n0, n1, n2, n3, n4, n5, n6, n7, n8, c9⟩)))))))))
  have n9 : rateB l.tm.fe = true := by simpa using c9
  by_cases c10 : l.ds.length < 1
  · exact .inr (.inr (.inr (.inr (.inr (.inr (.inr (.inr (.inr (.inr (.inl ⟨n0, n1, n2, n3, n4, n5, n6, n7, n8, n9, c10⟩))))))))))
  have n10 : 1 ≤ l.ds.length := by omega
  by_cases c11 : 240 < l.ds.length
  · exact .inr (.inr (.inr (.inr (.inr (.inr (.inr (.inr (.inr (.inr (.inr (.inl ⟨n0, n1, n2, n3, n4, n5, n6, n7, n8, n9, n10, c11⟩)))))))))))
  have n11 : l.ds.length ≤ 240 := by omega
  by_cases c12 : 64 < l.cs.length
  · exact .inr (.inr (.inr (.inr (.inr (.inr (.inr (.inr (.inr (.inr (.inr (.inr (.inl ⟨n0, n1, n2, n3, n4, n5, n6, n7, n8, n9, n10, n11, c12⟩))))))))))))
  have n12 : l.cs.length ≤ 64 := by omega
  exact .inr (.inr (.inr (.inr (.inr (.inr (.inr (.inr (.inr (.inr (.inr (.inr (.inr (⟨n0, n1, n2, n3, n4, n5, n6, n7, n8, n9, n10, n11, n12⟩)))))))))))))
set_option maxHeartbeats 16000000 in
theorem nums_any (l : Lo) (da ca : Option Addr) (dk ck : Nat) (w : World) (h : DuesIn w da l.ds) :
    Calls Try.prog 21 #[(.agg #[.int .i64 (l).id, .int .i64 (l).ac, .int .i64 (l).st, .int .i64 (l).pp, .int .i64 (l).pi, .int .i64 (l).fee, .int .i64 (l).pen, .int .i64 (l).chg, .int .i64 (l).prov, .int .i64 (l).loss, .int .i64 (l).rcv, .int .i64 ((l).tm).me, .int .i64 ((l).tm).pr, .int .i64 ((l).tm).ppm, .int .i64 ((l).tm).stt, .int .i64 ((l).tm).ev, .int .i64 ((l).tm).ct, .int .i64 ((l).tm).ba, .int .i64 ((l).tm).mo, .int .i64 ((l).tm).pen, .int .i64 ((l).tm).fe, .string ((l).tm).cal, .string ((l).tm).cur, .slice da (l).ds.length dk, .slice ca (l).cs.length ck])] w fun e w' => e = .returned (.bool (rangedB l)) ∧ Below w.heap.size w w' := by
  have HC := Lib.hid (fun (W : World) (hW : Below w.heap.size w W) => contd_any 45 #[] (fun d => !dueB d) da dk l.ds W (h.later hW) (enters_of Try.func45 (by kernel_rfl) rfl) (nums1_any W))
  have H1 := Lib.hid (fun (n : Int) (W : World) => day_any n W)
  have H2 := Lib.hid (fun (n : Int) (W : World) => amount_any n W)
  have H3 := Lib.hid (fun (n : Int) (W : World) => rate_any n W)
  have i0 := ix4_0 (.int .i64 l.fee) (.int .i64 l.pen) (.int .i64 l.prov) (.int .i64 l.loss)
  have i1 := ix4_1 (.int .i64 l.fee) (.int .i64 l.pen) (.int .i64 l.prov) (.int .i64 l.loss)
  have i2 := ix4_2 (.int .i64 l.fee) (.int .i64 l.pen) (.int .i64 l.prov) (.int .i64 l.loss)
  have i3 := ix4_3 (.int .i64 l.fee) (.int .i64 l.pen) (.int .i64 l.prov) (.int .i64 l.loss)
  have b0 := Below.refl w.heap.size w
  have bb : Below w.heap.size w (w.alloc (.cells #[.int .i64 (l).id, .int .i64 (l).ac, .int .i64 (l).st, .int .i64 (l).pp, .int .i64 (l).pi, .int .i64 (l).fee, .int .i64 (l).pen, .int .i64 (l).chg, .int .i64 (l).prov, .int .i64 (l).loss, .int .i64 (l).rcv, .int .i64 ((l).tm).me, .int .i64 ((l).tm).pr, .int .i64 ((l).tm).ppm, .int .i64 ((l).tm).stt, .int .i64 ((l).tm).ev, .int .i64 ((l).tm).ct, .int .i64 ((l).tm).ba, .int .i64 ((l).tm).mo, .int .i64 ((l).tm).pen, .int .i64 ((l).tm).fe, .string ((l).tm).cal, .string ((l).tm).cur, .slice da (l).ds.length dk, .slice ca (l).cs.length ck] 27)) := b0.alloc (Nat.le_refl _) _
  clear h
  obtain ⟨r, hr⟩ : ∃ r, r = rangedB l := ⟨_, rfl⟩
  rw [← hr]
  have HR := Lib.hid hr
  clear hr
  rcases rg_ways l with ⟨h0⟩ | ⟨h0, h1⟩ | ⟨h0, h1, h2⟩ | ⟨h0, h1, h2, h3⟩ | ⟨h0, h1, h2, h3, h4⟩ | ⟨h0, h1, h2, h3, h4, h5⟩ | ⟨h0, h1, h2, h3, h4, h5, h6⟩ | ⟨h0, h1, h2, h3, h4, h5, h6, h7⟩ | ⟨h0, h1, h2, h3, h4, h5, h6, h7, h8⟩ | ⟨h0, h1, h2, h3, h4, h5, h6, h7, h8, h9⟩ | ⟨h0, h1, h2, h3, h4, h5, h6, h7, h8, h9, h10⟩ | ⟨h0, h1, h2, h3, h4, h5, h6, h7, h8, h9, h10, h11⟩ | ⟨h0, h1, h2, h3, h4, h5, h6, h7, h8, h9, h10, h11, h12⟩ | ⟨h0, h1, h2, h3, h4, h5, h6, h7, h8, h9, h10, h11, h12⟩
  · have HF := Lib.hid (show r = false by rw [HR.out]; exact rg_bad fun hh => by have hh := rg_no hh; first | omega | simp [*] at hh)
    go_enter Try.func21, Try.ntmps21
    go_wp2_with fail
    go_ret
    exact ⟨by rw [HF.out]; rfl, bb⟩
  · have HF := Lib.hid (show r = false by rw [HR.out]; exact rg_bad fun hh => by have hh := rg_no hh; first | omega | simp [*] at hh)
    go_enter Try.func21, Try.ntmps21
    go_wp2_with fail
    go_ret
    exact ⟨by rw [HF.out]; rfl, bb⟩
  · have HF := Lib.hid (show r = false by rw [HR.out]; exact rg_bad fun hh => by have hh := rg_no hh; first | omega | simp [*] at hh)
    go_enter Try.func21, Try.ntmps21
    go_wp2_with fail
    go_ret
    exact ⟨by rw [HF.out]; rfl, bb⟩
  · have HF := Lib.hid (show r = false by rw [HR.out]; exact rg_bad fun hh => by have hh := rg_no hh; first | omega | simp [*] at hh)
    go_enter Try.func21, Try.ntmps21
    go_wp2_with fail
    go_ret
    exact ⟨by rw [HF.out]; rfl, bb⟩
  · have HF := Lib.hid (show r = false by rw [HR.out]; exact rg_bad fun hh => by have hh := rg_no hh; first | omega | simp [*] at hh)
    go_enter Try.func21, Try.ntmps21
    go_wp2_with fail
    go_ret
    exact ⟨by rw [HF.out]; rfl, bb⟩
  · have HF := Lib.hid (show r = false by rw [HR.out]; exact rg_bad fun hh => by have hh := rg_no hh; first | omega | simp [*] at hh)
    go_enter Try.func21, Try.ntmps21
    go_wp2_with fail
    go_ret
    exact ⟨by rw [HF.out]; rfl, bb⟩
  · have HF := Lib.hid (show r = false by rw [HR.out]; exact rg_bad fun hh => by have hh := rg_no hh; first | omega | simp [*] at hh)
    go_enter Try.func21, Try.ntmps21
    go_wp2_with fail
    go_ret
    exact ⟨by rw [HF.out]; rfl, bb⟩
  · have HF := Lib.hid (show r = false by rw [HR.out]; exact rg_bad fun hh => by have hh := rg_no hh; first | omega | simp [*] at hh)
    go_enter Try.func21, Try.ntmps21
    go_wp2_with fail
    refine (H1.out _ _).mono ?_
    rintro e w1 ⟨rfl, rfl⟩
    rw [h7]
    go_wp2_with fail
    go_ret
    exact ⟨by rw [HF.out]; rfl, bb⟩
  · have HF := Lib.hid (show r = false by rw [HR.out]; exact rg_bad fun hh => by have hh := rg_no hh; first | omega | simp [*] at hh)
    go_enter Try.func21, Try.ntmps21
    go_wp2_with fail
    refine (H1.out _ _).mono ?_
    rintro e w1 ⟨rfl, rfl⟩
    rw [h7]
    go_wp2_with fail
    refine (H3.out _ _).mono ?_
    rintro e w1 ⟨rfl, rfl⟩
    rw [h8]
    go_wp2_with fail
    go_ret
    exact ⟨by rw [HF.out]; rfl, bb⟩
  · have HF := Lib.hid (show r = false by rw [HR.out]; exact rg_bad fun hh => by have hh := rg_no hh; first | omega | simp [*] at hh)
    go_enter Try.func21, Try.ntmps21
    go_wp2_with fail
    refine (H1.out _ _).mono ?_
    rintro e w1 ⟨rfl, rfl⟩
    rw [h7]
    go_wp2_with fail
    refine (H3.out _ _).mono ?_
    rintro e w1 ⟨rfl, rfl⟩
    rw [h8]
    go_wp2_with fail
    refine (H3.out _ _).mono ?_
    rintro e w1 ⟨rfl, rfl⟩
    rw [h9]
    go_wp2_with fail
    go_ret
    exact ⟨by rw [HF.out]; rfl, bb⟩
  · have HF := Lib.hid (show r = false by rw [HR.out]; exact rg_bad fun hh => by have hh := rg_no hh; first | omega | simp [*] at hh)
    go_enter Try.func21, Try.ntmps21
    go_wp2_with fail
    refine (H1.out _ _).mono ?_
    rintro e w1 ⟨rfl, rfl⟩
    rw [h7]
    go_wp2_with fail
    refine (H3.out _ _).mono ?_
    rintro e w1 ⟨rfl, rfl⟩
    rw [h8]
    go_wp2_with fail
    refine (H3.out _ _).mono ?_
    rintro e w1 ⟨rfl, rfl⟩
    rw [h9]
    go_wp2_with fail
    go_ret
    exact ⟨by rw [HF.out]; rfl, bb⟩
  · have HF := Lib.hid (show r = false by rw [HR.out]; exact rg_bad fun hh => by have hh := rg_no hh; first | omega | simp [*] at hh)
    go_enter Try.func21, Try.ntmps21
    go_wp2_with fail
    refine (H1.out _ _).mono ?_
    rintro e w1 ⟨rfl, rfl⟩
    rw [h7]
    go_wp2_with fail
    refine (H3.out _ _).mono ?_
    rintro e w1 ⟨rfl, rfl⟩
    rw [h8]
    go_wp2_with fail
    refine (H3.out _ _).mono ?_
    rintro e w1 ⟨rfl, rfl⟩
    rw [h9]
    go_wp2_with fail
    go_ret
    exact ⟨by rw [HF.out]; rfl, bb⟩
  · have HF := Lib.hid (show r = false by rw [HR.out]; exact rg_bad fun hh => by have hh := rg_no hh; first | omega | simp [*] at hh)
    go_enter Try.func21, Try.ntmps21
    go_wp2_with fail
    refine (H1.out _ _).mono ?_
    rintro e w1 ⟨rfl, rfl⟩
    rw [h7]
    go_wp2_with fail
    refine (H3.out _ _).mono ?_
    rintro e w1 ⟨rfl, rfl⟩
    rw [h8]
    go_wp2_with fail
    refine (H3.out _ _).mono ?_
    rintro e w1 ⟨rfl, rfl⟩
    rw [h9]
    go_wp2_with fail
    go_ret
    exact ⟨by rw [HF.out]; rfl, bb⟩
  · go_enter Try.func21, Try.ntmps21
    go_wp2_with fail
    refine (H1.out _ _).mono ?_
    rintro e w1 ⟨rfl, rfl⟩
    rw [h7]
    go_wp2_with fail
    refine (H3.out _ _).mono ?_
    rintro e w1 ⟨rfl, rfl⟩
    rw [h8]
    go_wp2_with fail
    refine (H3.out _ _).mono ?_
    rintro e w1 ⟨rfl, rfl⟩
    rw [h9]
    go_wp2_with fail
    go_loopg [83] 4 (NR l (w.alloc (.cells #[.int .i64 (l).id, .int .i64 (l).ac, .int .i64 (l).st, .int .i64 (l).pp, .int .i64 (l).pi, .int .i64 (l).fee, .int .i64 (l).pen, .int .i64 (l).chg, .int .i64 (l).prov, .int .i64 (l).loss, .int .i64 (l).rcv, .int .i64 ((l).tm).me, .int .i64 ((l).tm).pr, .int .i64 ((l).tm).ppm, .int .i64 ((l).tm).stt, .int .i64 ((l).tm).ev, .int .i64 ((l).tm).ct, .int .i64 ((l).tm).ba, .int .i64 ((l).tm).mo, .int .i64 ((l).tm).pen, .int .i64 ((l).tm).fe, .string ((l).tm).cal, .string ((l).tm).cur, .slice da (l).ds.length dk, .slice ca (l).cs.length ck] 27)))
    case atStart => exact ⟨0, by omega, rfl, fun j hj => by omega, rfl⟩
    case round =>
      obtain ⟨k, hk, rfl, hall, rfl⟩ := hrel
      have HA := Lib.hid hall
      clear hall
      have hk5 : k = 0 ∨ k = 1 ∨ k = 2 ∨ k = 3 ∨ k = 4 := by omega
      rcases hk5 with rfl | rfl | rfl | rfl | rfl
      · cases hv : amt l.fee
        · have HF := Lib.hid (show r = false by rw [HR.out]; exact rg_bad fun hh => by have hh := rg_no hh; simp [hv] at hh)
          have HV := Lib.hid hv
          clear hv
          go_wp2_with fail
          refine (H2.out _ _).mono ?_
          rintro e w1 ⟨rfl, rfl⟩
          rw [HV.out]
          go_wp2_with fail
          go_ret
          exact ⟨by rw [HF.out]; rfl, bb⟩
        · have HV := Lib.hid hv
          clear hv
          go_wp2_with fail
          refine (H2.out _ _).mono ?_
          rintro e w1 ⟨rfl, rfl⟩
          rw [HV.out]
          go_wp2_with fail
          go_roundg (gk - 1)
          case measure => omega
          case rel => exact ⟨1, by omega, by go_num, fun j hj => by
            by_cases e : j = 0
            · subst e; exact HV.out
            · exact HA.out j (by omega), rfl⟩
      · cases hv : amt l.pen
        · have HF := Lib.hid (show r = false by rw [HR.out]; exact rg_bad fun hh => by have hh := rg_no hh; simp [hv] at hh)
          have HV := Lib.hid hv
          clear hv
          go_wp2_with fail
          refine (H2.out _ _).mono ?_
          rintro e w1 ⟨rfl, rfl⟩
          rw [HV.out]
          go_wp2_with fail
          go_ret
          exact ⟨by rw [HF.out]; rfl, bb⟩
        · have HV := Lib.hid hv
          clear hv
          go_wp2_with fail
          refine (H2.out _ _).mono ?_
          rintro e w1 ⟨rfl, rfl⟩
          rw [HV.out]
          go_wp2_with fail
          go_roundg (gk - 1)
          case measure => omega
          case rel => exact ⟨2, by omega, by go_num, fun j hj => by
            by_cases e : j = 1
            · subst e; exact HV.out
            · exact HA.out j (by omega), rfl⟩
      · cases hv : amt l.prov
        · have HF := Lib.hid (show r = false by rw [HR.out]; exact rg_bad fun hh => by have hh := rg_no hh; simp [hv] at hh)
          have HV := Lib.hid hv
          clear hv
          go_wp2_with fail
          refine (H2.out _ _).mono ?_
          rintro e w1 ⟨rfl, rfl⟩
          rw [HV.out]
          go_wp2_with fail
          go_ret
          exact ⟨by rw [HF.out]; rfl, bb⟩
        · have HV := Lib.hid hv
          clear hv
          go_wp2_with fail
          refine (H2.out _ _).mono ?_
          rintro e w1 ⟨rfl, rfl⟩
          rw [HV.out]
          go_wp2_with fail
          go_roundg (gk - 1)
          case measure => omega
          case rel => exact ⟨3, by omega, by go_num, fun j hj => by
            by_cases e : j = 2
            · subst e; exact HV.out
            · exact HA.out j (by omega), rfl⟩
      · cases hv : amt l.loss
        · have HF := Lib.hid (show r = false by rw [HR.out]; exact rg_bad fun hh => by have hh := rg_no hh; simp [hv] at hh)
          have HV := Lib.hid hv
          clear hv
          go_wp2_with fail
          refine (H2.out _ _).mono ?_
          rintro e w1 ⟨rfl, rfl⟩
          rw [HV.out]
          go_wp2_with fail
          go_ret
          exact ⟨by rw [HF.out]; rfl, bb⟩
        · have HV := Lib.hid hv
          clear hv
          go_wp2_with fail
          refine (H2.out _ _).mono ?_
          rintro e w1 ⟨rfl, rfl⟩
          rw [HV.out]
          go_wp2_with fail
          go_roundg (gk - 1)
          case measure => omega
          case rel => exact ⟨4, by omega, by go_num, fun j hj => by
            by_cases e : j = 3
            · subst e; exact HV.out
            · exact HA.out j (by omega), rfl⟩
      · go_wp2_with fail
        refine (HC.out _ bb).mono ?_
        rintro e w1 ⟨rfl, hb⟩
        have HE := Lib.hid (show r = l.ds.all dueB by
          rw [HR.out]
          cases hv : l.ds.all dueB
          · exact rg_bad fun hh => by have hh := rg_no hh; simp [hv] at hh
          · exact rg_yes ⟨h0, h1, h2, h3, h4, h5, h6, h7, h8, h9, h10, h11, h12, HA.out 0 (by omega), HA.out 1 (by omega), HA.out 2 (by omega), HA.out 3 (by omega), hv⟩)
        rw [all_not]
        generalize l.ds.all dueB = v at *
        go_wp2_with fail
        go_ret
        exact ⟨by rw [HE.out]; simp, bl2 hb bb⟩
end Go.Proofs.Ytaibocobeibobaa.Ln
