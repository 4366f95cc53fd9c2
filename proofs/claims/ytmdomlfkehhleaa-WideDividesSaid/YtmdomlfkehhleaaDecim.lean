/-
  The contract of the reference's Decimal.
-/
import Derived.Test.YtmdomlfkehhleaaRText
namespace Go.Proofs.Ytmdomlfkehhleaa.Wt
open Go.RowKit
open Go.Proofs.Ytmdomlfkehhleaa
open Go.Proofs.Ytmdomlfkehhleaa.Wm
open Go.Proofs.Ytmdomlfkehhleaa.Tx

theorem numB_bad {l : List UInt8} {i : Nat} (h : i < l.length) (hb : isDig l[i] = false) : numB l = false := by
  have : l.all isDig = false := by
    rw [Bool.eq_false_iff]
    intro ha
    have := List.all_eq_true.1 ha l[i] (List.getElem_mem h)
    rw [hb] at this; cases this
  unfold numB; rw [this]; rfl
theorem isDig_iff (c : UInt8) : isDig c = true ↔ 48 ≤ (c.toNat : Int) ∧ (c.toNat : Int) ≤ 57 := by unfold isDig; simp; omega
theorem take_all {l : List UInt8} {i : Nat} (h : i < l.length) (h1 : (l.take i).all isDig = true) (h2 : isDig l[i] = true) : (l.take (i + 1)).all isDig = true := by
  rw [List.take_add_one, List.all_append, h1]
  simp [h, h2]

theorem bs_list (l : List UInt8) : (bs l).toList = l := by rw [ByteArray.toList_eq]; simp [bs]
theorem c45 {c : UInt8} : (c.toNat : Int) = 45 ↔ c = 45 := ⟨fun h => UInt8.toNat_inj.1 (by have : (45 : UInt8).toNat = 45 := rfl; omega), fun h => by subst h; rfl⟩
theorem c48 {c : UInt8} : (c.toNat : Int) = 48 ↔ c = 48 := ⟨fun h => UInt8.toNat_inj.1 (by have : (48 : UInt8).toNat = 48 := rfl; omega), fun h => by subst h; rfl⟩
/-- The loop's own relation. -/
def DecLoop (l : List UInt8) (i : Value) : Prop := ∃ k : Nat, k ≤ l.length ∧ i = .int .i64 k ∧ (l.take k).all isDig = true

section
attribute [local go_sem] bs_get bs_list
set_option maxHeartbeats 1000000 in
theorem decimal_num (l : List UInt8) (w : World) (hl : l.length ≤ 200) (h45 : ∀ c t, l = c :: t → c ≠ 45) : Calls Try.prog 39 #[.string (bs l)] w fun e w' => e = .returned (.bool (numB l)) ∧ w = w' := by
  have hs : (bs l).size = l.length := bs_size _
  cases l with
  | nil =>
    rw [show numB [] = false from rfl]
    go_enter Try.func39, Try.ntmps39
    go_wp2_with fail
    go_loop [3] (fun i => i = .int .i64 0) (fun _ => 0)
    case atStart => exact rfl
    case round =>
      subst hrel
      go_wp2_with fail
      go_ret
      exact ⟨rfl, rfl⟩
  | cons c t =>
    have hc : ¬ (c.toNat : Int) = 45 := fun e => h45 c t rfl (c45.1 e)
    clear h45
    have hget0 : ∀ h, (c :: t)[0]'h = c := fun _ => rfl
    go_enter Try.func39, Try.ntmps39
    go_wp2_with fail
    go_loop [3] (DecLoop (c :: t)) (fun i => (t.length + 1 - intOf i).toNat)
    case atStart => exact ⟨0, Nat.zero_le _, rfl, rfl⟩
    case round =>
      obtain ⟨k, hk, rfl, hall⟩ := hrel
      rw [List.length_cons] at hk
      by_cases hlt : k < t.length + 1
      · have hlt' : k < (c :: t).length := by simpa using hlt
        by_cases hd : isDig ((c :: t)[k]'hlt') = true
        · have HN := Lib.hid (take_all hlt' hall hd)
          obtain ⟨d0, d1⟩ := (isDig_iff _).1 hd
          clear hd hall
          go_wp2_with fail
          go_round
          case rel => exact ⟨k + 1, hlt', by go_num, HN.out⟩
          case measure => simp [intOf]; omega
        · have HB := Lib.hid (numB_bad hlt' (by simpa using hd))
          have hd' : (((c :: t)[k]'hlt').toNat : Int) < 48 ∨ (48 ≤ (((c :: t)[k]'hlt').toNat : Int) ∧ 57 < (((c :: t)[k]'hlt').toNat : Int)) := by
            have := mt (isDig_iff ((c :: t)[k]'hlt')).2 hd; omega
          clear hd hall
          rcases hd' with h | ⟨h, h2⟩
          all_goals
            go_wp2_with fail
            go_ret
            exact ⟨congrArg (fun b => Ending.returned (Value.bool b)) HB.out.symm, rfl⟩
      · have hkl : k = t.length + 1 := by omega
        subst hkl
        rw [show t.length + 1 = (c :: t).length from rfl, List.take_length] at hall
        by_cases h48 : c = 48
        · subst h48
          cases t with
          | nil =>
            have HN := Lib.hid (show numB [48] = true by decide)
            clear hall
            go_wp2_with fail
            go_ret
            exact ⟨congrArg (fun b => Ending.returned (Value.bool b)) HN.out.symm, rfl⟩
          | cons d u =>
            have hn : numB (48 :: d :: u) = false := by unfold numB; simp
            have HN := Lib.hid hn
            clear hn hall
            go_wp2_with fail
            go_ret
            exact ⟨congrArg (fun b => Ending.returned (Value.bool b)) HN.out.symm, rfl⟩
        · have hn : numB (c :: t) = true := by
            unfold numB
            rw [hall]
            have : (some c != some 48) = true := by simpa using h48
            simp [this]
          have HN := Lib.hid hn
          have h48' : (c == 48) = false := by simpa using h48
          have hn48 := Lib.hid (show ((c.toNat : Int) != 48) = true from bne_iff_ne.2 fun e => h48 (c48.1 e))
          clear hn hall
          go_wp2_with fail
          go_ret
          exact ⟨congrArg (fun b => Ending.returned (Value.bool b)) (hn48.out.trans HN.out.symm), rfl⟩

set_option maxHeartbeats 1000000 in
theorem decimal_any : ∀ (l : List UInt8) (w : World), l.length ≤ 200 → Calls Try.prog 39 #[.string (bs l)] w fun e w' => e = .returned (.bool (decB l)) ∧ w = w'
  | [], w, hl => decimal_num [] w hl (fun c t h => by cases h)
  | c :: t, w, hl => by
    by_cases hc : c = 45
    · subst hc
      have IH := fun W => decimal_any t W (by simp at hl; omega)
      have hs : (bs (45 :: t)).size = t.length + 1 := bs_size _
      have hl' : t.length ≤ 199 := by simp at hl; omega
      have hg : ∀ h, (45 :: t)[0]'h = (45 : UInt8) := fun _ => rfl
      by_cases h0 : t = [48]
      · subst h0
        rw [show decB [45, 48] = false by decide]
        clear IH
        go_enter Try.func39, Try.ntmps39
        go_wp2_with fail
        go_ret
        exact ⟨rfl, rfl⟩
      · have hn0 : (t == [48]) = false := by simpa using h0
        cases hd : decB t
        · rw [show decB (45 :: t) = false by simp only [decB, if_pos]; rw [hd]; simp]
          rw [hd] at IH
          have hI := Lib.hid IH
          clear IH hd
          go_enter Try.func39, Try.ntmps39
          go_wp2_with fail
          rw [bs_tail]
          refine (hI.out _).mono ?_
          rintro e w' ⟨rfl, rfl⟩
          go_wp2_with fail
          go_ret
          exact ⟨rfl, rfl⟩
        · cases t with
          | nil => simp [decB] at hd
          | cons d u =>
            have hR : decB (45 :: d :: u) = (d != 45) := by
              simp only [decB, if_pos]
              rw [hn0]
              simp only [decB] at hd
              rw [hd]
              by_cases e : d = 45
              · subst e; rfl
              · rw [show (d != 45) = true from bne_iff_ne.2 e]
                simp [e]
            have HR := Lib.hid hR
            rw [hd] at IH
            have hI := Lib.hid IH
            have hg1 : ∀ h, (45 :: d :: u)[1]'h = d := fun _ => rfl
            have hd45 := Lib.hid (show ((d.toNat : Int) != 45) = (d != 45) by
              by_cases e : d = 45
              · subst e; rfl
              · rw [bne_iff_ne.2 fun h => e (c45.1 h), bne_iff_ne.2 e])
            clear IH hd hR
            go_enter Try.func39, Try.ntmps39
            go_wp2_with fail
            rw [show (bs (45 :: d :: u)).extract 1 (u.length + 1 + 1) = bs (d :: u) from bs_tail 45 (d :: u)]
            refine (hI.out _).mono ?_
            rintro e w' ⟨rfl, rfl⟩
            go_wp2_with fail
            go_ret
            exact ⟨congrArg (fun b => Ending.returned (Value.bool b)) (hd45.out.trans HR.out.symm), rfl⟩
    · rw [show decB (c :: t) = numB (c :: t) by simp only [decB, if_neg hc]]
      exact decimal_num (c :: t) w hl (fun d u h => by cases h; exact hc)
end
end Go.Proofs.Ytmdomlfkehhleaa.Wt
