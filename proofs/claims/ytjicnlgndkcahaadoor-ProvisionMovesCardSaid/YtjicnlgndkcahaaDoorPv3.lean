/-
  Loans that are great; Move of package provision and of the reference.
-/
import Derived.Test.YtjicnlgndkcahaaDoorPv2
namespace Go.Proofs.YtjicnlgndkcahaaDoor.Ln
open Go.RowKit
open Go.Proofs.YtjicnlgndkcahaaDoor
set_option linter.unusedSimpArgs false

def longT (t : Tm) : Bool := decide (100 < t.cal.size) || decide (100 < t.cur.size)
def great38 (l : Lo) : Bool := decide (260 < l.ds.length) || decide (70 < l.cs.length) || longT l.tm || l.cs.any (fun c => longT c.old)
theorem g38_ways (l : Lo) : (260 < l.ds.length ∧ great38 l = true) ∨ (l.ds.length ≤ 260 ∧ 70 < l.cs.length ∧ great38 l = true) ∨ (l.ds.length ≤ 260 ∧ l.cs.length ≤ 70 ∧ 100 < l.tm.cal.size ∧ great38 l = true) ∨
    (l.ds.length ≤ 260 ∧ l.cs.length ≤ 70 ∧ l.tm.cal.size ≤ 100 ∧ 100 < l.tm.cur.size ∧ great38 l = true) ∨ (l.ds.length ≤ 260 ∧ l.cs.length ≤ 70 ∧ l.tm.cal.size ≤ 100 ∧ l.tm.cur.size ≤ 100 ∧ great38 l = l.cs.any (fun c => longT c.old)) := by
  unfold great38 longT
  by_cases h1 : 260 < l.ds.length
  · exact .inl ⟨h1, by simp [h1]⟩
  · by_cases h2 : 70 < l.cs.length
    · exact .inr (.inl ⟨by omega, h2, by simp [h2]⟩)
    · by_cases h3 : 100 < l.tm.cal.size
      · exact .inr (.inr (.inl ⟨by omega, by omega, h3, by simp [h3]⟩))
      · by_cases h4 : 100 < l.tm.cur.size
        · exact .inr (.inr (.inr (.inl ⟨by omega, by omega, by omega, h4, by simp [h4]⟩)))
        · exact .inr (.inr (.inr (.inr ⟨by omega, by omega, by omega, by omega, by simp [h1, h2, h3, h4]⟩)))
theorem any_at {xs : List Ch} {k : Nat} {p : Ch → Bool} (h : k < xs.length) (hp : p xs[k]! = true) : xs.any p = true := by
  rw [List.any_eq_true]
  exact ⟨xs[k]!, by rw [getElem!_pos xs k h]; exact List.getElem_mem h, hp⟩
theorem any_no {xs : List Ch} {p : Ch → Bool} (h : ∀ j, j < xs.length → p xs[j]! = false) : xs.any p = false := by
  rw [List.any_eq_false]
  intro x hx
  obtain ⟨j, hj, rfl⟩ := List.mem_iff_getElem.1 hx
  have := h j hj
  rw [getElem!_pos xs j hj] at this
  simp [this]
/-- Where the loop of Great stands. -/
def grR (w : World) (l : Lo) (da ca : Option Addr) (dk ck : Nat) (g : Nat) (s3 : Value) (W : World) : Prop := ∃ k : Nat, k + g = l.cs.length ∧ s3 = .int .i64 k ∧ (∀ j, j < k → longT l.cs[j]!.old = false) ∧ Bk.Blk W w.heap.size #[.int .i64 (l).id, .int .i64 (l).ac, .int .i64 (l).st, .int .i64 (l).pp, .int .i64 (l).pi, .int .i64 (l).fee, .int .i64 (l).pen, .int .i64 (l).chg, .int .i64 (l).prov, .int .i64 (l).loss, .int .i64 (l).rcv, .int .i64 ((l).tm).me, .int .i64 ((l).tm).pr, .int .i64 ((l).tm).ppm, .int .i64 ((l).tm).stt, .int .i64 ((l).tm).ev, .int .i64 ((l).tm).ct, .int .i64 ((l).tm).ba, .int .i64 ((l).tm).mo, .int .i64 ((l).tm).pen, .int .i64 ((l).tm).fe, .string ((l).tm).cal, .string ((l).tm).cur, .slice da (l).ds.length dk, .slice ca (l).cs.length ck] 27 ∧ Below w.heap.size w W

set_option maxHeartbeats 8000000 in
theorem great38_any (l : Lo) (da ca : Option Addr) (dk ck : Nat) (w : World) (h : RowIn cenc w ca l.cs) :
    Calls Tryd.prog 8 #[(.agg #[.int .i64 (l).id, .int .i64 (l).ac, .int .i64 (l).st, .int .i64 (l).pp, .int .i64 (l).pi, .int .i64 (l).fee, .int .i64 (l).pen, .int .i64 (l).chg, .int .i64 (l).prov, .int .i64 (l).loss, .int .i64 (l).rcv, .int .i64 ((l).tm).me, .int .i64 ((l).tm).pr, .int .i64 ((l).tm).ppm, .int .i64 ((l).tm).stt, .int .i64 ((l).tm).ev, .int .i64 ((l).tm).ct, .int .i64 ((l).tm).ba, .int .i64 ((l).tm).mo, .int .i64 ((l).tm).pen, .int .i64 ((l).tm).fe, .string ((l).tm).cal, .string ((l).tm).cur, .slice da (l).ds.length dk, .slice ca (l).cs.length ck])] w fun e w' => e = .returned (.bool (great38 l)) ∧ Below w.heap.size w w' := by
  have b1 : Below w.heap.size w (w.alloc (.cells #[.int .i64 (l).id, .int .i64 (l).ac, .int .i64 (l).st, .int .i64 (l).pp, .int .i64 (l).pi, .int .i64 (l).fee, .int .i64 (l).pen, .int .i64 (l).chg, .int .i64 (l).prov, .int .i64 (l).loss, .int .i64 (l).rcv, .int .i64 ((l).tm).me, .int .i64 ((l).tm).pr, .int .i64 ((l).tm).ppm, .int .i64 ((l).tm).stt, .int .i64 ((l).tm).ev, .int .i64 ((l).tm).ct, .int .i64 ((l).tm).ba, .int .i64 ((l).tm).mo, .int .i64 ((l).tm).pen, .int .i64 ((l).tm).fe, .string ((l).tm).cal, .string ((l).tm).cur, .slice da (l).ds.length dk, .slice ca (l).cs.length ck] 27)) := (Below.refl _ _).alloc (Nat.le_refl _) _
  have k0 := Bk.Blk.nw10 (W := w) (cs := #[.int .i64 (l).id, .int .i64 (l).ac, .int .i64 (l).st, .int .i64 (l).pp, .int .i64 (l).pi, .int .i64 (l).fee, .int .i64 (l).pen, .int .i64 (l).chg, .int .i64 (l).prov, .int .i64 (l).loss, .int .i64 (l).rcv, .int .i64 ((l).tm).me, .int .i64 ((l).tm).pr, .int .i64 ((l).tm).ppm, .int .i64 ((l).tm).stt, .int .i64 ((l).tm).ev, .int .i64 ((l).tm).ct, .int .i64 ((l).tm).ba, .int .i64 ((l).tm).mo, .int .i64 ((l).tm).pen, .int .i64 ((l).tm).fe, .string ((l).tm).cal, .string ((l).tm).cur, .slice da (l).ds.length dk, .slice ca (l).cs.length ck]) (t := 27)
  have H := Lib.hid h
  clear h
  rcases g38_ways l with ⟨h1, e⟩ | ⟨h1, h2, e⟩ | ⟨h1, h2, h3, e⟩ | ⟨h1, h2, h3, h4, e⟩ | ⟨h1, h2, h3, h4, e⟩
  · rw [e]
    clear e k0
    go_enter Tryd.func8, Tryd.ntmps8
    go_wp2_with fail
    go_ret
    exact ⟨rfl, b1⟩
  · rw [e]
    clear e k0
    go_enter Tryd.func8, Tryd.ntmps8
    go_wp2_with fail
    go_ret
    exact ⟨rfl, b1⟩
  · rw [e]
    clear e k0
    go_enter Tryd.func8, Tryd.ntmps8
    go_wp2_with fail
    go_ret
    exact ⟨rfl, b1⟩
  · rw [e]
    clear e k0
    go_enter Tryd.func8, Tryd.ntmps8
    go_wp2_with fail
    go_ret
    exact ⟨rfl, b1⟩
  · rw [e]
    clear e
    have l24 := k0.c24
    go_enter Tryd.func8, Tryd.ntmps8
    go_wp2_with fail
    clear l24
    go_loopg [3] l.cs.length (grR w l da ca dk ck)
    case atStart => exact ⟨0, by omega, rfl, fun j hj => by omega, k0, b1⟩
    case round =>
      clear k0 b1
      obtain ⟨k, hk, rfl, hall, k0, hbr⟩ := hrel
      have l24 := k0.c24
      have HA := Lib.hid hall
      clear hall
      by_cases hlt : k < l.cs.length
      · obtain ⟨b, off, rfl, hc⟩ := (H.out.later hbr).mid cenc_len (by omega)
        have hx := hc k hlt
        have c1 : wr.cell? ⟨b, off + k * 14 + 2 + 10, none⟩ = some (.string l.cs[k]!.old.cal) := hx 12 _ rfl
        have c2 : wr.cell? ⟨b, off + k * 14 + 2 + 11, none⟩ = some (.string l.cs[k]!.old.cur) := hx 13 _ rfl
        have HAN := Lib.hid (fun (h : longT l.cs[k]!.old = true) => any_at (p := fun c => longT c.old) hlt h)
        clear hc hx
        obtain ⟨c, hcc⟩ : ∃ c, c = l.cs[k]! := ⟨_, rfl⟩
        rw [← hcc] at c1 c2 HAN
        have HCC := Lib.hid hcc
        clear hcc
        by_cases h5 : 100 < c.old.cal.size
        · have HE := Lib.hid (HAN.out (by unfold longT; simp [h5]))
          go_wp2_with fail
          go_ret
          exact ⟨by rw [HE.out]; rfl, hbr⟩
        · by_cases h6 : 100 < c.old.cur.size
          · have HE := Lib.hid (HAN.out (by unfold longT; simp [h6]))
            go_wp2_with fail
            go_ret
            exact ⟨by rw [HE.out]; rfl, hbr⟩
          · have HE := Lib.hid (show longT c.old = false by unfold longT; simp [h5, h6])
            go_wp2_with fail
            go_roundg (gk - 1)
            case measure => omega
            case rel => exact ⟨k + 1, by omega, by go_num, fun j hj => by
              by_cases e : j = k
              · subst e; rw [← HCC.out]; exact HE.out
              · exact HA.out j (by omega), k0, hbr⟩
      · have HE := Lib.hid (any_no (p := fun c : Ch => longT c.old) (fun j hj => HA.out j (by omega)))
        go_wp2_with fail
        go_ret
        exact ⟨by rw [HE.out]; rfl, hbr⟩
end Go.Proofs.YtjicnlgndkcahaaDoor.Ln
