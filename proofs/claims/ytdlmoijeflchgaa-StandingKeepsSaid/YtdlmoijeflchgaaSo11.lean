/-
  StandingKeeps: others, Great, short.
-/
import Derived.Test.YtdlmoijeflchgaaSo10
namespace Go.Proofs.Ytdlmoijeflchgaa.So
open Go Go.RowKit
open Go.Proofs.Ytdlmoijeflchgaa
open Go.Proofs.Ytdlmoijeflchgaa.Ln (flat flat_len flat_get RowIn OwnR bl2)
set_option linter.unusedSimpArgs false
set_option linter.unusedVariables false
set_option maxRecDepth 100000

/-- A call of the statement, in memory. -/
structure Ac where
  (kd id day : Int) (ok : Bool) (o : Od)
instance : Inhabited Ac := ⟨⟨0, 0, 0, false, default⟩⟩
def aenc (x : Ac) : List Value := .int .i64 x.kd :: .int .i64 x.id :: .int .i64 x.day :: .bool x.ok :: oenc x.o
theorem aenc_len (x : Ac) : (aenc x).length = 14 := rfl
theorem aenc_one (x : Ac) : ∀ u ∈ aenc x, u.oneCell' = true := by
  intro u hu
  simp only [aenc, oenc, List.mem_cons, List.not_mem_nil, or_false] at hu
  rcases hu with rfl | rfl | rfl | rfl | rfl | rfl | rfl | rfl | rfl | rfl | rfl | rfl | rfl | rfl <;> rfl
theorem act_at {W : World} {a : Option Addr} {xs : List Ac} (h : RowIn aenc W a xs) (h0 : 0 < xs.length) : ∃ b off, a = some ⟨b, off, none⟩ ∧ ∀ j, j < xs.length → W.rangeAt b (off + j * 14) (aenc xs[j]!) := by
  obtain ⟨b, off, ha, hc⟩ := h h0
  refine ⟨b, off, ha, fun j hj i u hu => ?_⟩
  have hik : i < 14 := by
    have := (List.getElem?_eq_some_iff.1 hu).1
    rwa [aenc_len] at this
  rw [Nat.add_assoc]
  exact hc _ _ ((flat_get aenc_len xs j i hj hik).trans hu)
def TrO (w : World) (e : Ending) (w' : World) : Prop := e = .returned (.bool true) ∧ Below w.heap.size w w'
def GtO (l : List Od) (w : World) (e : Ending) (w' : World) : Prop := ∃ b : Bool, e = .returned (.bool b) ∧ (b = false → l.length ≤ 100) ∧ Below w.heap.size w w'
def CtR (w : World) (n : Nat) (g : Nat) (s3 : Value) (W : World) : Prop := ∃ k : Nat, k + g = n ∧ s3 = .int .i64 k ∧ Below w.heap.size w W
set_option maxHeartbeats 8000000 in
theorem great_any (a : Option Addr) (cap : Nat) (l : List Od) (w : World) (h : RowIn oenc w a l) (hl : l.length ≤ 9223372036854775807) (ht : ∀ o ∈ l, o.tx.size ≤ maxLen) : Calls Try.prog 13 #[.slice a l.length cap] w (GtO l w) := by
  have H := Lib.hid h
  have HT := Lib.hid ht
  clear h ht
  by_cases h1 : 100 < l.length
  · go_enter Try.func13, Try.ntmps13
    go_wp2_with fail
    go_ret
    exact ⟨true, rfl, fun h => (by cases h), Below.refl _ _⟩
  · go_enter Try.func13, Try.ntmps13
    go_wp2_with fail
    go_loopg [3] l.length (CtR w l.length)
    case atStart => exact ⟨0, by omega, rfl, Below.refl _ _⟩
    case round =>
      obtain ⟨k, hk, rfl, hbr⟩ := hrel
      by_cases hlt : k < l.length
      · obtain ⟨b, off, rfl, hc⟩ := row_at H.out (by omega)
        have e9 : wr.cell? ⟨b, off + k * 10 + 9, none⟩ = some (.string l[k]!.tx) := rangeAt_later hbr (hc k hlt) 9 _ rfl
        have ht := HT.out l[k]! (by rw [getElem!_pos l _ hlt]; exact List.getElem_mem _)
        have ht2 : l[k]!.tx.size ≤ 9223372036854775807 := by unfold maxLen at ht; omega
        clear hc ht
        generalize l[k]! = x at *
        by_cases h2 : 200 < x.tx.size
        · go_wp2_with fail
          go_ret
          exact ⟨true, rfl, fun h => (by cases h), hbr⟩
        · go_wp2_with fail
          go_roundg (gk - 1)
          case measure => omega
          case rel => exact ⟨k + 1, by omega, by go_num, hbr⟩
      · go_wp2_with fail
        go_ret
        exact ⟨false, rfl, fun _ => by omega, hbr⟩
set_option maxHeartbeats 8000000 in
theorem short_any (a : Option Addr) (cap : Nat) (l : List Ac) (w : World) (h : RowIn aenc w a l) (hl : l.length ≤ 9223372036854775807) (ht : ∀ x ∈ l, x.o.tx.size ≤ maxLen) : Calls Try.prog 14 #[.slice a l.length cap] w (FewO w) := by
  have H := Lib.hid h
  have HT := Lib.hid ht
  clear h ht
  go_enter Try.func14, Try.ntmps14
  go_wp2_with fail
  go_loopg [3] l.length (CtR w l.length)
  case atStart => exact ⟨0, by omega, rfl, Below.refl _ _⟩
  case round =>
    obtain ⟨k, hk, rfl, hbr⟩ := hrel
    by_cases hlt : k < l.length
    · by_cases h60 : k < 60
      · obtain ⟨b, off, rfl, hc⟩ := act_at H.out (by omega)
        have e9 : wr.cell? ⟨b, off + k * 14 + 13, none⟩ = some (.string l[k]!.o.tx) := rangeAt_later hbr (hc k hlt) 13 _ rfl
        have ht := HT.out l[k]! (by rw [getElem!_pos l _ hlt]; exact List.getElem_mem _)
        have ht2 : l[k]!.o.tx.size ≤ 9223372036854775807 := by unfold maxLen at ht; omega
        clear hc ht
        generalize l[k]! = x at *
        by_cases h2 : 200 < x.o.tx.size
        · go_wp2_with fail
          go_ret
          exact ⟨false, rfl, hbr⟩
        · go_wp2_with fail
          go_roundg (gk - 1)
          case measure => omega
          case rel => exact ⟨k + 1, by omega, by go_num, hbr⟩
      · have g1 : decide (k < 60) = false := decide_eq_false h60
        have g2 : decide ((k : Int) < 60) = false := decide_eq_false (by omega)
        by_cases h6 : l.length ≤ 60
        · go_wp2_with fail
          go_ret
          exact ⟨_, rfl, hbr⟩
        · go_wp2_with fail
          go_ret
          exact ⟨_, rfl, hbr⟩
    · by_cases h6 : l.length ≤ 60
      · go_wp2_with fail
        go_ret
        exact ⟨_, rfl, hbr⟩
      · go_wp2_with fail
        go_ret
        exact ⟨_, rfl, hbr⟩
def OtR (w : World) (n : Nat) (g : Nat) (s7 : Value) (W : World) : Prop := ∃ k : Nat, k + g = n ∧ s7 = .int .i64 k ∧ Below w.heap.size w W
/-- Where the inner loop stands. -/
def OtI (w : World) (m : List Od) (x : Od) (f0 : Bool) (g : Nat) (s8 s9 : Value) (W : World) : Prop := ∃ (k : Nat) (f : Bool), k + g = m.length ∧ s8 = .bool f ∧ s9 = .int .i64 k ∧ (f0 = true → f = true) ∧ (∀ j, j < k → m[j]! = x → f = true) ∧ Below w.heap.size w W
/-- What the comparison answers, in every world. -/
theorem ord_eqb (x y : Od) : ∃ q : Bool, (∀ W, (binOp .eql 23 (.agg (oenc x).toArray) (.agg (oenc y).toArray)).run Try.prog W = .ok (.bool q) W) ∧ (x = y → q = true) := by
  by_cases h : x = y
  · subst h
    exact ⟨true, fun W => by obtain ⟨q, hq, he⟩ := ord_eql x x W; rw [he rfl] at hq; exact hq, fun _ => rfl⟩
  · refine (?_ : ∃ q : Bool, ∀ W, (binOp .eql 23 (.agg (oenc x).toArray) (.agg (oenc y).toArray)).run Try.prog W = .ok (.bool q) W).imp fun q hq => ⟨hq, fun e => absurd e h⟩
    obtain ⟨q, hq⟩ : ∃ q : Bool, q = ((x.id == y.id) && (x.fr == y.fr) && (x.too == y.too) && (x.am == y.am) && (x.day == y.day) && (x.ev == y.ev) && (x.an == y.an) && (x.un == y.un) && (x.tr == y.tr) && (x.tx.toList == y.tx.toList)) := ⟨_, rfl⟩
    refine ⟨q, fun W => ?_⟩
    subst hq
    clear h
    show (binOp .eql 23 (.agg #[.int .i64 (x).id, .int .i64 (x).fr, .int .i64 (x).too, .int .i64 (x).am, .int .i64 (x).day, .int .i64 (x).ev, .int .i64 (x).an, .int .i64 (x).un, .int .i64 (x).tr, .string (x).tx]) (.agg #[.int .i64 (y).id, .int .i64 (y).fr, .int .i64 (y).too, .int .i64 (y).am, .int .i64 (y).day, .int .i64 (y).ev, .int .i64 (y).an, .int .i64 (y).un, .int .i64 (y).tr, .string (y).tx])).run Try.prog W = _
    go_simp
    repeat' split
    all_goals simp_all
set_option maxHeartbeats 16000000 in
theorem others_any (a a' : Option Addr) (cap cap' : Nat) (l m : List Od) (id : Int) (w : World) (h : RowIn oenc w a l) (h' : RowIn oenc w a' m) (hl : l.length ≤ 100000) (hm : m.length ≤ 100000) (ho : Others l m id) : Calls Try.prog 19 #[.slice a l.length cap, .slice a' m.length cap', .int .i64 id] w (TrO w) := by
  have H1 := Lib.hid h
  have H2 := Lib.hid h'
  have HO := Lib.hid ho
  clear h h' ho
  go_enter Try.func19, Try.ntmps19
  go_wp2_with fail
  go_loopg [7] l.length (OtR w l.length)
  case atStart => exact ⟨0, by omega, rfl, Below.refl _ _⟩
  case round =>
    obtain ⟨i, hi, rfl, hbr⟩ := hrel
    by_cases hlt : i < l.length
    · have hw := HO.out l[i]! (by rw [getElem!_pos l _ hlt]; exact List.getElem_mem _)
      obtain ⟨b, off, rfl, hc⟩ := row_at H1.out (by omega)
      have e0 : wr.cell? ⟨b, off + i * 10, none⟩ = some (.int .i64 l[i]!.id) := rangeAt_later hbr (hc i hlt) 0 _ rfl
      have hci := hc i hlt
      clear hc
      generalize l[i]! = x at *
      obtain ⟨f0, hf0⟩ : ∃ f0 : Bool, (x.id == id) = f0 := ⟨_, rfl⟩
      have HW := Lib.hid (show f0 = true ∨ ∃ j, j < m.length ∧ m[j]! = x from by
        rcases hw with hw | hw
        · exact .inl (by rw [← hf0, hw]; exact beq_self_eq_true _)
        · obtain ⟨j, hj, he⟩ := List.mem_iff_getElem.1 hw
          exact .inr ⟨j, hj, by rw [getElem!_pos m j hj]; exact he⟩)
      clear hw
      obtain ⟨gko, hgko⟩ : ∃ n, n = gk := ⟨_, rfl⟩
      go_upto_region 6 with fail
      clear hf0 e0
      go_loopg [8, 9] m.length (OtI w m x f0)
      case atStart => exact ⟨0, f0, by omega, rfl, rfl, fun h => h, fun j hj => by omega, hbr⟩
      case round =>
        clear hbr
        obtain ⟨k, f, hk, rfl, rfl, hf, hall, hbr⟩ := hrel
        have HF := Lib.hid hf
        have HA := Lib.hid hall
        clear hf hall
        by_cases hkl : k < m.length
        · cases f
          · obtain ⟨b2, off2, rfl, hd⟩ := row_at H2.out (by omega)
            have HM1 := Lib.hid (fun (W' : World) (hW : Reg.Cls wr W') => rangeAt_later hW (rangeAt_later hbr hci))
            have HM2 := Lib.hid (fun (W' : World) (hW : Reg.Cls wr W') => rangeAt_later hW (rangeAt_later hbr (hd k hkl)))
            obtain ⟨q, hq, hqt⟩ := ord_eqb m[k]! x
            have HQT := Lib.hid hqt
            have i1 : (0 : Int) ≤ (k : Int) := by omega
            have i2 : (k : Int) < (m.length : Int) := by omega
            have i3 : (0 : Int) ≤ (i : Int) := by omega
            have i4 : (i : Int) < (l.length : Int) := by omega
            clear hd hqt hci
            generalize hy : m[k]! = y at *
            have HY := Lib.hid hy
            clear hy
            go_upto_region 8 with fail
            refine Reg.region_quiet (by kernel_rfl) (by kernel_rfl) ?_
            iterate 5 (first | go_big_quiet_skip | (go_big_quiet_want; (first | (go_big_quiet_op; go_big_quiet_on) | (apply Reg.quiet_run; (intro W hW; skip; go_simp; (first | done | rfl | exact ⟨rfl, rfl⟩ )); (simp only [Act.put, List.setIfInBounds_toArray, List.set_cons_zero, List.set_cons_succ]; go_big_quiet_on)) | (apply Reg.quiet_call; (intro W hW; go_simp; (first | done | rfl | exact ⟨rfl, rfl⟩)); (intro W hW; (first | fail)); (simp only [Act.put, List.setIfInBounds_toArray, List.set_cons_zero, List.set_cons_succ]; go_big_quiet_on)))))
            (go_big_quiet_want; refine quiet_load_mid 23 _ rfl b2 (off2 + k * 10) (by rfl) (oenc y) _ HM2.out Try.underlying23 rfl (by kernel_rfl) ?_; (simp only [Act.put, List.setIfInBounds_toArray, List.set_cons_zero, List.set_cons_succ]; go_big_quiet_on))
            iterate 3 (first | go_big_quiet_skip | (go_big_quiet_want; (first | (go_big_quiet_op; go_big_quiet_on) | (apply Reg.quiet_run; (intro W hW; skip; go_simp; (first | done | rfl | exact ⟨rfl, rfl⟩ )); (simp only [Act.put, List.setIfInBounds_toArray, List.set_cons_zero, List.set_cons_succ]; go_big_quiet_on)) | (apply Reg.quiet_call; (intro W hW; go_simp; (first | done | rfl | exact ⟨rfl, rfl⟩)); (intro W hW; (first | fail)); (simp only [Act.put, List.setIfInBounds_toArray, List.set_cons_zero, List.set_cons_succ]; go_big_quiet_on)))))
            (go_big_quiet_want; refine quiet_load_mid 23 _ rfl b (off + i * 10) (by rfl) (oenc x) _ HM1.out Try.underlying23 rfl (by kernel_rfl) ?_; (simp only [Act.put, List.setIfInBounds_toArray, List.set_cons_zero, List.set_cons_succ]; go_big_quiet_on))
            iterate 3 (first | go_big_quiet_skip | (go_big_quiet_want; (first | (go_big_quiet_op; go_big_quiet_on) | (apply Reg.quiet_run; (intro W hW; skip; go_simp; (first | done | rfl | exact ⟨rfl, rfl⟩ )); (simp only [Act.put, List.setIfInBounds_toArray, List.set_cons_zero, List.set_cons_succ]; go_big_quiet_on)) | (apply Reg.quiet_call; (intro W hW; go_simp; (first | done | rfl | exact ⟨rfl, rfl⟩)); (intro W hW; (first | fail)); (simp only [Act.put, List.setIfInBounds_toArray, List.set_cons_zero, List.set_cons_succ]; go_big_quiet_on)))))
            refine wpQuiet_nil ?_
            intro w5 hW
            have b5 := bl2 hW hbr
            go_wp2_with fail
            go_roundg (gk - 1)
            case measure => omega
            case rel => exact ⟨k + 1, q, by omega, rfl, by go_num, fun h => absurd (HF.out h) (by simp), fun j hj hj2 => by
              by_cases e : j = k
              · subst e; rw [HY.out] at hj2; exact HQT.out hj2
              · exact absurd (HA.out j (by omega) hj2) (by simp), b5⟩
          · clear hci
            go_upto_region 8 with fail
            refine Reg.region_quiet (by kernel_rfl) (by kernel_rfl) ?_
            iterate 13 (first | go_big_quiet_skip | (go_big_quiet_want; (first | (go_big_quiet_op; go_big_quiet_on) | (apply Reg.quiet_run; (intro W hW; skip; go_simp; (first | done | rfl | exact ⟨rfl, rfl⟩ )); (simp only [Act.put, List.setIfInBounds_toArray, List.set_cons_zero, List.set_cons_succ]; go_big_quiet_on)) | (apply Reg.quiet_call; (intro W hW; go_simp; (first | done | rfl | exact ⟨rfl, rfl⟩)); (intro W hW; (first | fail)); (simp only [Act.put, List.setIfInBounds_toArray, List.set_cons_zero, List.set_cons_succ]; go_big_quiet_on)))))
            refine wpQuiet_nil ?_
            intro w5 hW
            have b5 := bl2 hW hbr
            go_wp2_with fail
            go_roundg (gk - 1)
            case measure => omega
            case rel => exact ⟨k + 1, true, by omega, rfl, by go_num, fun _ => rfl, fun _ _ _ => rfl, b5⟩
        · have hft : f = true := by
            rcases HW.out with h | ⟨j, hj, he⟩
            · exact HF.out h
            · exact HA.out j (by omega) he
          subst hft
          go_wp2_with fail
          go_roundg (gko - 1)
          case measure => omega
          case rel => exact ⟨i + 1, by omega, by go_num, hbr⟩
    · go_wp2_with fail
      go_ret
      exact ⟨rfl, hbr⟩
end Go.Proofs.Ytdlmoijeflchgaa.So
