/-
  slices.IndexFunc and DeleteFunc at parts, whatever the predicate.
-/
import Derived.Test.YtaibocobeibobaaLnD
namespace Go.Proofs.Ytaibocobeibobaa.Ln
open Go.RowKit
open Go.Proofs.Ytaibocobeibobaa

/-- A part of a payment. -/
structure Pa where
  (kd am : Int)
instance : Inhabited Pa := ⟨⟨0, 0⟩⟩
def penc (p : Pa) : List Value := [.int .i64 p.kd, .int .i64 p.am]
theorem penc_len (p : Pa) : (penc p).length = 2 := rfl
theorem penc_one (p : Pa) : ∀ u ∈ penc p, u.oneCell' = true := by
  intro u hu
  simp only [penc, List.mem_cons, List.not_mem_nil, or_false] at hu
  rcases hu with rfl | rfl <;> rfl
/-- Parts without those that are empty; what is owed; the parts of a distribution. -/
def pparts (l : List Pa) : List Pa := l.filter fun p => decide (0 < p.am)
def powed (l : Lo) (day : Int) : List Pa := pparts [⟨1, l.fee⟩, ⟨2, l.pen⟩, ⟨3, oI l day⟩, ⟨4, oP l day⟩]
def Dist.pps (x : Dist) : List Pa := pparts [⟨1, x.a⟩, ⟨2, x.b⟩, ⟨3, x.c⟩, ⟨4, x.d⟩, ⟨5, x.r⟩]
/-- The cells of parts that are read. -/
theorem RowIn.parts {W : World} {a : Option Addr} {xs : List Pa} (h : RowIn penc W a xs) (h0 : 0 < xs.length) : ∃ b off, a = some ⟨b, off, none⟩ ∧ ∀ j, j < xs.length → W.cell? ⟨b, off + j * 2, none⟩ = some (.int .i64 xs[j]!.kd) ∧ W.cell? ⟨b, off + j * 2 + 1, none⟩ = some (.int .i64 xs[j]!.am) := by
  obtain ⟨b, off, ha, hc⟩ := h h0
  refine ⟨b, off, ha, fun j hj => ?_⟩
  have c : ∀ i, i < 2 → W.cell? ⟨b, off + (j * 2 + i), none⟩ = (penc xs[j]!)[i]? := fun i hi => by
    have hg := flat_get penc_len xs j i hj hi
    have : i < (penc xs[j]!).length := hi
    rw [List.getElem?_eq_getElem this] at hg ⊢
    exact hc _ _ hg
  have c0 := c 0 (by omega)
  have c1 := c 1 (by omega)
  simp only [penc, ← Nat.add_assoc] at c0 c1
  exact ⟨by simpa using c0, by simpa using c1⟩

theorem pflat_set (v : Pa) (X : List Value) : ∀ (ys : List Pa) (i : Nat), i < ys.length → (((flat penc ys ++ X).toArray.setIfInBounds (i * 2) (.int .i64 v.kd)).setIfInBounds (i * 2 + 1) (.int .i64 v.am)) = (flat penc (ys.set i v) ++ X).toArray := by
  intro ys i h
  simp only [List.setIfInBounds_toArray]
  congr 1
  induction ys generalizing i with
  | nil => simp at h
  | cons y ys ih =>
    cases i with
    | zero => simp [flat, penc]
    | succ i =>
      have := ih i (by simpa using h)
      simp only [flat, List.flatMap_cons, penc, List.set_cons_succ, List.cons_append, List.nil_append] at this ⊢
      rw [show (i + 1) * 2 = i * 2 + 2 by omega]
      simp only [show ∀ a b : Nat, a + 2 + b = a + b + 2 from fun a b => by omega, List.set_cons_succ]
      simpa using this
/-- The cells of an element of a row that is known whole. -/
theorem pblk_cells {W : World} {g : Nat} {ys : List Pa} {X : List Value} {bt : TypeId} (h : Bk.Blk W g ((flat penc ys ++ X).toArray) bt) {j : Nat} (hj : j < ys.length) :
    W.cell? ⟨g, j * 2, none⟩ = some (.int .i64 ys[j]!.kd) ∧ W.cell? ⟨g, j * 2 + 1, none⟩ = some (.int .i64 ys[j]!.am) := by
  have c : ∀ i, i < 2 → W.cell? ⟨g, j * 2 + i, none⟩ = (penc ys[j]!)[i]? := fun i hi => by
    rw [h.cell]
    have hg := flat_get penc_len ys j i hj hi
    have hl := flat_len penc_len ys
    rw [← hg]
    simp [List.getElem?_append_left (show j * 2 + i < (flat penc ys).length by rw [hl]; omega)]
  exact ⟨by simpa [penc] using c 0 (by omega), by simpa [penc] using c 1 (by omega)⟩
/-- Where DeleteFunc stands. -/
def pDR (bt : TypeId) (w : World) (B g : Nat) (X : List Value) (p : Pa → Bool) (xs : List Pa) (gg : Nat) (s5 s6 : Value) (W : World) : Prop := ∃ (i j : Nat) (ys : List Pa), j + gg = xs.length ∧ s5 = .int .i64 i ∧ s6 = .int .i64 j ∧ DelInv p xs ys i j ∧ Bk.Blk W g ((flat penc ys ++ X).toArray) bt ∧ Below B w W
/-- A predicate that is called answers p, in every world that is as w was below B. -/
def pPred (g0 : Nat) (lb : Array Value) (p : Pa → Bool) (B : Nat) (w : World) : Prop := ∀ (d : Pa) (W : World), Below B w W → Calls Try.prog g0 (#[.agg #[.int .i64 d.kd, .int .i64 d.am]] ++ lb) W fun e w' => e = .returned (.bool (p d)) ∧ Below W.heap.size W w'

/-- Where IndexFunc stands. -/
def pXR (w : World) (p : Pa → Bool) (xs : List Pa) (g : Nat) (s8 : Value) (W : World) : Prop := ∃ k : Nat, k + g = xs.length ∧ s8 = .int .i64 k ∧ (∀ j, j < k → p xs[j]! = false) ∧ Below w.heap.size w W
set_option maxHeartbeats 2000000 in
theorem ixq_any (g : Nat) (lb : Array Value) (p : Pa → Bool) (a : Option Addr) (cap : Nat) (xs : List Pa) (w : World) (h : RowIn penc w a xs) (hn : xs.length ≤ 100000) (eg : ∀ args w, (callFunc g args).run Try.prog w = .ok (.enter g args) w)
    (hp : ∀ (d : Pa) (W : World), Below w.heap.size w W → Calls Try.prog g (#[.agg #[.int .i64 d.kd, .int .i64 d.am]] ++ lb) W fun e w' => e = .returned (.bool (p d)) ∧ Below W.heap.size W w') :
    Calls Try.prog 49 #[.slice a xs.length cap, .func (.func g) #[] lb] w fun e w' => ∃ r, e = .returned (.int .i64 r) ∧ Idx p xs r ∧ Below w.heap.size w w' := by
  have H := Lib.hid h
  have HP := Lib.hid hp
  clear h hp
  go_enter Try.func49, Try.ntmps49
  go_wp2_with fail
  go_loopg [8] xs.length (pXR w p xs)
  case atStart => exact ⟨0, by omega, rfl, fun j hj => by omega, Below.refl _ _⟩
  case round =>
    obtain ⟨k, hk, rfl, hall, hbr⟩ := hrel
    have HA := Lib.hid hall
    clear hall
    by_cases hlt : k < xs.length
    · obtain ⟨b, off, rfl, hc⟩ := H.out.parts (by omega)
      obtain ⟨c0, c1⟩ := hc k hlt
      replace c0 := cell_later hbr c0
      replace c1 := cell_later hbr c1
      have hcall := HP.out xs[k]! wr hbr
      generalize hd : xs[k]! = d at *
      have HD := Lib.hid hd
      clear hc hd
      cases hv : p d
      · rw [hv] at hcall
        have HV := Lib.hid hv
        clear hv
        go_wp2_with fail
        refine hcall.mono ?_
        rintro e w1 ⟨rfl, hb⟩
        go_wp2_with fail
        go_roundg (gk - 1)
        case measure => omega
        case rel => exact ⟨k + 1, by omega, by go_num, fun j hj => by
          by_cases e : j = k
          · subst e; rw [HD.out]; exact HV.out
          · exact HA.out j (by omega), bl2 hb hbr⟩
      · rw [hv] at hcall
        have HV := Lib.hid hv
        clear hv
        go_wp2_with fail
        refine hcall.mono ?_
        rintro e w1 ⟨rfl, hb⟩
        go_wp2_with fail
        go_ret
        exact ⟨k, rfl, .inr ⟨k, hlt, rfl, by rw [HD.out]; exact HV.out, HA.out⟩, bl2 hb hbr⟩
    · go_wp2_with fail
      go_ret
      exact ⟨-1, rfl, .inl ⟨rfl, fun j hj => HA.out j (by omega)⟩, hbr⟩

set_option maxHeartbeats 4000000 in
theorem pdel_any (g0 : Nat) (lb : Array Value) (p : Pa → Bool) (B g c : Nat) (xs : List Pa) (w : World) (eg : ∀ args w, (callFunc g0 args).run Try.prog w = .ok (.enter g0 args) w) (hp : pPred g0 lb p B w) {bt : TypeId} (ho : OwnR penc 2 bt w B g c xs) (hn : xs.length ≤ 100000) (hcx : xs.length ≤ c) :
    Calls Try.prog 30 #[.slice (some ⟨g, 0, none⟩) xs.length c, .func (.func g0) #[] lb] w fun e w' => e = .returned (.slice (some ⟨g, 0, none⟩) (xs.filter fun x => !p x).length c) ∧ RowIn penc w' (some ⟨g, 0, none⟩) (xs.filter fun x => !p x) ∧ Below B w w' := by
  have hrow := ho.row
  obtain ⟨hB, hcm, X, hX, hk⟩ := ho
  have HI := Lib.hid (ixq_any g0 lb p (some ⟨g, 0, none⟩) c xs w hrow (by omega) eg (fun d W h => hp d W (h.mono (Nat.le_trans hB (Nat.le_of_lt hk.lt)))))
  have HP := Lib.hid hp
  have hgs := hk.lt
  obtain ⟨fl, hfl⟩ : ∃ fl, fl = (xs.filter fun x => !p x) := ⟨_, rfl⟩
  rw [← hfl]
  have HFL := Lib.hid hfl
  have HK := Lib.hid hk
  have HROW := Lib.hid hrow
  clear hfl hk hp hrow
  go_enter Try.func30, Try.ntmps30
  go_wp2_with fail
  refine (HI.out).mono ?_
  rintro e w1 ⟨r, rfl, hr, hb1⟩
  rcases hr with ⟨rfl, hall⟩ | ⟨k0, hk0, rfl, ht, hall⟩
  · have HE := Lib.hid (show fl = xs by
      rw [HFL.out]
      exact filter_none fun x hx => by
        obtain ⟨m, hm, rfl⟩ := List.mem_iff_getElem.1 hx
        have := hall m hm
        rwa [getElem!_pos xs m hm] at this)
    clear hall
    go_wp2_with fail
    go_ret
    exact ⟨by rw [HE.out]; rfl, by rw [HE.out]; exact HROW.out.later hb1, hb1.mono (Nat.le_trans hB (Nat.le_of_lt hgs))⟩
  · have hne1 : ((k0 : Int) == -1) = false := beq_eq_false_iff_ne.2 (by omega)
    have HST := Lib.hid (DelInv.start hk0 ht hall)
    have hkb := HK.out.later hb1
    have hbw := hb1.mono (Nat.le_trans hB (Nat.le_of_lt hgs))
    clear hall ht hb1
    go_wp2_with fail
    go_loopg [5, 6] (xs.length - (k0 + 1)) (pDR bt w B g X p xs)
    case atStart => exact ⟨k0, k0 + 1, xs, by omega, rfl, by go_num, HST.out, hkb, hbw⟩
    case round =>
      clear hkb hbw
      obtain ⟨i, j, ys, hj, rfl, rfl, inv, hkb, hbr⟩ := hrel
      have hyl := inv.len
      have hij := inv.lt
      have hjx := inv.le
      have hzr := hbr.size
      have hgr := hkb.lt
      by_cases hlt : j < xs.length
      · have hcl := pblk_cells hkb (show j < ys.length by omega)
        rw [inv.rest j (Nat.le_refl j) hlt] at hcl
        have HINV := Lib.hid inv
        generalize hv : xs[j]! = v at *
        have HV := Lib.hid hv
        obtain ⟨c0, c1⟩ := hcl
        clear inv hv
        have hcall := HP.out v (wr.alloc (.cells #[.int .i64 v.kd, .int .i64 v.am] 42)) (hbr.alloc (by omega) _)
        go_wp2_with fail
        refine hcall.mono ?_
        rintro e w2 ⟨rfl, hb2⟩
        have hvb := Bk.Blk.later (g := wr.heap.size) hb2 (Bk.Blk.nw10 (W := wr) (cs := #[.int .i64 v.kd, .int .i64 v.am]) (t := 42))
        have hkb2 := (hkb.alloc (o := .cells #[.int .i64 v.kd, .int .i64 v.am] 42)).later hb2
        have hbr2 : Below B w w2 := (hbr.alloc (show B ≤ wr.heap.size by omega) _).trans (hb2.mono (by simp; omega))
        clear hkb hbr hb2 hcall c0 c1
        cases hq : p v
        · have HQ := Lib.hid hq
          clear hq
          have e0 := hvb.c0
          have e1 := hvb.c1
          have f0 := hkb2.free (i * 2)
          have f1 := hkb2.free (i * 2 + 1)
          have hix : i < xs.length := by omega
          obtain ⟨d0, d1⟩ := pblk_cells hkb2 (show i < ys.length by omega)
          generalize ys[i]! = u at *
          go_wp2_with fail
          go_roundg (gk - 1)
          case measure => omega
          case rel =>
            refine ⟨i + 1, j + 1, ys.set i v, by omega, by go_num, by go_num, ?_, ?_, ?_⟩
            · have := HINV.out.keep hlt (by rw [HV.out]; exact HQ.out)
              rwa [HV.out] at this
            · rw [← pflat_set v X ys i (by omega)]
              exact (Bk.Blk.set_same (Bk.Blk.set_same hkb2))
            · exact (Below.setCell (Below.setCell hbr2 hB _) hB _)
        · have HQ := Lib.hid hq
          clear hq
          go_wp2_with fail
          go_roundg (gk - 1)
          case measure => omega
          case rel => exact ⟨i, j + 1, ys, by omega, rfl, by go_num, HINV.out.skip hlt (by rw [HV.out]; exact HQ.out), hkb2, hbr2⟩
      · have hjn : j = xs.length := by omega
        rw [hjn] at inv
        obtain ⟨hf1, hf2⟩ := inv.fin
        have HF1 := Lib.hid hf1
        have HF2 := Lib.hid hf2
        clear hf1 hf2 inv
        have hix : i < xs.length := by omega
        have hic : i < c := by omega
        have hl := flat_len penc_len ys
        have hcl : ∀ ty, (Builtin.clear_ #[33] ty #[.slice (some ⟨g, i * 2, none⟩) (xs.length - i) (c - i)]).run Try.prog wr = .ok (.tuple #[]) (wr.setCells g (i * 2) (Builtin.zeroCells #[.int .i64 0, .int .i64 0] (xs.length - i)).toList) := fun ty =>
          run_clear_k wr _ _ ty (.agg #[.int .i64 0, .int .i64 0]) Try.underlying33 Try.zeroValue42 (by decide) (by intro u hu; simp [Value.cells] at hu; subst hu; rfl) g (i * 2) (xs.length - i) (c - i) (by omega)
            (fun m hm => by
              rw [hkb.cell]
              simp [Value.cells] at hm
              simp [show i * 2 + m < (flat penc ys).length + X.length by rw [hl]; omega])
            (fun m _ => hkb.free _)
        have HKB := Lib.hid hkb
        clear hkb
        go_wp2_with fail
        go_ret
        refine ⟨by rw [HFL.out, HF2.out]; rfl, ?_, Go.below_setCells hB _ _ _ hbr⟩
        rw [HFL.out, ← HF1.out]
        intro _
        refine ⟨g, 0, rfl, fun m u hm => ?_⟩
        have hm2 : m < i * 2 := by
          have := (List.getElem?_eq_some_iff.1 hm).1
          rw [flat_len penc_len, List.length_take] at this
          have : min i ys.length * 2 ≤ i * 2 := Nat.mul_le_mul_right _ (Nat.min_le_left ..)
          omega
        rw [flat_take penc_len ys i m hm2 (by omega)] at hm
        rw [Nat.zero_add, World.cell?_setCells_out g _ _ _ _ (fun _ _ => .inl hm2), HKB.out.cell]
        have := (List.getElem?_eq_some_iff.1 hm).1
        simp [List.getElem?_append_left this, hm]

/-- The closure of Owed. -/
theorem owed1_any (B : Nat) (w : World) : pPred 31 #[] (fun p => decide (p.am ≤ 0)) B w := by
  intro d W _
  show Calls Try.prog 31 #[.agg #[.int .i64 d.kd, .int .i64 d.am]] W _
  go_enter Try.func31, Try.ntmps31
  go_wp2_with fail
  go_ret
  exact ⟨by simp, (Below.refl _ _).alloc (Nat.le_refl _) _⟩
theorem owed_filter (l : List Pa) : (l.filter fun p => !decide (p.am ≤ 0)) = pparts l := by
  unfold pparts
  apply List.filter_congr
  intro d _
  by_cases h : d.am ≤ 0
  · rw [decide_eq_true h, decide_eq_false (by omega)]; rfl
  · rw [decide_eq_false h, decide_eq_true (by omega)]; rfl
end Go.Proofs.Ytaibocobeibobaa.Ln
