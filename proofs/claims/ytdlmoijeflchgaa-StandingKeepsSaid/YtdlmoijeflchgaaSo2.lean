/-
  slices.Delete (of one element) and DeleteFunc at orders, over a row of the call's own.
-/
import Derived.Test.YtdlmoijeflchgaaSo1
import Derived.Deep.RegionLaw
import Derived.Lib.LazyBuf
import Derived.Laws.IdiomCopy
namespace Go.Proofs.Ytdlmoijeflchgaa.So
open Go Go.RowKit
open Go.Proofs.Ytdlmoijeflchgaa
open Go.Proofs.Ytdlmoijeflchgaa.Ln (flat flat_len flat_get flat_mem flat_take RowIn OwnR Idx bl2 DelInv run_clear_k)
set_option linter.unusedSimpArgs false
set_option linter.unusedVariables false
set_option maxRecDepth 100000

theorem flat_append (xs ys : List Od) : flat oenc (xs ++ ys) = flat oenc xs ++ flat oenc ys := List.flatMap_append
set_option maxHeartbeats 4000000 in
theorem delo_any (B g c i j k : Nat) (xs : List Od) (w : World) (ho : OwnR oenc 10 23 w B g c xs) (hn : xs.length ≤ 100000) (hj : j = i + 1) (hl : xs.length = j + k) :
    Calls Try.prog 34 #[.slice (some ⟨g, 0, none⟩) xs.length c, .int .i64 i, .int .i64 j] w fun e w' => e = .returned (.slice (some ⟨g, 0, none⟩) (xs.eraseIdx i).length c) ∧ RowIn oenc w' (some ⟨g, 0, none⟩) (xs.eraseIdx i) ∧ Below B w w' := by
  obtain ⟨hB, hcm, X, hX, hk⟩ := ho
  obtain ⟨t0, hi1, hi2, hi3, hi4⟩ := info_parts ord_info
  have hc : j + k ≤ c := by omega
  have hcl0 : c ≤ 9223372036854775807 := by unfold maxLen at hcm; omega
  obtain ⟨news, hnews⟩ : ∃ news, news = flat oenc (xs.drop j) := ⟨_, rfl⟩
  have hnl : news.length = k * 10 := by rw [hnews, flat_len oenc_len, List.length_drop, hl]; congr 1; omega
  have hfl := flat_len oenc_len xs
  have hcell : ∀ m u, (flat oenc xs)[m]? = some u → w.cell? ⟨g, m, none⟩ = some u := fun m u hu => by
    rw [hk.cell]
    have := (List.getElem?_eq_some_iff.1 hu).1
    simp [List.getElem?_append_left this, hu]
  have hsome : ∀ m, m < c * 10 → (w.cell? ⟨g, m, none⟩).isSome = true := fun m hm => by
    rw [hk.cell]
    simp [show m < (flat oenc xs).length + X.length by rw [hfl]; omega]
  have hfree : ∀ m, w.frozen? ⟨g, m, none⟩ = false := fun m => hk.free m
  have hsplit : flat oenc xs = flat oenc (xs.take j) ++ news := by
    rw [hnews, ← flat_append, List.take_append_drop]
  have htl : (flat oenc (xs.take j)).length = j * 10 := by
    rw [flat_len oenc_len, List.length_take, hl]
    congr 1
    omega
  obtain ⟨A, hA, hsrc⟩ : ∃ A : Addr, (if c = j then some (⟨g, 0, none⟩ : Addr) else some ⟨g, j * 10, none⟩) = some A ∧ Hid (∀ j u, news[j]? = some u → w.drew.cell? (A.add j) = some u) := by
    by_cases h : c = j
    · refine ⟨⟨g, 0, none⟩, by simp [h], fun j u hu => ?_⟩
      have h0 : news.length = 0 := by omega
      rw [List.length_eq_zero_iff.1 h0] at hu
      simp at hu
    · refine ⟨⟨g, j * 10, none⟩, by simp [h], fun j u hu => ?_⟩
      rw [Go.WideShapes.add_plain]
      refine hcell _ _ ?_
      rw [hsplit, List.getElem?_append_right (by omega), htl, Nat.add_sub_cancel_left]
      exact hu
  have s2 := Lib.hid (show ∀ u ∈ news, u.oneCell' = true from by rw [hnews]; exact flat_mem oenc_one _)
  have s3 := Lib.hid (show ∀ j, j < news.length → (w.drew.cell? ⟨g, 0 + i * 10 + j, none⟩).isSome = true ∧ w.drew.frozen? ⟨g, 0 + i * 10 + j, none⟩ = false from fun j hj => ⟨hsome _ (by omega), hfree _⟩)
  have s1 := Lib.hid hnl
  have HI := Lib.hid (And.intro hi1 (And.intro hi2 (And.intro hi3 hi4)))
  have HC := Lib.hid (And.intro hcell (And.intro hsome hfree))
  have HF := Lib.hid (show flat oenc (xs.eraseIdx i) = flat oenc (xs.take i) ++ news by rw [List.eraseIdx_eq_take_drop_succ, flat_append, hnews, hj])
  have HF2 := Lib.hid (show flat oenc xs = flat oenc (xs.take i) ++ flat oenc (xs.drop i) by rw [← flat_append, List.take_append_drop])
  have HF3 := Lib.hid (show (flat oenc (xs.take i)).length = i * 10 by rw [flat_len oenc_len, List.length_take]; congr 1; omega)
  have HE := Lib.hid (show (xs.eraseIdx i).length = i + k by rw [List.length_eraseIdx, if_pos (by omega)]; omega)
  have hic : i ≤ c := by omega
  have hjc : j ≤ c := by omega
  have hij : ((i : Int) == (j : Int)) = false := by simp; omega
  have hij2 : i ≤ j := by omega
  have hne : ¬ j + k = i := by omega
  have hjk : (j : Int) ≤ (j : Int) + (k : Int) := by omega
  have HJ := Lib.hid hj
  clear hj
  clear hcell hsome hfree hi1 hi2 hi3 hi4 hsplit htl hnews hnl hfl hk
  rw [hl]
  go_enter Try.func34, Try.ntmps34
  go_wp2_with fail
  obtain ⟨W1, hW1⟩ : ∃ W1, W1 = w.drew.setCells g (0 + i * 10) news := ⟨_, rfl⟩
  have HW := Lib.hid hW1
  clear hW1
  go_region_law (refine step_append_room rfl (.tmp 22) (.tmp 25) 34 rfl 23 t0 10 Try.underlying34 HI.out.1 HI.out.2.2.1 g 0 i c (by simp [Act.eval, Act.put]) A k (c - j) news (by simp [Act.eval, Act.put]) s1.out hsrc s2.out (by omega) s3.out ?_; rw [← HW.out])
  have hcell1 : ∀ m u, (flat oenc (xs.eraseIdx i))[m]? = some u → W1.cell? ⟨g, m, none⟩ = some u := fun m u hu => by
    rw [HF.out] at hu
    rw [HW.out, Nat.zero_add]
    by_cases hm : m < i * 10
    · rw [World.cell?_setCells_out g _ _ _ _ (fun _ _ => .inl hm)]
      rw [List.getElem?_append_left (by rw [HF3.out]; exact hm)] at hu
      exact HC.out.1 m u (by rw [HF2.out, List.getElem?_append_left (by rw [HF3.out]; exact hm)]; exact hu)
    · obtain ⟨r, rfl⟩ : ∃ r, m = i * 10 + r := ⟨m - i * 10, by omega⟩
      rw [List.getElem?_append_right (by rw [HF3.out]; omega), HF3.out, Nat.add_sub_cancel_left] at hu
      have hr := (List.getElem?_eq_some_iff.1 hu).1
      rw [World.cell?_setCells_in g news (i * 10) w.drew (fun q hq => by have := (s3.out q hq).1; rwa [Nat.zero_add] at this) r hr]
      rw [← hu, List.getElem?_eq_getElem hr]
  have hsome1 : ∀ m, m < c * 10 → (W1.cell? ⟨g, m, none⟩).isSome = true := fun m hm => by
    rw [HW.out, Nat.zero_add]
    by_cases h1 : i * 10 ≤ m ∧ m < i * 10 + news.length
    · obtain ⟨r, rfl⟩ : ∃ r, m = i * 10 + r := ⟨m - i * 10, by omega⟩
      rw [World.cell?_setCells_in g news (i * 10) w.drew (fun q hq => by have := (s3.out q hq).1; rwa [Nat.zero_add] at this) r (by omega)]
      rfl
    · rw [World.cell?_setCells_out g _ _ _ _ (fun _ _ => by simp; omega)]
      exact HC.out.2.1 m hm
  have hfree1 : ∀ m, W1.frozen? ⟨g, m, none⟩ = false := fun m => by
    rw [HW.out, World.frozen?_setCells]
    exact HC.out.2.2 m
  have hji : j + k - (i + k) = 1 := by have := HJ.out; omega
  have hcl : ∀ ty, (Builtin.clear_ #[34] ty #[.slice (some ⟨g, (i + k) * 10, none⟩) (j + k - (i + k)) (c - (i + k))]).run Try.prog W1 = .ok (.tuple #[]) (W1.setCells g ((i + k) * 10) (Builtin.zeroCells #[.int .i64 0, .int .i64 0, .int .i64 0, .int .i64 0, .int .i64 0, .int .i64 0, .int .i64 0, .int .i64 0, .int .i64 0, .string .empty] (j + k - (i + k))).toList) := fun ty =>
    run_clear_k W1 _ _ ty (.agg #[.int .i64 0, .int .i64 0, .int .i64 0, .int .i64 0, .int .i64 0, .int .i64 0, .int .i64 0, .int .i64 0, .int .i64 0, .string .empty]) Try.underlying34 Try.zeroValue23 (by decide) (by intro u hu; simp [Value.cells] at hu; rcases hu with rfl | rfl <;> rfl) g ((i + k) * 10) (j + k - (i + k)) (c - (i + k)) (by omega)
      (fun m hm => hsome1 _ (by rw [hji] at hm; simp [Value.cells] at hm; have := HJ.out; omega))
      (fun m _ => hfree1 _)
  have HB1 := Lib.hid (show Below B w W1 by rw [HW.out]; exact Go.below_setCells hB _ _ _ (Below.refl _ _).drew)
  have HC1 := Lib.hid hcell1
  have h1 : ((i : Int) + (k : Int)) ≤ (j : Int) + (k : Int) := by omega
  have h2 : ¬ c = i + k := by have := HJ.out; omega
  have h3 : i + k ≤ j + k := by omega
  have h4 : i + k ≤ c := by omega
  clear s1 s2 s3 hsrc HI hA hcell1 hsome1 hfree1 hji HC HF2 HF3
  go_wp2_with fail
  go_ret
  refine ⟨by rw [HE.out]; rfl, ?_, Go.below_setCells hB _ _ _ HB1.out⟩
  intro _
  refine ⟨g, 0, rfl, fun m u hm => ?_⟩
  have hm2 : m < (i + k) * 10 := by
    have := (List.getElem?_eq_some_iff.1 hm).1
    rwa [flat_len oenc_len, HE.out] at this
  rw [Nat.zero_add, World.cell?_setCells_out g _ _ _ _ (fun _ _ => .inl hm2)]
  exact HC1.out m u hm
theorem wpList_store_at {P : Program} {ops : Array Oper} {rest : List Oper} {o : Oper} {a : Act} {w : World} {Q : Exit → Act → World → Prop} (hgd : o.guard = none) (ty : TypeId) (x y : Operand) (ho : o.op = .store ty x y)
    (g n : Nat) (cells : Array Value) (hx : a.eval x = .pointer (some ⟨g, n, none⟩)) (hy : a.eval y = .agg cells) (t : TypeId) (old : Array Value) (hg : w.heap[g]? = some (.cells old t (0, 0)))
    (hi : (P.info? ty).map (·.size) = some cells.size) (hfit : n + cells.size ≤ old.size) (h1 : cells.all (·.oneCell') = true)
    (h : wpList P ops Q rest (a.put o.dst undef) (w.setRow g (old.toList.take n ++ cells.toList ++ old.toList.drop (n + cells.size)).toArray)) : wpList P ops Q (o :: rest) a w := by
  refine wpList_plain hgd fun K hK => ?_
  have hst := run_storeCells_at (P := P) g n t cells.toList 0 old w hg (by simpa using hfit) (fun v hv => (Array.all_eq_true_iff_forall_mem.1 h1) v (by simpa using hv))
  simp only [Nat.add_zero, Array.length_toList] at hst
  have hrun : (storeVar ty ⟨g, n, none⟩ (.agg cells)).run P w = .ok () (w.setRow g (old.toList.take n ++ cells.toList ++ old.toList.drop (n + cells.size)).toArray) := by
    cases hq : P.info? ty with
    | none => simp [hq] at hi
    | some i =>
      have hs : cells.size = i.size := by simp [hq] at hi; omega
      simp [storeVar, sizeOf, typeInfo, hq, Value.cells, hst, ← hs]
  unfold Oper.wp execOp
  simp only [ho, hx, hy, Instr.storeAt, Instr.sureAddr, Sem.run_bind, Sem.run_pure, Result.andThen_ok, hrun]
  exact hK _ _ h
theorem oflat_set (v : Od) (X : List Value) (ys : List Od) (i : Nat) (hi : i < ys.length) : List.take (i * 10) (flat oenc ys ++ X) ++ (oenc v ++ List.drop (i * 10 + (oenc v).length) (flat oenc ys ++ X)) = flat oenc (ys.set i v) ++ X := by
  have e1 : flat oenc ys = flat oenc (ys.take i) ++ (oenc ys[i] ++ flat oenc (ys.drop (i + 1))) := by
    have : oenc ys[i] ++ flat oenc (ys.drop (i + 1)) = flat oenc (ys[i] :: ys.drop (i + 1)) := rfl
    rw [this, ← flat_append, ← List.drop_eq_getElem_cons hi, List.take_append_drop]
  have e2 : flat oenc (ys.set i v) = flat oenc (ys.take i) ++ (oenc v ++ flat oenc (ys.drop (i + 1))) := by
    have : oenc v ++ flat oenc (ys.drop (i + 1)) = flat oenc (v :: ys.drop (i + 1)) := rfl
    rw [this, ← flat_append, List.set_eq_take_append_cons_drop, if_pos hi]
  have l1 : (flat oenc (ys.take i)).length = i * 10 := by rw [flat_len oenc_len, List.length_take]; congr 1; omega
  have l2 : ∀ x : Od, (oenc x).length = 10 := oenc_len
  rw [e1, e2, l2 v]
  rw [List.append_assoc (flat oenc (ys.take i)), List.take_left' l1, ← List.drop_drop, List.drop_left' l1, List.append_assoc (oenc ys[i]), List.drop_left' (l2 _)]
  simp only [List.append_assoc]
/-- The cells of an order of a row that is known whole. -/
theorem oblk_mid {W : World} {g : Nat} {ys : List Od} {X : List Value} {bt : TypeId} (h : Bk.Blk W g ((flat oenc ys ++ X).toArray) bt) {j : Nat} (hj : j < ys.length) : W.rangeAt g (j * 10) (oenc ys[j]!) := fun i u hu => by
  have hi : i < 10 := by
    have := (List.getElem?_eq_some_iff.1 hu).1
    rwa [oenc_len] at this
  rw [h.cell]
  have hg := flat_get oenc_len ys j i hj hi
  have hl := flat_len oenc_len ys
  rw [hu] at hg
  simp [List.getElem?_append_left (show j * 10 + i < (flat oenc ys).length by rw [hl]; omega), hg]
/-- Where DeleteFunc stands. -/
def oDR (w : World) (B g : Nat) (X : List Value) (p : Od → Bool) (xs : List Od) (gg : Nat) (s5 s6 : Value) (W : World) : Prop := ∃ (i j : Nat) (ys : List Od), j + gg = xs.length ∧ s5 = .int .i64 i ∧ s6 = .int .i64 j ∧ DelInv p xs ys i j ∧ Bk.Blk W g ((flat oenc ys ++ X).toArray) 23 ∧ Below B w W
set_option maxHeartbeats 4000000 in
theorem odel_any (g0 : Nat) (lb : Array Value) (p : Od → Bool) (B g c : Nat) (xs : List Od) (w : World) (eg : ∀ args w, (callFunc g0 args).run Try.prog w = .ok (.enter g0 args) w) (hp : PredO g0 lb p B w) (ho : OwnR oenc 10 23 w B g c xs) (hn : xs.length ≤ 100000) (hcx : xs.length ≤ c) :
    Calls Try.prog 37 #[.slice (some ⟨g, 0, none⟩) xs.length c, .func (.func g0) #[] lb] w fun e w' => e = .returned (.slice (some ⟨g, 0, none⟩) (xs.filter fun x => !p x).length c) ∧ RowIn oenc w' (some ⟨g, 0, none⟩) (xs.filter fun x => !p x) ∧ Below B w w' := by
  have hrow := ho.row
  obtain ⟨hB, hcm, X, hX, hk⟩ := ho
  have HI := Lib.hid (ixo_any g0 lb p (some ⟨g, 0, none⟩) c xs w hn hrow eg (fun d W h => hp d W (h.mono (Nat.le_trans hB (Nat.le_of_lt hk.lt)))))
  have HP := Lib.hid hp
  have hgs := hk.lt
  obtain ⟨fl, hfl⟩ : ∃ fl, fl = (xs.filter fun x => !p x) := ⟨_, rfl⟩
  rw [← hfl]
  have HFL := Lib.hid hfl
  have HK := Lib.hid hk
  have HROW := Lib.hid hrow
  clear hfl hk hp hrow
  go_enter Try.func37, Try.ntmps37
  go_wp2_with fail
  refine (HI.out).mono ?_
  rintro e w1 ⟨r, rfl, hr, hb1⟩
  rcases hr with ⟨rfl, hall⟩ | ⟨k0, hk0, rfl, ht, hall⟩
  · have HE := Lib.hid (show fl = xs by
      rw [HFL.out]
      exact Ln.filter_none fun x hx => by
        obtain ⟨m, hm, rfl⟩ := List.mem_iff_getElem.1 hx
        have := hall m hm
        rwa [getElem!_pos xs m hm] at this)
    clear hall
    go_wp2_with fail
    go_ret
    exact ⟨by rw [HE.out]; rfl, by rw [HE.out]; exact HROW.out.later hb1, hb1.mono (Nat.le_trans hB (Nat.le_of_lt hgs))⟩
  · have hne1 : ((k0 : Int) == -1) = false := beq_eq_false_iff_ne.2 (by omega)
    have HST := Lib.hid (DelInv.start hk0 ht hall)
    have hkb := HK.out.later hb1
    have hbw := hb1.mono (Nat.le_trans hB (Nat.le_of_lt hgs))
    clear hall ht hb1
    go_wp2_with fail
    go_loopg [5, 6] (xs.length - (k0 + 1)) (oDR w B g X p xs)
    case atStart => exact ⟨k0, k0 + 1, xs, by omega, rfl, by go_num, HST.out, hkb, hbw⟩
    case round =>
      clear hkb hbw
      obtain ⟨i, j, ys, hj, rfl, rfl, inv, hkb, hbr⟩ := hrel
      have hyl := inv.len
      have hij := inv.lt
      have hjx := inv.le
      have hzr := hbr.size
      have hgr := hkb.lt
      by_cases hlt : j < xs.length
      · have hm := oblk_mid hkb (show j < ys.length by omega)
        rw [inv.rest j (Nat.le_refl j) hlt] at hm
        have HINV := Lib.hid inv
        generalize hv : xs[j]! = v at *
        have HV := Lib.hid hv
        clear inv hv
        have hba : Below B w ((wr.alloc (.cells #[.int .i64 0, .int .i64 0, .int .i64 0, .int .i64 0, .int .i64 0, .int .i64 0, .int .i64 0, .int .i64 0, .int .i64 0, .string { data := #[] }] 23)).setRow wr.heap.size (oenc v).toArray) := Ln.Below_setRow (hbr.alloc (by omega) _) (by omega) _
        have hva : Bk.Blk ((wr.alloc (.cells #[.int .i64 0, .int .i64 0, .int .i64 0, .int .i64 0, .int .i64 0, .int .i64 0, .int .i64 0, .int .i64 0, .int .i64 0, .string { data := #[] }] 23)).setRow wr.heap.size (oenc v).toArray) wr.heap.size (oenc v).toArray 23 := Ln.Blk_setRow_same Bk.Blk.nw10
        have hka : Bk.Blk ((wr.alloc (.cells #[.int .i64 0, .int .i64 0, .int .i64 0, .int .i64 0, .int .i64 0, .int .i64 0, .int .i64 0, .int .i64 0, .int .i64 0, .string { data := #[] }] 23)).setRow wr.heap.size (oenc v).toArray) g ((flat oenc ys ++ X).toArray) 23 := Ln.Blk_setRow_ne (hkb.alloc) (by omega)
        have hcall := HP.out v _ hba
        go_upto_region 8 with (first | (refine wpList_load_mid rfl 23 _ rfl g (j * 10) (by first | rfl | simp) (oenc v) _ hm Try.underlying23 rfl (by kernel_rfl) ?_) | (refine wpList_store_row rfl 23 _ _ rfl _ _ rfl rfl _ _ Bk.Blk.nw10 (by kernel_rfl) rfl (all_oneCell_toArray (oenc_one v)) ?_))
        clear hm hkb hbr
        have hx0 : wr.heap.size < ((wr.alloc (.cells #[.int .i64 0, .int .i64 0, .int .i64 0, .int .i64 0, .int .i64 0, .int .i64 0, .int .i64 0, .int .i64 0, .int .i64 0, .string { data := #[] }] 23)).setRow wr.heap.size (oenc v).toArray).heap.size := hva.lt
        generalize ((wr.alloc (.cells #[.int .i64 0, .int .i64 0, .int .i64 0, .int .i64 0, .int .i64 0, .int .i64 0, .int .i64 0, .int .i64 0, .int .i64 0, .string { data := #[] }] 23)).setRow wr.heap.size (oenc v).toArray) = w2 at *
        generalize wr.heap.size = gv at *
        have hsz : (Try.prog.info? 23).map (·.size) = some (oenc v).toArray.size := by kernel_rfl
        cases hq : p v
        · have HQ := Lib.hid hq
          rw [hq] at hcall
          clear hq
          go_wp2_with (refine wpList_load_row rfl 23 _ rfl _ rfl _ _ _ _ hva Try.underlying23 rfl (by kernel_rfl) ?_)
          refine hcall.mono ?_
          rintro e w3 ⟨rfl, hb3⟩
          replace hva := hva.later hb3
          replace hka := hka.later hb3
          have hbb : Below B w w3 := hba.trans (hb3.mono (by omega))
          clear hba hb3 hcall
          have hix : i < xs.length := by omega
          have hiy : i < ys.length := by omega
          have hfit : i * 10 + (oenc v).toArray.size ≤ (flat oenc ys ++ X).toArray.size := by
            have := flat_len oenc_len ys
            simp only [List.size_toArray, List.length_append, this]
            show i * 10 + 10 ≤ _
            omega
          go_wp2_with (first | (refine wpList_load_row rfl 23 _ rfl _ rfl _ _ _ _ hva Try.underlying23 rfl (by kernel_rfl) ?_) | (refine wpList_store_at rfl 23 _ _ rfl g (i * 10) _ (by first | rfl | simp) rfl 23 _ hka (by kernel_rfl) hfit (all_oneCell_toArray (oenc_one v)) ?_))
          go_roundg (gk - 1)
          case measure => omega
          case rel =>
            refine ⟨i + 1, j + 1, ys.set i v, by omega, by go_num, by go_num, ?_, ?_, ?_⟩
            · have := HINV.out.keep hlt (by rw [HV.out]; exact HQ.out)
              rwa [HV.out] at this
            · rw [← oflat_set v X ys i hiy]
              exact Ln.Blk_setRow_same hka
            · exact Ln.Below_setRow hbb hB _
        · have HQ := Lib.hid hq
          rw [hq] at hcall
          clear hq
          go_wp2_with (refine wpList_load_row rfl 23 _ rfl _ rfl _ _ _ _ hva Try.underlying23 rfl (by kernel_rfl) ?_)
          refine hcall.mono ?_
          rintro e w3 ⟨rfl, hb3⟩
          replace hka := hka.later hb3
          have hbb : Below B w w3 := hba.trans (hb3.mono (by omega))
          clear hba hb3 hcall hva
          go_wp2_with fail
          go_roundg (gk - 1)
          case measure => omega
          case rel => exact ⟨i, j + 1, ys, by omega, rfl, by go_num, HINV.out.skip hlt (by rw [HV.out]; exact HQ.out), hka, hbb⟩
      · have hjn : j = xs.length := by omega
        rw [hjn] at inv
        obtain ⟨hf1, hf2⟩ := inv.fin
        have HF1 := Lib.hid hf1
        have HF2 := Lib.hid hf2
        clear hf1 hf2 inv
        have hix : i < xs.length := by omega
        have hic : i < c := by omega
        have hl := flat_len oenc_len ys
        have hcl : ∀ ty, (Builtin.clear_ #[34] ty #[.slice (some ⟨g, i * 10, none⟩) (xs.length - i) (c - i)]).run Try.prog wr = .ok (.tuple #[]) (wr.setCells g (i * 10) (Builtin.zeroCells #[.int .i64 0, .int .i64 0, .int .i64 0, .int .i64 0, .int .i64 0, .int .i64 0, .int .i64 0, .int .i64 0, .int .i64 0, .string .empty] (xs.length - i)).toList) := fun ty =>
          run_clear_k wr _ _ ty (.agg #[.int .i64 0, .int .i64 0, .int .i64 0, .int .i64 0, .int .i64 0, .int .i64 0, .int .i64 0, .int .i64 0, .int .i64 0, .string .empty]) Try.underlying34 Try.zeroValue23 (by decide) (by intro u hu; simp [Value.cells] at hu; rcases hu with rfl | rfl <;> rfl) g (i * 10) (xs.length - i) (c - i) (by omega)
            (fun m hm => by
              rw [hkb.cell]
              simp [Value.cells] at hm
              simp [show i * 10 + m < (flat oenc ys).length + X.length by rw [hl]; omega])
            (fun m _ => hkb.free _)
        have HKB := Lib.hid hkb
        clear hkb
        go_wp2_with fail
        go_ret
        refine ⟨by rw [HFL.out, HF2.out]; rfl, ?_, Go.below_setCells hB _ _ _ hbr⟩
        rw [HFL.out, ← HF1.out]
        intro _
        refine ⟨g, 0, rfl, fun m u hm => ?_⟩
        have hm2 : m < i * 10 := by
          have := (List.getElem?_eq_some_iff.1 hm).1
          rw [flat_len oenc_len, List.length_take] at this
          have : min i ys.length * 10 ≤ i * 10 := Nat.mul_le_mul_right _ (Nat.min_le_left ..)
          omega
        rw [flat_take oenc_len ys i m hm2 (by omega)] at hm
        rw [Nat.zero_add, World.cell?_setCells_out g _ _ _ _ (fun _ _ => .inl hm2), HKB.out.cell]
        have := (List.getElem?_eq_some_iff.1 hm).1
        simp [List.getElem?_append_left this, hm]
end Go.Proofs.Ytdlmoijeflchgaa.So
