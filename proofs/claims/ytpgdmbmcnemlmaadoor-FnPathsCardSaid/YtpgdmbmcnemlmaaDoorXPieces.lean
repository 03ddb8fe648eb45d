/- By hand: strings.Split at a slash (the library's contract, laid at this program) and the pieces of a text, as the program cuts them and as the reference does; is a path right. -/
import Derived.Test.YtpgdmbmcnemlmaaDoorQFnExactPartsx3
import Derived.Test.YtpgdmbmcnemlmaaDoorSplit
import Derived.Test.YtpgdmbmcnemlmaaDoorMath
import Derived.Test.YtpgdmbmcnemlmaaDoorStr
import Derived.Lib.SplitLaws
namespace Go.Proofs.YtpgdmbmcnemlmaaDoor.PFnExactParts
open Go.RowKit Go.Proofs.YtpgdmbmcnemlmaaDoorW.PrintWords Go.Proofs.YtpgdmbmcnemlmaaDoorW.PrintLast Go.Proofs.YtpgdmbmcnemlmaaDoorW.PrintMore
open Go.Proofs.YtpgdmbmcnemlmaaDoor.Mth Go.Proofs.YtpgdmbmcnemlmaaDoor.Str
set_option linter.unusedVariables false
set_option linter.unusedSimpArgs false
/-! ### strings.Split at "/", and the pieces that are not empty -/
def slash : ByteArray := ⟨#[47]⟩
def splitL (s : ByteArray) : List ByteArray := Lib.splitB slash 0 (Lib.countB s slash) s
theorem splitL_len (s : ByteArray) : (splitL s).length = Lib.countB s slash + 1 := Lib.splitB_all slash (by decide) 0 _ s rfl
theorem splitL_le (s : ByteArray) : (splitL s).length ≤ s.size + 1 := by
  rw [splitL_len]
  have := Lib.countB_le slash (by decide) s.size s (Nat.le_refl _)
  omega
theorem split_any (s : ByteArray) (m : Int) (w : World) (hs : s.size ≤ 1048576) (hm : w.cell? ⟨0, 0, none⟩ = some (.int .i64 m)) :
    Calls Tryd.prog 33 #[.string s, .string ⟨#[47]⟩] w fun e w' => ∃ g, e = .returned (.slice (some ⟨g, 0, none⟩) (splitL s).length (splitL s).length) ∧ w'.heap[g]? = some (.cells ((splitL s).map Value.string).toArray 9 (0, 0)) ∧ g = w.heap.size ∧ Below w.heap.size w w' := by
  refine (Tryd.strings_Split s ⟨#[47]⟩ m w (by omega) hm (by decide)).mono ?_
  rintro e w' ⟨rfl, rfl⟩
  exact ⟨w.heap.size, by rw [splitL_len]; rfl, heap_alloc_new w _, rfl, below_alloc (Below.refl _ _) _⟩
def neB (p : ByteArray) : Bool := decide (p.size ≠ 0)
def piecesB (s : ByteArray) : List ByteArray := (splitL s).filter neB
theorem toList_ne (p : ByteArray) (h : p.size ≠ 0) : ¬ p.toList = [] := by
  intro e
  rw [ByteArray.toList_eq] at e
  have h1 := congrArg List.length e
  exact h (by simpa using h1)
set_option maxHeartbeats 4000000 in
set_option maxRecDepth 100000 in
theorem pieces_any (s : ByteArray) (m : Int) (w : World) (hs : s.size ≤ 1048576) (hm : w.cell? ⟨0, 0, none⟩ = some (.int .i64 m)) :
    Calls Tryd.prog 21 #[.string s] w fun e w' => ∃ v, e = .returned v ∧ Kd.R Kd.string 9 w' w.heap.size (fun _ => True) v (piecesB s) ∧ Below w.heap.size w w' := by
  have HM := Aside0.mk hm
  have hn := splitL_le s
  obtain ⟨n, hnn⟩ : ∃ q, q = (splitL s).length := ⟨_, rfl⟩
  have hn1 : n ≤ 1048577 := by omega
  have HN := Aside0.mk hnn
  have HS := Aside0.mk hs
  clear hm hn hnn hs
  go_enter Tryd.func21, Tryd.ntmps21
  go_wp2_with (first | ((with_reducible refine gate_dst (N := 6) rfl ?_); refine Kd.R_lit Kd.string _ 9 ?hg (N := 6) ?hd (xs := ([] : List ByteArray)) (inner := []) (ok := fun _ => True) (okp := fun _ => True) ?hr ?hp (fun _ hk => hk) trivial (Below.refl _ _) (Nat.le_refl _) (by simp) ?_; (case hd => rfl); (case hg => rfl); (case hr => first | (go_simp; done) | (go_simp; rfl)); (case hp => exact (Reps.none _ _)); intro v4 w4 ho4 hb hg_ hnew_; clear hg_ hnew_; have HO := Aside0.mk ho4; have HB := Aside0.mk hb; clear ho4 hb) | (go_at_call 33; refine (split_any s m _ HS.out (pw_cell_below HB.out HM.out)).mono ?_; rintro e w5 ⟨g, rfl, hbk, hg, hb⟩; have HBK := Aside0.mk hbk; have n0_ := Kd.R_below (Kd.R_mono (Kd.R_bound HO.out) (fun k hk => (show k ≠ g by have := hk.2.2.1; omega))) hb; have n1_ := below_then HB.out HB.out.size hb; clear HO HB hbk hg hb; have HO := Aside0.mk n0_; have HB := Aside0.mk n1_; clear n0_ n1_; rw [← HN.out]))
  go_loopg [3, 10] n (fun kq v3 v10 w' => ∃ (x : Nat), v10 = .int .i64 (x : Int) ∧ Aside0 (x + kq = n) ∧ Aside0 (Kd.R Kd.string 9 w' w.heap.size (fun k => k ≠ g) v3 (((splitL s).take x).filter neB)) ∧ Aside0 (w'.heap[g]? = some (.cells ((splitL s).map Value.string).toArray 9 (0, 0))) ∧ Aside0 (Below w.heap.size w w'))
  case atStart => exact ⟨0, rfl, ⟨by omega⟩, ⟨by rw [List.take_zero, List.filter_nil]; exact HO.out⟩, HBK, HB⟩
  case round =>
    clear HO HB HBK HM
    obtain ⟨x, rfl, HX, HO, HBK, HB⟩ := hrel
    by_cases hlt : x < n
    · cases gk with
      | zero => have := HX.out; omega
      | succ k1 =>
      have hlx : x < (splitL s).length := by have := HN.out; omega
      have hx0 : wr.cell? ⟨g, x, none⟩ = some (.string (splitL s)[x]) := (blk_cell HBK.out x).trans (by rw [List.getElem?_toArray, List.getElem?_map, List.getElem?_eq_getElem hlx]; rfl)
      have HF := Aside0.mk (show ((splitL s).take (x + 1)).filter neB = ((splitL s).take x).filter neB ++ (if neB (splitL s)[x] = true then [(splitL s)[x]] else []) from by
        rw [List.take_succ_eq_append_getElem hlx, List.filter_append, List.filter_cons, List.filter_nil])
      have HL := Aside0.mk (show (((splitL s).take x).filter neB).length ≤ 1048577 from Nat.le_trans (List.length_filter_le _ _) (by rw [List.length_take]; omega))
      generalize (splitL s)[x] = p at hx0 HF
      clear hlx
      by_cases hp : p.size = 0
      · have e : p = ⟨#[]⟩ := (show p = ByteArray.empty by simpa using hp).trans rfl
        subst e
        clear hp
        go_wp2
        go_roundg k1
        case measure => omega
        case rel => exact ⟨x + 1, by go_num, ⟨by have := HX.out; omega⟩, ⟨by rw [HF.out, if_neg (by decide), List.append_nil]; exact HO.out⟩, HBK, HB⟩
      · have e1 : ¬ p.toList = [] := toList_ne p hp
        have e2 : p.toList.isEmpty = false := by simpa using e1
        have HP := Aside0.mk (show neB p = true from decide_eq_true hp)
        clear hp
        go_wp2_with (first | ((with_reducible refine gate_builtin (b := .append) (xs := #[.tmp 16, .tmp 18]) rfl ?_); at_builtin; refine Kd.R_append Kd.string (w0 := w) w.heap.size rfl (.tmp 16) (.tmp 18) 22 9 (.string ⟨#[]⟩) 16 rfl Tryd.underlying22 info9 rfl (by decide) (by omega) u3 (((splitL s).take x).filter neB) p [.string p] (fun k => k ≠ g) (fun _ => False) rfl rfl ?aP (fun _ hk => hk.elim) ?aF ?aO ?aB ?aS ?aL ?_; (case aP => exact rfl); (case aF => exact (fun k hk => by have := blk_lt HBK.out; omega)); (case aO => exact HO.out); (case aB => exact HB.out); (case aS => exact HB.out.size); (case aL => have := HL.out; omega); intro v1 w1 ho hb hg hat; have n0_ := blk_grown HBK.out hg (fun e => HO.out.1 _ e.symm rfl); clear HBK HB HO; have HO := Aside0.mk ho; have HB := Aside0.mk hb; have HBK := Aside0.mk n0_; clear ho hb hg hat n0_))
        go_roundg k1
        case measure => omega
        case rel => exact ⟨x + 1, by go_num, ⟨by have := HX.out; omega⟩, ⟨by rw [HF.out, if_pos HP.out]; exact HO.out⟩, HBK, HB⟩
    · have HE := Aside0.mk (show Kd.R Kd.string 9 wr w.heap.size (fun _ => True) u3 (piecesB s) from by
        have h1 := HO.out
        rw [List.take_of_length_le (by have := HX.out; have := HN.out; omega)] at h1
        exact Kd.R_mono h1 (fun _ _ => trivial))
      have hlt' : ¬ (x : Int) < (n : Int) := by omega
      clear hlt
      go_wp2
      go_ret
      exact ⟨_, rfl, HE.out, HB.out⟩
/-! ### the pieces of a text, on lists -/
def cutL : List UInt8 → List UInt8 → List (List UInt8)
  | cur, [] => if cur = [] then [] else [cur]
  | cur, b :: t => if b = 47 then (if cur = [] then cutL [] t else cur :: cutL [] t) else cutL (cur ++ [b]) t
theorem cutL_none : ∀ (a cur : List UInt8), (∀ k : Nat, a[k]? ≠ some (47 : UInt8)) → cutL cur a = if cur ++ a = [] then [] else [cur ++ a]
  | [], cur, _ => by rw [cutL, List.append_nil]
  | b :: t, cur, h => by
    have hb : b ≠ 47 := fun e => h 0 (by rw [e]; rfl)
    rw [cutL, if_neg hb, cutL_none t _ (fun k => h (k + 1)), List.append_assoc]
    rfl
theorem cutL_some : ∀ (a cur b : List UInt8), (∀ k : Nat, a[k]? ≠ some (47 : UInt8)) → cutL cur (a ++ 47 :: b) = (if cur ++ a = [] then [] else [cur ++ a]) ++ cutL [] b
  | [], cur, b, _ => by
    rw [List.nil_append, cutL, if_pos rfl, List.append_nil]
    split <;> rfl
  | c :: t, cur, b, h => by
    have hb : c ≠ 47 := fun e => h 0 (by rw [e]; rfl)
    rw [List.cons_append, cutL, if_neg hb, cutL_some t _ b (fun k => h (k + 1)), List.append_assoc]
    rfl
theorem splitK_cut : ∀ (n : Nat) (s : List UInt8), s.length ≤ n → (Lib.splitK [47] 0 (Lib.count s [47]) s).filter (fun l => decide (l ≠ [])) = cutL [] s := by
  intro n
  induction n with
  | zero =>
    intro s h
    obtain rfl : s = [] := List.length_eq_zero_iff.1 (by omega)
    rfl
  | succ n ih =>
    intro s h
    have e1 := Lib.index_one s 47
    have hge := Lib.indexByte_ge s 47
    by_cases hm : Lib.indexByte s 47 = -1
    · have hi : Lib.index s [47] = -1 := e1.trans hm
      rw [Lib.count_miss hi, cutL_none s [] (Lib.indexByte_none hm), List.nil_append]
      unfold Lib.splitK
      rw [List.filter_cons, List.filter_nil]
      by_cases hs : s = []
      · rw [if_pos hs, if_neg (by simp [hs])]
      · rw [if_neg hs, if_pos (by simp [hs])]
    · obtain ⟨o, ho⟩ : ∃ o : Nat, Lib.indexByte s 47 = o := ⟨(Lib.indexByte s 47).toNat, by omega⟩
      have hi : Lib.index s [47] = o := e1.trans ho
      obtain ⟨h1, h2⟩ := Lib.indexByte_some ho
      have hlt : o < s.length := (List.getElem?_eq_some_iff.1 h1).1
      have hs : s = s.take o ++ 47 :: s.drop (o + 1) := by
        have h3 := List.drop_eq_getElem_cons hlt
        rw [(List.getElem?_eq_some_iff.1 h1).2] at h3
        rw [← h3, List.take_append_drop]
      have hc : Lib.count s [47] = Lib.count (s.drop (o + 1)) [47] + 1 := by
        have := Lib.count_hit (s := s) (sub := [47]) (i := o) (by decide) hi
        rw [this, Nat.add_comm]; rfl
      have hr := ih (s.drop (o + 1)) (by rw [List.length_drop]; omega)
      have hcut : cutL [] s = (if s.take o = [] then [] else [s.take o]) ++ cutL [] (s.drop (o + 1)) := by
        conv => lhs; rw [hs]
        rw [cutL_some (s.take o) [] _ (fun k => by
          rw [List.getElem?_take]
          split
          · exact h2 k (by omega)
          · simp), List.nil_append]
      rw [hcut, hc, Lib.splitK]
      rw [if_neg (by rw [hi]; simp), hi]
      rw [List.filter_cons]
      have ht : ((o : Int).toNat + 0) = o := by omega
      have ht2 : ((o : Int).toNat + ([47] : List UInt8).length) = o + 1 := by simp
      rw [ht, ht2, hr]
      by_cases hz : s.take o = []
      · rw [if_neg (by simp [hz]), if_pos hz]; rfl
      · rw [if_pos (by simp [hz]), if_neg hz]; rfl
def mkB (l : List UInt8) : ByteArray := ⟨l.toArray⟩
theorem mkB_data (p : ByteArray) : mkB p.data.toList = p := by
  unfold mkB
  rw [Array.toArray_toList]
theorem pieces_cut (s : ByteArray) : piecesB s = (cutL [] s.data.toList).map mkB := by
  have h1 := splitK_cut s.data.toList.length s.data.toList (Nat.le_refl _)
  have h2 := Lib.splitB_data slash 0 (Lib.countB s slash) s
  have h3 : (piecesB s).map (·.data.toList) = cutL [] s.data.toList := by
    rw [← h1]
    unfold piecesB splitL
    rw [show Lib.splitK [47] 0 (Lib.count s.data.toList [47]) s.data.toList = (Lib.splitB slash 0 (Lib.countB s slash) s).map (·.data.toList) from h2.symm, List.filter_map]
    congr 1
    apply List.filter_congr
    intro p _
    have hz : p.size = p.data.toList.length := by rw [Array.length_toList]; rfl
    show decide (p.size ≠ 0) = decide (p.data.toList ≠ [])
    rw [decide_eq_decide, hz]
    exact ⟨fun h e => h (by rw [e]; rfl), fun h e => h (List.length_eq_zero_iff.1 e)⟩
  rw [← h3, List.map_map]
  have : (mkB ∘ fun x : ByteArray => x.data.toList) = id := funext mkB_data
  rw [this, List.map_id]
/-! ### is a path right: the program's and the reference's -/
theorem within_eq (a b c : Int) : impl_within.f a b c = some (decide (b ≤ a ∧ a ≤ c)) := by
  unfold impl_within.f
  by_cases h : a ≥ b
  · rw [if_pos h]; have : b ≤ a := h; simp [this]
  · rw [if_neg h]; have : ¬ b ≤ a := h; simp [this]
theorem l1In_eq (a b c : Int) : spec_l1In.f a b c = some (decide (b ≤ a ∧ a ≤ c)) := by
  unfold spec_l1In.f
  by_cases h : a ≥ b
  · rw [if_pos h]; have : b ≤ a := h; simp [this]
  · rw [if_neg h]; have : ¬ b ≤ a := h; simp [this]
theorem byte_spec (x : Int) : spec_l2Byte.f x = some (nameByte x) := by
  unfold spec_l2Byte.f nameByte
  repeat' split
  all_goals (congr 1; apply Bool.eq_iff_iff.2; simp only [beq_iff_eq, decide_eq_true_eq, true_iff, false_iff, iff_true]; omega)
theorem path_spec_loop (s : ByteArray) (hs : s.size ≤ 60) : ∀ (d i : Nat), i + d = s.size → Ev (fun k => spec_PathOk.l0 k s (i : Int)) (((bytesOf s).drop i).all slashByte) := by
  intro d
  induction d with
  | zero =>
    intro i hi
    rw [all_end s _ i (by omega)]
    exact Ev.step (spec_PathOk.l0.eq_2 _ _) (ev_neg (by omega) (ev_now rfl))
  | succ d ih =>
    intro i hi
    rw [all_drop s _ i (by omega)]
    refine Ev.step (spec_PathOk.l0.eq_2 _ _) (ev_pos (by omega) (ev_pos (by omega) ?_))
    have e3 : wrap64 ((i : Int) + 1) = ((i + 1 : Nat) : Int) := w64 (by omega) (by omega)
    rw [e3]
    unfold slashByte
    by_cases h47 : bt s (i : Int) = 47
    · refine ev_pos h47 ?_
      rw [h47]
      have := ih (i + 1) (by omega)
      unfold slashByte at this
      simpa using this
    · refine ev_neg h47 (ev_of (byte_spec _) ?_)
      rw [decide_eq_false h47, Bool.false_or]
      by_cases h : nameByte (bt s (i : Int)) = true
      · rw [h, Bool.true_and]
        exact ev_pos rfl (ih (i + 1) (by omega))
      · have h' : nameByte (bt s (i : Int)) = false := by simpa using h
        rw [h', Bool.false_and]
        exact ev_neg (by simp) (ev_now rfl)
theorem path_spec (s : ByteArray) : Ev (fun k => spec_PathOk.f k s) (pathOkL (bytesOf s)) := by
  unfold spec_PathOk.f pathOkL targetL
  rw [bytesOf_length, ← bt_get s 0]
  by_cases h1 : 1 ≤ s.size ∧ s.size ≤ 60
  · refine ev_of (l1In_eq _ _ _) (ev_pos (by simp; omega) (ev_pos (by omega) ?_))
    rw [decide_eq_true h1, Bool.true_and]
    by_cases h47 : bt s 0 = 47
    · refine Ev.step (spec_PathOk.j0.eq_2 _ _) (ev_neg (by simp [h47]) ?_)
      have := path_spec_loop s h1.2 s.size 0 (by omega)
      simpa [h47] using this
    · refine Ev.step (spec_PathOk.j0.eq_2 _ _) (ev_pos (by simp [h47]) (ev_now ?_))
      simp [h47]
  · refine ev_of (l1In_eq _ _ _) (ev_neg (by simp; omega) ?_)
    rw [decide_eq_false h1, Bool.false_and, Bool.false_and]
    exact Ev.step (spec_PathOk.j0.eq_2 _ _) (ev_pos rfl (ev_now rfl))
theorem byte_impl (x : Int) : impl_isNameByte.f x = some (nameByte x) := by
  unfold impl_isNameByte.f nameByte
  repeat' split
  all_goals (congr 1; apply Bool.eq_iff_iff.2; simp only [beq_iff_eq, decide_eq_true_eq, true_iff, false_iff, iff_true]; omega)
theorem target_impl_loop (s : ByteArray) (hs : s.size ≤ 140737488351232) : ∀ (d i : Nat), i + d = s.size → Ev (fun k => impl_isTarget.l0 k s (s.size : Int) (i : Int)) (decide (1 ≤ s.size ∧ s.size ≤ 60) && ((bytesOf s).drop i).all slashByte) := by
  intro d
  induction d with
  | zero =>
    intro i hi
    rw [all_end s _ i (by omega), Bool.and_true]
    refine Ev.step (impl_isTarget.l0.eq_2 _ _ _) (ev_neg (by omega) (ev_of (within_eq _ _ _) (ev_now ?_)))
    congr 1
    apply Bool.eq_iff_iff.2
    simp only [decide_eq_true_eq]; omega
  | succ d ih =>
    intro i hi
    rw [all_drop s _ i (by omega)]
    refine Ev.step (impl_isTarget.l0.eq_2 _ _ _) (ev_pos (by omega) (ev_pos (by omega) (ev_pos (by omega) ?_)))
    have e3 : wrap64 ((i : Int) + 1) = ((i + 1 : Nat) : Int) := w64 (by omega) (by omega)
    rw [e3]
    unfold slashByte
    by_cases h47 : bt s (i : Int) = 47
    · refine ev_pos h47 ?_
      rw [h47]
      have := ih (i + 1) (by omega)
      unfold slashByte at this
      simpa using this
    · refine ev_neg h47 (ev_of (byte_impl _) ?_)
      rw [decide_eq_false h47, Bool.false_or]
      by_cases h : nameByte (bt s (i : Int)) = true
      · rw [h, Bool.true_and]
        exact ev_pos rfl (ih (i + 1) (by omega))
      · have h' : nameByte (bt s (i : Int)) = false := by simpa using h
        rw [h', Bool.false_and, Bool.and_false]
        exact ev_neg (by simp) (ev_now rfl)
theorem target_impl (s : ByteArray) (hs : s.size ≤ 140737488351232) : Ev (fun k => impl_isTarget.f k s) (targetL (bytesOf s)) := by
  unfold impl_isTarget.f targetL
  rw [bytesOf_length]
  have := target_impl_loop s hs s.size 0 (by omega)
  simpa using this
theorem path_impl (s : ByteArray) (hs : s.size ≤ 140737488351232) : Ev (fun k => impl_PathOk.f k s) (pathOkL (bytesOf s)) := by
  unfold impl_PathOk.f pathOkL
  refine Ev.bind (target_impl s hs) ?_
  by_cases h : targetL (bytesOf s) = true
  · refine ev_pos h (ev_pos ?_ (ev_now ?_))
    · unfold targetL at h
      simp [bytesOf_length] at h
      omega
    · rw [← bt_get s 0, h, Bool.true_and]
      congr 1
  · have h' : targetL (bytesOf s) = false := by simpa using h
    refine ev_neg h (ev_now ?_)
    rw [h', Bool.false_and]
/-! ### Parts -/
def okB (s : ByteArray) : Bool := pathOkL (bytesOf s)
theorem okB_size (s : ByteArray) (h : okB s = true) : 1 ≤ s.size ∧ s.size ≤ 60 := by
  unfold okB pathOkL targetL at h
  rw [Bool.and_eq_true, Bool.and_eq_true, decide_eq_true_eq, bytesOf_length] at h
  exact h.1.1
theorem okI_any (s : ByteArray) (hs : s.size ≤ 1048576) (w : World) : Calls Tryd.prog 20 #[.string s] w fun e w' => e = .returned (.bool (okB s)) ∧ Drawn0 w w' := by
  obtain ⟨K, hK⟩ := path_impl s (by omega)
  exact impl_PathOk.calls K s _ w (hK K (Nat.le_refl _))
def partsB (s : ByteArray) : List ByteArray := if okB s = true then piecesB s else []
theorem extract_mk (s : ByteArray) (a b : Nat) : s.extract a b = mkB ((s.data.toList.drop a).take (b - a)) := by
  rw [← mkB_data (s.extract a b), ByteArray.data_extract, Array.toList_extract, List.extract_eq_take_drop]
theorem bt_data (s : ByteArray) (i : Nat) (h : i < s.data.toList.length) : bt s (i : Int) = ((s.data.toList[i]).toNat : Int) := by
  unfold bt
  rw [dif_pos (show ((i : Int)).toNat < s.size by rw [Int.toNat_natCast]; rwa [Array.length_toList] at h)]
  rfl
theorem parts_loop (s : ByteArray) (hs : s.size ≤ 60) : ∀ (d i f : Nat) (acc : List ByteArray), i + d = s.size → f ≤ i → acc.length ≤ i → Ev (fun k => spec_Parts.l0 k s acc (f : Int) (i : Int)) (acc ++ (cutL ((s.data.toList.drop f).take (i - f)) (s.data.toList.drop i)).map mkB) := by
  have hsz : s.data.toList.length = s.size := by rw [Array.length_toList]; rfl
  have hend : ∀ (acc : List ByteArray) (f i : Int), i = s.size + 1 → Ev (fun k => spec_Parts.l0 k s acc f i) acc := fun acc f i hi =>
    Ev.step (fun _ => spec_Parts.l0.eq_2 ..) (ev_neg (by omega) (ev_now rfl))
  intro d
  induction d with
  | zero =>
    intro i f acc hi hf ha
    have e3 : wrap64 ((i : Int) + 1) = (s.size : Int) + 1 := by have := w64 (n := (i : Int) + 1) (by omega) (by omega); omega
    have hd : s.data.toList.drop i = [] := List.drop_of_length_le (by omega)
    rw [hd, cutL]
    refine Ev.step (fun _ => spec_Parts.l0.eq_2 ..) (ev_pos (by omega) (ev_pos (by omega) (Ev.step (fun _ => spec_Parts.j1.eq_2 ..) (ev_pos rfl ?_))))
    by_cases h : f < i
    · have hne : ¬ (s.data.toList.drop f).take (i - f) = [] := fun e => by
        have := congrArg List.length e
        rw [List.length_take, List.length_drop, hsz] at this
        simp at this; omega
      refine ev_pos (by omega) (ev_pos (by omega) (ev_pos (by omega) (ev_pos (by omega) (ev_pos (by omega) ?_))))
      rw [if_neg hne, Int.toNat_natCast, Int.toNat_natCast, extract_mk]
      exact hend _ _ _ (by omega)
    · have he : (s.data.toList.drop f).take (i - f) = [] := by rw [show i - f = 0 by omega]; rfl
      refine ev_neg (by omega) ?_
      rw [if_pos he, List.map_nil, List.append_nil]
      exact hend _ _ _ (by omega)
  | succ d ih =>
    intro i f acc hi hf ha
    have hlt : i < s.data.toList.length := by omega
    have e3 : wrap64 ((i : Int) + 1) = ((i + 1 : Nat) : Int) := w64 (by omega) (by omega)
    have hb := bt_data s i hlt
    rw [List.drop_eq_getElem_cons hlt, cutL]
    refine Ev.step (fun _ => spec_Parts.l0.eq_2 ..) (ev_pos (by omega) (ev_neg (by omega) (ev_pos (by omega) (ev_pos (by omega) ?_))))
    rw [hb]
    by_cases h47 : s.data.toList[i] = 47
    · rw [if_pos h47, h47]
      refine Ev.step (fun _ => spec_Parts.j1.eq_2 ..) (ev_pos rfl ?_)
      have ih' := fun acc ha => ih (i + 1) (i + 1) acc (by omega) (by omega) ha
      rw [Nat.sub_self, List.take_zero] at ih'
      by_cases h : f < i
      · have hne : ¬ (s.data.toList.drop f).take (i - f) = [] := fun e => by
          have := congrArg List.length e
          rw [List.length_take, List.length_drop, hsz] at this
          simp at this; omega
        refine ev_pos (by omega) (ev_pos (by omega) (ev_pos (by omega) (ev_pos (by omega) (ev_pos (by omega) ?_))))
        rw [if_neg hne, Int.toNat_natCast, Int.toNat_natCast, extract_mk, e3, List.map_cons]
        have := ih' (acc ++ [mkB ((s.data.toList.drop f).take (i - f))]) (by rw [List.length_append]; simp; omega)
        rw [List.append_assoc] at this
        exact this
      · have he : (s.data.toList.drop f).take (i - f) = [] := by rw [show i - f = 0 by omega]; rfl
        refine ev_neg (by omega) ?_
        rw [if_pos he, e3]
        exact ih' acc (by omega)
    · have hb47 : (((s.data.toList[i]).toNat : Int) == 47) = false := by
        rw [beq_eq_false_iff_ne]
        intro e
        apply h47
        apply UInt8.toNat_inj.1
        have : (47 : UInt8).toNat = 47 := rfl
        omega
      rw [if_neg h47, hb47]
      refine Ev.step (fun _ => spec_Parts.j1.eq_2 ..) (ev_neg (by simp) ?_)
      rw [e3]
      have := ih (i + 1) f acc (by omega) (by omega) (by omega)
      have ht : (s.data.toList.drop f).take (i + 1 - f) = (s.data.toList.drop f).take (i - f) ++ [s.data.toList[i]] := by
        rw [show i + 1 - f = (i - f) + 1 by omega, List.take_succ_eq_append_getElem (by rw [List.length_drop]; omega)]
        congr 2
        rw [List.getElem_drop]
        congr 1; omega
      rw [ht] at this
      exact this
theorem partsS_ev (s : ByteArray) : Ev (fun k => spec_Parts.f k s) (partsB s) := by
  unfold spec_Parts.f partsB
  refine ev_some (Ev.bind (path_spec s) ?_)
  by_cases h : okB s = true
  · rw [if_pos h, pieces_cut]
    refine ev_pos h ?_
    have := parts_loop s (okB_size s h).2 s.size 0 0 [] (by omega) (by omega) (by simp)
    simpa using this
  · rw [if_neg h]
    exact ev_neg h (ev_now rfl)
end Go.Proofs.YtpgdmbmcnemlmaaDoor.PFnExactParts
