/- By hand: Below, the program's and the reference's, and the law FnExactBelow walked: it answers true for every two texts. -/
import Derived.Test.YtpgdmbmcnemlmaaDoorQFnExactBelowx0
import Derived.Test.YtpgdmbmcnemlmaaDoorPrefix
namespace Go.Proofs.YtpgdmbmcnemlmaaDoor.PFnExactParts
open Go.RowKit Go.Proofs.YtpgdmbmcnemlmaaDoorW.PrintWords Go.Proofs.YtpgdmbmcnemlmaaDoorW.PrintLast Go.Proofs.YtpgdmbmcnemlmaaDoorW.PrintMore
open Go.Proofs.YtpgdmbmcnemlmaaDoor.Mth Go.Proofs.YtpgdmbmcnemlmaaDoor.Str
set_option linter.unusedVariables false
set_option linter.unusedSimpArgs false
/-! ### Below -/
def sl1 : ByteArray := ⟨#[47]⟩
def preB (x y : ByteArray) : Bool := Lib.hasPrefix x.data.toList (y ++ sl1).data.toList
def belB (x y : ByteArray) : Bool := decide (x = y) || (decide (y = sl1) || preB x y)
def belowB (a b : ByteArray) : Bool := okB a && (okB b && belB (cleanB a) (cleanB b))
theorem mkB_size (l : List UInt8) : (mkB l).size = l.length := by show l.toArray.size = l.length; simp
theorem cleaned_small (s : ByteArray) (h : okB s = true) : (cleanedB s).length ≤ 61 ∧ ∀ p ∈ cleanedB s, p.size ≤ 60 := by
  have hz := okB_size s h
  have hpl := piecesB_len s
  have h1 := cleaned_len (piecesB s) (piecesB s).length
  rw [List.take_length] at h1
  refine ⟨Nat.le_trans h1 (by omega), fun p hp => ?_⟩
  rcases cleaned_mem _ _ _ hp with h | h
  · simp at h
  · have := pieces_size s p h; omega
theorem joinB_size (L : List ByteArray) (hl : L.length ≤ 61) (hn : ∀ p ∈ L, p.size ≤ 60) : 1 ≤ (joinB L).size ∧ (joinB L).size ≤ 4000 := by
  unfold joinB
  by_cases h : L = []
  · rw [if_pos h]; decide
  · rw [if_neg h, mkB_size]
    have h1 := joinTail_len L 60 hn
    have h2 : L.length * (60 + 1) ≤ 61 * 61 := Nat.mul_le_mul hl (by omega)
    refine ⟨?_, by omega⟩
    cases L with
    | nil => exact absurd rfl h
    | cons p L => unfold Lib.joinTail; simp
theorem cleanB_size (s : ByteArray) : (okB s = true → 1 ≤ (cleanB s).size) ∧ (cleanB s).size ≤ 4000 := by
  unfold cleanB
  by_cases h : okB s = true
  · rw [if_pos h]
    obtain ⟨h1, h2⟩ := cleaned_small s h
    obtain ⟨h3, h4⟩ := joinB_size _ h1 h2
    exact ⟨fun _ => h3, h4⟩
  · rw [if_neg h]
    exact ⟨fun e => absurd e h, by decide⟩
theorem cleanB_no (s : ByteArray) (h : okB s = false) : cleanB s = ⟨#[]⟩ := by unfold cleanB; rw [h]; rfl
theorem size_ne (p : ByteArray) (h : 1 ≤ p.size) : ¬ p.toList = [] := toList_ne p (by omega)
theorem preB_eq (x y : ByteArray) : preB x y = (decide (y.size + 1 ≤ x.size) && ((x.extract 0 (y.size + 1)).toList == (y ++ sl1).toList)) := by
  have hx : x.data.toList.length = x.size := by rw [Array.length_toList]; rfl
  have hy : (y ++ sl1).data.toList.length = y.size + 1 := by
    rw [Array.length_toList]
    show (y ++ sl1).size = _
    rw [ByteArray.size_append]; rfl
  have he : (x.extract 0 (y.size + 1)).data.toList = x.data.toList.take (y.size + 1) := by
    rw [ByteArray.data_extract, Array.toList_extract, List.extract_eq_take_drop, List.drop_zero, Nat.sub_zero]
  unfold preB Lib.hasPrefix
  rw [ByteArray.toList_eq, ByteArray.toList_eq, he]
  apply Bool.eq_iff_iff.2
  rw [List.isPrefixOf_iff_prefix, Bool.and_eq_true, decide_eq_true_eq, beq_iff_eq]
  constructor
  · intro h
    have h1 := h.length_le
    rw [hx, hy] at h1
    refine ⟨h1, ?_⟩
    have := List.prefix_iff_eq_take.1 h
    rw [hy] at this
    exact this.symm
  · rintro ⟨h1, h2⟩
    rw [← h2]
    exact List.take_prefix _ _
theorem belowS_ev (a b : ByteArray) : Ev (fun k => spec_Below.f k a b) (belowB a b) := by
  unfold spec_Below.f belowB
  obtain ⟨xa, xl⟩ := cleanB_size a
  obtain ⟨ya, yl⟩ := cleanB_size b
  refine Ev.bind (cleanS_ev a) (Ev.bind (cleanS_ev b) ?_)
  have hno : Ev (fun k => spec_Below.j0 k (cleanB a) (cleanB b) true) false := Ev.step (fun _ => spec_Below.j0.eq_2 ..) (ev_pos rfl (ev_now rfl))
  cases ha : okB a with
  | false =>
    have e : (cleanB a).toList = [] := by rw [cleanB_no a ha, ByteArray.toList_eq]
    exact ev_pos e hno
  | true =>
    refine ev_neg (size_ne _ (xa ha)) ?_
    cases hb : okB b with
    | false =>
      have e : ((cleanB b).toList == ([] : List UInt8)) = true := by rw [cleanB_no b hb, ByteArray.toList_eq]; rfl
      rw [e]
      exact hno
    | true =>
      have e : ((cleanB b).toList == ([] : List UInt8)) = false := by
        rw [beq_eq_false_iff_ne]; exact size_ne _ (ya hb)
      rw [e, Bool.true_and, Bool.true_and]
      generalize cleanB a = x at *
      generalize cleanB b = y at *
      refine Ev.step (fun _ => spec_Below.j0.eq_2 ..) (ev_neg (by simp) ?_)
      unfold belB
      have e47 : sl1.toList = [47] := by rw [ByteArray.toList_eq]; rfl
      by_cases h1 : y = sl1
      · refine ev_pos (by rw [h1]; exact e47) (ev_now ?_)
        simp [h1]
      · refine ev_neg (dot_ne h1 e47) ?_
        rw [decide_eq_false h1, Bool.false_or]
        by_cases h2 : x = y
        · exact ev_pos (by rw [h2]) (ev_now (by simp [h2]))
        · refine ev_neg (fun e => h2 (toList_eq_iff.1 e)) ?_
          rw [decide_eq_false h2, Bool.false_or, preB_eq]
          have e3 : wrap64 ((y.size : Int) + 1) = ((y.size + 1 : Nat) : Int) := w64 (by omega) (by omega)
          by_cases h3 : y.size + 1 ≤ x.size
          · refine ev_pos (by omega) ?_
            rw [e3]
            refine ev_pos (by omega) (ev_pos (by omega) (ev_pos (by omega) (ev_now ?_)))
            rw [Int.toNat_natCast, decide_eq_true h3, Bool.true_and]; rfl
          · refine ev_neg (by omega) (ev_now ?_)
            rw [decide_eq_false h3, Bool.false_and]
theorem belowS_any (a b : ByteArray) (w : World) : Calls Tryd.prog 14 #[.string a, .string b] w fun e w' => e = .returned (.bool (belowB a b)) ∧ Below w.heap.size w w' := by
  obtain ⟨K, hK⟩ := belowS_ev a b
  exact spec_Below.calls K a b _ w (hK K (Nat.le_refl _))
theorem prefix_any (x y : ByteArray) (w : World) : Calls Tryd.prog 25 #[.string x, .string (y ++ (⟨#[47]⟩ : ByteArray))] w fun e w' => e = .returned (.bool (preB x y)) ∧ w' = w := Tryd.strings_HasPrefix x (y ++ (⟨#[47]⟩ : ByteArray)) w
set_option maxHeartbeats 4000000 in
set_option maxRecDepth 100000 in
theorem belowI_any (a b : ByteArray) (m : Int) (w : World) (hsa : a.size ≤ 1048576) (hsb : b.size ≤ 1048576) (hm : w.cell? ⟨0, 0, none⟩ = some (.int .i64 m)) :
    Calls Tryd.prog 15 #[.string a, .string b] w fun e w' => e = .returned (.bool (belowB a b)) ∧ Below w.heap.size w w' := by
  have CA := fun W => okI_any a hsa W
  have CB := fun W => okI_any b hsb W
  have XA := Aside0.mk (fun (W : World) (hW : Below w.heap.size w W) => cleanI_any a m W hsa (pw_cell_below hW hm))
  have XB := Aside0.mk (fun (W : World) (hW : Below w.heap.size w W) => cleanI_any b m W hsb (pw_cell_below hW hm))
  have hxl := (cleanB_size a).2
  have hyl := (cleanB_size b).2
  clear hsa hsb hm
  cases ha : okB a with
  | false =>
    rw [ha] at CA
    have HF := Aside0.mk (show belowB a b = false from by unfold belowB; rw [ha]; rfl)
    have CA := Aside0.mk CA
    clear ha CB XA XB hxl hyl
    go_enter Tryd.func15, Tryd.ntmps15
    go_wp2_with (go_at_call 20; refine (CA.out _).mono ?_; rintro e w1 ⟨rfl, hd⟩; have HB := Aside0.mk hd.below; clear hd)
    go_ret
    exact ⟨by rw [HF.out]; rfl, HB.out⟩
  | true =>
    rw [ha] at CA
    cases hb : okB b with
    | false =>
      rw [hb] at CB
      have HF := Aside0.mk (show belowB a b = false from by unfold belowB; rw [ha, hb]; rfl)
      have CA := Aside0.mk CA
      have CB := Aside0.mk CB
      clear ha hb XA XB hxl hyl
      go_enter Tryd.func15, Tryd.ntmps15
      go_wp2_with (first | (go_at_call 20; (with_reducible refine (CA.out _).mono ?_); rintro e w1 ⟨rfl, hd⟩; have HB := Aside0.mk hd.below; clear hd CA) | (go_at_call 20; (with_reducible refine (CB.out _).mono ?_); rintro e w2 ⟨rfl, hd⟩; have n0_ := Aside0.mk (below_then HB.out HB.out.size hd.below); clear HB hd; have HB := n0_; clear n0_))
      go_ret
      exact ⟨by rw [HF.out]; rfl, HB.out⟩
    | true =>
      rw [hb] at CB
      have HF := Aside0.mk (show belowB a b = belB (cleanB a) (cleanB b) from by unfold belowB; rw [ha, hb]; rfl)
      have CA := Aside0.mk CA
      have CB := Aside0.mk CB
      clear ha hb
      generalize cleanB a = x at XA HF hxl
      generalize cleanB b = y at XB HF hyl
      by_cases h1 : x = y
      · subst h1
        have HF := Aside0.mk (show belowB a b = true from by rw [HF.out]; unfold belB; simp)
        go_enter Tryd.func15, Tryd.ntmps15
        go_wp2_with (first | (go_at_call 20; (with_reducible refine (CA.out _).mono ?_); rintro e w1 ⟨rfl, hd⟩; have HB := Aside0.mk hd.below; clear hd CA) | (go_at_call 20; (with_reducible refine (CB.out _).mono ?_); rintro e w2 ⟨rfl, hd⟩; have n0_ := Aside0.mk (below_then HB.out HB.out.size hd.below); clear HB hd CB; have HB := n0_; clear n0_) | (go_at_call 13; (with_reducible refine (XA.out _ HB.out).mono ?_); rintro e w3 ⟨rfl, hb⟩; have n0_ := Aside0.mk (below_then HB.out HB.out.size hb); clear HB hb XA; have HB := n0_; clear n0_) | (go_at_call 13; (with_reducible refine (XB.out _ HB.out).mono ?_); rintro e w4 ⟨rfl, hb⟩; have n0_ := Aside0.mk (below_then HB.out HB.out.size hb); clear HB hb XB; have HB := n0_; clear n0_) | (go_at_call 25; (with_reducible refine (CP.out _).mono ?_); rintro e w5 ⟨rfl, rfl⟩))
        go_ret
        exact ⟨by rw [HF.out]; rfl, HB.out⟩
      · have e1 : ¬ x.toList = y.toList := fun e => h1 (toList_eq_iff.1 e)
        have b1 : (x.toList == y.toList) = false := by simpa using e1
        by_cases h2 : y = sl1
        · have HF := Aside0.mk (show belowB a b = true from by rw [HF.out]; unfold belB; simp [h2])
          have e2 : y.toList = [47] := by rw [h2, ByteArray.toList_eq]; rfl
          have b2 : (y.toList == [47]) = true := by simpa using e2
          clear h1 h2 e1 e2
          go_enter Tryd.func15, Tryd.ntmps15
          go_wp2_with (first | (go_at_call 20; (with_reducible refine (CA.out _).mono ?_); rintro e w1 ⟨rfl, hd⟩; have HB := Aside0.mk hd.below; clear hd CA) | (go_at_call 20; (with_reducible refine (CB.out _).mono ?_); rintro e w2 ⟨rfl, hd⟩; have n0_ := Aside0.mk (below_then HB.out HB.out.size hd.below); clear HB hd CB; have HB := n0_; clear n0_) | (go_at_call 13; (with_reducible refine (XA.out _ HB.out).mono ?_); rintro e w3 ⟨rfl, hb⟩; have n0_ := Aside0.mk (below_then HB.out HB.out.size hb); clear HB hb XA; have HB := n0_; clear n0_) | (go_at_call 13; (with_reducible refine (XB.out _ HB.out).mono ?_); rintro e w4 ⟨rfl, hb⟩; have n0_ := Aside0.mk (below_then HB.out HB.out.size hb); clear HB hb XB; have HB := n0_; clear n0_) | (go_at_call 25; (with_reducible refine (CP.out _).mono ?_); rintro e w5 ⟨rfl, rfl⟩))
          go_ret
          exact ⟨by rw [HF.out]; rfl, HB.out⟩
        · have HF := Aside0.mk (show belowB a b = preB x y from by rw [HF.out]; unfold belB; rw [decide_eq_false h1, decide_eq_false h2]; rfl)
          have e2 : ¬ y.toList = [47] := dot_ne h2 (by rw [ByteArray.toList_eq]; rfl)
          have b2 : (y.toList == [47]) = false := by simpa using e2
          have CP := Aside0.mk (fun W => prefix_any x y W)
          clear h1 h2 e1 e2
          go_enter Tryd.func15, Tryd.ntmps15
          go_wp2_with (first | (go_at_call 20; (with_reducible refine (CA.out _).mono ?_); rintro e w1 ⟨rfl, hd⟩; have HB := Aside0.mk hd.below; clear hd CA) | (go_at_call 20; (with_reducible refine (CB.out _).mono ?_); rintro e w2 ⟨rfl, hd⟩; have n0_ := Aside0.mk (below_then HB.out HB.out.size hd.below); clear HB hd CB; have HB := n0_; clear n0_) | (go_at_call 13; (with_reducible refine (XA.out _ HB.out).mono ?_); rintro e w3 ⟨rfl, hb⟩; have n0_ := Aside0.mk (below_then HB.out HB.out.size hb); clear HB hb XA; have HB := n0_; clear n0_) | (go_at_call 13; (with_reducible refine (XB.out _ HB.out).mono ?_); rintro e w4 ⟨rfl, hb⟩; have n0_ := Aside0.mk (below_then HB.out HB.out.size hb); clear HB hb XB; have HB := n0_; clear n0_) | (go_at_call 25; (with_reducible refine (CP.out _).mono ?_); rintro e w5 ⟨rfl, rfl⟩))
          go_ret
          exact ⟨by rw [HF.out]; rfl, HB.out⟩
/-! ### laws_FnExactBelow: function 5 (by hand) -/
set_option maxHeartbeats 1000000 in
set_option maxRecDepth 100000 in
theorem laws_FnExactBelow.cardWalk (m : Int) (s t : ByteArray) (w : World) (hm : w.cell? ⟨0, 0, none⟩ = some (.int .i64 m)) (hs0 : s.size ≤ 140737488351232) (ht0 : t.size ≤ 140737488351232) :
    Calls Tryd.prog 5 #[.string s, .string t] w fun e w' => e = .returned (.bool true) ∧ Below w.heap.size w w' := by
  by_cases hs : s.size ≤ 1048576
  · have hsb : decide ((1048576 : Int) < (s.size : Int)) = false := decide_eq_false (by omega)
    have hsn : decide (1048576 < s.size) = false := decide_eq_false (by omega)
    by_cases ht : t.size ≤ 1048576
    · have htb : decide ((1048576 : Int) < (t.size : Int)) = false := decide_eq_false (by omega)
      have htn : decide (1048576 < t.size) = false := decide_eq_false (by omega)
      have HM := Aside0.mk hm
      have HS := Aside0.mk hs
      have HT := Aside0.mk ht
      obtain ⟨r, hr⟩ : ∃ r, r = belowB s t := ⟨_, rfl⟩
      have HR := Aside0.mk hr
      clear hm hs hs0 ht ht0 hr
      go_enter Tryd.func5, Tryd.ntmps5
      go_wp2_with (first | (go_at_call 14; refine (belowS_any s t _).mono ?_; rintro e w1 ⟨rfl, hb⟩; rw [← HR.out]; have H1 := Aside0.mk hb; clear hb) | (go_at_call 15; refine (belowI_any s t m _ HS.out HT.out (pw_cell_below H1.out HM.out)).mono ?_; rintro e w2 ⟨rfl, hb⟩; rw [← HR.out]; have H2 := Aside0.mk (below_then H1.out H1.out.size hb); clear hb))
      go_ret
      exact ⟨rfl, H2.out⟩
    · have htb : decide ((1048576 : Int) < (t.size : Int)) = true := decide_eq_true (by omega)
      have htn : decide (1048576 < t.size) = true := decide_eq_true (by omega)
      clear hs hs0 hm ht ht0
      go_enter Tryd.func5, Tryd.ntmps5
      go_wp2
      go_ret
      exact ⟨rfl, Below.refl _ _⟩
  · have hsb : decide ((1048576 : Int) < (s.size : Int)) = true := decide_eq_true (by omega)
    have hsn : decide (1048576 < s.size) = true := decide_eq_true (by omega)
    clear hs hs0 hm ht0
    go_enter Tryd.func5, Tryd.ntmps5
    go_wp2
    go_ret
    exact ⟨rfl, Below.refl _ _⟩
end Go.Proofs.YtpgdmbmcnemlmaaDoor.PFnExactParts
