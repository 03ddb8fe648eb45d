/- By hand: the law FnExactParts walked: it answers true for every text. -/
import Derived.Test.YtpgdmbmcnemlmaaDoorXPieces
namespace Go.Proofs.YtpgdmbmcnemlmaaDoor.PFnExactParts
open Go.RowKit Go.Proofs.YtpgdmbmcnemlmaaDoorW.PrintWords Go.Proofs.YtpgdmbmcnemlmaaDoorW.PrintLast Go.Proofs.YtpgdmbmcnemlmaaDoorW.PrintMore
open Go.Proofs.YtpgdmbmcnemlmaaDoor.Mth Go.Proofs.YtpgdmbmcnemlmaaDoor.Str
set_option linter.unusedVariables false
set_option linter.unusedSimpArgs false
/-! ### marks: what is written into a slice of texts -/
theorem mtL_some : ∀ (d : Nat) (x : Int) (acc : ByteArray), 0 ≤ x → x ≤ 1000000000 → x < 10 ^ d → acc.size + d ≤ 1000 → ∃ r, laws_markText.l0 (d + 1) x acc = some r
  | 0, x, acc, h0, hb, h1, ha => by
    have : x = 0 := by simp at h1; omega
    subst this
    simp only [laws_markText.l0]
    rw [if_neg (by omega), if_pos (by omega)]
    exact ⟨_, rfl⟩
  | d + 1, x, acc, h0, hb, h1, ha => by
    unfold laws_markText.l0
    by_cases hx : x > 0
    · have e1 : (strOfNums [(wrap64 (48 + (Int.tmod x 10))) % 256]).size = 1 := by rfl
      have hd : Int.tdiv x 10 = x / 10 := Int.tdiv_eq_ediv_of_nonneg h0
      have hw : wrap64 (Int.tdiv x 10) = x / 10 := by rw [hd]; exact w64 (by omega) (by omega)
      rw [if_pos hx, Option.bind_some, if_pos (by omega), hw]
      refine mtL_some d (x / 10) _ (by omega) (by omega) ?_ (by rw [ByteArray.size_append]; omega)
      have : (10 : Int) ^ (d + 1) = 10 ^ d * 10 := Int.pow_succ ..
      omega
    · rw [if_neg hx, if_pos (by omega)]
      exact ⟨_, rfl⟩
theorem mt_some (x : Int) (h0 : 0 ≤ x) (hb : x ≤ 1000000000) : ∃ r, laws_markText.f 12 x = some r := by
  unfold laws_markText.f
  by_cases h : x ≤ 0
  · rw [if_pos h]; exact ⟨_, rfl⟩
  · rw [if_neg h]; exact mtL_some 11 x _ h0 hb (by omega) (by decide)
/-- a mark's text -/
def mtB (x : Int) : ByteArray := (laws_markText.f 12 x).getD ⟨#[]⟩
theorem mt_eq (x : Int) (h0 : 0 ≤ x) (hb : x ≤ 1000000000) : laws_markText.f 12 x = some (mtB x) := by
  obtain ⟨r, h⟩ := mt_some x h0 hb
  unfold mtB
  rw [h]; rfl
theorem mt_any (x : Int) (w : World) (h0 : 0 ≤ x) (hb : x ≤ 1000000000) : Calls Tryd.prog 22 #[.int .i64 x] w fun e w' => e = .returned (.string (mtB x)) ∧ Below w.heap.size w w' :=
  laws_markText.calls 12 x _ w (mt_eq x h0 hb)
def mkSs : Int → List ByteArray → List ByteArray
  | _, [] => []
  | k, _ :: l => mtB k :: mkSs (k + 1) l
theorem mkSs_len : ∀ (l : List ByteArray) (k : Int), (mkSs k l).length = l.length
  | [], _ => rfl
  | _ :: l, k => by rw [mkSs, List.length_cons, List.length_cons, mkSs_len l]
theorem mkSs_snoc : ∀ (l : List ByteArray) (k : Int) (d : ByteArray), mkSs k (l ++ [d]) = mkSs k l ++ [mtB (k + l.length)]
  | [], k, d => by simp [mkSs]
  | e :: l, k, d => by
    rw [List.cons_append, mkSs, mkSs, mkSs_snoc l, List.cons_append, List.length_cons]
    have : k + 1 + (l.length : Int) = k + ((l.length + 1 : Nat) : Int) := by omega
    rw [this]
theorem mkSs_get : ∀ (l : List ByteArray) (k : Int) (x : Nat) (h : x < (mkSs k l).length), (mkSs k l)[x] = mtB (k + x)
  | [], k, x, h => by simp [mkSs] at h
  | d :: l, k, 0, h => by simp [mkSs]
  | d :: l, k, x + 1, h => by
    have h' : x < (mkSs (k + 1) l).length := by rw [mkSs, List.length_cons] at h; omega
    have e := mkSs_get l (k + 1) x h'
    have e2 : k + 1 + (x : Int) = k + ((x + 1 : Nat) : Int) := by omega
    rw [e2] at e
    simpa [mkSs] using e
theorem set_mid {α : Type} (A B : List α) (y z : α) (i : Nat) (h : i = A.length) : (A ++ y :: B).set i z = A ++ z :: B := by
  subst h
  rw [List.set_append_right _ _ (Nat.le_refl _), Nat.sub_self, List.set_cons_zero]
theorem mt_more (k : Int) (h0 : 0 ≤ k) (hb : k ≤ 1000000000) (n : Nat) : laws_markText.f (12 + n) k = some (mtB k) :=
  at_rounds (fun k_ => laws_markText.mono k k_) (by omega) (mt_eq k h0 hb)
theorem markSs_loop (l : List ByteArray) (k : Int) (h0 : 0 ≤ k) (h1 : k + l.length ≤ 100000000) : ∀ (d i : Nat), i + d = l.length → laws_markStringS.l0 (d + 13) (mkSs k (l.take i) ++ l.drop i) (k + i) (i : Int) = some (k + l.length, mkSs k l) := by
  intro d
  induction d with
  | zero =>
    intro i hi
    have e : i = l.length := by omega
    subst e
    rw [List.take_length, List.drop_length, List.append_nil]
    simp only [laws_markStringS.l0]
    rw [if_neg (by rw [mkSs_len]; omega)]
  | succ d ih =>
    intro i hi
    have hlt : i < l.length := by omega
    have hl : (mkSs k (l.take i)).length = i := by rw [mkSs_len, List.length_take]; omega
    have hf := mt_more (k + i) (by omega) (by omega) (d + 1)
    rw [show 12 + (d + 1) = d + 13 by omega] at hf
    have e4 : d + 1 + 13 = (d + 13) + 1 := by omega
    rw [e4, laws_markStringS.l0.eq_2]
    rw [if_pos (by rw [List.length_append, hl, List.length_drop]; omega), hf, Option.bind_some, if_pos (by omega)]
    rw [List.drop_eq_getElem_cons hlt, Int.toNat_natCast, set_mid _ _ _ _ _ hl.symm]
    have e1 : wrap64 (k + (i : Int) + 1) = k + ((i + 1 : Nat) : Int) := by rw [w64 (by omega) (by omega)]; omega
    have e3 : wrap64 ((i : Int) + 1) = ((i + 1 : Nat) : Int) := w64 (by omega) (by omega)
    rw [e1, e3]
    have := ih (i + 1) (by omega)
    rw [List.take_succ_eq_append_getElem hlt, mkSs_snoc, List.append_assoc, List.length_take, Nat.min_eq_left (by omega)] at this
    exact this
theorem markSs_any (P : Nat → Prop) (v : Value) (l : List ByteArray) (k : Int) (w0 w : World) (hB : Below w0.heap.size w0 w) (ho : Kd.R Kd.string 9 w w0.heap.size P v l) (h0 : 0 ≤ k) (h1 : k + l.length ≤ 100000000) :
    Calls Tryd.prog 10 #[v, .int .i64 k] w fun e w' => e = .returned (.int .i64 (k + l.length)) ∧ Kd.R Kd.string 9 w' w0.heap.size P v (mkSs k l) ∧ Below w0.heap.size w0 w' ∧ Kept w w' P := by
  have h := markSs_loop l k h0 h1 l.length 0 (by omega)
  rw [List.take_zero, List.drop_zero] at h
  simp only [mkSs, List.nil_append, Int.natCast_zero, Int.add_zero] at h
  refine (laws_markStringS.calls (l.length + 13) P v l k _ _ w0 w hB ho h).mono ?_
  rintro e w' ⟨h1, h2, h3, h4⟩
  exact ⟨h1, Kd.R_mono (Kd.R_tight rfl h2) (fun _ hk => ho.1 _ hk.symm), h3, h4⟩
theorem rdS (l : List ByteArray) (i : Nat) (h : i < l.length) : rdOf ByteArray.empty l (i : Int) = l[i] := by
  unfold rdOf
  rw [Int.toNat_natCast, List.getD_eq_getElem?_getD, List.getElem?_eq_getElem h]; rfl
theorem heldSs_loop (l : List ByteArray) (k : Int) (h0 : 0 ≤ k) (h1 : k + l.length ≤ 100000000) : ∀ (d i : Nat), i + d = l.length → laws_heldStringS.l0 (d + 13) (mkSs k l) (k + i) (i : Int) = some (k + l.length) := by
  intro d
  induction d with
  | zero =>
    intro i hi
    have e : i = l.length := by omega
    subst e
    simp only [laws_heldStringS.l0]
    rw [if_neg (by rw [mkSs_len]; omega)]
  | succ d ih =>
    intro i hi
    have hlt : i < (mkSs k l).length := by rw [mkSs_len]; omega
    have hf := mt_more (k + i) (by omega) (by omega) (d + 1)
    rw [show 12 + (d + 1) = d + 13 by omega] at hf
    have e4 : d + 1 + 13 = (d + 13) + 1 := by omega
    rw [e4, laws_heldStringS.l0.eq_2]
    have e1 : wrap64 (k + (i : Int) + 1) = k + ((i + 1 : Nat) : Int) := by rw [w64 (by omega) (by omega)]; omega
    have e3 : wrap64 ((i : Int) + 1) = ((i + 1 : Nat) : Int) := w64 (by omega) (by omega)
    rw [if_pos (by omega), if_pos (by omega), hf, Option.bind_some, rdS _ i hlt, mkSs_get l k i hlt, if_pos rfl, e1, e3]
    exact ih (i + 1) (by omega)
theorem heldSs_any (v : Value) (l : List ByteArray) (k : Int) (base : Nat) (P : Nat → Prop) (w : World) (ho : Kd.R Kd.string 9 w base P v (mkSs k l)) (h0 : 0 ≤ k) (h1 : k + l.length ≤ 100000000) :
    Calls Tryd.prog 11 #[v, .int .i64 k] w fun e w' => e = .returned (.int .i64 (k + l.length)) ∧ Below w.heap.size w w' := by
  have h := heldSs_loop l k h0 h1 l.length 0 (by omega)
  simp only [Int.natCast_zero, Int.add_zero] at h
  obtain ⟨A, c, rfl, hc, hC⟩ := Kd.R_reads ho
  exact laws_heldStringS.calls (l.length + 13) A c (mkSs k l) k _ w hC hc h
theorem eqSs_loop (l : List ByteArray) (h1 : l.length ≤ 100000000) : ∀ (d i : Nat), i + d = l.length → Ev (fun k => laws_eqStringS.l0 k l l (i : Int)) true := by
  intro d
  induction d with
  | zero =>
    intro i hi
    exact Ev.step (laws_eqStringS.l0.eq_2 _ _ _) (ev_neg (by omega) (ev_now rfl))
  | succ d ih =>
    intro i hi
    have e3 : wrap64 ((i : Int) + 1) = ((i + 1 : Nat) : Int) := w64 (by omega) (by omega)
    refine Ev.step (laws_eqStringS.l0.eq_2 _ _ _) (ev_pos (by omega) (ev_pos (by omega) (ev_pos (by omega) (ev_pos rfl ?_))))
    rw [e3]
    exact ih (i + 1) (by omega)
theorem eqSs_any (u v : Value) (l : List ByteArray) (b1 b2 : Nat) (P1 P2 : Nat → Prop) (w : World) (h1 : l.length ≤ 100000000) (hu : Kd.R Kd.string 9 w b1 P1 u l) (hv : Kd.R Kd.string 9 w b2 P2 v l) :
    Calls Tryd.prog 9 #[u, v] w fun e w' => e = .returned (.bool true) ∧ Below w.heap.size w w' := by
  obtain ⟨A, c, rfl, hc, hC⟩ := Kd.R_reads hu
  obtain ⟨A', c', rfl, hc', hC'⟩ := Kd.R_reads hv
  have e : Ev (fun k => laws_eqStringS.f k l l) true := by
    unfold laws_eqStringS.f
    exact ev_pos rfl (eqSs_loop l h1 l.length 0 (by omega))
  obtain ⟨K, hK⟩ := e
  refine (laws_eqStringS.calls K A c l A' c' l true w hC hc hC' hc' (hK K (Nat.le_refl _))).mono ?_
  rintro e w' ⟨h1, h2⟩
  exact ⟨h1, h2.below⟩
/-! ### Parts: contracts -/
theorem partsB_len (s : ByteArray) : (partsB s).length ≤ 100 := by
  unfold partsB
  split
  · rename_i h
    have h1 := splitL_le s
    have h2 := okB_size s h
    unfold piecesB
    have := List.length_filter_le neB (splitL s)
    omega
  · exact Nat.zero_le _
theorem partsS_any (s : ByteArray) (w : World) : Calls Tryd.prog 7 #[.string s] w fun e w' => ∃ v, e = .returned v ∧ Kd.R Kd.string 9 w' w.heap.size (fun _ => True) v (partsB s) ∧ Below w.heap.size w w' := by
  obtain ⟨K, hK⟩ := partsS_ev s
  exact spec_Parts.calls K s _ w (hK K (Nat.le_refl _))
set_option maxHeartbeats 1000000 in
set_option maxRecDepth 100000 in
theorem partsI_any (s : ByteArray) (m : Int) (w : World) (hs : s.size ≤ 1048576) (hm : w.cell? ⟨0, 0, none⟩ = some (.int .i64 m)) :
    Calls Tryd.prog 8 #[.string s] w fun e w' => ∃ v, e = .returned v ∧ Kd.R Kd.string 9 w' w.heap.size (fun _ => True) v (partsB s) ∧ Below w.heap.size w w' := by
  have HO := fun W => okI_any s hs W
  have HS := Aside0.mk hs
  have HM := Aside0.mk hm
  clear hs hm
  cases h : okB s with
  | false =>
    rw [h] at HO
    have HP := Aside0.mk (show partsB s = [] from by unfold partsB; rw [h]; rfl)
    clear h
    go_enter Tryd.func8, Tryd.ntmps8
    go_wp2_with (go_at_call 20; refine (HO _).mono ?_; rintro e w1 ⟨rfl, ⟨n, rfl⟩⟩)
    go_ret
    exact ⟨_, rfl, by rw [HP.out]; exact Kd.R_nil _ _ _ _ _, pw_below_drewN (Below.refl _ _) _⟩
  | true =>
    rw [h] at HO
    have HP := Aside0.mk (show partsB s = piecesB s from by unfold partsB; rw [h]; rfl)
    clear h
    go_enter Tryd.func8, Tryd.ntmps8
    go_wp2_with (first | (go_at_call 20; refine (HO _).mono ?_; rintro e w1 ⟨rfl, hd⟩; have HB := Aside0.mk hd.below; clear hd) | (go_at_call 21; refine (pieces_any s m _ HS.out (pw_cell_below HB.out HM.out)).mono ?_; rintro e w2 ⟨v, rfl, hR, hb⟩; have HR := Aside0.mk (And.intro (Kd.R_lower hR HB.out.size) (below_then HB.out HB.out.size hb)); clear hR hb))
    go_ret
    exact ⟨_, rfl, by rw [HP.out]; exact HR.out.1, HR.out.2⟩
/-! ### laws_FnExactParts: function 3 (by hand) -/
/-- the reference's result, and the program's, which lies apart from it -/
structure PS (w W : World) (N1 N2 : Nat) (v1 v2 : Value) (L L2 : List ByteArray) : Prop where
  h1 : Kd.R Kd.string 9 W w.heap.size (fun k => k < N1) v1 L
  h2 : Kd.R Kd.string 9 W w.heap.size (fun k => N1 ≤ k ∧ k < N2) v2 L2
  hB : Below w.heap.size w W
namespace PS
variable {w W W1 : World} {N1 N2 : Nat} {v1 v2 : Value} {L L2 L3 : List ByteArray}
theorem start (h : Kd.R Kd.string 9 W w.heap.size (fun k => k < W.heap.size) v1 L ∧ Below w.heap.size w W) (h2 : Kd.R Kd.string 9 W1 W.heap.size (fun _ => True) v2 L2) (hb : Below W.heap.size W W1) : PS w W1 W.heap.size W1.heap.size v1 v2 L L2 :=
  ⟨Kd.R_below h.1 hb, Kd.R_lower (Kd.R_mono (Kd.R_bound h2) (fun k hk => ⟨hk.2.1, hk.2.2.1⟩)) h.2.size, below_then h.2 h.2.size hb⟩
theorem step (h : PS w W N1 N2 v1 v2 L L2) (hb : Below W.heap.size W W1) : PS w W1 N1 N2 v1 v2 L L2 := ⟨Kd.R_below h.h1 hb, Kd.R_below h.h2 hb, below_then h.hB h.hB.size hb⟩
theorem marked (h : PS w W N1 N2 v1 v2 L L2) (hR : Kd.R Kd.string 9 W1 w.heap.size (fun k => N1 ≤ k ∧ k < N2) v2 L3) (hb : Below w.heap.size w W1) (hk : Kept W W1 (fun k => N1 ≤ k ∧ k < N2)) : PS w W1 N1 N2 v1 v2 L L3 :=
  ⟨Kd.R_kept h.h1 hk (fun k h1 h2 => by omega), hR, hb⟩
end PS
set_option maxHeartbeats 4000000 in
set_option maxRecDepth 100000 in
theorem laws_FnExactParts.cardWalk (m : Int) (s : ByteArray) (w : World) (hm : w.cell? ⟨0, 0, none⟩ = some (.int .i64 m)) (hs0 : s.size ≤ 140737488351232) :
    Calls Tryd.prog 3 #[.string s] w fun e w' => e = .returned (.bool true) ∧ Below w.heap.size w w' := by
  by_cases hs : s.size ≤ 1048576
  · have hlen := partsB_len s
    have hsb : decide ((1048576 : Int) < (s.size : Int)) = false := decide_eq_false (by omega)
    have hsn : decide (1048576 < s.size) = false := decide_eq_false (by omega)
    have HM := Aside0.mk hm
    have HS := Aside0.mk hs
    obtain ⟨L, hL⟩ : ∃ L, L = partsB s := ⟨_, rfl⟩
    have HLL := Aside0.mk hL
    rw [← hL] at hlen
    have HL := Aside0.mk (show (1 : Int) + L.length ≤ 100000000 from by omega)
    have HL2 := Aside0.mk (show L.length ≤ 100000000 from by omega)
    obtain ⟨q, hq⟩ : ∃ q : Int, q = 1 + (L.length : Int) := ⟨_, rfl⟩
    have hq0 : 0 ≤ q := by omega
    have HQ := Aside0.mk hq
    clear hm hs hs0 hlen hq hL
    go_enter Tryd.func3, Tryd.ntmps3
    go_wp2_with (first | (go_at_call 7; refine (partsS_any s _).mono ?_; rintro e w1 ⟨v1, rfl, hR, hb⟩; rw [← HLL.out] at hR; have H1 := Aside0.mk (And.intro (Kd.R_mono (Kd.R_bound hR) (fun k hk => (show k < w1.heap.size from hk.2.2.1))) hb); clear hR hb) | (go_at_call 8; refine (partsI_any s m _ HS.out (pw_cell_below H1.out.2 HM.out)).mono ?_; rintro e w2 ⟨v2, rfl, hR, hb⟩; rw [← HLL.out] at hR; have P := Aside0.mk (PS.start H1.out hR hb); clear H1 hR hb) | (go_at_call 9; refine (eqSs_any v2 v1 L _ _ _ _ _ HL2.out P.out.h2 P.out.h1).mono ?_; rintro e w3 ⟨rfl, hb⟩; have n0_ := Aside0.mk (PS.step P.out hb); clear P hb HL2; have P := n0_; clear n0_) | (go_at_call 10; refine (markSs_any _ v2 L 1 w _ P.out.hB P.out.h2 (by decide) HL.out).mono ?_; rintro e w4 ⟨rfl, hR, hb, hk⟩; rw [← HQ.out]; have n0_ := Aside0.mk (PS.marked P.out hR hb hk); clear P hR hb hk; have P := n0_; clear n0_) | (go_at_call 11; refine (heldSs_any v2 L 1 _ _ _ P.out.h2 (by decide) HL.out).mono ?_; rintro e w5 ⟨rfl, hb⟩; rw [← HQ.out]; have n0_ := Aside0.mk (PS.step P.out hb); clear P hb; have P := n0_; clear n0_) | (go_at_call 8; refine (partsI_any s m _ HS.out (pw_cell_below P.out.hB HM.out)).mono ?_; rintro e w6 ⟨v3, rfl, hR, hb⟩; rw [← HLL.out] at hR; have n0_ := Aside0.mk (PS.step P.out hb); have H3 := Aside0.mk hR; clear P hR hb; have P := n0_; clear n0_) | (go_at_call 9; refine (eqSs_any v3 v1 L _ _ _ _ _ (by have := HL.out; omega) H3.out P.out.h1).mono ?_; rintro e w7 ⟨rfl, hb⟩; have n0_ := Aside0.mk (PS.step P.out hb); clear P hb H3; have P := n0_; clear n0_))
    go_ret
    exact ⟨rfl, P.out.hB⟩
  · have hsb : decide ((1048576 : Int) < (s.size : Int)) = true := decide_eq_true (by omega)
    have hsn : decide (1048576 < s.size) = true := decide_eq_true (by omega)
    clear hs hs0 hm
    go_enter Tryd.func3, Tryd.ntmps3
    go_wp2
    go_ret
    exact ⟨rfl, Below.refl _ _⟩
end Go.Proofs.YtpgdmbmcnemlmaaDoor.PFnExactParts
