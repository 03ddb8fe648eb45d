/- By hand: Clean, the program's and the reference's, and the law FnExactClean walked: it answers true for every text. -/
import Derived.Test.YtpgdmbmcnemlmaaDoorQFnExactCleanx0
import Derived.Test.YtpgdmbmcnemlmaaDoorJoin
namespace Go.Proofs.YtpgdmbmcnemlmaaDoor.PFnExactParts
open Go.RowKit Go.Proofs.YtpgdmbmcnemlmaaDoorW.PrintWords Go.Proofs.YtpgdmbmcnemlmaaDoorW.PrintLast Go.Proofs.YtpgdmbmcnemlmaaDoorW.PrintMore
open Go.Proofs.YtpgdmbmcnemlmaaDoor.Mth Go.Proofs.YtpgdmbmcnemlmaaDoor.Str
set_option linter.unusedVariables false
set_option linter.unusedSimpArgs false
/-! ### Clean -/
theorem rdP (l : List ByteArray) (i : Nat) (h : i < l.length) : rdOf ByteArray.empty l (i : Int) = l[i] := by
  unfold rdOf
  rw [Int.toNat_natCast, List.getD_eq_getElem?_getD, List.getElem?_eq_getElem h]; rfl
def dot1 : ByteArray := ⟨#[46]⟩
def dot2 : ByteArray := ⟨#[46, 46]⟩
def cleanStep (acc : List ByteArray) (p : ByteArray) : List ByteArray := if p = dot1 then acc else if p = dot2 then acc.take (acc.length - 1) else acc ++ [p]
def cleanedB (s : ByteArray) : List ByteArray := (piecesB s).foldl cleanStep []
def joinB (L : List ByteArray) : ByteArray := if L = [] then ⟨#[47]⟩ else mkB (Lib.joinTail [47] (L.map (·.data.toList)))
def cleanB (s : ByteArray) : ByteArray := if okB s = true then joinB (cleanedB s) else ⟨#[]⟩
theorem piecesB_len (s : ByteArray) : (piecesB s).length ≤ s.size + 1 := Nat.le_trans (List.length_filter_le _ _) (splitL_le s)
theorem cleanStep_len (acc : List ByteArray) (p : ByteArray) : (cleanStep acc p).length ≤ acc.length + 1 := by
  unfold cleanStep
  split
  · omega
  · split
    · rw [List.length_take]; omega
    · rw [List.length_append]; simp
theorem foldl_take {α β : Type} (f : β → α → β) (b : β) (l : List α) (x : Nat) (h : x < l.length) : (l.take (x + 1)).foldl f b = f ((l.take x).foldl f b) l[x] := by
  rw [List.take_succ_eq_append_getElem h, List.foldl_append]; rfl
theorem cleaned_len (l : List ByteArray) : ∀ x, ((l.take x).foldl cleanStep []).length ≤ x
  | 0 => by simp
  | x + 1 => by
    by_cases h : x < l.length
    · rw [foldl_take _ _ _ _ h]
      have := cleanStep_len ((l.take x).foldl cleanStep []) l[x]
      have := cleaned_len l x
      omega
    · have e : l.take (x + 1) = l.take x := by rw [List.take_of_length_le (by omega), List.take_of_length_le (by omega)]
      rw [e]
      have := cleaned_len l x
      omega
theorem cut_sum : ∀ (t cur : List UInt8), ((cutL cur t).map List.length).sum ≤ cur.length + t.length
  | [], cur => by
    rw [cutL]
    split
    · simp
    · simp
  | b :: t, cur => by
    rw [cutL]
    have h1 := cut_sum t []
    have h2 := cut_sum t (cur ++ [b])
    rw [List.length_append] at h2
    simp only [List.length_cons, List.length_nil] at *
    split
    · split
      · omega
      · rw [List.map_cons, List.sum_cons]; omega
    · omega
theorem sum_le_mem : ∀ (l : List Nat) (x : Nat), x ∈ l → x ≤ l.sum
  | [], _, h => by simp at h
  | y :: l, x, h => by
    rw [List.sum_cons]
    rcases List.mem_cons.1 h with rfl | h
    · omega
    · have := sum_le_mem l x h; omega
/-- each piece is no longer than the text -/
theorem pieces_size (s p : ByteArray) (h : p ∈ piecesB s) : p.size ≤ s.size := by
  rw [pieces_cut] at h
  obtain ⟨l, hl, rfl⟩ := List.mem_map.1 h
  have h1 := cut_sum s.data.toList []
  have h2 := sum_le_mem ((cutL [] s.data.toList).map List.length) l.length (List.mem_map.2 ⟨l, hl, rfl⟩)
  have h3 : (mkB l).size = l.length := by show l.toArray.size = l.length; simp
  have h4 : s.data.toList.length = s.size := by rw [Array.length_toList]; rfl
  simp at h1
  omega
theorem cleaned_mem (l : List ByteArray) : ∀ (acc : List ByteArray) p, p ∈ l.foldl cleanStep acc → p ∈ acc ∨ p ∈ l := by
  induction l with
  | nil => intro acc p h; exact .inl h
  | cons x l ih =>
    intro acc p h
    rcases ih _ p h with h | h
    · unfold cleanStep at h
      split at h
      · exact .inl h
      · split at h
        · exact .inl (List.mem_of_mem_take h)
        · rcases List.mem_append.1 h with h | h
          · exact .inl h
          · rw [List.mem_singleton.1 h]; exact .inr List.mem_cons_self
    · exact .inr (List.mem_cons_of_mem _ h)
theorem joinTail_len (L : List ByteArray) (n : Nat) (h : ∀ p ∈ L, p.size ≤ n) : (Lib.joinTail [47] (L.map (·.data.toList))).length ≤ L.length * (n + 1) := by
  induction L with
  | nil => simp [Lib.joinTail]
  | cons p L ih =>
    have h1 := ih (fun q hq => h q (List.mem_cons_of_mem _ hq))
    have h2 := h p List.mem_cons_self
    have h4 : p.data.toList.length = p.size := by rw [Array.length_toList]; rfl
    unfold Lib.joinTail at *
    have e : (p :: L).length * (n + 1) = L.length * (n + 1) + (n + 1) := by rw [List.length_cons, Nat.succ_mul]
    rw [List.map_cons, List.map_cons, List.flatten_cons, List.length_append, List.length_append, h4, e]
    simp only [List.length_cons, List.length_nil]
    omega
theorem join_mk (p : ByteArray) (L : List ByteArray) : (⟨#[47]⟩ : ByteArray) ++ (⟨(Lib.join ((p :: L).map (·.data.toList)) slash.data.toList).toArray⟩ : ByteArray) = joinB (p :: L) := by
  unfold joinB
  rw [if_neg (by simp), List.map_cons, Lib.join_cons]
  have e : slash.data.toList = [47] := rfl
  rw [e]
  apply ByteArray.ext
  rw [ByteArray.data_append]
  unfold mkB Lib.joinTail
  simp
theorem join_len (L : List ByteArray) (n : Nat) (h : ∀ p ∈ L, p.size ≤ n) : (Lib.join (L.map (·.data.toList)) slash.data.toList).length ≤ L.length * (n + 1) := by
  cases L with
  | nil => simp [Lib.join_nil]
  | cons p L =>
    have h1 := joinTail_len (p :: L) n h
    rw [List.map_cons, Lib.join_cons]
    have e : slash.data.toList = [47] := rfl
    rw [e]
    unfold Lib.joinTail at *
    rw [List.map_cons, List.map_cons, List.flatten_cons, List.length_append, List.length_append] at h1
    rw [List.length_append]
    simp only [List.length_singleton] at h1
    omega
/-- the program's join -/
theorem join_any (v : Value) (L : List ByteArray) (base n : Nat) (P : Nat → Prop) (w : World) (hv : Kd.R Kd.string 9 w base P v L) (hn : ∀ p ∈ L, p.size ≤ n) (hn1 : n ≤ 100) (hl : L.length ≤ 1000) :
    Calls Tryd.prog 24 #[v, .string ⟨#[47]⟩] w fun e w' => ∃ t, e = .returned (.string t) ∧ (⟨#[47]⟩ : ByteArray) ++ t = joinB L ∧ t.size ≤ 1000000 ∧ Below w.heap.size w w' := by
  cases L with
  | nil =>
    obtain ⟨A, c, rfl, _, _⟩ := Kd.R_reads hv
    refine (Tryd.strings_Join_none A c ⟨#[47]⟩ w).mono ?_
    rintro e w' ⟨rfl, rfl⟩
    exact ⟨_, rfl, rfl, by decide, Below.refl _ _⟩
  | cons p L =>
    have hj := join_len (p :: L) n hn
    have hj2 : (p :: L).length * (n + 1) ≤ 1000 * 101 := Nat.mul_le_mul hl (by omega)
    obtain ⟨g, c, rfl, h1, h2, _⟩ := Kd.R_form hv (by simp)
    obtain ⟨_, h3, h4⟩ := Kd.R_reads' hv
    refine (Tryd.strings_Join g 0 c (p :: L) ⟨#[47]⟩ w ?_ h2 (by omega) h3 (Nat.le_trans hj (by omega))).mono ?_
    · intro j x hx
      obtain ⟨hlt, rfl⟩ := List.getElem?_eq_some_iff.1 hx
      obtain ⟨ad, e, h5⟩ := Kd.at_string h4 (j : Int) (by omega) (by omega)
      injection e with e
      subst e
      unfold rdOf at h5
      rw [Int.toNat_natCast, List.getD_eq_getElem?_getD, List.getElem?_eq_getElem hlt] at h5
      by_cases hj0 : j = 0
      · subst hj0; simpa [Addr.add] using h5
      · simpa [Addr.add, hj0] using h5
    · rintro e w' ⟨rfl, hb⟩
      refine ⟨_, rfl, join_mk p L, ?_, hb⟩
      show (Lib.join ((p :: L).map (·.data.toList)) slash.data.toList).toArray.size ≤ 1000000
      rw [List.size_toArray]
      omega
theorem dot_ne {p q : ByteArray} {l : List UInt8} (h : ¬ p = q) (hq : q.toList = l) : ¬ p.toList = l := fun e => h (toList_eq_iff.1 (e.trans hq.symm))
attribute [local go_sem] max2_int min2_int max_two min_two
set_option maxHeartbeats 4000000 in
set_option maxRecDepth 100000 in
theorem cleanI_any (s : ByteArray) (m : Int) (w : World) (hs : s.size ≤ 1048576) (hm : w.cell? ⟨0, 0, none⟩ = some (.int .i64 m)) :
    Calls Tryd.prog 13 #[.string s] w fun e w' => e = .returned (.string (cleanB s)) ∧ Below w.heap.size w w' := by
  have HO0 := fun W => okI_any s hs W
  have HS := Aside0.mk hs
  have HM := Aside0.mk hm
  clear hs hm
  cases h : okB s with
  | false =>
    rw [h] at HO0
    have HP := Aside0.mk (show cleanB s = ⟨#[]⟩ from by unfold cleanB; rw [h]; rfl)
    clear h
    go_enter Tryd.func13, Tryd.ntmps13
    go_wp2_with (go_at_call 20; refine (HO0 _).mono ?_; rintro e w1 ⟨rfl, ⟨n, rfl⟩⟩)
    go_ret
    exact ⟨by rw [HP.out]; rfl, pw_below_drewN (Below.refl _ _) _⟩
  | true =>
    rw [h] at HO0
    have HF := Aside0.mk (show cleanB s = joinB (cleanedB s) from by unfold cleanB; rw [h]; rfl)
    have HZ := Aside0.mk (okB_size s h)
    obtain ⟨n, hn⟩ : ∃ n, n = (piecesB s).length := ⟨_, rfl⟩
    have hn1 : n ≤ 61 := by
      have h1 := piecesB_len s
      have h2 := okB_size s h
      omega
    have HN := Aside0.mk hn
    clear h hn
    go_enter Tryd.func13, Tryd.ntmps13
    go_wp2_with (first | (go_at_call 20; refine (HO0 _).mono ?_; rintro e w1 ⟨rfl, hd⟩; have HB := Aside0.mk hd.below; clear hd) | ((with_reducible refine gate_dst (N := 9) rfl ?_); refine Kd.R_lit Kd.string _ 9 ?hg (N := 9) ?hd (xs := ([] : List ByteArray)) (inner := []) (ok := fun _ => True) (okp := fun _ => True) ?hr ?hp (fun _ hk => hk) trivial (Below.refl _ _) (Nat.le_refl _) (by simp) ?_; (case hd => rfl); (case hg => rfl); (case hr => first | (go_simp; done) | (go_simp; rfl)); (case hp => exact (Reps.none _ _)); intro v4 w4 ho4 hb hg_ hnew_; clear hg_ hnew_; have n0_ := Kd.R_lower ho4 HB.out.size; have n1_ := below_then HB.out HB.out.size hb; clear HB; have HO := Aside0.mk n0_; have HB := Aside0.mk n1_; clear ho4 hb n0_ n1_) | (go_at_call 21; refine (pieces_any s m _ HS.out (pw_cell_below HB.out HM.out)).mono ?_; rintro e w5 ⟨vp, rfl, hR, hb⟩; obtain ⟨A, c, rfl⟩ := Kd.R_slice hR; have n0_ := Kd.R_below (Kd.R_mono (Kd.R_bound HO.out) (fun k hk => (show some k ≠ (Value.slice A (piecesB s).length c).ownBlock from fun e_ => by have := Kd.R_base hR _ e_.symm; have := hk.2.2.1; omega))) hb; have n1_ := below_then HB.out HB.out.size hb; have n2_ := Kd.R_lower (Kd.R_tight rfl hR) HB.out.size; clear HO HB hR hb; rw [← HN.out] at n0_ n2_ ⊢; have HO := Aside0.mk n0_; have HB := Aside0.mk n1_; have HP := Aside0.mk n2_; clear n0_ n1_ n2_))
    go_loopg [3, 13] n (fun kq v3 v13 w' => ∃ (x : Nat), v13 = .int .i64 (x : Int) ∧ Aside0 (x + kq = n) ∧ Aside0 (Kd.R Kd.string 9 w' w.heap.size (fun k => some k ≠ (Value.slice A n c).ownBlock) v3 (((piecesB s).take x).foldl cleanStep [])) ∧ Aside0 (Kd.R Kd.string 9 w' w.heap.size (fun k => some k = (Value.slice A n c).ownBlock) (.slice A n c) (piecesB s)) ∧ Aside0 (Below w.heap.size w w'))
    case atStart => exact ⟨0, rfl, ⟨by omega⟩, HO, HP, HB⟩
    case round =>
      clear HO HB HP HM HO0
      obtain ⟨x, rfl, HX, HO, HP, HB⟩ := hrel
      obtain ⟨A3, c3, e3⟩ := Kd.R_slice HO.out
      subst e3
      obtain ⟨out, hout⟩ : ∃ o, o = ((piecesB s).take x).foldl cleanStep [] := ⟨_, rfl⟩
      have hol : out.length ≤ x := by rw [hout]; exact cleaned_len _ _
      rw [← hout] at HO ⊢
      have HOUT := Aside0.mk hout
      clear hout
      by_cases hlt : x < n
      · cases gk with
        | zero => have := HX.out; omega
        | succ k1 =>
        have hlx : x < (piecesB s).length := by have := HN.out; omega
        obtain ⟨ad, eA, hx0⟩ := Kd.at_string (Kd.R_reads' HP.out).2.2 (x : Int) (by omega) (by omega)
        subst eA
        rw [rdP _ x hlx, Int.toNat_natCast] at hx0
        have HC := Aside0.mk (show ((piecesB s).take (x + 1)).foldl cleanStep [] = cleanStep out (piecesB s)[x] from by rw [foldl_take _ _ _ _ hlx, HOUT.out])
        generalize (piecesB s)[x] = p at hx0 HC
        clear hlx
        by_cases p1 : p = dot1
        · subst p1
          have hx1 : wr.cell? (ad.add x) = some (.string ⟨#[46]⟩) := hx0
          clear hx0
          go_wp2
          go_roundg k1
          case measure => omega
          case rel => exact ⟨x + 1, by go_num, ⟨by have := HX.out; omega⟩, ⟨by rw [HC.out, cleanStep, if_pos rfl]; exact HO.out⟩, HP, HB⟩
        · by_cases p2 : p = dot2
          · subst p2
            have hx1 : wr.cell? (ad.add x) = some (.string ⟨#[46, 46]⟩) := hx0
            clear hx0
            have hcap := (Kd.R_reads' HO.out).2.1
            have HC := Aside0.mk (show ((piecesB s).take (x + 1)).foldl cleanStep [] = out.take (out.length - 1) from by rw [HC.out, cleanStep, if_neg (by decide), if_pos rfl])
            have HT := Aside0.mk (Kd.R_take (m := out.length - 1) HO.out (by omega))
            obtain ⟨ln, hln⟩ : ∃ q, q = out.length := ⟨_, rfl⟩
            rw [← hln] at HO HC HT hcap hol ⊢
            clear hln
            cases ln with
            | zero =>
              go_wp2
              go_roundg k1
              case measure => omega
              case rel => exact ⟨x + 1, by go_num, ⟨by have := HX.out; omega⟩, ⟨by rw [HC.out]; exact HT.out⟩, HP, HB⟩
            | succ j =>
              cases j with
              | zero =>
                go_wp2
                go_roundg k1
                case measure => omega
                case rel => exact ⟨x + 1, by go_num, ⟨by have := HX.out; omega⟩, ⟨by rw [HC.out]; exact HT.out⟩, HP, HB⟩
              | succ j2 =>
                go_wp2
                go_roundg k1
                case measure => omega
                case rel => exact ⟨x + 1, by go_num, ⟨by have := HX.out; omega⟩, ⟨by rw [HC.out]; exact HT.out⟩, HP, HB⟩
          · have e1 : ¬ p.toList = [46] := dot_ne p1 (by rw [ByteArray.toList_eq]; rfl)
            have e2 : ¬ p.toList = [46, 46] := dot_ne p2 (by rw [ByteArray.toList_eq]; rfl)
            have b1 : (p.toList == [46]) = false := by simpa using e1
            have b2 : (p.toList == [46, 46]) = false := by simpa using e2
            have HC := Aside0.mk (show ((piecesB s).take (x + 1)).foldl cleanStep [] = out ++ [p] from by rw [HC.out, cleanStep, if_neg p1, if_neg p2])
            have HL := Aside0.mk hol
            clear e1 e2 p1 p2 hol
            go_wp2_with (first | ((with_reducible refine gate_builtin (b := .append) (xs := #[.tmp 18, .tmp 20]) rfl ?_); at_builtin; refine Kd.R_append Kd.string (w0 := w) w.heap.size rfl (.tmp 18) (.tmp 20) 22 9 (.string ⟨#[]⟩) 16 rfl Tryd.underlying22 info9 rfl (by decide) (by omega) (.slice A3 out.length c3) out p [.string p] (fun k => some k ≠ (Value.slice (some ad) n c).ownBlock) (fun _ => False) rfl rfl ?aP (fun _ hk => hk.elim) ?aF ?aO ?aB ?aS ?aL ?_; (case aP => exact rfl); (case aF => exact (fun k hk e_ => by have := Kd.R_lt HP.out _ e_.symm; omega)); (case aO => exact HO.out); (case aB => exact HB.out); (case aS => exact HB.out.size); (case aL => have := HL.out; omega); intro v1 w1 ho hb hg hat; have n0_ := Kd.R_grown HP.out hg (fun k hk_ e_ => HO.out.1 _ e_.symm hk_); clear HP HB HO; have HO := Aside0.mk ho; have HB := Aside0.mk hb; have HP := Aside0.mk n0_; clear ho hb hg hat n0_))
            go_roundg k1
            case measure => omega
            case rel => exact ⟨x + 1, by go_num, ⟨by have := HX.out; omega⟩, ⟨by rw [HC.out]; exact HO.out⟩, HP, HB⟩
      · have HE := Aside0.mk (show out = cleanedB s ∧ (∀ p ∈ out, p.size ≤ s.size) from by
          have e : out = cleanedB s := by
            rw [HOUT.out, List.take_of_length_le (by have := HX.out; have := HN.out; omega)]; rfl
          refine ⟨e, fun p hp => ?_⟩
          rw [e] at hp
          rcases cleaned_mem _ _ _ hp with h | h
          · simp at h
          · exact pieces_size s p h)
        have hlt' : ¬ (x : Int) < (n : Int) := by omega
        have HL := Aside0.mk (And.intro hol (show x ≤ 61 by have := HX.out; omega))
        clear hlt hol
        go_wp2_with (go_at_call 24; refine (join_any _ out _ s.size _ _ HO.out HE.out.2 (by have := HZ.out; omega) (by have := HL.out; omega)).mono ?_; rintro e w6 ⟨t, rfl, ht, hts, hb⟩; have HT := Aside0.mk ht; have n0_ := Aside0.mk (below_then HB.out HB.out.size hb); clear HB ht hb; have HB := n0_; clear n0_)
        go_ret
        exact ⟨by rw [HF.out, ← HE.out.1, ← HT.out]; rfl, HB.out⟩
theorem l2Join_loop (L : List ByteArray) (hl : L.length ≤ 1000) (hn : ∀ p ∈ L, p.size ≤ 100) : ∀ (d i : Nat) (acc : ByteArray), i + d = L.length → acc.size ≤ 101 * i → Ev (fun k => spec_l2Join.l0 k L acc (i : Int)) (acc ++ mkB (Lib.joinTail [47] ((L.drop i).map (·.data.toList)))) := by
  intro d
  induction d with
  | zero =>
    intro i acc hi ha
    rw [List.drop_of_length_le (by omega)]
    refine Ev.step (fun _ => spec_l2Join.l0.eq_2 ..) (ev_neg (by omega) (ev_now ?_))
    congr 1
    apply ByteArray.ext
    rw [ByteArray.data_append]
    simp [mkB, Lib.joinTail]
  | succ d ih =>
    intro i acc hi ha
    have hlt : i < L.length := by omega
    have hp := hn _ (List.getElem_mem hlt)
    have e3 : wrap64 ((i : Int) + 1) = ((i + 1 : Nat) : Int) := w64 (by omega) (by omega)
    have hz : (acc ++ (⟨#[47]⟩ : ByteArray)).size = acc.size + 1 := by rw [ByteArray.size_append]; rfl
    refine Ev.step (fun _ => spec_l2Join.l0.eq_2 ..) (ev_pos (by omega) (ev_pos (by omega) (ev_pos (by omega) ?_)))
    rw [rdP L i hlt]
    refine ev_pos (by omega) ?_
    rw [e3]
    have h := ih (i + 1) ((acc ++ (⟨#[47]⟩ : ByteArray)) ++ L[i]) (by omega) (by rw [ByteArray.size_append]; omega)
    have e : ((acc ++ (⟨#[47]⟩ : ByteArray)) ++ L[i]) ++ mkB (Lib.joinTail [47] ((L.drop (i + 1)).map (·.data.toList))) = acc ++ mkB (Lib.joinTail [47] ((L.drop i).map (·.data.toList))) := by
      rw [List.drop_eq_getElem_cons hlt]
      apply ByteArray.ext
      apply Array.toList_inj.1
      unfold mkB Lib.joinTail
      generalize L.drop (i + 1) = T
      simp [ByteArray.data_append]
    rw [e] at h
    exact h
theorem l2Join_ev (L : List ByteArray) (hl : L.length ≤ 1000) (hn : ∀ p ∈ L, p.size ≤ 100) : Ev (fun k => spec_l2Join.f k L) (joinB L) := by
  unfold spec_l2Join.f joinB
  by_cases h : L = []
  · subst h
    exact ev_pos rfl (ev_now rfl)
  · have h0 : 0 < L.length := List.length_pos_iff.2 h
    rw [if_neg h]
    refine ev_neg (by omega) ?_
    have := l2Join_loop L hl hn L.length 0 ⟨#[]⟩ (by omega) (by decide)
    rw [List.drop_zero] at this
    have e : (⟨#[]⟩ : ByteArray) ++ mkB (Lib.joinTail [47] (L.map (·.data.toList))) = mkB (Lib.joinTail [47] (L.map (·.data.toList))) := by
      apply ByteArray.ext
      rw [ByteArray.data_append]
      simp
    rw [e] at this
    exact this
theorem dot1_list : dot1.toList = [46] := by rw [ByteArray.toList_eq]; rfl
theorem dot2_list : dot2.toList = [46, 46] := by rw [ByteArray.toList_eq]; rfl
theorem clean_loop (L : List ByteArray) (hl : L.length ≤ 1000) (hn : ∀ p ∈ L, p.size ≤ 100) : ∀ (d i : Nat) (acc : List ByteArray), i + d = L.length → acc.length ≤ i → (∀ p ∈ acc, p.size ≤ 100) → Ev (fun k => spec_Clean.l0 k acc L (i : Int)) (joinB ((L.drop i).foldl cleanStep acc)) := by
  intro d
  induction d with
  | zero =>
    intro i acc hi ha hp
    rw [List.drop_of_length_le (by omega)]
    refine Ev.step (fun _ => spec_Clean.l0.eq_2 ..) (ev_neg (by omega) (Ev.bind (l2Join_ev acc (by omega) hp) (ev_now rfl)))
  | succ d ih =>
    intro i acc hi ha hp
    have hlt : i < L.length := by omega
    have e3 : wrap64 ((i : Int) + 1) = ((i + 1 : Nat) : Int) := w64 (by omega) (by omega)
    rw [List.drop_eq_getElem_cons hlt, List.foldl_cons]
    refine Ev.step (fun _ => spec_Clean.l0.eq_2 ..) (ev_pos (by omega) (ev_pos (by omega) ?_))
    rw [rdP L i hlt, e3]
    by_cases p1 : L[i] = dot1
    · rw [cleanStep, if_pos p1]
      exact ev_pos (by rw [p1]; exact dot1_list) (ih (i + 1) acc (by omega) (by omega) hp)
    · refine ev_neg (dot_ne p1 dot1_list) ?_
      rw [cleanStep, if_neg p1]
      by_cases p2 : L[i] = dot2
      · rw [if_pos p2]
        refine ev_pos (by rw [p2]; exact dot2_list) ?_
        by_cases hz : acc.length = 0
        · refine ev_neg (by omega) ?_
          have e : acc.take (acc.length - 1) = acc := by
            rw [List.length_eq_zero_iff.1 hz]; rfl
          rw [e]
          exact ih (i + 1) acc (by omega) (by omega) hp
        · have e4 : wrap64 ((acc.length : Int) - 1) = ((acc.length - 1 : Nat) : Int) := by rw [w64 (by omega) (by omega)]; omega
          refine ev_pos (by omega) ?_
          rw [e4]
          refine ev_pos (by omega) (ev_pos (by omega) ?_)
          rw [Int.toNat_natCast]
          exact ih (i + 1) _ (by omega) (by rw [List.length_take]; omega) (fun p h => hp p (List.mem_of_mem_take h))
      · rw [if_neg p2]
        refine ev_neg (dot_ne p2 dot2_list) (ev_pos (by omega) ?_)
        exact ih (i + 1) _ (by omega) (by rw [List.length_append]; simp; omega) (fun p h => by
          rcases List.mem_append.1 h with h | h
          · exact hp p h
          · rw [List.mem_singleton.1 h]; exact hn _ (List.getElem_mem hlt))
theorem cleanS_ev (s : ByteArray) : Ev (fun k => spec_Clean.f k s) (cleanB s) := by
  unfold spec_Clean.f cleanB
  refine Ev.bind (path_spec s) ?_
  by_cases h : okB s = true
  · have hz := okB_size s h
    have hpl := piecesB_len s
    have ep : partsB s = piecesB s := by unfold partsB; rw [if_pos h]
    rw [if_pos h]
    refine ev_pos h (Ev.bind (partsS_ev s) ?_)
    rw [ep]
    have := clean_loop (piecesB s) (by omega) (fun p hp => by have := pieces_size s p hp; omega) (piecesB s).length 0 [] (by omega) (by simp) (fun p hp => by simp at hp)
    rw [List.drop_zero] at this
    exact this
  · rw [if_neg h]
    exact ev_neg h (ev_now rfl)
theorem cleanS_any (s : ByteArray) (w : World) : Calls Tryd.prog 12 #[.string s] w fun e w' => e = .returned (.string (cleanB s)) ∧ Below w.heap.size w w' := by
  obtain ⟨K, hK⟩ := cleanS_ev s
  exact spec_Clean.calls K s _ w (hK K (Nat.le_refl _))
/-! ### laws_FnExactClean: function 4 (by hand) -/
set_option maxHeartbeats 1000000 in
set_option maxRecDepth 100000 in
theorem laws_FnExactClean.cardWalk (m : Int) (s : ByteArray) (w : World) (hm : w.cell? ⟨0, 0, none⟩ = some (.int .i64 m)) (hs0 : s.size ≤ 140737488351232) :
    Calls Tryd.prog 4 #[.string s] w fun e w' => e = .returned (.bool true) ∧ Below w.heap.size w w' := by
  by_cases hs : s.size ≤ 1048576
  · have hsb : decide ((1048576 : Int) < (s.size : Int)) = false := decide_eq_false (by omega)
    have hsn : decide (1048576 < s.size) = false := decide_eq_false (by omega)
    have HM := Aside0.mk hm
    have HS := Aside0.mk hs
    clear hm hs hs0
    go_enter Tryd.func4, Tryd.ntmps4
    go_wp2_with (first | (go_at_call 12; refine (cleanS_any s _).mono ?_; rintro e w1 ⟨rfl, hb⟩; have H1 := Aside0.mk hb; clear hb) | (go_at_call 13; refine (cleanI_any s m _ HS.out (pw_cell_below H1.out HM.out)).mono ?_; rintro e w2 ⟨rfl, hb⟩; have H2 := Aside0.mk (below_then H1.out H1.out.size hb); clear hb))
    go_ret
    exact ⟨rfl, H2.out⟩
  · have hsb : decide ((1048576 : Int) < (s.size : Int)) = true := decide_eq_true (by omega)
    have hsn : decide (1048576 < s.size) = true := decide_eq_true (by omega)
    clear hs hs0 hm
    go_enter Tryd.func4, Tryd.ntmps4
    go_wp2
    go_ret
    exact ⟨rfl, Below.refl _ _⟩
end Go.Proofs.YtpgdmbmcnemlmaaDoor.PFnExactParts
