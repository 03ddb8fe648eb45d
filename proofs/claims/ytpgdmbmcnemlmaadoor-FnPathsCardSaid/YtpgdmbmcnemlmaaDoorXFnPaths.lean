/- By hand: what a cleaned path is, what is drawn, and the law FnPaths walked: it answers true for every code. -/
import Derived.Test.YtpgdmbmcnemlmaaDoorQFnPathsx2
import Derived.Test.YtpgdmbmcnemlmaaDoorXFnExactParts
namespace Go.Proofs.YtpgdmbmcnemlmaaDoor.PFnExactParts
open Go.RowKit Go.Proofs.YtpgdmbmcnemlmaaDoorW.PrintWords Go.Proofs.YtpgdmbmcnemlmaaDoorW.PrintLast Go.Proofs.YtpgdmbmcnemlmaaDoorW.PrintMore
open Go.Proofs.YtpgdmbmcnemlmaaDoor.Mth Go.Proofs.YtpgdmbmcnemlmaaDoor.Str
set_option linter.unusedVariables false
set_option linter.unusedSimpArgs false
/-! ### what a cleaned path is -/
def plainP (p : ByteArray) : Prop := 1 ≤ p.size ∧ (∀ b ∈ p.data.toList, b ≠ (47 : UInt8)) ∧ p ≠ dot1 ∧ p ≠ dot2
theorem cut_mem : ∀ (t cur l : List UInt8), (∀ b ∈ cur, b ≠ (47 : UInt8)) → l ∈ cutL cur t → l ≠ [] ∧ (∀ b ∈ l, b ≠ (47 : UInt8)) ∧ (∀ b ∈ l, b ∈ cur ∨ b ∈ t)
  | [], cur, l, hc, h => by
    rw [cutL] at h
    split at h
    · simp at h
    · rename_i hn
      rw [List.mem_singleton.1 h]
      exact ⟨hn, hc, fun b hb => .inl hb⟩
  | b :: t, cur, l, hc, h => by
    rw [cutL] at h
    split at h
    · split at h
      · obtain ⟨h1, h2, h3⟩ := cut_mem t [] l (by simp) h
        exact ⟨h1, h2, fun x hx => by rcases h3 x hx with h | h; · simp at h
                                      · exact .inr (List.mem_cons_of_mem _ h)⟩
      · rename_i hn
        rcases List.mem_cons.1 h with rfl | h
        · exact ⟨hn, hc, fun x hx => .inl hx⟩
        · obtain ⟨h1, h2, h3⟩ := cut_mem t [] l (by simp) h
          exact ⟨h1, h2, fun x hx => by rcases h3 x hx with h | h; · simp at h
                                        · exact .inr (List.mem_cons_of_mem _ h)⟩
    · rename_i hb
      obtain ⟨h1, h2, h3⟩ := cut_mem t (cur ++ [b]) l (fun x hx => by
        rcases List.mem_append.1 hx with hx | hx
        · exact hc x hx
        · rw [List.mem_singleton.1 hx]; exact hb) h
      exact ⟨h1, h2, fun x hx => by
        rcases h3 x hx with h | h
        · rcases List.mem_append.1 h with h | h
          · exact .inl h
          · rw [List.mem_singleton.1 h]; exact .inr List.mem_cons_self
        · exact .inr (List.mem_cons_of_mem _ h)⟩
theorem mkB_list (l : List UInt8) : (mkB l).data.toList = l := by unfold mkB; simp
theorem piece_mem (s p : ByteArray) (h : p ∈ piecesB s) : 1 ≤ p.size ∧ (∀ b ∈ p.data.toList, b ≠ (47 : UInt8)) ∧ (∀ b ∈ p.data.toList, b ∈ s.data.toList) := by
  rw [pieces_cut] at h
  obtain ⟨l, hl, rfl⟩ := List.mem_map.1 h
  obtain ⟨h1, h2, h3⟩ := cut_mem _ [] l (by simp) hl
  rw [mkB_size, mkB_list]
  exact ⟨List.length_pos_iff.2 h1, h2, fun b hb => by rcases h3 b hb with h | h; · simp at h
                                                      · exact h⟩
theorem cleaned_dots (l : List ByteArray) : ∀ (acc : List ByteArray), (∀ p ∈ acc, p ≠ dot1 ∧ p ≠ dot2) → ∀ p ∈ l.foldl cleanStep acc, p ≠ dot1 ∧ p ≠ dot2 := by
  induction l with
  | nil => intro acc h p hp; exact h p hp
  | cons x l ih =>
    intro acc h p hp
    refine ih (cleanStep acc x) (fun q hq => ?_) p hp
    unfold cleanStep at hq
    split at hq
    · exact h q hq
    · rename_i n1
      split at hq
      · exact h q (List.mem_of_mem_take hq)
      · rename_i n2
        rcases List.mem_append.1 hq with hq | hq
        · exact h q hq
        · rw [List.mem_singleton.1 hq]; exact ⟨n1, n2⟩
theorem cleaned_plain (s : ByteArray) : ∀ p ∈ cleanedB s, plainP p := by
  intro p hp
  have hd := cleaned_dots (piecesB s) [] (by simp) p hp
  rcases cleaned_mem _ _ _ hp with h | h
  · simp at h
  · obtain ⟨h1, h2, _⟩ := piece_mem s p h
    exact ⟨h1, h2, hd⟩
theorem clean_plain (L : List ByteArray) : ∀ acc : List ByteArray, (∀ p ∈ L, plainP p) → L.foldl cleanStep acc = acc ++ L := by
  induction L with
  | nil => intro acc _; simp
  | cons x L ih =>
    intro acc h
    obtain ⟨_, _, n1, n2⟩ := h x List.mem_cons_self
    rw [List.foldl_cons, cleanStep, if_neg n1, if_neg n2, ih _ (fun p hp => h p (List.mem_cons_of_mem _ hp)), List.append_assoc]
    rfl
theorem noslash (l : List UInt8) (h : ∀ b ∈ l, b ≠ (47 : UInt8)) : ∀ k : Nat, l[k]? ≠ some (47 : UInt8) := fun k e => h 47 (List.mem_of_getElem? e) rfl
theorem cut_join (L : List ByteArray) : (∀ p ∈ L, plainP p) → ∀ cur : List UInt8, (∀ b ∈ cur, b ≠ (47 : UInt8)) → cutL cur (Lib.joinTail [47] (L.map (·.data.toList))) = (if cur = [] then [] else [cur]) ++ L.map (·.data.toList) := by
  induction L with
  | nil => intro _ cur _; simp [Lib.joinTail, cutL]
  | cons p L ih =>
    intro h cur hc
    obtain ⟨h1, h2, _, _⟩ := h p List.mem_cons_self
    have hih := ih (fun q hq => h q (List.mem_cons_of_mem _ hq))
    have hz : p.data.toList ≠ [] := by
      intro e
      have : p.data.toList.length = p.size := by rw [Array.length_toList]; rfl
      rw [e] at this; simp at this; omega
    have e : Lib.joinTail [47] ((p :: L).map (·.data.toList)) = 47 :: (p.data.toList ++ Lib.joinTail [47] (L.map (·.data.toList))) := by unfold Lib.joinTail; simp
    rw [e, cutL, if_pos rfl]
    have e2 : cutL [] (p.data.toList ++ Lib.joinTail [47] (L.map (·.data.toList))) = p.data.toList :: L.map (·.data.toList) := by
      cases L with
      | nil =>
        have : Lib.joinTail [47] (([] : List ByteArray).map (·.data.toList)) = [] := rfl
        rw [this, List.append_nil, cutL_none _ _ (noslash _ h2), List.nil_append, if_neg hz]; rfl
      | cons q L =>
        have e3 : Lib.joinTail [47] ((q :: L).map (·.data.toList)) = 47 :: (q.data.toList ++ Lib.joinTail [47] (L.map (·.data.toList))) := by unfold Lib.joinTail; simp
        have h4 := hih [] (by simp)
        rw [e3, cutL, if_pos rfl, if_pos rfl, if_pos rfl, List.nil_append] at h4
        rw [e3, cutL_some _ _ _ (noslash _ h2), List.nil_append, if_neg hz, h4]; rfl
    rw [e2, List.map_cons]
    split <;> rfl
theorem pieces_join (L : List ByteArray) (h : ∀ p ∈ L, plainP p) : piecesB (joinB L) = L := by
  rw [pieces_cut]
  unfold joinB
  by_cases hL : L = []
  · subst hL
    rw [if_pos rfl]
    show (cutL [] [47]).map mkB = []
    rw [cutL, if_pos rfl, if_pos rfl, cutL, if_pos rfl]; rfl
  · rw [if_neg hL, mkB_list, cut_join L h [] (by simp), if_pos rfl, List.nil_append, List.map_map]
    have : (mkB ∘ fun x : ByteArray => x.data.toList) = id := funext mkB_data
    rw [this, List.map_id]
/-! ### a cleaned path is right -/
theorem okB_iff (s : ByteArray) : okB s = true ↔ (1 ≤ s.size ∧ s.size ≤ 60) ∧ (∀ b ∈ s.data.toList, slashByte ((b.toNat : Nat) : Int) = true) ∧ s.data.toList.head? = some (47 : UInt8) := by
  have hb : (bytesOf s).all slashByte = s.data.toList.all (fun b => slashByte ((b.toNat : Nat) : Int)) := by unfold bytesOf; rw [List.all_map]; rfl
  have hg : (bytesOf s).getD 0 0 = 47 ↔ s.data.toList.head? = some (47 : UInt8) := by
    unfold bytesOf
    cases s.data.toList with
    | nil => simp
    | cons b t =>
      show ((b.toNat : Nat) : Int) = 47 ↔ some b = some 47
      rw [Option.some.injEq]
      constructor
      · intro h; exact UInt8.toNat_inj.1 (by show b.toNat = 47; omega)
      · rintro rfl; rfl
  unfold okB pathOkL targetL
  rw [Bool.and_eq_true, Bool.and_eq_true, decide_eq_true_eq, decide_eq_true_eq, bytesOf_length, hb, List.all_eq_true, hg]
  exact and_assoc
def lensum (l : List (List UInt8)) : Nat := (l.map (fun x => x.length + 1)).sum
theorem cut_lensum : ∀ (t cur : List UInt8), lensum (cutL cur t) ≤ cur.length + t.length + 1
  | [], cur => by
    rw [cutL]
    split
    · simp [lensum]
    · simp [lensum]
  | b :: t, cur => by
    rw [cutL]
    have h1 := cut_lensum t []
    have h2 := cut_lensum t (cur ++ [b])
    rw [List.length_append] at h2
    simp only [List.length_cons, List.length_nil] at *
    split
    · split
      · omega
      · unfold lensum at *
        rw [List.map_cons, List.sum_cons]; omega
    · omega
def lenB (L : List ByteArray) : Nat := (L.map (fun p => p.size + 1)).sum
theorem lenB_take (L : List ByteArray) : ∀ n, lenB (L.take n) ≤ lenB L := by
  induction L with
  | nil => intro n; simp [lenB]
  | cons p L ih =>
    intro n
    cases n with
    | zero => simp [lenB]
    | succ n =>
      have := ih n
      unfold lenB at *
      rw [List.take_succ_cons, List.map_cons, List.map_cons, List.sum_cons, List.sum_cons]; omega
theorem lenB_append (A B : List ByteArray) : lenB (A ++ B) = lenB A + lenB B := by unfold lenB; simp
theorem cleaned_lenB (l : List ByteArray) : ∀ acc : List ByteArray, lenB (l.foldl cleanStep acc) ≤ lenB acc + lenB l := by
  induction l with
  | nil => intro acc; simp [lenB]
  | cons x l ih =>
    intro acc
    have h1 := ih (cleanStep acc x)
    have h2 : lenB (cleanStep acc x) ≤ lenB acc + (x.size + 1) := by
      unfold cleanStep
      split
      · omega
      · split
        · have := lenB_take acc (acc.length - 1); omega
        · rw [lenB_append]; simp [lenB]
    have h3 : lenB (x :: l) = (x.size + 1) + lenB l := by unfold lenB; rw [List.map_cons, List.sum_cons]
    rw [List.foldl_cons]; omega
theorem join_lenB (L : List ByteArray) : (Lib.joinTail [47] (L.map (·.data.toList))).length = lenB L := by
  induction L with
  | nil => rfl
  | cons p L ih =>
    have h4 : p.data.toList.length = p.size := by rw [Array.length_toList]; rfl
    unfold Lib.joinTail lenB at *
    rw [List.map_cons, List.map_cons, List.flatten_cons, List.length_append, List.length_append, h4, ih, List.map_cons, List.sum_cons]
    simp only [List.length_cons, List.length_nil]
    omega
theorem join_bytes (L : List ByteArray) (b : UInt8) (h : b ∈ Lib.joinTail [47] (L.map (·.data.toList))) : b = 47 ∨ ∃ p ∈ L, b ∈ p.data.toList := by
  unfold Lib.joinTail at h
  obtain ⟨l, hl, hb⟩ := List.mem_flatten.1 h
  obtain ⟨x, hx, rfl⟩ := List.mem_map.1 hl
  obtain ⟨p, hp, rfl⟩ := List.mem_map.1 hx
  rcases List.mem_append.1 hb with hb | hb
  · exact .inl (List.mem_singleton.1 hb)
  · exact .inr ⟨p, hp, hb⟩
theorem pieces_lenB (s : ByteArray) (h : s.data.toList.head? = some (47 : UInt8)) : lenB (piecesB s) ≤ s.size := by
  have hz : s.data.toList.length = s.size := by rw [Array.length_toList]; rfl
  have e : lenB (piecesB s) = lensum (cutL [] s.data.toList) := by
    rw [pieces_cut]
    unfold lenB lensum
    rw [List.map_map]
    congr 1
  rw [e, ← hz]
  generalize s.data.toList = l at h
  cases l with
  | nil => simp at h
  | cons b t =>
    obtain rfl : b = 47 := by simpa using h
    rw [cutL, if_pos rfl, if_pos rfl]
    have := cut_lensum t []
    simp only [List.length_nil, List.length_cons] at *
    omega
theorem okB_clean (s : ByteArray) (h : okB s = true) : okB (cleanB s) = true := by
  have e : cleanB s = joinB (cleanedB s) := by unfold cleanB; rw [if_pos h]
  rw [e]
  obtain ⟨⟨_, h2⟩, h3, h4⟩ := (okB_iff s).1 h
  unfold joinB
  by_cases hL : cleanedB s = []
  · rw [if_pos hL]; decide +kernel
  · rw [if_neg hL]
    refine (okB_iff _).2 ⟨⟨?_, ?_⟩, ?_, ?_⟩
    · rw [mkB_size, join_lenB]
      cases hc : cleanedB s with
      | nil => exact absurd hc hL
      | cons p L => unfold lenB; rw [List.map_cons, List.sum_cons]; omega
    · rw [mkB_size, join_lenB]
      have h5 := cleaned_lenB (piecesB s) []
      have h6 := pieces_lenB s h4
      have h7 : lenB (cleanedB s) ≤ lenB [] + lenB (piecesB s) := h5
      have h8 : lenB [] = 0 := rfl
      omega
    · intro b hb
      rw [mkB_list] at hb
      rcases join_bytes _ _ hb with rfl | ⟨p, hp, hb⟩
      · rfl
      · rcases cleaned_mem _ _ _ hp with h | h
        · simp at h
        · exact h3 b ((piece_mem s p h).2.2 b hb)
    · rw [mkB_list]
      cases hc : cleanedB s with
      | nil => exact absurd hc hL
      | cons p L => unfold Lib.joinTail; simp
theorem cleaned_clean (s : ByteArray) (h : okB s = true) : piecesB (cleanB s) = cleanedB s ∧ cleanedB (cleanB s) = cleanedB s := by
  have e : cleanB s = joinB (cleanedB s) := by unfold cleanB; rw [if_pos h]
  have h1 : piecesB (cleanB s) = cleanedB s := by rw [e]; exact pieces_join _ (cleaned_plain s)
  refine ⟨h1, ?_⟩
  unfold cleanedB
  rw [h1, clean_plain _ [] (cleaned_plain s), List.nil_append]
  rfl
theorem clean_of (s : ByteArray) (h : okB s = true) : cleanB s = joinB (cleanedB s) := by unfold cleanB; rw [if_pos h]
theorem clean_clean (s : ByteArray) (h : okB s = true) : cleanB (cleanB s) = cleanB s := by
  rw [clean_of _ (okB_clean s h), (cleaned_clean s h).2, ← clean_of s h]
theorem parts_clean (s : ByteArray) (h : okB s = true) : partsB (cleanB s) = cleanedB s := by unfold partsB; rw [if_pos (okB_clean s h)]; exact (cleaned_clean s h).1
/-! ### below -/
theorem below_refl (s : ByteArray) (h : okB s = true) : belowB s s = true := by unfold belowB belB; rw [h]; simp
theorem below_root (s : ByteArray) (h : okB s = true) : belowB s ⟨#[47]⟩ = true := by
  have h1 : okB ⟨#[47]⟩ = true := rfl
  have h2 : cleanB ⟨#[47]⟩ = sl1 := by
    unfold cleanB; rw [if_pos h1]
    have : piecesB ⟨#[47]⟩ = [] := by
      rw [pieces_cut]
      show (cutL [] [47]).map mkB = []
      rw [cutL, if_pos rfl, if_pos rfl, cutL, if_pos rfl]; rfl
    unfold cleanedB; rw [this]; rfl
  unfold belowB belB
  rw [h, h1, h2]; simp
theorem preB_iff (x y : ByteArray) : preB x y = true ↔ (y.data.toList ++ [47]) <+: x.data.toList := by
  have e : (y ++ sl1).data.toList = y.data.toList ++ [47] := by rw [ByteArray.data_append, Array.toList_append]; rfl
  unfold preB Lib.hasPrefix
  rw [List.isPrefixOf_iff_prefix, e]
theorem belB_trans (x y z : ByteArray) (hz : 1 ≤ z.size) (h1 : belB x y = true) (h2 : belB y z = true) : belB x z = true := by
  have hzl : z.data.toList.length = z.size := by rw [Array.length_toList]; rfl
  have g : ∀ a b : ByteArray, belB a b = true ↔ a = b ∨ b = sl1 ∨ preB a b = true := fun a b => by unfold belB; simp
  rw [g] at h1 h2 ⊢
  rcases h1 with rfl | rfl | h1
  · exact h2
  · rcases h2 with rfl | h2 | h2
    · exact .inr (.inl rfl)
    · exact .inr (.inl h2)
    · have h3 := ((preB_iff _ _).1 h2).length_le
      rw [List.length_append, hzl] at h3
      have : sl1.data.toList.length = 1 := rfl
      simp only [List.length_cons, List.length_nil] at h3
      omega
  · rcases h2 with rfl | h2 | h2
    · exact .inr (.inr h1)
    · exact .inr (.inl h2)
    · rw [preB_iff] at h1 h2
      exact .inr (.inr ((preB_iff _ _).2 (h2.trans ((List.prefix_append _ _).trans h1))))
theorem below_trans (a b c : ByteArray) (h1 : belowB a b = true) (h2 : belowB b c = true) : belowB a c = true := by
  unfold belowB at *
  rw [Bool.and_eq_true, Bool.and_eq_true] at *
  exact ⟨h1.1, h2.2.1, belB_trans _ _ _ ((cleanB_size c).1 h2.2.1) h1.2.2 h2.2.2⟩
theorem w64_range (n : Int) : -9223372036854775808 ≤ wrap64 n ∧ wrap64 n ≤ 9223372036854775807 := by unfold wrap64; omega
theorem and255 (x : Int) : 0 ≤ Go.bits .and .i64 x 255 ∧ Go.bits .and .i64 x 255 ≤ 255 := by
  have h : Go.bits .and .i64 x 255 = IntKind.i64.wrap ((((BitVec.ofInt 64 x) &&& (BitVec.ofInt 64 255)).toNat : Nat) : Int) := rfl
  have e : (BitVec.ofInt 64 255).toNat = 255 := by decide
  rw [h, BitVec.toNat_and, e]
  have := Nat.and_le_right (n := (BitVec.ofInt 64 x).toNat) (m := 255)
  generalize (BitVec.ofInt 64 x).toNat &&& 255 = m at this
  rw [IntKind.wrap_i64]; omega
def curOk (l : List Int) (i : Int) : Prop := 0 ≤ i ∧ i ≤ (l.length : Int) ∧ l.length ≤ 1048576
theorem l1New_loop (l : List Int) (hl : l.length ≤ 1048576) : ∀ (d i : Nat) (h : Int), i + d = l.length → ∃ h', Ev (fun k => spec_l1New.l0 k l h (i : Int)) (l, 0, h') := by
  intro d
  induction d with
  | zero =>
    intro i h hi
    exact ⟨h, Ev.step (fun _ => spec_l1New.l0.eq_2 _ _ _ _) (ev_neg (by omega) (ev_now rfl))⟩
  | succ d ih =>
    intro i h hi
    by_cases hc : (i : Int) < 4000
    · obtain ⟨h', e⟩ := ih (i + 1) (Go.bits .and .i64 (wrap64 ((wrap64 ((wrap64 (h * 131)) + (wrap64 (rd l (i : Int))))) + 7)) 1073741823) (by omega)
      have e3 : wrap64 ((i : Int) + 1) = ((i + 1 : Nat) : Int) := w64 (by omega) (by omega)
      refine ⟨h', Ev.step (fun _ => spec_l1New.l0.eq_2 _ _ _ _) (ev_pos (by omega) (ev_pos hc (ev_pos (by omega) ?_)))⟩
      rw [e3]; exact e
    · exact ⟨h, Ev.step (fun _ => spec_l1New.l0.eq_2 _ _ _ _) (ev_pos (by omega) (ev_neg hc (ev_now rfl)))⟩
theorem l1New_ex (l : List Int) (hl : l.length ≤ 1048576) : ∃ h, Ev (fun k => spec_l1New.f k l) (l, 0, h) := by
  unfold spec_l1New.f
  exact l1New_loop l hl l.length 0 _ (by omega)
theorem l1Byte_ex (l : List Int) (i h : Int) (hc : curOk l i) : ∃ v i' h', spec_l1Byte.f l i h = some (v, i', h') ∧ (0 ≤ v ∧ v ≤ 255) ∧ curOk l i' := by
  obtain ⟨h0, h1, h2⟩ := hc
  unfold spec_l1Byte.f
  by_cases hlt : i < (l.length : Int)
  · rw [if_pos hlt, if_pos h0]
    exact ⟨_, _, _, rfl, and255 _, by rw [w64 (by omega) (by omega)]; omega, by rw [w64 (by omega) (by omega)]; omega, h2⟩
  · rw [if_neg hlt]
    exact ⟨_, _, _, rfl, and255 _, h0, h1, h2⟩
theorem tmod_lt (x a : Int) (hx : 0 ≤ x) (ha : 0 < a) : 0 ≤ Int.tmod x a ∧ Int.tmod x a < a := by
  rw [Int.tmod_eq_emod_of_nonneg hx]
  exact ⟨Int.emod_nonneg _ (by omega), Int.emod_lt_of_pos _ ha⟩
theorem l1Below_ex (l : List Int) (i h a : Int) (hc : curOk l i) : ∃ v i' h', spec_l1Below.f l i h a = some (v, i', h') ∧ 0 ≤ v ∧ (0 < a → v < a) ∧ (a ≤ 0 → v = 0) ∧ curOk l i' := by
  unfold spec_l1Below.f
  by_cases h0 : a ≤ 0
  · rw [if_pos h0]
    exact ⟨0, i, h, rfl, by omega, by omega, fun _ => rfl, hc⟩
  · rw [if_neg h0]
    by_cases h1 : a ≤ 256
    · rw [if_pos h1]
      obtain ⟨v, i', h', e, hv, hi⟩ := l1Byte_ex l i h hc
      rw [e, Option.bind_some, if_neg (by omega)]
      have := tmod_lt v a hv.1 (by omega)
      exact ⟨_, _, _, rfl, this.1, fun _ => this.2, fun h => absurd h h0, hi⟩
    · rw [if_neg h1]
      obtain ⟨v1, i1, h1', e1, hv1, hi1⟩ := l1Byte_ex l i h hc
      obtain ⟨v2, i2, h2', e2, hv2, hi2⟩ := l1Byte_ex l i1 h1' hi1
      obtain ⟨v3, i3, h3', e3, hv3, hi3⟩ := l1Byte_ex l i2 h2' hi2
      obtain ⟨v4, i4, h4', e4, hv4, hi4⟩ := l1Byte_ex l i3 h3' hi3
      simp only [e1, e2, e3, e4, Option.bind_some]
      rw [if_neg (by omega)]
      have w : wrap64 ((wrap64 ((wrap64 ((wrap64 (v1 * 16777216)) + (wrap64 (v2 * 65536)))) + (wrap64 (v3 * 256)))) + v4) = v1 * 16777216 + v2 * 65536 + v3 * 256 + v4 := by
        rw [w64 (n := v1 * 16777216) (by omega) (by omega), w64 (n := v2 * 65536) (by omega) (by omega), w64 (n := v3 * 256) (by omega) (by omega), w64 (n := v1 * 16777216 + v2 * 65536) (by omega) (by omega), w64 (n := v1 * 16777216 + v2 * 65536 + v3 * 256) (by omega) (by omega), w64 (by omega) (by omega)]
      rw [w]
      have := tmod_lt (v1 * 16777216 + v2 * 65536 + v3 * 256 + v4) a (by omega) (by omega)
      exact ⟨_, _, _, rfl, this.1, fun _ => this.2, fun h => absurd h h0, hi4⟩
theorem l1Once_ex (l : List Int) (i h a : Int) (hc : curOk l i) : ∃ v i' h', spec_l1Once.f l i h a = some (v, i', h') ∧ curOk l i' := by
  unfold spec_l1Once.f
  obtain ⟨v, i', h', e, _, _, _, hi⟩ := l1Below_ex l i h a hc
  rw [e, Option.bind_some]
  exact ⟨_, _, _, rfl, hi⟩
theorem l1PickS_ex (l : List Int) (i h : Int) (p : List ByteArray) (n : Nat) (hp : 0 < p.length) (hn : ∀ q ∈ p, q.size ≤ n) (hc : curOk l i) : ∃ s i' h', spec_l1Pick.f l i h p = some (s, i', h') ∧ s.size ≤ n ∧ curOk l i' := by
  unfold spec_l1Pick.f
  obtain ⟨v, i', h', e, h0, h1, _, hi⟩ := l1Below_ex l i h (p.length : Int) hc
  have h2 := h1 (by omega)
  obtain ⟨j, rfl⟩ := Int.eq_ofNat_of_zero_le h0
  have hj : j < p.length := by omega
  rw [e, Option.bind_some, if_pos h0, if_pos h2]
  exact ⟨_, _, _, rfl, by show (rdOf ByteArray.empty p (j : Int)).size ≤ n; rw [rdP p j hj]; exact hn _ (List.getElem_mem hj), hi⟩
theorem l2Name_ex (l : List Int) (i h : Int) (hc : curOk l i) : ∃ s i' h', spec_l2Name.f l i h = some (s, i', h') ∧ s.size ≤ 3 ∧ curOk l i' := by
  unfold spec_l2Name.f
  obtain ⟨s, i', h', e, hs, hi⟩ := l1PickS_ex l i h [(⟨#[97]⟩ : ByteArray), (⟨#[98]⟩ : ByteArray), (⟨#[99]⟩ : ByteArray), (⟨#[100, 49]⟩ : ByteArray), (⟨#[115, 117, 98]⟩ : ByteArray)] 3 (by decide) (by decide) hc
  rw [e, Option.bind_some]
  exact ⟨_, _, _, rfl, hs, hi⟩
theorem szA (a b : ByteArray) : (a ++ b).size = a.size + b.size := ByteArray.size_append
theorem l2Path_j2 (l : List Int) (x : ByteArray) (i h : Int) (hx : x.size ≤ 100) (hc : curOk l i) : ∃ s i' h', Ev (fun k => spec_l2Path.j2 k x l i h) (s, i', h') ∧ s.size ≤ 100 ∧ curOk l i' := by
  obtain ⟨b, i1, h1, e1, c1⟩ := l1Once_ex l i h 30 hc
  cases b with
  | true =>
    obtain ⟨s, i2, h2, e2, hs, c2⟩ := l1PickS_ex l i1 h1 (([(⟨#[]⟩ : ByteArray), (⟨#[97]⟩ : ByteArray), (⟨#[47, 97, 47, 98, 47, 99, 47, 100, 47, 97, 47, 98, 47, 99, 47, 100, 47, 97, 47, 98, 47, 99, 47, 100, 47, 97, 47, 98, 47, 99, 47, 100, 47, 97, 47, 98, 47, 99, 47, 100, 47, 97, 47, 98, 47, 99, 47, 100, 47, 97, 47, 98, 47, 99, 47, 100, 47, 97, 47, 98]⟩ : ByteArray), (⟨#[47, 97, 47, 98, 47, 99, 47, 100, 47, 97, 47, 98, 47, 99, 47, 100, 47, 97, 47, 98, 47, 99, 47, 100, 47, 97, 47, 98, 47, 99, 47, 100, 47, 97, 47, 98, 47, 99, 47, 100, 47, 97, 47, 98, 47, 99, 47, 100, 47, 97, 47, 98, 47, 99, 47, 100, 47, 97, 47]⟩ : ByteArray)] : List ByteArray)) 100 (by decide) (by decide) c1
    exact ⟨_, _, _, Ev.step (fun _ => spec_l2Path.j2.eq_2 ..) (ev_of e1 (ev_pos rfl (ev_of e2 (ev_now rfl)))), hs, c2⟩
  | false =>
    exact ⟨_, _, _, Ev.step (fun _ => spec_l2Path.j2.eq_2 ..) (ev_of e1 (ev_neg (by simp) (ev_now rfl))), hx, c1⟩
theorem l2Path_j1 (l : List Int) (x : ByteArray) (b : Bool) (i h : Int) (hx : x.size ≤ 99) (hc : curOk l i) : ∃ s i' h', Ev (fun k => spec_l2Path.j1 k x b l i h) (s, i', h') ∧ s.size ≤ 100 ∧ curOk l i' := by
  have hz : (x ++ (⟨#[47]⟩ : ByteArray)).size = x.size + 1 := szA _ _
  cases b with
  | true =>
    obtain ⟨s, i2, h2, e2, hs, c2⟩ := l2Path_j2 l (x ++ (⟨#[47]⟩ : ByteArray)) i h (by omega) hc
    exact ⟨_, _, _, Ev.step (fun _ => spec_l2Path.j1.eq_2 ..) (ev_pos rfl (ev_pos (by omega) e2)), hs, c2⟩
  | false =>
    obtain ⟨s, i2, h2, e2, hs, c2⟩ := l2Path_j2 l x i h (by omega) hc
    exact ⟨_, _, _, Ev.step (fun _ => spec_l2Path.j1.eq_2 ..) (ev_neg (by simp) e2), hs, c2⟩
theorem l2Path_loop (l : List Int) : ∀ (d : Nat) (x : ByteArray) (i h : Int), x.size + 13 * d ≤ 90 → curOk l i → ∃ s i' h', Ev (fun k => spec_l2Path.l0 k x (d : Int) l i h) (s, i', h') ∧ s.size ≤ 100 ∧ curOk l i' := by
  intro d
  induction d with
  | zero =>
    intro x i h hx hc
    by_cases hn : x.toList = []
    · obtain ⟨s, i2, h2, e2, hs, c2⟩ := l2Path_j1 l x true i h (by omega) hc
      exact ⟨_, _, _, Ev.step (fun _ => spec_l2Path.l0.eq_2 ..) (ev_neg (by (try dsimp only); omega) (ev_pos hn e2)), hs, c2⟩
    · obtain ⟨b, i1, h1, e1, c1⟩ := l1Once_ex l i h 20 hc
      obtain ⟨s, i2, h2, e2, hs, c2⟩ := l2Path_j1 l x b i1 h1 (by omega) c1
      exact ⟨_, _, _, Ev.step (fun _ => spec_l2Path.l0.eq_2 ..) (ev_neg (by (try dsimp only); omega) (ev_neg hn (ev_of e1 e2))), hs, c2⟩
  | succ d ih =>
    intro x i h hx hc
    obtain ⟨p, i1, h1, e1, hp, c1⟩ := l2Name_ex l i h hc
    obtain ⟨v, i2, h2, e2, _, _, _, c2⟩ := l1Below_ex l i1 h1 14 c1
    have e3 : wrap64 (((d + 1 : Nat) : Int) - 1) = (d : Int) := by rw [w64 (by omega) (by omega)]; omega
    have hz : (x ++ (⟨#[47]⟩ : ByteArray)).size = x.size + 1 := szA _ _
    have hy : ((x ++ (⟨#[47]⟩ : ByteArray)) ++ p).size = x.size + 1 + p.size := by rw [szA, hz]
    obtain ⟨y, ey⟩ : ∃ y, y = (x ++ (⟨#[47]⟩ : ByteArray)) ++ p := ⟨_, rfl⟩
    have rest : ∀ (z : ByteArray) (i3 h3 : Int), z.size ≤ x.size + 13 → curOk l i3 → ∃ s i' h', Ev (fun k => spec_l2Path.l0 k z (wrap64 (((d + 1 : Nat) : Int) - 1)) l i3 h3) (s, i', h') ∧ s.size ≤ 100 ∧ curOk l i' := by
      intro z i3 h3 hzz hcc
      rw [e3]
      exact ih z i3 h3 (by omega) hcc
    by_cases v0 : v = 0
    · obtain ⟨s, i3, h3, e4, hs, c3⟩ := rest (((x ++ (⟨#[47]⟩ : ByteArray)) ++ p) ++ (⟨#[47, 46]⟩ : ByteArray)) i2 h2 (by rw [szA, hy]; show _ + 2 ≤ _; omega) c2
      exact ⟨_, _, _, Ev.step (fun _ => spec_l2Path.l0.eq_2 ..) (ev_pos (by (try dsimp only); omega) (ev_pos (by (try dsimp only); omega) (ev_of e1 (ev_pos (by (try dsimp only); omega) (ev_of e2 (ev_pos v0 (ev_pos (by (try dsimp only); omega) e4))))))), hs, c3⟩
    by_cases v1 : v = 1
    · obtain ⟨s, i3, h3, e4, hs, c3⟩ := rest (((x ++ (⟨#[47]⟩ : ByteArray)) ++ p) ++ (⟨#[47, 46, 46]⟩ : ByteArray)) i2 h2 (by rw [szA, hy]; show _ + 3 ≤ _; omega) c2
      exact ⟨_, _, _, Ev.step (fun _ => spec_l2Path.l0.eq_2 ..) (ev_pos (by (try dsimp only); omega) (ev_pos (by (try dsimp only); omega) (ev_of e1 (ev_pos (by (try dsimp only); omega) (ev_of e2 (ev_neg v0 (ev_pos v1 (ev_pos (by (try dsimp only); omega) e4)))))))), hs, c3⟩
    by_cases v2 : v = 2
    · obtain ⟨s, i3, h3, e4, hs, c3⟩ := rest (((x ++ (⟨#[47]⟩ : ByteArray)) ++ p) ++ (⟨#[47]⟩ : ByteArray)) i2 h2 (by rw [szA, hy]; show _ + 1 ≤ _; omega) c2
      exact ⟨_, _, _, Ev.step (fun _ => spec_l2Path.l0.eq_2 ..) (ev_pos (by (try dsimp only); omega) (ev_pos (by (try dsimp only); omega) (ev_of e1 (ev_pos (by (try dsimp only); omega) (ev_of e2 (ev_neg v0 (ev_neg v1 (ev_pos v2 (ev_pos (by (try dsimp only); omega) e4))))))))), hs, c3⟩
    by_cases v3 : v = 3
    · obtain ⟨q, i5, h5, e5, hq, c5⟩ := l1PickS_ex l i2 h2 (([(⟨#[108, 111, 110, 103, 110, 97, 109, 101, 57]⟩ : ByteArray), (⟨#[65, 66, 67]⟩ : ByteArray), (⟨#[120, 32, 121]⟩ : ByteArray), (⟨#[46, 104, 105, 100]⟩ : ByteArray), (⟨#[46, 46, 46]⟩ : ByteArray)] : List ByteArray)) 9 (by decide) (by decide) c2
      obtain ⟨s, i3, h3, e4, hs, c3⟩ := rest (((x ++ (⟨#[47]⟩ : ByteArray)) ++ p) ++ q) i5 h5 (by rw [szA, hy]; omega) c5
      exact ⟨_, _, _, Ev.step (fun _ => spec_l2Path.l0.eq_2 ..) (ev_pos (by (try dsimp only); omega) (ev_pos (by (try dsimp only); omega) (ev_of e1 (ev_pos (by (try dsimp only); omega) (ev_of e2 (ev_neg v0 (ev_neg v1 (ev_neg v2 (ev_pos v3 (ev_of e5 (ev_pos (by (try dsimp only); omega) e4))))))))))), hs, c3⟩
    · obtain ⟨s, i3, h3, e4, hs, c3⟩ := rest ((x ++ (⟨#[47]⟩ : ByteArray)) ++ p) i2 h2 (by rw [hy]; omega) c2
      exact ⟨_, _, _, Ev.step (fun _ => spec_l2Path.l0.eq_2 ..) (ev_pos (by (try dsimp only); omega) (ev_pos (by (try dsimp only); omega) (ev_of e1 (ev_pos (by (try dsimp only); omega) (ev_of e2 (ev_neg v0 (ev_neg v1 (ev_neg v2 (ev_neg v3 e4))))))))), hs, c3⟩
theorem l2Path_ex (l : List Int) (i h : Int) (hc : curOk l i) : ∃ s i' h', Ev (fun k => spec_l2Path.f k l i h) (s, i', h') ∧ s.size ≤ 100 ∧ curOk l i' := by
  unfold spec_l2Path.f
  obtain ⟨v, i1, h1, e1, v0, v1, _, c1⟩ := l1Below_ex l i h 5 hc
  obtain ⟨n, rfl⟩ := Int.eq_ofNat_of_zero_le v0
  have v2 := v1 (by omega)
  obtain ⟨s, i2, h2, e2, hs, c2⟩ := l2Path_loop l n ⟨#[]⟩ i1 h1 (by show 0 + 13 * n ≤ 90; omega) c1
  exact ⟨_, _, _, ev_of e1 e2, hs, c2⟩
theorem drawBelow_ex (l : List Int) (hl : l.length ≤ 1048576) : ∃ s t, Ev (fun k => spec_DrawBelow.f k l) (s, t) ∧ s.size ≤ 200 ∧ t.size ≤ 200 := by
  obtain ⟨h0, e0⟩ := l1New_ex l hl
  obtain ⟨t, i1, h1, e1, ht, c1⟩ := l2Path_ex l 0 h0 ⟨by omega, by omega, hl⟩
  obtain ⟨s, i2, h2, e2, hs, c2⟩ := l2Path_ex l i1 h1 c1
  obtain ⟨b, i3, h3, e3, c3⟩ := l1Once_ex l i2 h2 2 c2
  cases b with
  | true =>
    obtain ⟨q, i4, h4, e4, hq, c4⟩ := l1PickS_ex l i3 h3 (([(⟨#[]⟩ : ByteArray), (⟨#[47, 97]⟩ : ByteArray), (⟨#[47, 46, 46, 47, 97]⟩ : ByteArray), (⟨#[97]⟩ : ByteArray), (⟨#[47]⟩ : ByteArray)] : List ByteArray)) 9 (by decide) (by decide) c3
    exact ⟨t ++ q, t, Ev.bind e0 (Ev.bind e1 (Ev.bind e2 (ev_of e3 (ev_pos rfl (ev_of e4 (ev_pos (by (try dsimp only); omega) (ev_now rfl))))))), by rw [szA]; omega, by omega⟩
  | false =>
    exact ⟨s, t, Ev.bind e0 (Ev.bind e1 (Ev.bind e2 (ev_of e3 (ev_neg (by simp) (ev_now rfl))))), by omega, by omega⟩
theorem fresh_loop (l : List Int) (a : Int) (hl : l.length ≤ 1048576) : ∀ (d i : Nat) (acc : List Int), i + d = 600 → acc.length ≤ i + 1 → ∃ r, Ev (fun k => laws_fresh.l0 k l a acc (i : Int)) r ∧ r.length ≤ 601 := by
  intro d
  induction d with
  | zero =>
    intro i acc hi ha
    by_cases hc : (i : Int) < (l.length : Int)
    · exact ⟨acc, Ev.step (fun _ => laws_fresh.l0.eq_2 ..) (ev_pos hc (ev_neg (by omega) (ev_now rfl))), by omega⟩
    · exact ⟨acc, Ev.step (fun _ => laws_fresh.l0.eq_2 ..) (ev_neg hc (ev_now rfl)), by omega⟩
  | succ d ih =>
    intro i acc hi ha
    by_cases hc : (i : Int) < (l.length : Int)
    · have e3 : wrap64 ((i : Int) + 1) = ((i + 1 : Nat) : Int) := w64 (by omega) (by omega)
      obtain ⟨r, e, hr⟩ := ih (i + 1) (acc ++ [(wrap64 ((wrap64 ((wrap64 (rd l (i : Int))) * 3)) + (wrap64 (a * (wrap64 ((Int.tmod (i : Int) 7) + 1)))))) % 256]) (by omega) (by rw [List.length_append]; simp; omega)
      rw [← e3] at e
      exact ⟨r, Ev.step (fun _ => laws_fresh.l0.eq_2 ..) (ev_pos hc (ev_pos (by omega) (ev_pos (by omega) (ev_pos (by omega) e)))), hr⟩
    · exact ⟨acc, Ev.step (fun _ => laws_fresh.l0.eq_2 ..) (ev_neg hc (ev_now rfl)), by omega⟩
theorem fresh_ex (l : List Int) (a : Int) (hl : l.length ≤ 1048576) : ∃ r, Ev (fun k => laws_fresh.f k l a) r ∧ r.length ≤ 601 := by
  unfold laws_fresh.f
  exact fresh_loop l a hl 600 0 _ (by omega) (by simp)
/-! ### laws_FnPaths: function 6 (by hand) -/
theorem okS_any (s : ByteArray) (w : World) : Calls Tryd.prog 18 #[.string s] w fun e w' => e = .returned (.bool (okB s)) ∧ Drawn0 w w' := by
  obtain ⟨K, hK⟩ := path_spec s
  exact spec_PathOk.calls K s _ w (hK K (Nat.le_refl _))
def accB (L : List ByteArray) (x : Nat) : ByteArray := mkB (Lib.joinTail [47] ((L.take x).map (·.data.toList)))
theorem accB_zero (L : List ByteArray) : accB L 0 = ⟨#[]⟩ := rfl
theorem accB_succ (L : List ByteArray) (x : Nat) (h : x < L.length) : accB L (x + 1) = (accB L x ++ (⟨#[47]⟩ : ByteArray)) ++ L[x] := by
  unfold accB
  rw [List.take_succ_eq_append_getElem h]
  apply ByteArray.ext
  apply Array.toList_inj.1
  unfold mkB Lib.joinTail
  generalize L.take x = T
  simp [ByteArray.data_append]
theorem accB_size (L : List ByteArray) (x : Nat) (hl : L.length ≤ 61) (hn : ∀ p ∈ L, p.size ≤ 60) : (accB L x).size ≤ 4000 := by
  unfold accB
  rw [mkB_size]
  have h1 := joinTail_len (L.take x) 60 (fun p hp => hn p (List.mem_of_mem_take hp))
  have h2 : (L.take x).length ≤ 61 := by rw [List.length_take]; omega
  have h3 : (L.take x).length * (60 + 1) ≤ 61 * 61 := Nat.mul_le_mul h2 (by omega)
  omega
theorem accB_all (L : List ByteArray) (x : Nat) (h : L.length ≤ x) : (L = [] ∧ accB L x = ⟨#[]⟩ ∧ joinB L = ⟨#[47]⟩) ∨ (L ≠ [] ∧ accB L x = joinB L) := by
  unfold accB joinB
  rw [List.take_of_length_le h]
  by_cases hL : L = []
  · subst hL; exact .inl ⟨rfl, rfl, rfl⟩
  · exact .inr ⟨hL, by rw [if_neg hL]⟩
theorem ne_list (p : ByteArray) {l : List UInt8} (h : ¬ p.toList = l) : (p.toList == l) = false := by simpa using h
set_option maxHeartbeats 8000000 in
set_option maxRecDepth 100000 in
theorem laws_FnPaths.cardWalk (m : Int) (A : Option Addr) (c : Nat) (l : List Int) (w : World) (hm : w.cell? ⟨0, 0, none⟩ = some (.int .i64 m)) (hr : Kd.C (Kd.int .u8) w A l.length l) (hc : l.length ≤ c) (wf : l.length ≤ maxLen ∧ ∀ a ∈ l, (Lit.int .u8 a).wf = true) :
    Calls Tryd.prog 6 #[.slice A l.length c] w fun e w' => e = .returned (.bool true) ∧ Below w.heap.size w w' := by
  have HM := Aside0.mk hm
  have HC := Aside0.mk hr
  have HCC := Aside0.mk hc
  have HB := Aside0.mk (Below.refl w.heap.size w)
  by_cases hl : l.length ≤ 1048576
  · have HBIG := Aside0.mk (show laws_big.f l = some false from by unfold laws_big.f; rw [decide_eq_false (by omega)])
    obtain ⟨a, b, ⟨K1, hK1⟩, sa, sb⟩ := drawBelow_ex l hl
    obtain ⟨r, ⟨K2, hK2⟩, hrl⟩ := fresh_ex l 3 hl
    obtain ⟨d, t, ⟨K3, hK3⟩, sd, st⟩ := drawBelow_ex r (by omega)
    have H17 := Aside0.mk (hK1 K1 (Nat.le_refl _))
    have H19 := Aside0.mk (hK2 K2 (Nat.le_refl _))
    have H17b := Aside0.mk (hK3 K3 (Nat.le_refl _))
    have HT := below_trans a b t
    have Q1 := fun W => fun hW => belowI_any a b m W (by omega) (by omega) hW
    have Q2 := fun W => fun hW => belowI_any b t m W (by omega) (by omega) hW
    have Q3 := fun W => fun hW => belowI_any a t m W (by omega) (by omega) hW
    generalize belowB a b = q1 at HT Q1
    generalize belowB b t = q2 at HT Q2
    generalize belowB a t = q3 at HT Q3
    have CA := fun W => fun hW => cleanI_any a m W (by omega) hW
    have OA := fun W => okS_any a W
    have HT := Aside0.mk HT
    have Q1 := Aside0.mk Q1
    have Q2 := Aside0.mk Q2
    have Q3 := Aside0.mk Q3
    clear hK1 hK2 hK3 hm hr hc wf hrl sd st sb hl
    cases ho : okB a with
    | false =>
      rw [ho] at OA
      rw [cleanB_no a ho] at CA
      have PX := fun W => fun hW => partsI_any ⟨#[]⟩ m W (by decide) hW
      have e0 : partsB ⟨#[]⟩ = [] := rfl
      rw [e0] at PX
      have CA := Aside0.mk CA
      have OA := Aside0.mk OA
      have PX := Aside0.mk PX
      clear e0 sa ho
      go_enter Tryd.func6, Tryd.ntmps6
      go_wp2_with (first | (go_at_call 16; (with_reducible refine (laws_big.calls A c l false _ (Kd.C_below HC.out (by repeat (first | (with_reducible first | exact HB.out | apply below_alloc | apply pw_below_drewN | apply below_drew1) | exact HB.out))) HCC.out HBIG.out).mono ?_); rintro e w1 ⟨rfl, hd⟩; have n0_ := Aside0.mk (below_then (by repeat (first | (with_reducible first | exact HB.out | apply below_alloc | apply pw_below_drewN | apply below_drew1) | exact HB.out)) (below_size (by repeat (first | (with_reducible first | exact HB.out | apply below_alloc | apply pw_below_drewN | apply below_drew1) | exact HB.out))) hd.below); clear HB; have HB := n0_; clear n0_; clear hd HBIG) | (go_at_call 17; (with_reducible refine (spec_DrawBelow.calls K1 A c l a b _ (Kd.C_below HC.out (by repeat (first | (with_reducible first | exact HB.out | apply below_alloc | apply pw_below_drewN | apply below_drew1) | exact HB.out))) HCC.out H17.out).mono ?_); rintro e w2 ⟨rfl, hb⟩; have n0_ := Aside0.mk (below_then (by repeat (first | (with_reducible first | exact HB.out | apply below_alloc | apply pw_below_drewN | apply below_drew1) | exact HB.out)) (below_size (by repeat (first | (with_reducible first | exact HB.out | apply below_alloc | apply pw_below_drewN | apply below_drew1) | exact HB.out))) hb); clear HB; have HB := n0_; clear n0_; clear hb H17) | (go_at_call 13; (with_reducible refine (CA.out _ (pw_cell_below (by repeat (first | (with_reducible first | exact HB.out | apply below_alloc | apply pw_below_drewN | apply below_drew1) | exact HB.out)) HM.out)).mono ?_); rintro e w3 ⟨rfl, hb⟩; have n0_ := Aside0.mk (below_then (by repeat (first | (with_reducible first | exact HB.out | apply below_alloc | apply pw_below_drewN | apply below_drew1) | exact HB.out)) (below_size (by repeat (first | (with_reducible first | exact HB.out | apply below_alloc | apply pw_below_drewN | apply below_drew1) | exact HB.out))) hb); clear HB; have HB := n0_; clear n0_; clear hb CA) | (go_at_call 18; (with_reducible refine (OA.out _).mono ?_); rintro e w5 ⟨rfl, hb⟩; have n0_ := Aside0.mk (below_then (by repeat (first | (with_reducible first | exact HB.out | apply below_alloc | apply pw_below_drewN | apply below_drew1) | exact HB.out)) (below_size (by repeat (first | (with_reducible first | exact HB.out | apply below_alloc | apply pw_below_drewN | apply below_drew1) | exact HB.out))) hb.below); clear HB; have HB := n0_; clear n0_; clear hb OA) | (go_at_call 8; (with_reducible refine (PX.out _ (pw_cell_below (by repeat (first | (with_reducible first | exact HB.out | apply below_alloc | apply pw_below_drewN | apply below_drew1) | exact HB.out)) HM.out)).mono ?_); rintro e w8 ⟨vp, rfl, hR, hb⟩; obtain ⟨AL, cL, rfl⟩ := Kd.R_slice hR; have n1_ := Aside0.mk (Kd.R_lower (Kd.R_mono hR (fun _ _ => True.intro)) (below_size (by repeat (first | (with_reducible first | exact HB.out | apply below_alloc | apply pw_below_drewN | apply below_drew1) | exact HB.out)))); have n0_ := Aside0.mk (below_then (by repeat (first | (with_reducible first | exact HB.out | apply below_alloc | apply pw_below_drewN | apply below_drew1) | exact HB.out)) (below_size (by repeat (first | (with_reducible first | exact HB.out | apply below_alloc | apply pw_below_drewN | apply below_drew1) | exact HB.out))) hb); clear HB; have HB := n0_; clear n0_; have HP := n1_; clear n1_ hR hb PX))
      go_loopg [7, 8] 0 (fun kq v7 v8 w' => v7 = .string ⟨#[]⟩ ∧ v8 = .int .i64 0 ∧ Aside0 (Below w.heap.size w w'))
      case atStart => exact ⟨rfl, rfl, ⟨(by repeat (first | (with_reducible first | exact HB.out | apply below_alloc | apply pw_below_drewN | apply below_drew1) | exact HB.out))⟩⟩
      case round =>
        clear HB
        obtain ⟨rfl, rfl, HB⟩ := hrel
        go_upto_region 18 with (first | (go_at_call 19; (with_reducible refine (laws_fresh.calls K2 A c l 3 r _ (Kd.C_below HC.out (by repeat (first | (with_reducible first | exact HB.out | apply below_alloc | apply pw_below_drewN | apply below_drew1) | exact HB.out))) HCC.out H19.out).mono ?_); rintro e w9 ⟨vf, rfl, hR, hb⟩; obtain ⟨AF, cF, rfl⟩ := Kd.R_slice hR; have HF := Aside0.mk (Kd.R_reads' hR).2; have n0_ := Aside0.mk (below_then (by repeat (first | (with_reducible first | exact HB.out | apply below_alloc | apply pw_below_drewN | apply below_drew1) | exact HB.out)) (below_size (by repeat (first | (with_reducible first | exact HB.out | apply below_alloc | apply pw_below_drewN | apply below_drew1) | exact HB.out))) hb); clear HB; have HB := n0_; clear n0_; clear hR hb H19) | (go_at_call 17; (with_reducible refine (spec_DrawBelow.calls K3 AF cF r d t _ HF.out.2 HF.out.1 H17b.out).mono ?_); rintro e w10 ⟨rfl, hb⟩; have n0_ := Aside0.mk (below_then (by repeat (first | (with_reducible first | exact HB.out | apply below_alloc | apply pw_below_drewN | apply below_drew1) | exact HB.out)) (below_size (by repeat (first | (with_reducible first | exact HB.out | apply below_alloc | apply pw_below_drewN | apply below_drew1) | exact HB.out))) hb); clear HB; have HB := n0_; clear n0_; clear hb H17b HF))
        cases q1 with
        | false =>
          clear Q2 Q3 HT
          go_wp2_with (first | (go_at_call 15; (with_reducible refine (Q1.out _ (pw_cell_below (by repeat (first | (with_reducible first | exact HB.out | apply below_alloc | apply pw_below_drewN | apply below_drew1) | exact HB.out)) HM.out)).mono ?_); rintro e w11 ⟨rfl, hb⟩; have n0_ := Aside0.mk (below_then (by repeat (first | (with_reducible first | exact HB.out | apply below_alloc | apply pw_below_drewN | apply below_drew1) | exact HB.out)) (below_size (by repeat (first | (with_reducible first | exact HB.out | apply below_alloc | apply pw_below_drewN | apply below_drew1) | exact HB.out))) hb); clear HB; have HB := n0_; clear n0_; clear hb Q1))
          go_ret
          exact ⟨rfl, (by repeat (first | (with_reducible first | exact HB.out | apply below_alloc | apply pw_below_drewN | apply below_drew1) | exact HB.out))⟩
        | true =>
          cases q2 with
          | false =>
            clear Q3 HT
            go_wp2_with (first | (go_at_call 15; (with_reducible refine (Q1.out _ (pw_cell_below (by repeat (first | (with_reducible first | exact HB.out | apply below_alloc | apply pw_below_drewN | apply below_drew1) | exact HB.out)) HM.out)).mono ?_); rintro e w11 ⟨rfl, hb⟩; have n0_ := Aside0.mk (below_then (by repeat (first | (with_reducible first | exact HB.out | apply below_alloc | apply pw_below_drewN | apply below_drew1) | exact HB.out)) (below_size (by repeat (first | (with_reducible first | exact HB.out | apply below_alloc | apply pw_below_drewN | apply below_drew1) | exact HB.out))) hb); clear HB; have HB := n0_; clear n0_; clear hb Q1) | (go_at_call 15; (with_reducible refine (Q2.out _ (pw_cell_below (by repeat (first | (with_reducible first | exact HB.out | apply below_alloc | apply pw_below_drewN | apply below_drew1) | exact HB.out)) HM.out)).mono ?_); rintro e w12 ⟨rfl, hb⟩; have n0_ := Aside0.mk (below_then (by repeat (first | (with_reducible first | exact HB.out | apply below_alloc | apply pw_below_drewN | apply below_drew1) | exact HB.out)) (below_size (by repeat (first | (with_reducible first | exact HB.out | apply below_alloc | apply pw_below_drewN | apply below_drew1) | exact HB.out))) hb); clear HB; have HB := n0_; clear n0_; clear hb Q2))
            go_ret
            exact ⟨rfl, (by repeat (first | (with_reducible first | exact HB.out | apply below_alloc | apply pw_below_drewN | apply below_drew1) | exact HB.out))⟩
          | true =>
            obtain rfl := HT.out rfl rfl
            clear HT
            go_wp2_with (first | (go_at_call 15; (with_reducible refine (Q1.out _ (pw_cell_below (by repeat (first | (with_reducible first | exact HB.out | apply below_alloc | apply pw_below_drewN | apply below_drew1) | exact HB.out)) HM.out)).mono ?_); rintro e w11 ⟨rfl, hb⟩; have n0_ := Aside0.mk (below_then (by repeat (first | (with_reducible first | exact HB.out | apply below_alloc | apply pw_below_drewN | apply below_drew1) | exact HB.out)) (below_size (by repeat (first | (with_reducible first | exact HB.out | apply below_alloc | apply pw_below_drewN | apply below_drew1) | exact HB.out))) hb); clear HB; have HB := n0_; clear n0_; clear hb Q1) | (go_at_call 15; (with_reducible refine (Q2.out _ (pw_cell_below (by repeat (first | (with_reducible first | exact HB.out | apply below_alloc | apply pw_below_drewN | apply below_drew1) | exact HB.out)) HM.out)).mono ?_); rintro e w12 ⟨rfl, hb⟩; have n0_ := Aside0.mk (below_then (by repeat (first | (with_reducible first | exact HB.out | apply below_alloc | apply pw_below_drewN | apply below_drew1) | exact HB.out)) (below_size (by repeat (first | (with_reducible first | exact HB.out | apply below_alloc | apply pw_below_drewN | apply below_drew1) | exact HB.out))) hb); clear HB; have HB := n0_; clear n0_; clear hb Q2) | (go_at_call 15; (with_reducible refine (Q3.out _ (pw_cell_below (by repeat (first | (with_reducible first | exact HB.out | apply below_alloc | apply pw_below_drewN | apply below_drew1) | exact HB.out)) HM.out)).mono ?_); rintro e w13 ⟨rfl, hb⟩; have n0_ := Aside0.mk (below_then (by repeat (first | (with_reducible first | exact HB.out | apply below_alloc | apply pw_below_drewN | apply below_drew1) | exact HB.out)) (below_size (by repeat (first | (with_reducible first | exact HB.out | apply below_alloc | apply pw_below_drewN | apply below_drew1) | exact HB.out))) hb); clear HB; have HB := n0_; clear n0_; clear hb Q3))
            go_ret
            exact ⟨rfl, (by repeat (first | (with_reducible first | exact HB.out | apply below_alloc | apply pw_below_drewN | apply below_drew1) | exact HB.out))⟩
    | true =>
      rw [ho] at OA
      have BA := fun W => fun hW => belowI_any a a m W (by omega) (by omega) hW
      rw [below_refl a ho] at BA
      have BR := fun W => fun hW => belowI_any a ⟨#[47]⟩ m W (by omega) (by decide) hW
      rw [below_root a ho] at BR
      have hxs := cleanB_size a
      have CX := fun W => fun hW => cleanI_any (cleanB a) m W (by omega) hW
      rw [clean_clean a ho] at CX
      have PX := fun W => fun hW => partsI_any (cleanB a) m W (by omega) hW
      rw [parts_clean a ho] at PX
      have hxj := clean_of a ho
      have hpl := cleaned_plain a
      have hsm := cleaned_small a ho
      generalize cleanB a = x at CA CX PX hxj hxs
      generalize cleanedB a = L at PX hxj hpl hsm
      have hx1 : ¬ x.toList = [] := size_ne x (hxs.1 ho)
      have hx2 := ne_list x hx1
      have CA := Aside0.mk CA
      have CX := Aside0.mk CX
      have PX := Aside0.mk PX
      have OA := Aside0.mk OA
      have BA := Aside0.mk BA
      have BR := Aside0.mk BR
      have HXJ := Aside0.mk hxj
      have HPL := Aside0.mk hpl
      have HSM := Aside0.mk hsm
      have hn61 : L.length ≤ 61 := hsm.1
      clear hxs hxj hpl hsm ho sa
      go_enter Tryd.func6, Tryd.ntmps6
      go_wp2_with (first | (go_at_call 16; (with_reducible refine (laws_big.calls A c l false _ (Kd.C_below HC.out (by repeat (first | (with_reducible first | exact HB.out | apply below_alloc | apply pw_below_drewN | apply below_drew1) | exact HB.out))) HCC.out HBIG.out).mono ?_); rintro e w1 ⟨rfl, hd⟩; have n0_ := Aside0.mk (below_then (by repeat (first | (with_reducible first | exact HB.out | apply below_alloc | apply pw_below_drewN | apply below_drew1) | exact HB.out)) (below_size (by repeat (first | (with_reducible first | exact HB.out | apply below_alloc | apply pw_below_drewN | apply below_drew1) | exact HB.out))) hd.below); clear HB; have HB := n0_; clear n0_; clear hd HBIG) | (go_at_call 17; (with_reducible refine (spec_DrawBelow.calls K1 A c l a b _ (Kd.C_below HC.out (by repeat (first | (with_reducible first | exact HB.out | apply below_alloc | apply pw_below_drewN | apply below_drew1) | exact HB.out))) HCC.out H17.out).mono ?_); rintro e w2 ⟨rfl, hb⟩; have n0_ := Aside0.mk (below_then (by repeat (first | (with_reducible first | exact HB.out | apply below_alloc | apply pw_below_drewN | apply below_drew1) | exact HB.out)) (below_size (by repeat (first | (with_reducible first | exact HB.out | apply below_alloc | apply pw_below_drewN | apply below_drew1) | exact HB.out))) hb); clear HB; have HB := n0_; clear n0_; clear hb H17) | (go_at_call 13; (with_reducible refine (CA.out _ (pw_cell_below (by repeat (first | (with_reducible first | exact HB.out | apply below_alloc | apply pw_below_drewN | apply below_drew1) | exact HB.out)) HM.out)).mono ?_); rintro e w3 ⟨rfl, hb⟩; have n0_ := Aside0.mk (below_then (by repeat (first | (with_reducible first | exact HB.out | apply below_alloc | apply pw_below_drewN | apply below_drew1) | exact HB.out)) (below_size (by repeat (first | (with_reducible first | exact HB.out | apply below_alloc | apply pw_below_drewN | apply below_drew1) | exact HB.out))) hb); clear HB; have HB := n0_; clear n0_; clear hb CA) | (go_at_call 18; (with_reducible refine (OA.out _).mono ?_); rintro e w5 ⟨rfl, hb⟩; have n0_ := Aside0.mk (below_then (by repeat (first | (with_reducible first | exact HB.out | apply below_alloc | apply pw_below_drewN | apply below_drew1) | exact HB.out)) (below_size (by repeat (first | (with_reducible first | exact HB.out | apply below_alloc | apply pw_below_drewN | apply below_drew1) | exact HB.out))) hb.below); clear HB; have HB := n0_; clear n0_; clear hb OA) | (go_at_call 13; (with_reducible refine (CX.out _ (pw_cell_below (by repeat (first | (with_reducible first | exact HB.out | apply below_alloc | apply pw_below_drewN | apply below_drew1) | exact HB.out)) HM.out)).mono ?_); rintro e w4 ⟨rfl, hb⟩; have n0_ := Aside0.mk (below_then (by repeat (first | (with_reducible first | exact HB.out | apply below_alloc | apply pw_below_drewN | apply below_drew1) | exact HB.out)) (below_size (by repeat (first | (with_reducible first | exact HB.out | apply below_alloc | apply pw_below_drewN | apply below_drew1) | exact HB.out))) hb); clear HB; have HB := n0_; clear n0_; clear hb CX) | (go_at_call 15; (with_reducible refine (BA.out _ (pw_cell_below (by repeat (first | (with_reducible first | exact HB.out | apply below_alloc | apply pw_below_drewN | apply below_drew1) | exact HB.out)) HM.out)).mono ?_); rintro e w6 ⟨rfl, hb⟩; have n0_ := Aside0.mk (below_then (by repeat (first | (with_reducible first | exact HB.out | apply below_alloc | apply pw_below_drewN | apply below_drew1) | exact HB.out)) (below_size (by repeat (first | (with_reducible first | exact HB.out | apply below_alloc | apply pw_below_drewN | apply below_drew1) | exact HB.out))) hb); clear HB; have HB := n0_; clear n0_; clear hb BA) | (go_at_call 15; (with_reducible refine (BR.out _ (pw_cell_below (by repeat (first | (with_reducible first | exact HB.out | apply below_alloc | apply pw_below_drewN | apply below_drew1) | exact HB.out)) HM.out)).mono ?_); rintro e w7 ⟨rfl, hb⟩; have n0_ := Aside0.mk (below_then (by repeat (first | (with_reducible first | exact HB.out | apply below_alloc | apply pw_below_drewN | apply below_drew1) | exact HB.out)) (below_size (by repeat (first | (with_reducible first | exact HB.out | apply below_alloc | apply pw_below_drewN | apply below_drew1) | exact HB.out))) hb); clear HB; have HB := n0_; clear n0_; clear hb BR) | (go_at_call 8; (with_reducible refine (PX.out _ (pw_cell_below (by repeat (first | (with_reducible first | exact HB.out | apply below_alloc | apply pw_below_drewN | apply below_drew1) | exact HB.out)) HM.out)).mono ?_); rintro e w8 ⟨vp, rfl, hR, hb⟩; obtain ⟨AL, cL, rfl⟩ := Kd.R_slice hR; have n1_ := Aside0.mk (Kd.R_lower (Kd.R_mono hR (fun _ _ => True.intro)) (below_size (by repeat (first | (with_reducible first | exact HB.out | apply below_alloc | apply pw_below_drewN | apply below_drew1) | exact HB.out)))); have n0_ := Aside0.mk (below_then (by repeat (first | (with_reducible first | exact HB.out | apply below_alloc | apply pw_below_drewN | apply below_drew1) | exact HB.out)) (below_size (by repeat (first | (with_reducible first | exact HB.out | apply below_alloc | apply pw_below_drewN | apply below_drew1) | exact HB.out))) hb); clear HB; have HB := n0_; clear n0_; have HP := n1_; clear n1_ hR hb PX))
      go_loopg [7, 8] L.length (fun kq v7 v8 w' => ∃ (i : Nat), v7 = .string (accB L i) ∧ v8 = .int .i64 (i : Int) ∧ Aside0 (i + kq = L.length) ∧ Aside0 (Kd.R Kd.string 9 w' w.heap.size (fun _ => True) (.slice AL L.length cL) L) ∧ Aside0 (Below w.heap.size w w'))
      case atStart => exact ⟨0, rfl, rfl, ⟨by omega⟩, HP, ⟨(by repeat (first | (with_reducible first | exact HB.out | apply below_alloc | apply pw_below_drewN | apply below_drew1) | exact HB.out))⟩⟩
      case round =>
        clear HB HP
        obtain ⟨i, rfl, rfl, HX, HP, HB⟩ := hrel
        by_cases hlt : i < L.length
        · cases gk with
          | zero => have := HX.out; omega
          | succ k1 =>
          have hlx : i < L.length := hlt
          obtain ⟨ad, eA, hx0⟩ := Kd.at_string (Kd.R_reads' HP.out).2.2 (i : Int) (by omega) (by omega)
          subst eA
          rw [rdP _ i hlx, Int.toNat_natCast] at hx0
          have HS := Aside0.mk (accB_succ L i hlx)
          have hpp := HPL.out _ (List.getElem_mem hlx)
          have hps := HSM.out.2 _ (List.getElem_mem hlx)
          have hss := accB_size L i HSM.out.1 HSM.out.2
          generalize L[i] = p at hx0 HS hpp hps
          generalize accB L i = s at HS hss ⊢
          have e1 : ¬ p.toList = [46] := dot_ne hpp.2.2.1 dot1_list
          have e2 : ¬ p.toList = [46, 46] := dot_ne hpp.2.2.2 dot2_list
          have e3 : ¬ p.toList = [] := size_ne p hpp.1
          have b1 := ne_list p e1
          have b2 := ne_list p e2
          have b3 := ne_list p e3
          have hz : (s ++ (⟨#[47]⟩ : ByteArray)).size = s.size + 1 := szA _ _
          have g1 : (9223372036854775807 < s.size + 1) = False := eq_false (by omega)
          have g2 : (9223372036854775807 < (s ++ (⟨#[47]⟩ : ByteArray)).size + p.size) = False := eq_false (by omega)
          have g3 : decide (s.size + 1 ≤ 9223372036854775807) = true := decide_eq_true (by omega)
          have g4 : decide ((s ++ (⟨#[47]⟩ : ByteArray)).size + p.size ≤ 9223372036854775807) = true := decide_eq_true (by omega)
          have g5 : (9223372036854775807 < s.size + 1 + p.size) = False := eq_false (by omega)
          have g6 : decide (s.size + 1 + p.size ≤ 9223372036854775807) = true := decide_eq_true (by omega)
          have g7 : (9223372036854775807 < s.size + (1 + p.size)) = False := eq_false (by omega)
          have g8 : (s.size + 1 ≤ 9223372036854775807) = True := eq_true (by omega)
          have g9 : ((s ++ (⟨#[47]⟩ : ByteArray)).size + p.size ≤ 9223372036854775807) = True := eq_true (by omega)
          clear hpp hps hss hz
          go_wp2
          go_roundg k1
          case measure => omega
          case rel => exact ⟨i + 1, by rw [HS.out], by go_num, ⟨by have := HX.out; omega⟩, HP, ⟨(by repeat (first | (with_reducible first | exact HB.out | apply below_alloc | apply pw_below_drewN | apply below_drew1) | exact HB.out))⟩⟩
        · have hlt' : ¬ (i : Int) < (L.length : Int) := by omega
          have hdone := accB_all L i (by omega)
          clear HP
          rcases hdone with ⟨hL, h1, h2⟩ | ⟨hL, h1⟩
          · rw [h1]
            obtain rfl : x = ⟨#[47]⟩ := HXJ.out.trans h2
            clear h1 h2 hL
            go_upto_region 18 with (first | (go_at_call 19; (with_reducible refine (laws_fresh.calls K2 A c l 3 r _ (Kd.C_below HC.out (by repeat (first | (with_reducible first | exact HB.out | apply below_alloc | apply pw_below_drewN | apply below_drew1) | exact HB.out))) HCC.out H19.out).mono ?_); rintro e w9 ⟨vf, rfl, hR, hb⟩; obtain ⟨AF, cF, rfl⟩ := Kd.R_slice hR; have HF := Aside0.mk (Kd.R_reads' hR).2; have n0_ := Aside0.mk (below_then (by repeat (first | (with_reducible first | exact HB.out | apply below_alloc | apply pw_below_drewN | apply below_drew1) | exact HB.out)) (below_size (by repeat (first | (with_reducible first | exact HB.out | apply below_alloc | apply pw_below_drewN | apply below_drew1) | exact HB.out))) hb); clear HB; have HB := n0_; clear n0_; clear hR hb H19) | (go_at_call 17; (with_reducible refine (spec_DrawBelow.calls K3 AF cF r d t _ HF.out.2 HF.out.1 H17b.out).mono ?_); rintro e w10 ⟨rfl, hb⟩; have n0_ := Aside0.mk (below_then (by repeat (first | (with_reducible first | exact HB.out | apply below_alloc | apply pw_below_drewN | apply below_drew1) | exact HB.out)) (below_size (by repeat (first | (with_reducible first | exact HB.out | apply below_alloc | apply pw_below_drewN | apply below_drew1) | exact HB.out))) hb); clear HB; have HB := n0_; clear n0_; clear hb H17b HF))
            cases q1 with
            | false =>
              clear Q2 Q3 HT
              go_wp2_with (first | (go_at_call 15; (with_reducible refine (Q1.out _ (pw_cell_below (by repeat (first | (with_reducible first | exact HB.out | apply below_alloc | apply pw_below_drewN | apply below_drew1) | exact HB.out)) HM.out)).mono ?_); rintro e w11 ⟨rfl, hb⟩; have n0_ := Aside0.mk (below_then (by repeat (first | (with_reducible first | exact HB.out | apply below_alloc | apply pw_below_drewN | apply below_drew1) | exact HB.out)) (below_size (by repeat (first | (with_reducible first | exact HB.out | apply below_alloc | apply pw_below_drewN | apply below_drew1) | exact HB.out))) hb); clear HB; have HB := n0_; clear n0_; clear hb Q1))
              go_ret
              exact ⟨rfl, (by repeat (first | (with_reducible first | exact HB.out | apply below_alloc | apply pw_below_drewN | apply below_drew1) | exact HB.out))⟩
            | true =>
              cases q2 with
              | false =>
                clear Q3 HT
                go_wp2_with (first | (go_at_call 15; (with_reducible refine (Q1.out _ (pw_cell_below (by repeat (first | (with_reducible first | exact HB.out | apply below_alloc | apply pw_below_drewN | apply below_drew1) | exact HB.out)) HM.out)).mono ?_); rintro e w11 ⟨rfl, hb⟩; have n0_ := Aside0.mk (below_then (by repeat (first | (with_reducible first | exact HB.out | apply below_alloc | apply pw_below_drewN | apply below_drew1) | exact HB.out)) (below_size (by repeat (first | (with_reducible first | exact HB.out | apply below_alloc | apply pw_below_drewN | apply below_drew1) | exact HB.out))) hb); clear HB; have HB := n0_; clear n0_; clear hb Q1) | (go_at_call 15; (with_reducible refine (Q2.out _ (pw_cell_below (by repeat (first | (with_reducible first | exact HB.out | apply below_alloc | apply pw_below_drewN | apply below_drew1) | exact HB.out)) HM.out)).mono ?_); rintro e w12 ⟨rfl, hb⟩; have n0_ := Aside0.mk (below_then (by repeat (first | (with_reducible first | exact HB.out | apply below_alloc | apply pw_below_drewN | apply below_drew1) | exact HB.out)) (below_size (by repeat (first | (with_reducible first | exact HB.out | apply below_alloc | apply pw_below_drewN | apply below_drew1) | exact HB.out))) hb); clear HB; have HB := n0_; clear n0_; clear hb Q2))
                go_ret
                exact ⟨rfl, (by repeat (first | (with_reducible first | exact HB.out | apply below_alloc | apply pw_below_drewN | apply below_drew1) | exact HB.out))⟩
              | true =>
                obtain rfl := HT.out rfl rfl
                clear HT
                go_wp2_with (first | (go_at_call 15; (with_reducible refine (Q1.out _ (pw_cell_below (by repeat (first | (with_reducible first | exact HB.out | apply below_alloc | apply pw_below_drewN | apply below_drew1) | exact HB.out)) HM.out)).mono ?_); rintro e w11 ⟨rfl, hb⟩; have n0_ := Aside0.mk (below_then (by repeat (first | (with_reducible first | exact HB.out | apply below_alloc | apply pw_below_drewN | apply below_drew1) | exact HB.out)) (below_size (by repeat (first | (with_reducible first | exact HB.out | apply below_alloc | apply pw_below_drewN | apply below_drew1) | exact HB.out))) hb); clear HB; have HB := n0_; clear n0_; clear hb Q1) | (go_at_call 15; (with_reducible refine (Q2.out _ (pw_cell_below (by repeat (first | (with_reducible first | exact HB.out | apply below_alloc | apply pw_below_drewN | apply below_drew1) | exact HB.out)) HM.out)).mono ?_); rintro e w12 ⟨rfl, hb⟩; have n0_ := Aside0.mk (below_then (by repeat (first | (with_reducible first | exact HB.out | apply below_alloc | apply pw_below_drewN | apply below_drew1) | exact HB.out)) (below_size (by repeat (first | (with_reducible first | exact HB.out | apply below_alloc | apply pw_below_drewN | apply below_drew1) | exact HB.out))) hb); clear HB; have HB := n0_; clear n0_; clear hb Q2) | (go_at_call 15; (with_reducible refine (Q3.out _ (pw_cell_below (by repeat (first | (with_reducible first | exact HB.out | apply below_alloc | apply pw_below_drewN | apply below_drew1) | exact HB.out)) HM.out)).mono ?_); rintro e w13 ⟨rfl, hb⟩; have n0_ := Aside0.mk (below_then (by repeat (first | (with_reducible first | exact HB.out | apply below_alloc | apply pw_below_drewN | apply below_drew1) | exact HB.out)) (below_size (by repeat (first | (with_reducible first | exact HB.out | apply below_alloc | apply pw_below_drewN | apply below_drew1) | exact HB.out))) hb); clear HB; have HB := n0_; clear n0_; clear hb Q3))
                go_ret
                exact ⟨rfl, (by repeat (first | (with_reducible first | exact HB.out | apply below_alloc | apply pw_below_drewN | apply below_drew1) | exact HB.out))⟩
          · rw [h1, ← HXJ.out]
            clear h1 hL
            go_upto_region 18 with (first | (go_at_call 19; (with_reducible refine (laws_fresh.calls K2 A c l 3 r _ (Kd.C_below HC.out (by repeat (first | (with_reducible first | exact HB.out | apply below_alloc | apply pw_below_drewN | apply below_drew1) | exact HB.out))) HCC.out H19.out).mono ?_); rintro e w9 ⟨vf, rfl, hR, hb⟩; obtain ⟨AF, cF, rfl⟩ := Kd.R_slice hR; have HF := Aside0.mk (Kd.R_reads' hR).2; have n0_ := Aside0.mk (below_then (by repeat (first | (with_reducible first | exact HB.out | apply below_alloc | apply pw_below_drewN | apply below_drew1) | exact HB.out)) (below_size (by repeat (first | (with_reducible first | exact HB.out | apply below_alloc | apply pw_below_drewN | apply below_drew1) | exact HB.out))) hb); clear HB; have HB := n0_; clear n0_; clear hR hb H19) | (go_at_call 17; (with_reducible refine (spec_DrawBelow.calls K3 AF cF r d t _ HF.out.2 HF.out.1 H17b.out).mono ?_); rintro e w10 ⟨rfl, hb⟩; have n0_ := Aside0.mk (below_then (by repeat (first | (with_reducible first | exact HB.out | apply below_alloc | apply pw_below_drewN | apply below_drew1) | exact HB.out)) (below_size (by repeat (first | (with_reducible first | exact HB.out | apply below_alloc | apply pw_below_drewN | apply below_drew1) | exact HB.out))) hb); clear HB; have HB := n0_; clear n0_; clear hb H17b HF))
            cases q1 with
            | false =>
              clear Q2 Q3 HT
              go_wp2_with (first | (go_at_call 15; (with_reducible refine (Q1.out _ (pw_cell_below (by repeat (first | (with_reducible first | exact HB.out | apply below_alloc | apply pw_below_drewN | apply below_drew1) | exact HB.out)) HM.out)).mono ?_); rintro e w11 ⟨rfl, hb⟩; have n0_ := Aside0.mk (below_then (by repeat (first | (with_reducible first | exact HB.out | apply below_alloc | apply pw_below_drewN | apply below_drew1) | exact HB.out)) (below_size (by repeat (first | (with_reducible first | exact HB.out | apply below_alloc | apply pw_below_drewN | apply below_drew1) | exact HB.out))) hb); clear HB; have HB := n0_; clear n0_; clear hb Q1))
              go_ret
              exact ⟨rfl, (by repeat (first | (with_reducible first | exact HB.out | apply below_alloc | apply pw_below_drewN | apply below_drew1) | exact HB.out))⟩
            | true =>
              cases q2 with
              | false =>
                clear Q3 HT
                go_wp2_with (first | (go_at_call 15; (with_reducible refine (Q1.out _ (pw_cell_below (by repeat (first | (with_reducible first | exact HB.out | apply below_alloc | apply pw_below_drewN | apply below_drew1) | exact HB.out)) HM.out)).mono ?_); rintro e w11 ⟨rfl, hb⟩; have n0_ := Aside0.mk (below_then (by repeat (first | (with_reducible first | exact HB.out | apply below_alloc | apply pw_below_drewN | apply below_drew1) | exact HB.out)) (below_size (by repeat (first | (with_reducible first | exact HB.out | apply below_alloc | apply pw_below_drewN | apply below_drew1) | exact HB.out))) hb); clear HB; have HB := n0_; clear n0_; clear hb Q1) | (go_at_call 15; (with_reducible refine (Q2.out _ (pw_cell_below (by repeat (first | (with_reducible first | exact HB.out | apply below_alloc | apply pw_below_drewN | apply below_drew1) | exact HB.out)) HM.out)).mono ?_); rintro e w12 ⟨rfl, hb⟩; have n0_ := Aside0.mk (below_then (by repeat (first | (with_reducible first | exact HB.out | apply below_alloc | apply pw_below_drewN | apply below_drew1) | exact HB.out)) (below_size (by repeat (first | (with_reducible first | exact HB.out | apply below_alloc | apply pw_below_drewN | apply below_drew1) | exact HB.out))) hb); clear HB; have HB := n0_; clear n0_; clear hb Q2))
                go_ret
                exact ⟨rfl, (by repeat (first | (with_reducible first | exact HB.out | apply below_alloc | apply pw_below_drewN | apply below_drew1) | exact HB.out))⟩
              | true =>
                obtain rfl := HT.out rfl rfl
                clear HT
                go_wp2_with (first | (go_at_call 15; (with_reducible refine (Q1.out _ (pw_cell_below (by repeat (first | (with_reducible first | exact HB.out | apply below_alloc | apply pw_below_drewN | apply below_drew1) | exact HB.out)) HM.out)).mono ?_); rintro e w11 ⟨rfl, hb⟩; have n0_ := Aside0.mk (below_then (by repeat (first | (with_reducible first | exact HB.out | apply below_alloc | apply pw_below_drewN | apply below_drew1) | exact HB.out)) (below_size (by repeat (first | (with_reducible first | exact HB.out | apply below_alloc | apply pw_below_drewN | apply below_drew1) | exact HB.out))) hb); clear HB; have HB := n0_; clear n0_; clear hb Q1) | (go_at_call 15; (with_reducible refine (Q2.out _ (pw_cell_below (by repeat (first | (with_reducible first | exact HB.out | apply below_alloc | apply pw_below_drewN | apply below_drew1) | exact HB.out)) HM.out)).mono ?_); rintro e w12 ⟨rfl, hb⟩; have n0_ := Aside0.mk (below_then (by repeat (first | (with_reducible first | exact HB.out | apply below_alloc | apply pw_below_drewN | apply below_drew1) | exact HB.out)) (below_size (by repeat (first | (with_reducible first | exact HB.out | apply below_alloc | apply pw_below_drewN | apply below_drew1) | exact HB.out))) hb); clear HB; have HB := n0_; clear n0_; clear hb Q2) | (go_at_call 15; (with_reducible refine (Q3.out _ (pw_cell_below (by repeat (first | (with_reducible first | exact HB.out | apply below_alloc | apply pw_below_drewN | apply below_drew1) | exact HB.out)) HM.out)).mono ?_); rintro e w13 ⟨rfl, hb⟩; have n0_ := Aside0.mk (below_then (by repeat (first | (with_reducible first | exact HB.out | apply below_alloc | apply pw_below_drewN | apply below_drew1) | exact HB.out)) (below_size (by repeat (first | (with_reducible first | exact HB.out | apply below_alloc | apply pw_below_drewN | apply below_drew1) | exact HB.out))) hb); clear HB; have HB := n0_; clear n0_; clear hb Q3))
                go_ret
                exact ⟨rfl, (by repeat (first | (with_reducible first | exact HB.out | apply below_alloc | apply pw_below_drewN | apply below_drew1) | exact HB.out))⟩
  · have HBIG := Aside0.mk (show laws_big.f l = some true from by unfold laws_big.f; rw [decide_eq_true (by omega)])
    clear hm hr hc wf hl
    go_enter Tryd.func6, Tryd.ntmps6
    go_wp2_with (go_at_call 16; (with_reducible refine (laws_big.calls A c l true _ (Kd.C_below HC.out (by repeat (first | (with_reducible first | exact HB.out | apply below_alloc | apply pw_below_drewN | apply below_drew1) | exact HB.out))) HCC.out HBIG.out).mono ?_); rintro e w1 ⟨rfl, hd⟩; have n0_ := Aside0.mk (below_then (by repeat (first | (with_reducible first | exact HB.out | apply below_alloc | apply pw_below_drewN | apply below_drew1) | exact HB.out)) (below_size (by repeat (first | (with_reducible first | exact HB.out | apply below_alloc | apply pw_below_drewN | apply below_drew1) | exact HB.out))) hd.below); clear HB; have HB := n0_; clear n0_; clear hd HBIG)
    go_ret
    exact ⟨rfl, (by repeat (first | (with_reducible first | exact HB.out | apply below_alloc | apply pw_below_drewN | apply below_drew1) | exact HB.out))⟩
end Go.Proofs.YtpgdmbmcnemlmaaDoor.PFnExactParts
