/- By hand: what the law reaches, walked as plain functions. -/
import Derived.Test.YtiopcpkfjikfdaaGreatDoorYJ
set_option maxHeartbeats 8000000
set_option maxRecDepth 100000
namespace Go.Proofs.YtiopcpkfjikfdaaGreatDoor.PFnClean
open Go.RowKit Go.Proofs.YtiopcpkfjikfdaaGreatDoorW.PrintWords Go.Proofs.YtiopcpkfjikfdaaGreatDoorW.PrintLast Go.Proofs.YtiopcpkfjikfdaaGreatDoorW.PrintMore
open Go.Proofs.YtiopcpkfjikfdaaGreatDoorW.Mix
open Go.Proofs.YtiopcpkfjikfdaaGreatDoor.Mth Go.Proofs.YtiopcpkfjikfdaaGreatDoor.Str
set_option linter.unusedVariables false
set_option linter.unusedSimpArgs false
section
variable {w W W' : World} {g : Nat} {lc : List Int} {bs : List (Nat × TypeId × Array Value)}
theorem Cur.ge (h : Cur w W g lc) : w.heap.size ≤ g := by
 obtain ⟨⟨i, hh, h1, _⟩, _⟩ := h
 exact IsS54.ge h1
theorem St_draw (h : St w none W bs) (hc : Cur w W g lc) (k : W.grownBy W' (some g)) (hbs : bs.all (fun p => p.2.1 != 54) = true) : St w none W' bs :=
 h.growT k (fun b e => by injection e with e; rw [← e]; exact .inr hc.ge) (fun b e => by injection e with e; rw [← e]; exact hc.row) hbs
theorem Cur.neB (hc : Cur w W g lc) {b : Nat} {t : TypeId} {cs : Array Value} (hb : W.heap[b]? = some (.cells cs t (0, 0))) (ht : t ≠ 54) : b ≠ g := by
 obtain ⟨cs', hr⟩ := hc.row
 rintro rfl
 rw [hb] at hr
 injection hr with hr
 injection hr with _ h _
 exact ht h
theorem Cur.boxed (hc : Cur w W g lc) (h : St w none W bs) (i : Nat) {b : Nat} {t : TypeId} {cs : Array Value} (hi : bs[i]? = some (b, t, cs)) (ht : t ≠ 54) (k : W.grownBy W' (some b)) : Cur w W' g lc :=
 hc.grown k (fun x e => by injection e with e; rw [← e]; exact ⟨hc.neB (h.get i hi) ht, h.ge i hi⟩)
theorem Cur.keepR (hc : Cur w W g lc) (k : W.grownBy W' (some g)) {α : Type} {d : Kd α} {e b : Nat} {ok : Nat → Prop} {v : Value} {xs : List α} (hv : d.R e W b ok v xs) (ht : ∀ q, q ∈ e :: d.E → q ≠ 54) : d.R e W' b ok v xs := by
 obtain ⟨cs, hr⟩ := hc.row
 exact R_box hv hr ht k
end
theorem new1_any (A : Option Addr) (c : Nat) (l : List Int) (w0 w : World) (hB : Below w0.heap.size w0 w) (hr : Kd.C (Kd.int .u8) w0 A l.length l) (hc : l.length ≤ c) (hl : l.length ≤ 1048576) :
  Calls Tryz.prog 9 #[.slice A l.length c] w fun e w' => ∃ g : Nat, e = .returned (.pointer (some ⟨g, 0, none⟩)) ∧ Cur w0 w' g l ∧ w.grownBy w' none := by
 obtain ⟨h0, K, hK⟩ := l1New_ex l hl
 refine (spec_l1New.calls K A c l l 0 h0 w0 w hB hr hc (hK K (Nat.le_refl _))).mono ?_
 rintro e w' ⟨g, rfl, h1, h2, h3⟩
 exact ⟨g, rfl, ⟨⟨0, h0, h1, by omega, by omega, hl⟩, h2⟩, grown_below h3 none⟩
theorem size1_any (A : Option Addr) (c : Nat) (l : List Int) (w : World) (hr : Kd.C (Kd.int .u8) w A l.length l) (hc : l.length ≤ c) (hl : l.length ≤ 1048576) :
  Calls Tryz.prog 11 #[.slice A l.length c, .int .i64 50] w fun e w' => ∃ m : Int, e = .returned (.int .i64 m) ∧ (1 ≤ m ∧ m ≤ 1000) ∧ Below w.heap.size w w' := by
 have h : spec_l1Size.f l 50 = some (if 2 + (l.length : Int) / 20 > 50 then 50 else 2 + (l.length : Int) / 20) := by
  unfold spec_l1Size.f
  rw [w64 (n := (l.length : Int) / 20) (by omega) (by omega), w64 (by omega) (by omega)]
  split <;> rfl
 refine (spec_l1Size.calls A c l 50 _ w hr hc h).mono ?_
 rintro e w' ⟨rfl, hb⟩
 exact ⟨_, rfl, by split <;> omega, hb.below⟩
theorem results_cctt {P : Program} {fn : Func} {p p' u v : Tmp} {ty ty' : TypeId} (h : fn.results = #[.cell p ty, .cell p' ty', .tmp u, .tmp v]) (tmps : Array Value) (w : World) (g g' : Nat) (t t' : TypeId) (cs cs' : Array Value) (fr fr' : Nat × Nat) (d d' : TypeDesc)
  (hp : tmps.getD p undef = .pointer (some ⟨g, 0, none⟩)) (hg : w.heap[g]? = some (.cells cs t fr))
  (hu : P.underlying ty = some d) (hd : (match d with | .struct _ | .array _ _ => true | _ => false) = true) (hi : (P.info? ty).map (·.size) = some cs.size)
  (hp' : tmps.getD p' undef = .pointer (some ⟨g', 0, none⟩)) (hg' : w.heap[g']? = some (.cells cs' t' fr'))
  (hu' : P.underlying ty' = some d') (hd' : (match d' with | .struct _ | .array _ _ => true | _ => false) = true) (hi' : (P.info? ty').map (·.size) = some cs'.size) :
  (results fn tmps).run P w = .ok (.tuple #[.agg cs, .agg cs', tmps.getD u undef, tmps.getD v undef]) w := by
 have h1 : tmps[p]?.getD undef = .pointer (some ⟨g, 0, none⟩) := by simpa using hp
 have h2 : tmps[p']?.getD undef = .pointer (some ⟨g', 0, none⟩) := by simpa using hp'
 simp [results, h, h1, h2, asAddr, run_loadVar_row w g t ty cs fr d hg hu hd hi, run_loadVar_row w g' t' ty' cs' fr' d' hg' hu' hd' hi']
def DrawD (w : World) (e : Ending) (w' : World) : Prop := ∃ (nx : Int) (A : Option Addr) (c : Nat) (L : List S37) (u d : Int) (Ag : Option Addr) (cg : Nat) (gs : List Int) (p : ByteArray) (b : Bool), e = .returned (.tuple #[.agg #[.int .i64 nx, .slice A L.length c], .agg #[.int .i64 u, .int .i64 d, .slice Ag gs.length cg], .string p, .bool b]) ∧ VolO w' (.slice A L.length c) L ∧ volSmall L ∧ Kd.R (Kd.int .i64) 3 w' 0 (fun _ => True) (.slice Ag gs.length cg) gs ∧ p.size ≤ 8000000 ∧ w.grownBy w' none
theorem draww_any (A0 : Option Addr) (c : Nat) (l : List Int) (w : World) (hr : Kd.C (Kd.int .u8) w A0 l.length l) (hc : l.length ≤ c) (hl : l.length ≤ 1048576) :
  Calls Tryz.prog 5 #[.slice A0 l.length c] w (DrawD w) := by
 have hu26 := Tryz.underlying26
 have hu29 := Tryz.underlying29
 have HS := zM (St.start w none)
 have HN := zM (fun W (hW : w.grownBy W none) => new1_any A0 c l w W (below_grown hW) hr hc hl)
 have HZs := zM (fun W (hW : w.grownBy W none) => size1_any A0 c l W (Kd.C_below hr (below_grown hW)) hc hl)
 clear hr hc hl
 go_enter Tryz.func5, Tryz.ntmps5
 go_upto_region 5 with (first | ((with_reducible refine gD 2 rfl ?_); refine sB #[.int .i64 0, .slice none 0 0] 26 HS ?_; clear HS; intro g2 w2 HS _) | ((with_reducible refine gD 3 rfl ?_); refine sB #[.int .i64 0, .int .i64 0, .slice none 0 0] 29 HS ?_; clear HS; intro g3 w3 HS _) | (go_at_call 9; refine (HN.out _ HS.out.grown).mono ?_; rintro e w6 ⟨g, rfl, hc, hb⟩; have HC := zM hc; replace HS := zM (HS.out.calls hb); clear hc hb) | (go_at_call 11; refine (HZs.out _ HS.out.grown).mono ?_; rintro e w7 ⟨m, rfl, hm, hb⟩; have HM := zM hm; replace HC := zM (HC.out.grown (grown_below hb none) (by simp)); replace HS := zM (HS.out.call hb); clear hb hm) | (go_at_call 10; refine (anyv_any HC.out m HM.out).mono ?_; rintro e w8 hq; unfold AnyD at hq; obtain ⟨nx, A, c', L, rfl, hV, hsm, hc, hb⟩ := hq; have HV := zM hV; have HSm := zM hsm; clear hV hsm; replace HS := zM (St_draw HS.out HC.out hb rfl); clear HC hb; have HC := zM hc; clear hc) | ((with_reducible refine gD 7 rfl ?_); refine sB #[.int .i64 0, .slice none 0 0] 26 HS ?_; intro g7 w7 n0_ n1_; replace HV := zM (Kd.R_below HV.out n1_.out.1); replace HC := zM (HC.out.grown (grown_below n1_.out.1 none) (by simp)); clear HS; have HS := n0_; clear n0_ n1_) | ((with_reducible refine gS 26 7 rfl ?_); refine sS 0 [.int .i64 nx, .slice A L.length c'] HS ?_; intro w9 n0_ n1_; replace HV := zM (R_box HV.out (HS.out.get 0 rfl) (by decide) n1_.out); replace HC := zM (HC.out.boxed HS.out 0 rfl (by decide) n1_.out); clear HS; have HS := n0_; clear n0_ n1_) | (go_at_call 12; refine (any5_any HC.out).mono ?_; rintro e w10 hq; unfold CredD at hq; obtain ⟨u, d, Ag, cg, gs, rfl, -, hR, hc, hb⟩ := hq; have HR := zM hR; clear hR; replace HV := zM (HC.out.keepR hb HV.out (by decide)); replace HS := zM (St_draw HS.out HC.out hb rfl); clear HC hb; have HC := zM hc; clear hc) | ((with_reducible refine gD 8 rfl ?_); refine sB #[.int .i64 0, .int .i64 0, .slice none 0 0] 29 HS ?_; intro g8 w8 n0_ n1_; replace HV := zM (Kd.R_below HV.out n1_.out.1); replace HR := zM (Kd.R_below HR.out n1_.out.1); replace HC := zM (HC.out.grown (grown_below n1_.out.1 none) (by simp)); clear HS; have HS := n0_; clear n0_ n1_) | ((with_reducible refine gS 29 8 rfl ?_); refine sS 0 [.int .i64 u, .int .i64 d, .slice Ag gs.length cg] HS ?_; intro w11 n0_ n1_; replace HV := zM (R_box HV.out (HS.out.get 0 rfl) (by decide) n1_.out); replace HR := zM (R_box HR.out (HS.out.get 0 rfl) (by decide) n1_.out); replace HC := zM (HC.out.boxed HS.out 0 rfl (by decide) n1_.out); clear HS; have HS := n0_; clear n0_ n1_; obtain ⟨z0, z1⟩ := HS.out.cells2 1 rfl) | (go_at_call 13; refine (way_any HC.out nx _ L HV.out HSm.out).mono ?_; rintro e w12 ⟨p, rfl, hp, hc, hb⟩; have HPz := zM hp; clear hp; replace HV := zM (HC.out.keepR hb HV.out (by decide)); replace HR := zM (HC.out.keepR hb HR.out (by decide)); replace HS := zM (St_draw HS.out HC.out hb rfl); clear HC hb; have HC := zM hc; clear hc))
 clear z0 z1
 have hne7 : g7 ∉ [g, g2, g3] := by simpa using (⟨HC.out.neB (HS.out.get 1 rfl) (by decide), HS.out.ne 1 3 rfl rfl (by decide), HS.out.ne 1 2 rfl rfl (by decide)⟩ : g7 ≠ g ∧ g7 ≠ g2 ∧ g7 ≠ g3)
 have hne8 : g8 ∉ [g, g2, g3] := by simpa using (⟨HC.out.neB (HS.out.get 0 rfl) (by decide), HS.out.ne 0 3 rfl rfl (by decide), HS.out.ne 0 2 rfl rfl (by decide)⟩ : g8 ≠ g ∧ g8 ≠ g2 ∧ g8 ≠ g3)
 have hz0 := Kx.box HS.out 1 rfl hne7 0 rfl
 have hz1 := Kx.box HS.out 1 rfl hne7 1 rfl
 have hy0 := Kx.box HS.out 0 rfl hne8 0 rfl
 have hy1 := Kx.box HS.out 0 rfl hne8 1 rfl
 have hy2 := Kx.box HS.out 0 rfl hne8 2 rfl
 clear hne7 hne8
 replace HV := zM (Kd.R_below HV.out (below_drew1 (Below.refl _ _)))
 replace HR := zM (Kd.R_below HR.out (below_drew1 (Below.refl _ _)))
 replace HC := zM (HC.out.grown (grown_below (below_drew1 (Below.refl w12.heap.size w12)) none) (by simp))
 try simp only [Act.put, List.setIfInBounds_toArray, List.set_cons_zero, List.set_cons_succ]
 refine wp_region_mix (KxS [g, g2, g3] w12) [([0, 1, 2, 3], 4), ([], 5), ([], 6)] [7, 8] (by kernel_rfl) (by kernel_rfl) (fun _ _ _ _ h => h) (KxS.drew _ _) ?_
 have hK := KxS.drew [g, g2, g3] w12
 replace HS := zM (HS.out.drew)
 refine mix_seg ?_
 simp only [pickO, List.map]
 repeat (go_big_quiet_step (fail))
 refine wpQuiet_nil ?_
 go_wp2_with (go_at_call 14; (with_reducible refine (drOnce_any HC.out _).mono ?_); rintro e w13 ⟨b, rfl, hc, hb⟩; have HG := zM hb; replace HV := zM (HC.out.keepR hb HV.out (by decide)); replace HR := zM (HC.out.keepR hb HR.out (by decide)); replace HS := zM (St_draw HS.out HC.out hb rfl); clear HC hb; have HC := zM hc; clear hc)
 refine ⟨hK.grow HG.out (by simp), fun hK => mix_seg ?_⟩
 clear HG
 simp only [pickO, List.map]
 repeat (go_big_quiet_step (fail))
 refine wpQuiet_nil ?_
 refine sS 3 [.int .i64 nx, .slice A L.length c'] HS ?_; intro w14 n0_ n1_; replace HV := zM (R_box HV.out (HS.out.get 3 rfl) (by decide) n1_.out); replace HR := zM (R_box HR.out (HS.out.get 3 rfl) (by decide) n1_.out); clear HS; have HS := n0_; have HG := n1_; clear n0_ n1_
 refine ⟨hK.grow HG.out (by simp), fun hK => mix_seg ?_⟩
 clear HG
 simp only [pickO, List.map]
 repeat (go_big_quiet_step (fail))
 refine wpQuiet_nil ?_
 refine sS 2 [.int .i64 u, .int .i64 d, .slice Ag gs.length cg] HS ?_; intro w15 n0_ n1_; replace HV := zM (R_box HV.out (HS.out.get 2 rfl) (by decide) n1_.out); replace HR := zM (R_box HR.out (HS.out.get 2 rfl) (by decide) n1_.out); clear HS; have HS := n0_; have HG := n1_; clear n0_ n1_
 refine ⟨hK.grow HG.out (by simp), fun hK => mix_end ?_⟩
 clear HG
 simp only [pickO, List.map]
 repeat (go_big_quiet_step (fail))
 refine wpQuiet_nil ?_
 go_wp2
 refine bodyPost_ret (results_cctt rfl _ _ g2 g3 26 29 _ _ (0, 0) (0, 0) _ _ rfl (HS.out.get 3 rfl) Tryz.underlying26 rfl (by kernel_rfl) rfl (HS.out.get 2 rfl) Tryz.underlying29 rfl (by kernel_rfl)) rfl ?_
 unfold DrawD
 exact ⟨nx, A, c', L, u, d, Ag, cg, gs, p, b, rfl, HV.out, HSm.out, Kd.R_lower HR.out (Nat.zero_le _), HPz.out, HS.out.grown⟩
theorem piecesB_len (s : ByteArray) : (piecesB s).length ≤ s.size + 1 := Nat.le_trans (List.length_filter_le _ _) (splitL_le s)
theorem cleanStep_len (acc : List ByteArray) (p : ByteArray) : (cleanStep acc p).length ≤ acc.length + 1 := by
 unfold cleanStep
 split
 ·omega
 ·split
  ·rw [List.length_take]; omega
  ·rw [List.length_append]; simp
theorem foldl_take {α β : Type} (f : β → α → β) (b : β) (l : List α) (x : Nat) (h : x < l.length) : (l.take (x + 1)).foldl f b = f ((l.take x).foldl f b) l[x] := by
 rw [List.take_succ_eq_append_getElem h, List.foldl_append]; rfl
theorem cleaned_len (l : List ByteArray) : ∀ x, ((l.take x).foldl cleanStep []).length ≤ x
 | 0 => by simp
 | x + 1 => by
  by_cases h : x < l.length
  ·rw [foldl_take _ _ _ _ h]
   have := cleanStep_len ((l.take x).foldl cleanStep []) l[x]
   have := cleaned_len l x
   omega
  ·have e : l.take (x + 1) = l.take x := by rw [List.take_of_length_le (by omega), List.take_of_length_le (by omega)]
   rw [e]
   have := cleaned_len l x
   omega
theorem cut_sum : ∀ (t cur : List UInt8), ((cutL cur t).map List.length).sum ≤ cur.length + t.length
 | [], cur => by
  rw [cutL]
  split
  ·simp
  ·simp
 | b :: t, cur => by
  rw [cutL]
  have h1 := cut_sum t []
  have h2 := cut_sum t (cur ++ [b])
  rw [List.length_append] at h2
  simp only [List.length_cons, List.length_nil] at *
  split
  ·split
   ·omega
   ·rw [List.map_cons, List.sum_cons]; omega
  ·omega
theorem sum_le_mem : ∀ (l : List Nat) (x : Nat), x ∈ l → x ≤ l.sum
 | [], _, h => by simp at h
 | y :: l, x, h => by
  rw [List.sum_cons]
  rcases List.mem_cons.1 h with rfl | h
  ·omega
  ·have := sum_le_mem l x h; omega
/-- each piece is no longer than the text -/
theorem pieces_size (s p : ByteArray) (h : p ∈ piecesB s) : p.size ≤ s.size := by
 rw [pieces_cut] at h
 obtain ⟨l, hl, rfl⟩ := List.mem_map.1 h
 have h1 := cut_sum s.data.toList []
 have h2 := sum_le_mem ((cutL [] s.data.toList).map List.length) l.length (List.mem_map.2 ⟨l, hl, rfl⟩)
 have h3 : (mkB l).size = l.length := by show l.toArray.size = l.length; simp
 have h4 : s.data.toList.length = s.size := by rw [Array.length_toList]; rfl
 simp at h1
 omega
theorem joinTail_len (L : List ByteArray) (n : Nat) (h : ∀ p ∈ L, p.size ≤ n) : (Lib.joinTail [47] (L.map (·.data.toList))).length ≤ L.length * (n + 1) := by
 induction L with
 | nil => simp [Lib.joinTail]
 | cons p L ih =>
  have h1 := ih (fun q hq => h q (List.mem_cons_of_mem _ hq))
  have h2 := h p List.mem_cons_self
  have h4 : p.data.toList.length = p.size := by rw [Array.length_toList]; rfl
  unfold Lib.joinTail at *
  have e : (p :: L).length * (n + 1) = L.length * (n + 1) + (n + 1) := by rw [List.length_cons, Nat.succ_mul]
  rw [List.map_cons, List.map_cons, List.flatten_cons, List.length_append, List.length_append, h4, e]
  simp only [List.length_cons, List.length_nil]
  omega
theorem join_mk (p : ByteArray) (L : List ByteArray) : (⟨#[47]⟩ : ByteArray) ++ (⟨(Lib.join ((p :: L).map (·.data.toList)) slash.data.toList).toArray⟩ : ByteArray) = joinB (p :: L) := by
 unfold joinB
 rw [if_neg (by simp), List.map_cons, Lib.join_cons]
 have e : slash.data.toList = [47] := rfl
 rw [e]
 apply ByteArray.ext
 rw [ByteArray.data_append]
 unfold mkB Lib.joinTail
 simp
theorem join_len (L : List ByteArray) (n : Nat) (h : ∀ p ∈ L, p.size ≤ n) : (Lib.join (L.map (·.data.toList)) slash.data.toList).length ≤ L.length * (n + 1) := by
 cases L with
 | nil => simp [Lib.join_nil]
 | cons p L =>
  have h1 := joinTail_len (p :: L) n h
  rw [List.map_cons, Lib.join_cons]
  have e : slash.data.toList = [47] := rfl
  rw [e]
  unfold Lib.joinTail at *
  rw [List.map_cons, List.map_cons, List.flatten_cons, List.length_append, List.length_append] at h1
  rw [List.length_append]
  simp only [List.length_singleton] at h1
  omega
/-- the program's join -/
theorem join_any (v : Value) (L : List ByteArray) (base n : Nat) (P : Nat → Prop) (w : World) (hv : Kd.R Kd.string 9 w base P v L) (hn : ∀ p ∈ L, p.size ≤ n) (hn1 : n ≤ 100) (hl : L.length ≤ 1000) :
  Calls Tryz.prog 24 #[v, .string ⟨#[47]⟩] w fun e w' => ∃ t, e = .returned (.string t) ∧ (⟨#[47]⟩ : ByteArray) ++ t = joinB L ∧ t.size ≤ 1000000 ∧ Below w.heap.size w w' := by
 cases L with
 | nil =>
  obtain ⟨A, c, rfl, _, _⟩ := Kd.R_reads hv
  refine (Tryz.strings_Join_none A c ⟨#[47]⟩ w).mono ?_
  rintro e w' ⟨rfl, rfl⟩
  exact ⟨_, rfl, rfl, by decide, Below.refl _ _⟩
 | cons p L =>
  have hj := join_len (p :: L) n hn
  have hj2 : (p :: L).length * (n + 1) ≤ 1000 * 101 := Nat.mul_le_mul hl (by omega)
  obtain ⟨g, c, rfl, h1, h2, _⟩ := Kd.R_form hv (by simp)
  obtain ⟨_, h3, h4⟩ := Kd.R_reads' hv
  refine (Tryz.strings_Join g 0 c (p :: L) ⟨#[47]⟩ w ?_ h2 (by omega) h3 (Nat.le_trans hj (by omega))).mono ?_
  ·intro j x hx
   obtain ⟨hlt, rfl⟩ := List.getElem?_eq_some_iff.1 hx
   obtain ⟨ad, e, h5⟩ := Kd.at_string h4 (j : Int) (by omega) (by omega)
   injection e with e
   subst e
   unfold rdOf at h5
   rw [Int.toNat_natCast, List.getD_eq_getElem?_getD, List.getElem?_eq_getElem hlt] at h5
   by_cases hj0 : j = 0
   ·subst hj0; simpa [Addr.add] using h5
   ·simpa [Addr.add, hj0] using h5
  ·rintro e w' ⟨rfl, hb⟩
   refine ⟨_, rfl, join_mk p L, ?_, hb⟩
   show (Lib.join ((p :: L).map (·.data.toList)) slash.data.toList).toArray.size ≤ 1000000
   rw [List.size_toArray]
   omega
theorem okI2_any (s : ByteArray) (hs : s.size ≤ 8000000) (w : World) : Calls Tryz.prog 17 #[.string s] w fun e w' => e = .returned (.bool (okB s)) ∧ Drawn0 w w' := by
 obtain ⟨K, hK⟩ := path_impl s (by omega)
 exact impl_PathOk.calls K s _ w (hK K (Nat.le_refl _))
theorem dot_ne {p q : ByteArray} {l : List UInt8} (h : ¬ p = q) (hq : q.toList = l) : ¬ p.toList = l := fun e => h (toList_eq_iff.1 (e.trans hq.symm))
attribute [local go_sem] max2_int min2_int max_two min_two
theorem cleanI_any (s : ByteArray) (m : Int) (w : World) (hs : s.size ≤ 8000000) (hm : w.cell? ⟨0, 0, none⟩ = some (.int .i64 m)) :
  Calls Tryz.prog 8 #[.string s] w fun e w' => e = .returned (.string (cleanB s)) ∧ Below w.heap.size w w' := by
 have HO0 := fun W => okI2_any s hs W
 have HS := zM hs
 have HM := zM hm
 clear hs hm
 cases h : okB s with
 | false =>
  rw [h] at HO0
  have HP := zM (show cleanB s = ⟨#[]⟩ from by unfold cleanB; rw [h]; rfl)
  clear h
  go_enter Tryz.func8, Tryz.ntmps8
  go_wp2_with (go_at_call 17; refine (HO0 _).mono ?_; rintro e w1 ⟨rfl, ⟨n, rfl⟩⟩)
  go_ret
  exact ⟨by rw [HP.out]; rfl, pw_below_drewN (Below.refl _ _) _⟩
 | true =>
  rw [h] at HO0
  have HF := zM (show cleanB s = joinB (cleanedB s) from by unfold cleanB; rw [h]; rfl)
  have HZ := zM (okB_size s h)
  replace HS := zM (show s.size ≤ 1048576 from by have := HZ.out; omega)
  obtain ⟨n, hn⟩ : ∃ n, n = (piecesB s).length := ⟨_, rfl⟩
  have hn1 : n ≤ 61 := by
   have h1 := piecesB_len s
   have h2 := okB_size s h
   omega
  have HN := zM hn
  clear h hn
  go_enter Tryz.func8, Tryz.ntmps8
  go_wp2_with (first | (go_at_call 17; refine (HO0 _).mono ?_; rintro e w1 ⟨rfl, hd⟩; have HB := zM hd.below; clear hd) | ((with_reducible refine gD 9 rfl ?_); refine Kd.R_lit Kd.string _ 9 ?hg (N := 9) ?hd (xs := ([] : List ByteArray)) (inner := []) (ok := fun _ => True) (okp := fun _ => True) ?hr ?hp (fun _ hk => hk) trivial (Below.refl _ _) (Nat.le_refl _) (by simp) ?_; (case hd => rfl); (case hg => rfl); (case hr => first | (go_simp; done) | (go_simp; rfl)); (case hp => exact (Reps.none _ _)); intro v4 w4 ho4 hb hg_ hnew_; clear hg_ hnew_; have n0_ := Kd.R_lower ho4 HB.out.size; have n1_ := below_then HB.out HB.out.size hb; clear HB; have HO := zM n0_; have HB := zM n1_; clear ho4 hb n0_ n1_) | (go_at_call 23; refine (pieces_any s m _ HS.out (pw_cell_below HB.out HM.out)).mono ?_; rintro e w5 ⟨vp, rfl, hR, hb⟩; obtain ⟨A, c, rfl⟩ := Kd.R_slice hR; have n0_ := Kd.R_below (Kd.R_mono (Kd.R_bound HO.out) (fun k hk => (show some k ≠ (Value.slice A (piecesB s).length c).ownBlock from fun e_ => by have := Kd.R_base hR _ e_.symm; have := hk.2.2.1; omega))) hb; have n1_ := below_then HB.out HB.out.size hb; have n2_ := Kd.R_lower (Kd.R_tight rfl hR) HB.out.size; clear HO HB hR hb; rw [← HN.out] at n0_ n2_ ⊢; have HO := zM n0_; have HB := zM n1_; have HP := zM n2_; clear n0_ n1_ n2_))
  go_loopg [3, 13] n (fun kq v3 v13 w' => ∃ (x : Nat), v13 = .int .i64 (x : Int) ∧ Aside0 (x + kq = n) ∧ Aside0 (Kd.R Kd.string 9 w' w.heap.size (fun k => some k ≠ (Value.slice A n c).ownBlock) v3 (((piecesB s).take x).foldl cleanStep [])) ∧ Aside0 (Kd.R Kd.string 9 w' w.heap.size (fun k => some k = (Value.slice A n c).ownBlock) (.slice A n c) (piecesB s)) ∧ Aside0 (Below w.heap.size w w'))
  case atStart => exact ⟨0, rfl, ⟨by omega⟩, HO, HP, HB⟩
  case round =>
   clear HO HB HP HM HO0
   obtain ⟨x, rfl, HX, HO, HP, HB⟩ := hrel
   obtain ⟨A3, c3, e3⟩ := Kd.R_slice HO.out
   subst e3
   obtain ⟨out, hout⟩ : ∃ o, o = ((piecesB s).take x).foldl cleanStep [] := ⟨_, rfl⟩
   have hol : out.length ≤ x := by rw [hout]; exact cleaned_len _ _
   rw [← hout] at HO ⊢
   have HOUT := zM hout
   clear hout
   by_cases hlt : x < n
   ·cases gk with
    | zero => have := HX.out; omega
    | succ k1 =>
    have hlx : x < (piecesB s).length := by have := HN.out; omega
    obtain ⟨ad, eA, hx0⟩ := Kd.at_string (Kd.R_reads' HP.out).2.2 (x : Int) (by omega) (by omega)
    subst eA
    rw [rdP _ x hlx, Int.toNat_natCast] at hx0
    have HC := zM (show ((piecesB s).take (x + 1)).foldl cleanStep [] = cleanStep out (piecesB s)[x] from by rw [foldl_take _ _ _ _ hlx, HOUT.out])
    generalize (piecesB s)[x] = p at hx0 HC
    clear hlx
    by_cases p1 : p = dot1
    ·subst p1
     have hx1 : wr.cell? (ad.add x) = some (.string ⟨#[46]⟩) := hx0
     clear hx0
     go_wp2
     go_roundg k1
     case measure => omega
     case rel => exact ⟨x + 1, by go_num, ⟨by have := HX.out; omega⟩, ⟨by rw [HC.out, cleanStep, if_pos rfl]; exact HO.out⟩, HP, HB⟩
    ·by_cases p2 : p = dot2
     ·subst p2
      have hx1 : wr.cell? (ad.add x) = some (.string ⟨#[46, 46]⟩) := hx0
      clear hx0
      have hcap := (Kd.R_reads' HO.out).2.1
      have HC := zM (show ((piecesB s).take (x + 1)).foldl cleanStep [] = out.take (out.length - 1) from by rw [HC.out, cleanStep, if_neg (by decide), if_pos rfl])
      have HT := zM (Kd.R_take (m := out.length - 1) HO.out (by omega))
      obtain ⟨ln, hln⟩ : ∃ q, q = out.length := ⟨_, rfl⟩
      rw [← hln] at HO HC HT hcap hol ⊢
      clear hln
      cases ln with
      | zero =>
       go_wp2
       go_roundg k1
       case measure => omega
       case rel => exact ⟨x + 1, by go_num, ⟨by have := HX.out; omega⟩, ⟨by rw [HC.out]; exact HT.out⟩, HP, HB⟩
      | succ j =>
       cases j with
       | zero =>
        go_wp2
        go_roundg k1
        case measure => omega
        case rel => exact ⟨x + 1, by go_num, ⟨by have := HX.out; omega⟩, ⟨by rw [HC.out]; exact HT.out⟩, HP, HB⟩
       | succ j2 =>
        go_wp2
        go_roundg k1
        case measure => omega
        case rel => exact ⟨x + 1, by go_num, ⟨by have := HX.out; omega⟩, ⟨by rw [HC.out]; exact HT.out⟩, HP, HB⟩
     ·have e1 : ¬ p.toList = [46] := dot_ne p1 (by rw [ByteArray.toList_eq]; rfl)
      have e2 : ¬ p.toList = [46, 46] := dot_ne p2 (by rw [ByteArray.toList_eq]; rfl)
      have b1 : (p.toList == [46]) = false := by simpa using e1
      have b2 : (p.toList == [46, 46]) = false := by simpa using e2
      have HC := zM (show ((piecesB s).take (x + 1)).foldl cleanStep [] = out ++ [p] from by rw [HC.out, cleanStep, if_neg p1, if_neg p2])
      have HL := zM hol
      clear e1 e2 p1 p2 hol
      go_wp2_with (first | ((with_reducible refine gate_builtin (b := .append) (xs := #[.tmp 18, .tmp 20]) rfl ?_); at_builtin; refine Kd.R_append Kd.string (w0 := w) w.heap.size rfl (.tmp 18) (.tmp 20) 50 9 (.string ⟨#[]⟩) 16 rfl Tryz.underlying50 info9 rfl (by decide) (by omega) (.slice A3 out.length c3) out p [.string p] (fun k => some k ≠ (Value.slice (some ad) n c).ownBlock) (fun _ => False) rfl rfl ?aP (fun _ hk => hk.elim) ?aF ?aO ?aB ?aS ?aL ?_; (case aP => exact rfl); (case aF => exact (fun k hk e_ => by have := Kd.R_lt HP.out _ e_.symm; omega)); (case aO => exact HO.out); (case aB => exact HB.out); (case aS => exact HB.out.size); (case aL => have := HL.out; omega); intro v1 w1 ho hb hg hat; have n0_ := Kd.R_grown HP.out hg (fun k hk_ e_ => HO.out.1 _ e_.symm hk_); clear HP HB HO; have HO := zM ho; have HB := zM hb; have HP := zM n0_; clear ho hb hg hat n0_))
      go_roundg k1
      case measure => omega
      case rel => exact ⟨x + 1, by go_num, ⟨by have := HX.out; omega⟩, ⟨by rw [HC.out]; exact HO.out⟩, HP, HB⟩
   ·have HE := zM (show out = cleanedB s ∧ (∀ p ∈ out, p.size ≤ s.size) from by
     have e : out = cleanedB s := by
      rw [HOUT.out, List.take_of_length_le (by have := HX.out; have := HN.out; omega)]; rfl
     refine ⟨e, fun p hp => ?_⟩
     rw [e] at hp
     rcases cleaned_mem _ _ _ hp with h | h
     ·simp at h
     ·exact pieces_size s p h)
    have hlt' : ¬ (x : Int) < (n : Int) := by omega
    have HL := zM (And.intro hol (show x ≤ 61 by have := HX.out; omega))
    clear hlt hol
    go_wp2_with (go_at_call 24; refine (join_any _ out _ s.size _ _ HO.out HE.out.2 (by have := HZ.out; omega) (by have := HL.out; omega)).mono ?_; rintro e w6 ⟨t, rfl, ht, hts, hb⟩; have HT := zM ht; have n0_ := zM (below_then HB.out HB.out.size hb); clear HB ht hb; have HB := n0_; clear n0_)
    go_ret
    exact ⟨by rw [HF.out, ← HE.out.1, ← HT.out]; rfl, HB.out⟩
theorem walkTS_any (nx : Int) (A : Option Addr) (c : Nat) (l : List S37) (u g : Int) (Ag : Option Addr) (cg : Nat) (gs : List Int) (path : ByteArray) (fol : Bool) (w : World) (hr : Kd.C k37 w A l.length l) (hc : l.length ≤ c) (hs : volSmall l)
  (hg : Kd.C (Kd.int .i64) w Ag gs.length gs) (hcg : gs.length ≤ cg) (hp : path.size ≤ 8000000) :
  Calls Tryz.prog 7 #[.agg #[.int .i64 nx, .slice A l.length c], .agg #[.int .i64 u, .int .i64 g, .slice Ag gs.length cg], .string path, .bool fol] w fun e w' => e = .returned (spotV (walkT nx l u g gs path fol)) ∧ Below w.heap.size w w' := by
 have hu26 := Tryz.underlying26
 have hu29 := Tryz.underlying29
 have hu33 := Tryz.underlying33
 have HV := zM (fun (W : World) (hW : w.grownBy W none) => volOkS_any W nx A c l (Kd.C_below hr (below_grown hW)) hc hs)
 rw [volOk_eq] at HV
 have HC := zM (fun (W : World) (hW : w.grownBy W none) => by
  obtain ⟨K, hK⟩ := cred_spec u g gs
  exact spec_CredOk.calls K u g Ag cg gs _ W (Kd.C_below hg (below_grown hW)) hcg (hK K (Nat.le_refl _)))
 have HP : Aside0 (∀ W : World, Calls Tryz.prog 21 #[.string path] W fun e w' => e = .returned (.bool (okB path)) ∧ Drawn0 W w') := zM (fun W => by
  obtain ⟨K, hK⟩ := path_spec path
  exact spec_PathOk.calls K path _ W (hK K (Nat.le_refl _)))
 have HWk := zM (fun (h : volOkB nx l = true) (ho : okB path = true) (W : World) (hW : w.grownBy W none) => walkS_any nx A c l u g Ag cg gs path fol W (Kd.C_below hr (below_grown hW)) hc hs (wf_ok h) (Kd.C_below hg (below_grown hW)) hcg (by have := okB_size path ho; omega))
 have HE := zM (show walkT nx l u g gs path fol = if volOkB nx l = true ∧ credB u g gs = true ∧ okB path = true then walkV l (mayX u g gs 1) path fol else spE 22 from rfl)
 generalize walkT nx l u g gs path fol = R at HE ⊢
 have HS := zM (St.start w none)
 clear hr hc hs hg hcg hp
 generalize volOkB nx l = vk at HV HWk HE
 generalize credB u g gs = ck at HC HE
 generalize okB path = pk at HP HWk HE
 obtain ⟨⟨r1, r2, r3, r4⟩, hrv⟩ : ∃ q, q = walkV l (mayX u g gs 1) path fol := ⟨_, rfl⟩
 rw [← hrv] at HWk HE
 simp only [spotV] at HWk
 clear hrv
 go_enter Tryz.func7, Tryz.ntmps7
 go_upto_region 1 with (first | ((with_reducible refine gD 4 rfl ?_); refine sB #[.int .i64 nx, .slice A l.length c] 26 HS ?_; clear HS; intro g4 w4 HS _) | ((with_reducible refine gD 5 rfl ?_); refine sB #[.int .i64 u, .int .i64 g, .slice Ag gs.length cg] 29 HS ?_; clear HS; intro g5 w5 HS _) | ((with_reducible refine gD 8 rfl ?_); refine sB #[.int .i64 0, .string ⟨#[]⟩, .int .i64 0, .int .i64 0] 33 HS ?_; clear HS; intro g8 w8 HS _))
 try simp only [Act.put, List.setIfInBounds_toArray, List.set_cons_zero, List.set_cons_succ]
 go_cut [21] (fun v_ w' => v_ = .bool (!(vk && (ck && pk))) ∧ Aside0 (St w none w' [(g8, 33, #[.int .i64 0, .string ⟨#[]⟩, .int .i64 0, .int .i64 0]), (g5, 29, #[.int .i64 u, .int .i64 g, .slice Ag gs.length cg]), (g4, 26, #[.int .i64 nx, .slice A l.length c])]))
 case first =>
  obtain ⟨z0, z1⟩ := HS.out.cells2 2 rfl; obtain ⟨y0, y1, y2⟩ := HS.out.cells3 1 rfl
  cases vk <;> cases ck <;> cases pk
  all_goals
   go_wp2_with (first | (go_at_call 19; refine (HV.out _ HS.out.grown).mono ?_; rintro e w9 ⟨rfl, hb⟩; replace HS := zM (HS.out.call hb); clear hb; (try clear z0 z1 y0 y1 y2); obtain ⟨z0, z1⟩ := HS.out.cells2 2 rfl; obtain ⟨y0, y1, y2⟩ := HS.out.cells3 1 rfl) | (go_at_call 20; refine (HC.out _ HS.out.grown).mono ?_; rintro e w10 ⟨rfl, hb⟩; replace HS := zM (HS.out.call hb); clear hb; (try clear z0 z1 y0 y1 y2); obtain ⟨z0, z1⟩ := HS.out.cells2 2 rfl; obtain ⟨y0, y1, y2⟩ := HS.out.cells3 1 rfl) | (go_at_call 21; refine (HP.out _).mono ?_; rintro e w11 ⟨rfl, hb'⟩; have hb := hb'.below; clear hb'; replace HS := zM (HS.out.call hb); clear hb; (try clear z0 z1 y0 y1 y2); obtain ⟨z0, z1⟩ := HS.out.cells2 2 rfl; obtain ⟨y0, y1, y2⟩ := HS.out.cells3 1 rfl))
   go_meet
   case rel => exact ⟨rfl, HS⟩
 case rest =>
 clear HS
 obtain ⟨rfl, HS⟩ := hcut
 obtain ⟨w12, hw_⟩ : ∃ q, q = wc := ⟨_, rfl⟩
 subst hw_
 obtain ⟨z0, z1⟩ := HS.out.cells2 2 rfl; obtain ⟨y0, y1, y2⟩ := HS.out.cells3 1 rfl; obtain ⟨q0, q1, q2, q3⟩ := HS.out.cells4 0 rfl
 cases hq : (vk && (ck && pk))
 case false =>
  have hR : R = (0, ⟨#[]⟩, 0, 22) := by rw [HE.out, if_neg (fun h => by rw [h.1, h.2.1, h.2.2] at hq; cases hq)]; rfl
  go_wp2_with (first | ((with_reducible refine gS 33 8 rfl ?_); refine sS 0 [.int .i64 0, .string ⟨#[]⟩, .int .i64 0, .int .i64 22] HS ?_; clear HS; intro w13 HS _))
  refine rC 0 HS ?_
  exact ⟨by first | rfl | (rw [hR]; rfl), below_grown HS.out.grown⟩
 simp only [Bool.and_eq_true] at hq
 obtain ⟨rfl, rfl, rfl⟩ := hq
 have hR : R = (r1, r2, r3, r4) := by rw [HE.out, if_pos ⟨rfl, rfl, rfl⟩]
 go_wp2_with (first | (go_at_call 22; refine (HWk.out rfl rfl _ HS.out.grown).mono ?_; rintro e w13 ⟨rfl, hb⟩; replace HS := zM (HS.out.call hb); clear hb; clear q0 q1 q2 q3; obtain ⟨q0, q1, q2, q3⟩ := HS.out.cells4 0 rfl) | ((with_reducible refine gS 33 8 rfl ?_); refine sS 0 [.int .i64 r1, .string r2, .int .i64 r3, .int .i64 r4] HS ?_; clear HS; intro w14 HS _))
 refine rC 0 HS ?_
 exact ⟨by first | rfl | (rw [hR]; rfl), below_grown HS.out.grown⟩
theorem walkTI_any (nx : Int) (A : Option Addr) (c : Nat) (l : List S37) (u g : Int) (Ag : Option Addr) (cg : Nat) (gs : List Int) (path : ByteArray) (fol : Bool) (m0 : Int) (w : World) (hr : Kd.C k37 w A l.length l) (hc : l.length ≤ c) (hs : volSmall l)
  (hg : Kd.C (Kd.int .i64) w Ag gs.length gs) (hcg : gs.length ≤ cg) (hp : path.size ≤ 8000000) (hm0 : w.cell? ⟨0, 0, none⟩ = some (.int .i64 m0)) :
  Calls Tryz.prog 6 #[.agg #[.int .i64 nx, .slice A l.length c], .agg #[.int .i64 u, .int .i64 g, .slice Ag gs.length cg], .string path, .bool fol] w fun e w' => e = .returned (spotV (walkT nx l u g gs path fol)) ∧ Below w.heap.size w w' := by
 have hu26 := Tryz.underlying26
 have hu29 := Tryz.underlying29
 have hu33 := Tryz.underlying33
 have HV := zM (fun (W : World) (hW : w.grownBy W none) => volOk_any W nx A c l (Kd.C_below hr (below_grown hW)) hc hs)
 have HC := zM (fun (W : World) (hW : w.grownBy W none) => by
  obtain ⟨K, hK⟩ := cred_impl u g gs
  exact impl_CredOk.calls K u g Ag cg gs _ W (Kd.C_below hg (below_grown hW)) hcg (hK K (Nat.le_refl _)))
 have HP : Aside0 (∀ W : World, Calls Tryz.prog 17 #[.string path] W fun e w' => e = .returned (.bool (okB path)) ∧ Drawn0 W w') := zM (fun W => by
  obtain ⟨K, hK⟩ := path_impl path (by omega)
  exact impl_PathOk.calls K path _ W (hK K (Nat.le_refl _)))
 have HWk := zM (fun (h : volOkB nx l = true) (ho : okB path = true) (W : World) (g4 : Nat) (hW : w.grownBy W none) (hb : W.heap[g4]? = some (.cells #[.int .i64 nx, .slice A l.length c] 26 (0, 0))) => walkI_any g4 nx A c l u g Ag cg gs path fol m0 W ⟨hb, Kd.C_below hr (below_grown hW), hc, hs⟩ (wf_ok h) (Kd.C_below hg (below_grown hW)) hcg (by have := okB_size path ho; omega) (pw_cell_below (below_grown hW) hm0))
 have HE := zM (show walkT nx l u g gs path fol = if volOkB nx l = true ∧ credB u g gs = true ∧ okB path = true then walkV l (mayX u g gs 1) path fol else spE 22 from rfl)
 generalize walkT nx l u g gs path fol = R at HE ⊢
 have HS := zM (St.start w none)
 clear hr hc hs hg hcg hp hm0
 generalize volOkB nx l = vk at HV HWk HE
 generalize credB u g gs = ck at HC HE
 generalize okB path = pk at HP HWk HE
 obtain ⟨⟨r1, r2, r3, r4⟩, hrv⟩ : ∃ q, q = walkV l (mayX u g gs 1) path fol := ⟨_, rfl⟩
 rw [← hrv] at HWk HE
 simp only [spotV] at HWk
 clear hrv
 go_enter Tryz.func6, Tryz.ntmps6
 go_upto_region 1 with (first | ((with_reducible refine gD 4 rfl ?_); refine sB #[.int .i64 nx, .slice A l.length c] 26 HS ?_; clear HS; intro g4 w4 HS _) | ((with_reducible refine gD 5 rfl ?_); refine sB #[.int .i64 u, .int .i64 g, .slice Ag gs.length cg] 29 HS ?_; clear HS; intro g5 w5 HS _) | ((with_reducible refine gD 8 rfl ?_); refine sB #[.int .i64 0, .string ⟨#[]⟩, .int .i64 0, .int .i64 0] 33 HS ?_; clear HS; intro g8 w8 HS _))
 try simp only [Act.put, List.setIfInBounds_toArray, List.set_cons_zero, List.set_cons_succ]
 go_cut [21] (fun v_ w' => v_ = .bool (!(vk && (ck && pk))) ∧ Aside0 (St w none w' [(g8, 33, #[.int .i64 0, .string ⟨#[]⟩, .int .i64 0, .int .i64 0]), (g5, 29, #[.int .i64 u, .int .i64 g, .slice Ag gs.length cg]), (g4, 26, #[.int .i64 nx, .slice A l.length c])]))
 case first =>
  obtain ⟨z0, z1⟩ := HS.out.cells2 2 rfl; obtain ⟨y0, y1, y2⟩ := HS.out.cells3 1 rfl
  cases vk <;> cases ck <;> cases pk
  all_goals
   go_wp2_with (first | (go_at_call 15; refine (HV.out _ HS.out.grown).mono ?_; rintro e w9 ⟨rfl, hb⟩; replace HS := zM (HS.out.call hb); clear hb; (try clear z0 z1 y0 y1 y2); obtain ⟨z0, z1⟩ := HS.out.cells2 2 rfl; obtain ⟨y0, y1, y2⟩ := HS.out.cells3 1 rfl) | (go_at_call 16; refine (HC.out _ HS.out.grown).mono ?_; rintro e w10 ⟨rfl, hb⟩; replace HS := zM (HS.out.call hb); clear hb; (try clear z0 z1 y0 y1 y2); obtain ⟨z0, z1⟩ := HS.out.cells2 2 rfl; obtain ⟨y0, y1, y2⟩ := HS.out.cells3 1 rfl) | (go_at_call 17; refine (HP.out _).mono ?_; rintro e w11 ⟨rfl, hb'⟩; have hb := hb'.below; clear hb'; replace HS := zM (HS.out.call hb); clear hb; (try clear z0 z1 y0 y1 y2); obtain ⟨z0, z1⟩ := HS.out.cells2 2 rfl; obtain ⟨y0, y1, y2⟩ := HS.out.cells3 1 rfl))
   go_meet
   case rel => exact ⟨rfl, HS⟩
 case rest =>
 clear HS
 obtain ⟨rfl, HS⟩ := hcut
 obtain ⟨w12, hw_⟩ : ∃ q, q = wc := ⟨_, rfl⟩
 subst hw_
 obtain ⟨z0, z1⟩ := HS.out.cells2 2 rfl; obtain ⟨y0, y1, y2⟩ := HS.out.cells3 1 rfl; obtain ⟨q0, q1, q2, q3⟩ := HS.out.cells4 0 rfl
 cases hq : (vk && (ck && pk))
 case false =>
  have hR : R = (0, ⟨#[]⟩, 0, 22) := by rw [HE.out, if_neg (fun h => by rw [h.1, h.2.1, h.2.2] at hq; cases hq)]; rfl
  go_wp2_with (first | ((with_reducible refine gS 33 8 rfl ?_); refine sS 0 [.int .i64 0, .string ⟨#[]⟩, .int .i64 0, .int .i64 22] HS ?_; clear HS; intro w13 HS _))
  refine rC 0 HS ?_
  exact ⟨by first | rfl | (rw [hR]; rfl), below_grown HS.out.grown⟩
 simp only [Bool.and_eq_true] at hq
 obtain ⟨rfl, rfl, rfl⟩ := hq
 have hR : R = (r1, r2, r3, r4) := by rw [HE.out, if_pos ⟨rfl, rfl, rfl⟩]
 go_wp2_with (first | (go_at_call 18; refine (HWk.out rfl rfl _ g4 HS.out.grown (HS.out.get 2 rfl)).mono ?_; rintro e w13 ⟨rfl, hb⟩; replace HS := zM (HS.out.call hb); clear hb; clear q0 q1 q2 q3; obtain ⟨q0, q1, q2, q3⟩ := HS.out.cells4 0 rfl) | ((with_reducible refine gS 33 8 rfl ?_); refine sS 0 [.int .i64 r1, .string r2, .int .i64 r3, .int .i64 r4] HS ?_; clear HS; intro w14 HS _))
 refine rC 0 HS ?_
 exact ⟨by first | rfl | (rw [hR]; rfl), below_grown HS.out.grown⟩
theorem law_clean (nx : Int) (l : List S37) (u g : Int) (gs : List Int) (p : ByteArray) (fol : Bool) (h3 : ∀ x ∈ l, x.f1 ≠ 3) (h0 : (walkT nx l u g gs p fol).2.2.2 = 0) :
  (walkT nx l u g gs (cleanB p) fol).2.2.2 = 0 ∧ (walkT nx l u g gs (cleanB p) fol).2.2.1 = (walkT nx l u g gs p fol).2.2.1 := by
 by_cases h : volOkB nx l = true ∧ credB u g gs = true ∧ okB p = true
 ·obtain ⟨h1, h2, hp⟩ := h
  have e1 : walkT nx l u g gs p fol = walkV l (mayX u g gs 1) p fol := by unfold walkT; rw [if_pos ⟨h1, h2, hp⟩]
  have e2 : walkT nx l u g gs (cleanB p) fol = walkV l (mayX u g gs 1) (cleanB p) fol := by unfold walkT; rw [if_pos ⟨h1, h2, okB_clean p hp⟩]
  rw [e1] at h0 ⊢
  rw [e2]
  exact walk_clean (volR_of h1) h3 (mayX u g gs 1) fol p hp h0
 ·have e : walkT nx l u g gs p fol = spE 22 := by unfold walkT; rw [if_neg h]
  rw [e] at h0
  exact absurd h0 (by decide)
theorem walkTI_v {P : Program} {n : Nat} {xs : Array Value} {w : World} {a i r : Int} {nm : ByteArray} {R : Spot4} (hR : (a, nm, i, r) = R) (h : Calls P n xs w fun e w' => e = .returned (spotV R) ∧ Below w.heap.size w w') :
  Calls P n xs w fun e w' => e = .returned (.agg #[.int .i64 a, .string nm, .int .i64 i, .int .i64 r]) ∧ Below w.heap.size w w' := by
 subst hR
 exact h
theorem cleanB_size (p : ByteArray) : (cleanB p).size ≤ 8000000 := by
 by_cases h : okB p = true
 ·have := okB_size _ (okB_clean p h); omega
 ·unfold cleanB
  rw [if_neg h]
  decide
theorem laws_FnClean.cardWalk (m : Int) (A0 : Option Addr) (c0 : Nat) (l : List Int) (w : World) (hm : w.cell? ⟨0, 0, none⟩ = some (.int .i64 m)) (hr : Kd.C (Kd.int .u8) w A0 l.length l) (hc : l.length ≤ c0) (wf : l.length ≤ maxLen ∧ ∀ a ∈ l, (Lit.int .u8 a).wf = true) :
  Calls Tryz.prog 3 #[.slice A0 l.length c0] w fun e w' => e = .returned (.bool true) ∧ Below w.heap.size w w' := by
 have hu26 := Tryz.underlying26
 have hu29 := Tryz.underlying29
 have hu33 := Tryz.underlying33
 have hu37 := Tryz.underlying37
 have hu24 := Tryz.underlying24
 have HM := zM hm
 have HS := zM (St.start w none)
 by_cases hl : l.length ≤ 1048576
 case neg =>
  have HBg := zM (fun W (hW : w.grownBy W none) => laws_big.calls A0 c0 l true W (Kd.C_below hr (below_grown hW)) hc (by unfold laws_big.f; rw [decide_eq_true (by omega)]))
  clear hm hr hc wf hl
  go_enter Tryz.func3, Tryz.ntmps3
  go_wp2_with (go_at_call 4; refine (HBg.out _ HS.out.grown).mono ?_; rintro e w5 ⟨rfl, hb⟩; replace HS := zM (HS.out.call hb.below); clear hb)
  go_ret
  exact ⟨rfl, below_grown HS.out.grown⟩
 have HBg := zM (fun W (hW : w.grownBy W none) => laws_big.calls A0 c0 l false W (Kd.C_below hr (below_grown hW)) hc (by unfold laws_big.f; rw [decide_eq_false (by omega)]))
 have HDw := zM (fun W (hW : w.grownBy W none) => draww_any A0 c0 l W (Kd.C_below hr (below_grown hW)) hc hl)
 clear hm hr hc wf hl
 go_enter Tryz.func3, Tryz.ntmps3
 go_upto_region 5 with (first | (go_at_call 4; refine (HBg.out _ HS.out.grown).mono ?_; rintro e w5 ⟨rfl, hb⟩; replace HS := zM (HS.out.call hb.below); clear hb) | (go_at_call 5; refine (HDw.out _ HS.out.grown).mono ?_; rintro e w6 hq; unfold DrawD at hq; obtain ⟨nx, A, c', L, u, d, Ag, cg, gs, p, b, rfl, hV, hsm, hR, hp, hb⟩ := hq; have HV := zM hV; have HSm := zM hsm; have HR := zM hR; have HPz := zM hp; replace HS := zM (HS.out.calls hb); clear hV hsm hR hp hb) | ((with_reducible refine gD 3 rfl ?_); refine sB #[.int .i64 0, .slice none 0 0] 26 HS ?_; intro g3 w3 n0_ n1_; replace HV := zM (Kd.R_below HV.out n1_.out.1); replace HR := zM (Kd.R_below HR.out n1_.out.1); clear HS; have HS := n0_; clear n0_ n1_) | ((with_reducible refine gD 4 rfl ?_); refine sB #[.int .i64 0, .int .i64 0, .slice none 0 0] 29 HS ?_; intro g4 w4 n0_ n1_; replace HV := zM (Kd.R_below HV.out n1_.out.1); replace HR := zM (Kd.R_below HR.out n1_.out.1); clear HS; have HS := n0_; clear n0_ n1_) | ((with_reducible refine gS 26 3 rfl ?_); refine sS 1 [.int .i64 nx, .slice A L.length c'] HS ?_; intro w9 n0_ n1_; replace HV := zM (R_box HV.out (HS.out.get 1 rfl) (by decide) n1_.out); replace HR := zM (R_box HR.out (HS.out.get 1 rfl) (by decide) n1_.out); clear HS; have HS := n0_; clear n0_ n1_) | ((with_reducible refine gS 29 4 rfl ?_); refine sS 0 [.int .i64 u, .int .i64 d, .slice Ag gs.length cg] HS ?_; intro w10 n0_ n1_; replace HV := zM (R_box HV.out (HS.out.get 0 rfl) (by decide) n1_.out); replace HR := zM (R_box HR.out (HS.out.get 0 rfl) (by decide) n1_.out); clear HS; have HS := n0_; clear n0_ n1_; obtain ⟨y0, y1, y2⟩ := HS.out.cells3 0 rfl; obtain ⟨z0, z1⟩ := HS.out.cells2 1 rfl) | (go_at_call 6; obtain ⟨⟨sa, sn, si, sr⟩, hW⟩ : ∃ q, q = walkT nx L u d gs p b := ⟨_, rfl⟩; have HWk := zM hW; clear hW; refine (walkTI_v HWk.out (walkTI_any nx A c' L u d Ag cg gs p b m _ (Kd.R_reads' HV.out).2.2 (Kd.R_reads' HV.out).2.1 HSm.out (Kd.R_reads' HR.out).2.2 (Kd.R_reads' HR.out).2.1 HPz.out (HS.out.grown.cell HM.out (by simp)))).mono ?_; rintro e w11 ⟨rfl, hb⟩; replace HV := zM (Kd.R_below HV.out hb); replace HR := zM (Kd.R_below HR.out hb); replace HS := zM (HS.out.call hb); clear hb) | ((with_reducible refine gD 7 rfl ?_); refine sB #[.int .i64 0, .string ⟨#[]⟩, .int .i64 0, .int .i64 0] 33 HS ?_; intro g7 w7 n0_ n1_; replace HV := zM (Kd.R_below HV.out n1_.out.1); replace HR := zM (Kd.R_below HR.out n1_.out.1); clear HS; have HS := n0_; clear n0_ n1_) | ((with_reducible refine gS 33 7 rfl ?_); refine sS 0 [.int .i64 sa, .string sn, .int .i64 si, .int .i64 sr] HS ?_; intro w13 n0_ n1_; replace HV := zM (R_box HV.out (HS.out.get 0 rfl) (by decide) n1_.out); replace HR := zM (R_box HR.out (HS.out.get 0 rfl) (by decide) n1_.out); clear HS; have HS := n0_; clear n0_ n1_))
 (try clear z0 z1 y0 y1 y2)
 have hz0 := Kx.box HS.out 2 rfl List.not_mem_nil 0 rfl
 have hz1 := Kx.box HS.out 2 rfl List.not_mem_nil 1 rfl
 have hy0 := Kx.box HS.out 1 rfl List.not_mem_nil 0 rfl
 have hy1 := Kx.box HS.out 1 rfl List.not_mem_nil 1 rfl
 have hy2 := Kx.box HS.out 1 rfl List.not_mem_nil 2 rfl
 have hs0 := Kx.box HS.out 0 rfl List.not_mem_nil 0 rfl
 have hs1 := Kx.box HS.out 0 rfl List.not_mem_nil 1 rfl
 have hs2 := Kx.box HS.out 0 rfl List.not_mem_nil 2 rfl
 have hs3 := Kx.box HS.out 0 rfl List.not_mem_nil 3 rfl
 replace HV := zM (Kd.R_below HV.out (below_drew1 (Below.refl _ _)))
 replace HR := zM (Kd.R_below HR.out (below_drew1 (Below.refl _ _)))
 try simp only [Act.put, List.setIfInBounds_toArray, List.set_cons_zero, List.set_cons_succ]
 refine wp_region_mix (KxS [] w13) [([0, 1, 2, 3, 4], 5)] [6] (by kernel_rfl) (by kernel_rfl) (fun _ _ _ _ h => h) (KxS.drew _ _) ?_
 have hK := KxS.drew [] w13
 replace HS := zM (HS.out.drew)
 refine mix_seg ?_
 simp only [pickO, List.map]
 repeat (go_big_quiet_step (fail))
 refine wpQuiet_nil ?_
 go_wp2_with (go_at_call 7; refine (walkTI_v HWk.out (walkTS_any nx A c' L u d Ag cg gs p b _ (Kd.R_reads' HV.out).2.2 (Kd.R_reads' HV.out).2.1 HSm.out (Kd.R_reads' HR.out).2.2 (Kd.R_reads' HR.out).2.1 HPz.out)).mono ?_; rintro e w14 ⟨rfl, hb⟩; have HG := zM (grown_below hb none); replace HV := zM (Kd.R_below HV.out hb); replace HR := zM (Kd.R_below HR.out hb); replace HS := zM (HS.out.call hb); clear hb)
 refine ⟨hK.grow HG.out (by simp), fun hK => mix_end ?_⟩
 clear HG
 simp only [pickO, List.map]
 repeat (go_big_quiet_step (fail))
 refine wpQuiet_nil ?_
 go_wp2
 go_loopg [8] L.length (fun kq v8 w' => ∃ n : Nat, v8 = .int .i64 (n : Int) ∧ Aside0 (n + kq = L.length) ∧ Aside0 (∀ x ∈ L.take n, x.f1 ≠ 3) ∧ Aside0 (VolO w' (.slice A L.length c') L) ∧ Aside0 (Kd.R (Kd.int .i64) 3 w' 0 (fun _ => True) (.slice Ag gs.length cg) gs) ∧ Aside0 (St w none w' [(g7, 33, #[.int .i64 sa, .string sn, .int .i64 si, .int .i64 sr]), (g4, 29, #[.int .i64 u, .int .i64 d, .slice Ag gs.length cg]), (g3, 26, #[.int .i64 nx, .slice A L.length c'])]))
 case atStart => exact ⟨0, rfl, ⟨by simp⟩, ⟨by simp⟩, HV, HR, HS⟩
 case round =>
  clear HS HV HR
  obtain ⟨n, rfl, HK, H3, HV, HR, HS⟩ := hrel
  obtain ⟨w15, hw_⟩ : ∃ q, q = wr := ⟨_, rfl⟩
  subst hw_
  have hmL : L.length ≤ 1048576 := HSm.out.1
  obtain ⟨z0, z1⟩ := HS.out.cells2 2 rfl
  by_cases hn : n < L.length
  ·cases gk with
   | zero => have := HK.out; omega
   | succ k1 =>
   have hni : (n : Int) < (L.length : Int) := by omega
   have hw1 : wrap64 ((n : Int) + 1) = ((n + 1 : Nat) : Int) := by rw [w64 (by omega) (by omega)]; omega
   obtain ⟨ad, c2, A6, c6, e1, hx, -⟩ := HV.out.ino n hn
   obtain ⟨rfl, rfl⟩ : A = some ad ∧ c' = c2 := by injection e1 with e1 e2 e3; exact ⟨e1, e3⟩
   have HT := zM (show L.take (n + 1) = L.take n ++ [L[n]] from List.take_succ_eq_append_getElem hn)
   generalize L[n] = x at hx HT
   obtain ⟨hx0, hx1, -⟩ := hx
   clear e1
   cases ck : (x.f1 == 3)
   case true =>
    go_wp2
    go_ret
    exact ⟨rfl, below_grown HS.out.grown⟩
   have hk3 : x.f1 ≠ 3 := by simpa using ck
   go_wp2
   go_roundg k1
   case measure => have := HK.out; omega
   case rel => exact ⟨n + 1, by first | rfl | rw [hw1], ⟨by have := HK.out; omega⟩, ⟨fun y hy => by rw [HT.out] at hy; rcases List.mem_append.1 hy with hy | hy; exact H3.out y hy; rw [List.mem_singleton.1 hy]; exact hk3⟩, HV, HR, HS⟩
  have H3a := zM (show ∀ x ∈ L, x.f1 ≠ 3 from by have := H3.out; rwa [List.take_of_length_le (by omega)] at this)
  have hni : ¬ (n : Int) < (L.length : Int) := by omega
  clear H3
  obtain ⟨⟨ta, tn, ti, tr⟩, hT⟩ : ∃ q, q = walkT nx L u d gs (cleanB p) b := ⟨_, rfl⟩
  have HTk := zM hT
  clear hT hmL
  go_upto_region 12 with (fail)
  clear z0 z1 hn hni
  try simp only [Act.put, List.setIfInBounds_toArray, List.set_cons_zero, List.set_cons_succ]
  go_cut [9] (fun v9 w' => ∃ g9 : Nat, v9 = .pointer (some ⟨g9, 0, none⟩) ∧ Aside0 (St w none w' ((g9, 33, #[.int .i64 ta, .string tn, .int .i64 ti, .int .i64 tr]) :: [(g7, 33, #[.int .i64 sa, .string sn, .int .i64 si, .int .i64 sr]), (g4, 29, #[.int .i64 u, .int .i64 d, .slice Ag gs.length cg]), (g3, 26, #[.int .i64 nx, .slice A L.length c'])])))
  case first =>
   have hz0 := Kx.box HS.out 2 rfl List.not_mem_nil 0 rfl
   have hz1 := Kx.box HS.out 2 rfl List.not_mem_nil 1 rfl
   have hy0 := Kx.box HS.out 1 rfl List.not_mem_nil 0 rfl
   have hy1 := Kx.box HS.out 1 rfl List.not_mem_nil 1 rfl
   have hy2 := Kx.box HS.out 1 rfl List.not_mem_nil 2 rfl
   replace HV := zM (Kd.R_below HV.out (below_drew1 (Below.refl _ _)))
   replace HR := zM (Kd.R_below HR.out (below_drew1 (Below.refl _ _)))
   try simp only [Act.put, List.setIfInBounds_toArray, List.set_cons_zero, List.set_cons_succ]
   refine wp_region_mixF (KxS [] w15) 6 [([], 6), ([], 7)] [([], 7)] [([0, 1, 2, 4], 3), ([], 5)] [] (by kernel_rfl) (by kernel_rfl) (fun _ _ _ _ h => h) (KxS.drew _ _) ?_
   have hK := KxS.drew [] w15
   replace HS := zM (HS.out.drew)
   refine mixF_seg ?_
   simp only [pickO, List.map]
   repeat (go_big_quiet_step (fail))
   refine wpQuiet_nil ?_
   refine ⟨?_, ?_⟩
   ·refine sB #[.int .i64 0, .string ⟨#[]⟩, .int .i64 0, .int .i64 0] 33 HS ?_; intro g9 w18 n0_ n1_; replace HV := zM (Kd.R_below HV.out n1_.out.1); replace HR := zM (Kd.R_below HR.out n1_.out.1); clear HS; have HS := n0_; have HG := zM (grown_below n1_.out.1 none); have hs9 := Nat.le_trans (KxS.size hK) n1_.out.2; (try (have n3_ := zM (Kd.R_below HL_.out n1_.out.1); clear HL_; have HL_ := n3_; clear n3_)); clear n0_ n1_
    refine ⟨hK.grow HG.out (by simp), fun hK => mix_seg ?_⟩
    clear HG
    simp only [pickO, List.map]
    repeat (go_big_quiet_step (fail))
    refine wpQuiet_nil ?_
    go_wp2_with (go_at_call 8; refine (cleanI_any p m _ HPz.out (HS.out.grown.cell HM.out (by simp))).mono ?_; rintro e w16 ⟨rfl, hb⟩; have HG := zM (grown_below hb none); replace HV := zM (Kd.R_below HV.out hb); replace HR := zM (Kd.R_below HR.out hb); replace HS := zM (HS.out.call hb); clear hb)
    refine ⟨hK.grow HG.out (by simp), fun hK => mix_seg ?_⟩
    clear HG
    simp only [pickO, List.map]
    repeat (go_big_quiet_step (fail))
    refine wpQuiet_nil ?_
    go_wp2_with (go_at_call 6; refine (walkTI_v HTk.out (walkTI_any nx A c' L u d Ag cg gs (cleanB p) b m _ (Kd.R_reads' HV.out).2.2 (Kd.R_reads' HV.out).2.1 HSm.out (Kd.R_reads' HR.out).2.2 (Kd.R_reads' HR.out).2.1 (cleanB_size p) (HS.out.grown.cell HM.out (by simp)))).mono ?_; rintro e w17 ⟨rfl, hb⟩; have HG := zM (grown_below hb none); replace HV := zM (Kd.R_below HV.out hb); replace HR := zM (Kd.R_below HR.out hb); replace HS := zM (HS.out.call hb); clear hb)
    refine ⟨hK.grow HG.out (by simp), fun hK => mix_seg ?_⟩
    clear HG
    simp only [pickO, List.map]
    repeat (go_big_quiet_step (fail))
    refine wpQuiet_nil ?_
    refine sS 0 [.int .i64 ta, .string tn, .int .i64 ti, .int .i64 tr] HS ?_; intro w19 n0_ n1_; clear HS; have HS := n0_; have HG := n1_; clear n0_ n1_
    refine ⟨hK.grow HG.out (fun b hb => .inr (by injection hb with hb; rw [← hb]; exact hs9)), fun hK => mix_end ?_⟩
    clear HG
    simp only [pickO, List.map]
    repeat (go_big_quiet_step (fail))
    refine wpQuiet_nil ?_
    go_wp2
    go_meet
    case rel => exact ⟨_, rfl, HS⟩
   go_wp2_with (go_at_call 8; refine (cleanI_any p m _ HPz.out (HS.out.grown.cell HM.out (by simp))).mono ?_; rintro e w16 ⟨rfl, hb⟩; have HG := zM (grown_below hb none); replace HV := zM (Kd.R_below HV.out hb); replace HR := zM (Kd.R_below HR.out hb); replace HS := zM (HS.out.call hb); clear hb)
   refine ⟨hK.grow HG.out (by simp), fun hK => ?_⟩
   clear HG
   refine mixF_seg ?_
   simp only [pickO, List.map]
   repeat (go_big_quiet_step (fail))
   refine wpQuiet_nil ?_
   refine ⟨?_, ?_⟩
   ·refine sB #[.int .i64 0, .string ⟨#[]⟩, .int .i64 0, .int .i64 0] 33 HS ?_; intro g9 w18 n0_ n1_; replace HV := zM (Kd.R_below HV.out n1_.out.1); replace HR := zM (Kd.R_below HR.out n1_.out.1); clear HS; have HS := n0_; have HG := zM (grown_below n1_.out.1 none); have hs9 := Nat.le_trans (KxS.size hK) n1_.out.2; (try (have n3_ := zM (Kd.R_below HL_.out n1_.out.1); clear HL_; have HL_ := n3_; clear n3_)); clear n0_ n1_
    refine ⟨hK.grow HG.out (by simp), fun hK => mix_seg ?_⟩
    clear HG
    simp only [pickO, List.map]
    repeat (go_big_quiet_step (fail))
    refine wpQuiet_nil ?_
    go_wp2_with (go_at_call 6; refine (walkTI_v HTk.out (walkTI_any nx A c' L u d Ag cg gs (cleanB p) b m _ (Kd.R_reads' HV.out).2.2 (Kd.R_reads' HV.out).2.1 HSm.out (Kd.R_reads' HR.out).2.2 (Kd.R_reads' HR.out).2.1 (cleanB_size p) (HS.out.grown.cell HM.out (by simp)))).mono ?_; rintro e w17 ⟨rfl, hb⟩; have HG := zM (grown_below hb none); replace HV := zM (Kd.R_below HV.out hb); replace HR := zM (Kd.R_below HR.out hb); replace HS := zM (HS.out.call hb); clear hb)
    refine ⟨hK.grow HG.out (by simp), fun hK => mix_seg ?_⟩
    clear HG
    simp only [pickO, List.map]
    repeat (go_big_quiet_step (fail))
    refine wpQuiet_nil ?_
    refine sS 0 [.int .i64 ta, .string tn, .int .i64 ti, .int .i64 tr] HS ?_; intro w19 n0_ n1_; clear HS; have HS := n0_; have HG := n1_; clear n0_ n1_
    refine ⟨hK.grow HG.out (fun b hb => .inr (by injection hb with hb; rw [← hb]; exact hs9)), fun hK => mix_end ?_⟩
    clear HG
    simp only [pickO, List.map]
    repeat (go_big_quiet_step (fail))
    refine wpQuiet_nil ?_
    go_wp2
    go_meet
    case rel => exact ⟨_, rfl, HS⟩
   go_wp2_with (go_at_call 6; refine (walkTI_v HTk.out (walkTI_any nx A c' L u d Ag cg gs (cleanB p) b m _ (Kd.R_reads' HV.out).2.2 (Kd.R_reads' HV.out).2.1 HSm.out (Kd.R_reads' HR.out).2.2 (Kd.R_reads' HR.out).2.1 (cleanB_size p) (HS.out.grown.cell HM.out (by simp)))).mono ?_; rintro e w17 ⟨rfl, hb⟩; have HG := zM (grown_below hb none); replace HV := zM (Kd.R_below HV.out hb); replace HR := zM (Kd.R_below HR.out hb); replace HS := zM (HS.out.call hb); clear hb)
   refine ⟨hK.grow HG.out (by simp), fun hK => ?_⟩
   clear HG
   refine mixF_nil (mix_seg ?_)
   simp only [pickO, List.map]
   repeat (go_big_quiet_step (fail))
   refine wpQuiet_nil ?_
   refine sB #[.int .i64 0, .string ⟨#[]⟩, .int .i64 0, .int .i64 0] 33 HS ?_; intro g9 w18 n0_ n1_; replace HV := zM (Kd.R_below HV.out n1_.out.1); replace HR := zM (Kd.R_below HR.out n1_.out.1); clear HS; have HS := n0_; have HG := zM (grown_below n1_.out.1 none); have hs9 := Nat.le_trans (KxS.size hK) n1_.out.2; (try (have n3_ := zM (Kd.R_below HL_.out n1_.out.1); clear HL_; have HL_ := n3_; clear n3_)); clear n0_ n1_
   refine ⟨hK.grow HG.out (by simp), fun hK => mix_seg ?_⟩
   clear HG
   simp only [pickO, List.map]
   repeat (go_big_quiet_step (fail))
   refine wpQuiet_nil ?_
   refine sS 0 [.int .i64 ta, .string tn, .int .i64 ti, .int .i64 tr] HS ?_; intro w19 n0_ n1_; clear HS; have HS := n0_; have HG := n1_; clear n0_ n1_
   refine ⟨hK.grow HG.out (fun b hb => .inr (by injection hb with hb; rw [← hb]; exact hs9)), fun hK => mix_end ?_⟩
   clear HG
   simp only [pickO, List.map]
   repeat (go_big_quiet_step (fail))
   refine wpQuiet_nil ?_
   go_wp2
   go_meet
   case rel => exact ⟨_, rfl, HS⟩
  case rest =>
  clear HS HV HR
  obtain ⟨g9, rfl, HS⟩ := hcut
  obtain ⟨w20, hw_⟩ : ∃ q, q = wc := ⟨_, rfl⟩
  subst hw_
  obtain ⟨t0, t1, t2, t3⟩ := HS.out.cells4 0 rfl
  obtain ⟨s0, s1, s2, s3⟩ := HS.out.cells4 1 rfl
  cases c0 : (sr != 0)
  case true =>
   go_wp2
   go_ret
   exact ⟨rfl, below_grown HS.out.grown⟩
  have h0 : sr = 0 := by simpa using c0
  have hq := law_clean nx L u d gs p b H3a.out (by rw [← HWk.out]; exact h0)
  rw [← HWk.out, ← HTk.out] at hq
  obtain ⟨h1, h2⟩ := hq
  dsimp only at h1 h2
  subst h0 h1 h2
  clear c0 HWk HTk
  go_wp2
  go_ret
  exact ⟨rfl, below_grown HS.out.grown⟩
end Go.Proofs.YtiopcpkfjikfdaaGreatDoor.PFnClean
