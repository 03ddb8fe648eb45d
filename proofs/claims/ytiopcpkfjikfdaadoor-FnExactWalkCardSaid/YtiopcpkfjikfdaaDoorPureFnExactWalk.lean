/- The program's Walk returns what the reference's Walk returns, for all arguments: the statement over numbers and lists, proved. Conditions: none beyond the bounds of the arguments' kinds. -/
import Derived.Test.YtiopcpkfjikfdaaDoorStmFnExactWalk
import Derived.Test.YtiopcpkfjikfdaaDoorMath
import Derived.Test.YtiopcpkfjikfdaaDoorStr
namespace Go.Proofs.YtiopcpkfjikfdaaDoor.Pure
open Go.RowKit Go.Proofs.YtiopcpkfjikfdaaDoor.PFnExactWalk Go.Proofs.YtiopcpkfjikfdaaDoorW.PrintWords Go.Proofs.YtiopcpkfjikfdaaDoorW.PrintLast Go.Proofs.YtiopcpkfjikfdaaDoorW.PrintMore Go.Proofs.YtiopcpkfjikfdaaDoor.Mth Go.Proofs.YtiopcpkfjikfdaaDoor.Str

set_option linter.unusedVariables false
set_option linter.unusedSimpArgs false
/-! ## section ints -/
theorem rd_get (l : List Int) (i : Nat) (h : i < l.length) : rd l (i : Int) = l[i] := by
  unfold rd; rw [Int.toNat_natCast, List.getD_eq_getElem?_getD, List.getElem?_eq_getElem h]; rfl
theorem szints_ev (l : List Int) (a : Int) (h0 : 0 ≤ a) (h1 : a ≤ 1048576) (hm : l.length ≤ maxLen) : ∃ v, v ≤ a ∧ -1 ≤ v ∧ laws_szIntS.f l a = some v ∧ (0 ≤ v → l.length ≤ 1048576) := by
  unfold laws_szIntS.f
  have m : l.length ≤ 9223372036854775807 := hm
  have e : wrap64 (a - (l.length : Int)) = a - (l.length : Int) := w64 (by omega) (by omega)
  rw [e]
  by_cases hn : a - (l.length : Int) < 0
  · exact ⟨-1, by omega, by omega, if_pos hn, fun h => absurd h (by omega)⟩
  · exact ⟨a - (l.length : Int), by omega, by omega, if_neg hn, fun h => by omega⟩
theorem szcred_ev (u g : Int) (l : List Int) (hm : l.length ≤ maxLen) : ∃ v, v ≤ 1048576 ∧ laws_szCred.f u g l 1048576 = some v ∧ (0 ≤ v → l.length ≤ 1048576) := by
  obtain ⟨v, h1, h2, h3, h4⟩ := szints_ev l 1048576 (by omega) (by omega) hm
  unfold laws_szCred.f
  rw [h3, Option.bind_some]
  by_cases hv : v < 0
  · exact ⟨-1, by omega, if_pos hv, fun h => absurd h (by omega)⟩
  · exact ⟨v, h1, if_neg hv, h4⟩
theorem toints_loop (l : List Int) (hlen : l.length ≤ 1048576) : ∀ (d i : Nat), i + d = l.length → Ev (fun k => laws_toIntS.l0 k l (l.take i ++ List.replicate d 0) (i : Int)) l := by
  intro d
  induction d with
  | zero =>
    intro i hi
    have hr : l.take i ++ List.replicate 0 0 = l := by rw [List.take_of_length_le (by omega), List.replicate_zero, List.append_nil]
    rw [hr]
    exact Ev.step (fun _ => laws_toIntS.l0.eq_2 ..) (ev_neg (by omega) (ev_now rfl))
  | succ d ih =>
    intro i hi
    have hlt : i < l.length := by omega
    have e3 : wrap64 ((i : Int) + 1) = ((i + 1 : Nat) : Int) := w64 (by omega) (by omega)
    refine Ev.step (fun _ => laws_toIntS.l0.eq_2 ..) (ev_pos (by omega) (ev_pos (by omega) (ev_pos ?_ ?_)))
    · rw [List.length_append, List.length_take, List.length_replicate]; omega
    · rw [rd_get l i hlt, e3]
      have hs : (l.take i ++ List.replicate (d + 1) 0).set (i : Int).toNat l[i] = l.take (i + 1) ++ List.replicate d 0 := by
        have hl : (l.take i).length = i := by rw [List.length_take]; omega
        rw [Int.toNat_natCast, List.set_append_right _ _ (by omega), hl, Nat.sub_self, List.replicate_succ, List.set_cons_zero, List.take_succ_eq_append_getElem hlt, List.append_assoc]; rfl
      rw [hs]
      exact ih (i + 1) (by omega)
theorem tocred_ev (u g : Int) (l : List Int) (hlen : l.length ≤ 1048576) : Ev (fun k => laws_toCred.f k u g l) (u, g, l) := by
  unfold laws_toCred.f laws_toIntS.f
  refine Ev.bind (a := l) (ev_pos (by omega) (ev_pos (by omega) ?_)) (ev_now rfl)
  exact toints_loop l hlen l.length 0 (by omega)
theorem eqcred_ev (u g : Int) (l : List Int) (hlen : l.length ≤ 1048576) : Ev (fun k => laws_eqCred.f u g l u g l) true := by
  unfold laws_eqCred.f
  exact ev_pos (by simp [hlen]) (ev_now rfl)
/-! ## section szvol -/
theorem szDirent_ev (x : S133) (a : Int) (h0 : 0 ≤ a) (h1 : a ≤ 1048576) (hok : okS133 x) : ∃ v, v ≤ a ∧ -1 ≤ v ∧ Ev (fun k => laws_szDirent.f x.f0 x.f1 a) v ∧ (0 ≤ v → x.f0.size ≤ 1048576) := by
  unfold okS133 at hok
  have m : x.f0.size ≤ 9223372036854775807 := hok.1
  unfold laws_szDirent.f
  have e : wrap64 (a - (x.f0.size : Int)) = a - (x.f0.size : Int) := w64 (by omega) (by omega)
  rw [e]
  by_cases hn : a - (x.f0.size : Int) < 0
  · exact ⟨-1, by omega, by omega, ev_pos hn (ev_now rfl), fun h => absurd h (by omega)⟩
  · exact ⟨a - (x.f0.size : Int), by omega, by omega, ev_neg hn (ev_now rfl), fun h => by omega⟩
theorem szDirentS_loop (l : List S133) (hlen : l.length ≤ 1048576) (hok : ∀ x ∈ l, okS133 x) : ∀ (d i : Nat) (a : Int), i + d = l.length → 0 ≤ a → a ≤ 1048576 → ∃ v, v ≤ a ∧ -1 ≤ v ∧ Ev (fun k => laws_szDirentS.l0 k l a (i : Int)) v ∧ (0 ≤ v → ∀ j (hj : j < l.length), i ≤ j → (l[j]).f0.size ≤ 1048576) := by
  intro d
  induction d with
  | zero =>
    intro i a hi h0 h1
    exact ⟨a, by omega, by omega, Ev.step (laws_szDirentS.l0.eq_2 _ _ _) (ev_neg (by omega) (ev_now rfl)), fun _ j hj hij => absurd hj (by omega)⟩
  | succ d ih =>
    intro i a hi h0 h1
    have hlt : i < l.length := by omega
    have hx : rd_T133 l (i : Int) = l[i] := by unfold rd_T133; rw [Int.toNat_natCast, List.getD_eq_getElem?_getD, List.getElem?_eq_getElem hlt]; rfl
    obtain ⟨v, hv1, hv2, hv3, hv4⟩ := szDirent_ev l[i] a h0 h1 (hok _ (List.getElem_mem hlt))
    have e3 : wrap64 ((i : Int) + 1) = ((i + 1 : Nat) : Int) := w64 (by omega) (by omega)
    by_cases hv : v < 0
    · refine ⟨-1, by omega, by omega, ?_, fun h => absurd h (by omega)⟩
      refine Ev.step (laws_szDirentS.l0.eq_2 _ _ _) (ev_pos (by omega) (ev_pos (by omega) ?_))
      rw [hx]
      exact Ev.bind hv3 (ev_pos hv (ev_now rfl))
    · obtain ⟨u, hu1, hu2, hu3, hu4⟩ := ih (i + 1) v (by omega) (by omega) (by omega)
      refine ⟨u, by omega, by omega, ?_, fun h j hj hij => ?_⟩
      · refine Ev.step (laws_szDirentS.l0.eq_2 _ _ _) (ev_pos (by omega) (ev_pos (by omega) ?_))
        rw [hx, e3]
        exact Ev.bind hv3 (ev_neg hv hu3)
      · by_cases hji : j = i
        · subst hji; exact hv4 (by omega)
        · exact hu4 h j hj (by omega)
theorem szDirentS_ev (l : List S133) (a : Int) (h0 : 0 ≤ a) (h1 : a ≤ 1048576) (hm : l.length ≤ maxLen) (hok : ∀ x ∈ l, okS133 x) : ∃ v, v ≤ a ∧ -1 ≤ v ∧ Ev (fun k => laws_szDirentS.f k l a) v ∧ (0 ≤ v → l.length ≤ 1048576 ∧ ∀ x ∈ l, x.f0.size ≤ 1048576) := by
  unfold laws_szDirentS.f
  have m : l.length ≤ 9223372036854775807 := hm
  have e : wrap64 (a - (l.length : Int)) = a - (l.length : Int) := w64 (by omega) (by omega)
  rw [e]
  by_cases hn : a - (l.length : Int) < 0
  · exact ⟨-1, by omega, by omega, ev_pos hn (ev_now rfl), fun h => absurd h (by omega)⟩
  · obtain ⟨v, h2, h3, h4, h5⟩ := szDirentS_loop l (by omega) hok l.length 0 (a - (l.length : Int)) (by omega) (by omega) (by omega)
    exact ⟨v, by omega, h3, ev_neg hn h4, fun h => ⟨by omega, fun x hx => by obtain ⟨j, hj, rfl⟩ := List.getElem_of_mem hx; exact h5 h j hj (by omega)⟩⟩
def smallX (x : S87) : Prop := x.f5.size ≤ 1048576 ∧ x.f6.length ≤ 1048576 ∧ ∀ d ∈ x.f6, d.f0.size ≤ 1048576
theorem szInode_ev (x : S87) (a : Int) (h0 : 0 ≤ a) (h1 : a ≤ 1048576) (hok : okS87 x) : ∃ v, v ≤ a ∧ -1 ≤ v ∧ Ev (fun k => laws_szInode.f k x.f0 x.f1 x.f2 x.f3 x.f4 x.f5 x.f6 x.f7 x.f8 a) v ∧ (0 ≤ v → smallX x) := by
  unfold okS87 at hok
  obtain ⟨-, -, -, -, -, q5, ⟨q6, r6⟩, -, -⟩ := hok
  have m : x.f5.size ≤ 9223372036854775807 := q5
  unfold laws_szInode.f
  have e : wrap64 (a - (x.f5.size : Int)) = a - (x.f5.size : Int) := w64 (by omega) (by omega)
  rw [e]
  by_cases hn : a - (x.f5.size : Int) < 0
  · exact ⟨-1, by omega, by omega, ev_pos hn (ev_now rfl), fun h => absurd h (by omega)⟩
  · obtain ⟨v, hv1, hv2, hv3, hv4⟩ := szDirentS_ev x.f6 (a - (x.f5.size : Int)) (by omega) (by omega) q6 r6
    by_cases hv : v < 0
    · exact ⟨-1, by omega, by omega, ev_neg hn (Ev.bind hv3 (ev_pos hv (ev_now rfl))), fun h => absurd h (by omega)⟩
    · exact ⟨v, by omega, by omega, ev_neg hn (Ev.bind hv3 (ev_neg hv (ev_now rfl))), fun h => ⟨by omega, hv4 h⟩⟩
theorem szInodeS_loop (l : List S87) (hlen : l.length ≤ 1048576) (hok : ∀ x ∈ l, okS87 x) : ∀ (d i : Nat) (a : Int), i + d = l.length → 0 ≤ a → a ≤ 1048576 → ∃ v, v ≤ a ∧ -1 ≤ v ∧ Ev (fun k => laws_szInodeS.l0 k l a (i : Int)) v ∧ (0 ≤ v → ∀ j (hj : j < l.length), i ≤ j → smallX l[j]) := by
  intro d
  induction d with
  | zero =>
    intro i a hi h0 h1
    exact ⟨a, by omega, by omega, Ev.step (laws_szInodeS.l0.eq_2 _ _ _) (ev_neg (by omega) (ev_now rfl)), fun _ j hj hij => absurd hj (by omega)⟩
  | succ d ih =>
    intro i a hi h0 h1
    have hlt : i < l.length := by omega
    have hx : rd_T87 l (i : Int) = l[i] := by unfold rd_T87; rw [Int.toNat_natCast, List.getD_eq_getElem?_getD, List.getElem?_eq_getElem hlt]; rfl
    obtain ⟨v, hv1, hv2, hv3, hv4⟩ := szInode_ev l[i] a h0 h1 (hok _ (List.getElem_mem hlt))
    have e3 : wrap64 ((i : Int) + 1) = ((i + 1 : Nat) : Int) := w64 (by omega) (by omega)
    by_cases hv : v < 0
    · refine ⟨-1, by omega, by omega, ?_, fun h => absurd h (by omega)⟩
      refine Ev.step (laws_szInodeS.l0.eq_2 _ _ _) (ev_pos (by omega) (ev_pos (by omega) ?_))
      rw [hx]
      exact Ev.bind hv3 (ev_pos hv (ev_now rfl))
    · obtain ⟨u, hu1, hu2, hu3, hu4⟩ := ih (i + 1) v (by omega) (by omega) (by omega)
      refine ⟨u, by omega, by omega, ?_, fun h j hj hij => ?_⟩
      · refine Ev.step (laws_szInodeS.l0.eq_2 _ _ _) (ev_pos (by omega) (ev_pos (by omega) ?_))
        rw [hx, e3]
        exact Ev.bind hv3 (ev_neg hv hu3)
      · by_cases hji : j = i
        · subst hji; exact hv4 (by omega)
        · exact hu4 h j hj (by omega)
theorem szInodeS_ev (l : List S87) (a : Int) (h0 : 0 ≤ a) (h1 : a ≤ 1048576) (hm : l.length ≤ maxLen) (hok : ∀ x ∈ l, okS87 x) : ∃ v, v ≤ a ∧ -1 ≤ v ∧ Ev (fun k => laws_szInodeS.f k l a) v ∧ (0 ≤ v → l.length ≤ 1048576 ∧ ∀ x ∈ l, smallX x) := by
  unfold laws_szInodeS.f
  have m : l.length ≤ 9223372036854775807 := hm
  have e : wrap64 (a - (l.length : Int)) = a - (l.length : Int) := w64 (by omega) (by omega)
  rw [e]
  by_cases hn : a - (l.length : Int) < 0
  · exact ⟨-1, by omega, by omega, ev_pos hn (ev_now rfl), fun h => absurd h (by omega)⟩
  · obtain ⟨v, h2, h3, h4, h5⟩ := szInodeS_loop l (by omega) hok l.length 0 (a - (l.length : Int)) (by omega) (by omega) (by omega)
    exact ⟨v, by omega, h3, ev_neg hn h4, fun h => ⟨by omega, fun x hx => by obtain ⟨j, hj, rfl⟩ := List.getElem_of_mem hx; exact h5 h j hj (by omega)⟩⟩
theorem szVol_ev (nx : Int) (l : List S87) (hm : l.length ≤ maxLen) (hok : ∀ x ∈ l, okS87 x) : ∃ v, Ev (fun k => laws_szVol.f k nx l 1048576) v ∧ (0 ≤ v → l.length ≤ 1048576 ∧ ∀ x ∈ l, smallX x) := by
  unfold laws_szVol.f
  obtain ⟨v, h1, h2, h3, h4⟩ := szInodeS_ev l 1048576 (by omega) (by omega) hm hok
  by_cases hv : v < 0
  · exact ⟨-1, Ev.bind h3 (ev_pos hv (ev_now rfl)), fun h => absurd h (by omega)⟩
  · exact ⟨v, Ev.bind h3 (ev_neg hv (ev_now rfl)), h4⟩

/-! ## section list:Dirent/133/117/s,i/to -/
def cvDirent (x : S133) : S117 := ⟨x.f0, x.f1⟩
theorem toDirent_ev (x : S133) : Ev (fun k => laws_toDirent.f x.f0 x.f1) (x.f0, x.f1) := by
  unfold laws_toDirent.f
  exact ev_now rfl
theorem toDirentS_loop (l : List S133) (hlen : l.length ≤ 1048576) : ∀ (d i : Nat), i + d = l.length → Ev (fun k => laws_toDirentS.l0 k l ((l.take i).map cvDirent ++ List.replicate d z117) (i : Int)) (l.map cvDirent) := by
  intro d
  induction d with
  | zero =>
    intro i hi
    rw [List.take_of_length_le (by omega), List.replicate_zero, List.append_nil]
    exact Ev.step (laws_toDirentS.l0.eq_2 _ _ _) (ev_neg (by omega) (ev_now rfl))
  | succ d ih =>
    intro i hi
    have hlt : i < l.length := by omega
    have hx : rd_T133 l (i : Int) = l[i] := by unfold rd_T133; rw [Int.toNat_natCast, List.getD_eq_getElem?_getD, List.getElem?_eq_getElem hlt]; rfl
    have e3 : wrap64 ((i : Int) + 1) = ((i + 1 : Nat) : Int) := w64 (by omega) (by omega)
    refine Ev.step (laws_toDirentS.l0.eq_2 _ _ _) (ev_pos (by omega) (ev_pos (by omega) ?_))
    rw [hx, e3]
    refine Ev.bind (toDirent_ev l[i]) (ev_pos ?_ ?_)
    · rw [List.length_append, List.length_map, List.length_take, List.length_replicate]; omega
    · have hs : ((l.take i).map cvDirent ++ List.replicate (d + 1) z117).set (i : Int).toNat (cvDirent l[i]) = (l.take (i + 1)).map cvDirent ++ List.replicate d z117 := by
        have hl : ((l.take i).map cvDirent).length = i := by rw [List.length_map, List.length_take]; omega
        rw [Int.toNat_natCast, List.set_append_right _ _ (by omega), hl, Nat.sub_self, List.replicate_succ, List.set_cons_zero, List.take_succ_eq_append_getElem hlt, List.map_append, List.append_assoc]; rfl
      have hr := ih (i + 1) (by omega)
      rw [← hs] at hr
      exact hr
theorem toDirentS_ev (l : List S133) (hlen : l.length ≤ 1048576) : Ev (fun k => laws_toDirentS.f k l) (l.map cvDirent) := by
  unfold laws_toDirentS.f
  refine ev_pos (by omega) (ev_pos (by omega) ?_)
  exact toDirentS_loop l hlen l.length 0 (by omega)

/-! ## section list:Inode/87/90/i,i,i,i,i,s,D:Dirent,i,i/to -/
def cvInode (x : S87) : S90 := ⟨x.f0, x.f1, x.f2, x.f3, x.f4, x.f5, x.f6.map cvDirent, x.f7, x.f8⟩
theorem toInode_ev (x : S87) (g6 : x.f6.length ≤ 1048576) : Ev (fun k => laws_toInode.f k x.f0 x.f1 x.f2 x.f3 x.f4 x.f5 x.f6 x.f7 x.f8) (x.f0, x.f1, x.f2, x.f3, x.f4, x.f5, x.f6.map cvDirent, x.f7, x.f8) := by
  unfold laws_toInode.f
  exact Ev.bind (toDirentS_ev x.f6 g6) (ev_now rfl)
theorem toInodeS_loop (l : List S87) (hlen : l.length ≤ 1048576) (g6 : ∀ x ∈ l, x.f6.length ≤ 1048576) : ∀ (d i : Nat), i + d = l.length → Ev (fun k => laws_toInodeS.l0 k l ((l.take i).map cvInode ++ List.replicate d z90) (i : Int)) (l.map cvInode) := by
  intro d
  induction d with
  | zero =>
    intro i hi
    rw [List.take_of_length_le (by omega), List.replicate_zero, List.append_nil]
    exact Ev.step (laws_toInodeS.l0.eq_2 _ _ _) (ev_neg (by omega) (ev_now rfl))
  | succ d ih =>
    intro i hi
    have hlt : i < l.length := by omega
    have hx : rd_T87 l (i : Int) = l[i] := by unfold rd_T87; rw [Int.toNat_natCast, List.getD_eq_getElem?_getD, List.getElem?_eq_getElem hlt]; rfl
    have e3 : wrap64 ((i : Int) + 1) = ((i + 1 : Nat) : Int) := w64 (by omega) (by omega)
    refine Ev.step (laws_toInodeS.l0.eq_2 _ _ _) (ev_pos (by omega) (ev_pos (by omega) ?_))
    rw [hx, e3]
    refine Ev.bind (toInode_ev l[i] (g6 _ (List.getElem_mem hlt))) (ev_pos ?_ ?_)
    · rw [List.length_append, List.length_map, List.length_take, List.length_replicate]; omega
    · have hs : ((l.take i).map cvInode ++ List.replicate (d + 1) z90).set (i : Int).toNat (cvInode l[i]) = (l.take (i + 1)).map cvInode ++ List.replicate d z90 := by
        have hl : ((l.take i).map cvInode).length = i := by rw [List.length_map, List.length_take]; omega
        rw [Int.toNat_natCast, List.set_append_right _ _ (by omega), hl, Nat.sub_self, List.replicate_succ, List.set_cons_zero, List.take_succ_eq_append_getElem hlt, List.map_append, List.append_assoc]; rfl
      have hr := ih (i + 1) (by omega)
      rw [← hs] at hr
      exact hr
theorem toInodeS_ev (l : List S87) (hlen : l.length ≤ 1048576) (g6 : ∀ x ∈ l, x.f6.length ≤ 1048576) : Ev (fun k => laws_toInodeS.f k l) (l.map cvInode) := by
  unfold laws_toInodeS.f
  refine ev_pos (by omega) (ev_pos (by omega) ?_)
  exact toInodeS_loop l hlen g6 l.length 0 (by omega)

/-! ## section tovol -/
theorem toVol_ev (nx : Int) (l : List S87) (hl : l.length ≤ 1048576) (hs : ∀ x ∈ l, smallX x) : Ev (fun k => laws_toVol.f k nx l) (nx, l.map cvInode) := by
  unfold laws_toVol.f
  exact Ev.bind (toInodeS_ev l hl (fun x hx => (hs x hx).2.1)) (ev_now rfl)
theorem cvSmall (l : List S87) (hl : l.length ≤ 1048576) (hs : ∀ x ∈ l, smallX x) : volSmall (l.map cvInode) := by
  refine ⟨by rw [List.length_map]; exact hl, ?_, ?_, ?_⟩
  · intro x hx
    obtain ⟨y, hy, rfl⟩ := List.mem_map.1 hx
    show (y.f6.map cvDirent).length ≤ 1048576
    rw [List.length_map]; exact (hs y hy).2.1
  · intro x hx
    obtain ⟨y, hy, rfl⟩ := List.mem_map.1 hx
    exact (hs y hy).1
  · intro x hx d hdm
    obtain ⟨y, hy, rfl⟩ := List.mem_map.1 hx
    have hdm' : d ∈ y.f6.map cvDirent := hdm
    obtain ⟨e, he, rfl⟩ := List.mem_map.1 hdm'
    exact (hs y hy).2.2 e he
/-! ## section FnExactWalk -/
theorem szVol_ev2 (nx : Int) (l : List S87) (hm : l.length ≤ maxLen) (hok : ∀ x ∈ l, okS87 x) : ∃ v, v ≤ 1048576 ∧ Ev (fun k => laws_szVol.f k nx l 1048576) v ∧ (0 ≤ v → l.length ≤ 1048576 ∧ ∀ x ∈ l, smallX x) := by
  unfold laws_szVol.f
  obtain ⟨v, h1, h2, h3, h4⟩ := szInodeS_ev l 1048576 (by omega) (by omega) hm hok
  by_cases hv : v < 0
  · exact ⟨-1, by omega, Ev.bind h3 (ev_pos hv (ev_now rfl)), fun h => absurd h (by omega)⟩
  · exact ⟨v, h1, Ev.bind h3 (ev_neg hv (ev_now rfl)), h4⟩
theorem szcredA_ev (u g : Int) (l : List Int) (a : Int) (h0 : 0 ≤ a) (h1 : a ≤ 1048576) (hm : l.length ≤ maxLen) : ∃ v, laws_szCred.f u g l a = some v ∧ (0 ≤ v → l.length ≤ 1048576) := by
  obtain ⟨v, k1, k2, k3, k4⟩ := szints_ev l a h0 h1 hm
  unfold laws_szCred.f
  rw [k3, Option.bind_some]
  by_cases hv : v < 0
  · exact ⟨-1, if_pos hv, fun h => absurd h (by omega)⟩
  · exact ⟨v, if_neg hv, k4⟩
theorem FnExactWalk : laws_FnExactWalk.Pure := by
  intro nx l u g gs p fol _ hl _ _ hgs hp
  refine Ev.rounds (r := true) ?_
  unfold laws_FnExactWalk.f
  by_cases hs : (p.size : Int) > 1048576
  · exact ev_pos hs (ev_now rfl)
  refine ev_neg hs ?_
  obtain ⟨v, hv1, hv, hle⟩ := szVol_ev2 nx l hl.1 hl.2
  refine Ev.bind hv ?_
  by_cases h : v < 0
  · exact ev_pos h (ev_now rfl)
  refine ev_neg h ?_
  obtain ⟨x, hx, hx2⟩ := szcredA_ev u g gs v (by omega) hv1 hgs.1
  refine ev_of hx ?_
  by_cases h' : x < 0
  · exact ev_pos h' (ev_now rfl)
  refine ev_neg h' ?_
  obtain ⟨h1, h2⟩ := hle (by omega)
  have hg := hx2 (by omega)
  have ht := toVol_ev nx l h1 h2
  have hc := tocred_ev u g gs hg
  have hsm := cvSmall l h1 h2
  have e1 : spec_Walk.f nx (l.map cvInode) u g gs p fol = some (walkT nx (l.map cvInode) u g gs p fol) := by unfold spec_Walk.f; rw [if_pos ⟨(volSmallB_iff _).2 hsm, by omega⟩]
  have e2 : impl_Walk.f nx (l.map cvInode) u g gs p fol = some (walkT nx (l.map cvInode) u g gs p fol) := by unfold impl_Walk.f; rw [if_pos ⟨(volSmallB_iff _).2 hsm, by omega⟩]
  have e3 : laws_eqVol.f nx (l.map cvInode) nx (l.map cvInode) = some true := by
    unfold laws_eqVol.f
    rw [if_pos (by rw [(eqIl_iff _ _).2 rfl, (volSmallB_iff _).2 hsm]; simp)]
  generalize walkT nx (l.map cvInode) u g gs p fol = R at e1 e2
  obtain ⟨r1, r2, r3, r4⟩ := R
  have e4 : laws_eqSpot.f r1 r2 r3 r4 r1 r2 r3 r4 = some true := by
    unfold laws_eqSpot.f
    rw [if_pos rfl, if_pos rfl, if_pos rfl, if_pos rfl]
  exact Ev.bind ht (Ev.bind hc (Ev.bind (ev_now e1) (Ev.bind ht (Ev.bind hc (Ev.bind (ev_now e2) (Ev.bind (ev_now e4) (ev_pos rfl (Ev.bind ht (Ev.bind (ev_now e3) (ev_pos rfl (Ev.bind hc (Ev.bind (eqcred_ev _ _ _ hg) (ev_pos rfl (ev_now rfl))))))))))))))

end Go.Proofs.YtiopcpkfjikfdaaDoor.Pure
