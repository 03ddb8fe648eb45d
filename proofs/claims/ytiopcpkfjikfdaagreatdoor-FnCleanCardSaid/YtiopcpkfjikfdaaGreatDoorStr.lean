import Derived.Test.YtiopcpkfjikfdaaGreatDoorWMore
set_option linter.unusedVariables false
namespace Go.Proofs.YtiopcpkfjikfdaaGreatDoor.Str
open Go.RowKit Go.Proofs.YtiopcpkfjikfdaaGreatDoorW.PrintWords Go.Proofs.YtiopcpkfjikfdaaGreatDoorW.PrintLast Go.Proofs.YtiopcpkfjikfdaaGreatDoorW.PrintMore
theorem ev_pos {α : Type} {c : Prop} [Decidable c] {g f : Nat → Option α} {r : α} (h : c) (k : Ev g r) : Ev (fun n => if c then g n else f n) r :=
  Ev.congr (fun _ => if_pos h) k
theorem ev_neg {α : Type} {c : Prop} [Decidable c] {g f : Nat → Option α} {r : α} (h : ¬ c) (k : Ev f r) : Ev (fun n => if c then g n else f n) r :=
  Ev.congr (fun _ => if_neg h) k
theorem ev_some {α β : Type} {a : α} {f : Nat → α → Option β} {r : β} (k : Ev (fun n => f n a) r) : Ev (fun n => (some a).bind (f n)) r :=
  Ev.congr (fun _ => Option.bind_some _ _) k
theorem ev_of {α β : Type} {g : Option α} {a : α} {f : Nat → α → Option β} {r : β} (h : g = some a) (k : Ev (fun n => f n a) r) : Ev (fun n => g.bind (f n)) r := by
  subst h; exact ev_some k
theorem ev_now {α : Type} {g : Option α} {r : α} (h : g = some r) : Ev (fun _ => g) r := ⟨0, fun _ _ => h⟩
theorem toList_eq_iff {a b : ByteArray} : a.toList = b.toList ↔ a = b := by
  constructor
  · intro h
    rw [ByteArray.toList_eq, ByteArray.toList_eq] at h
    exact ByteArray.ext (Array.toList_inj.1 h)
  · rintro rfl; rfl
theorem bt_get (s : ByteArray) (i : Nat) : bt s (i : Int) = (bytesOf s).getD i 0 := by
  have := rd_bytesOf s (i : Int)
  rw [← this]; rfl
theorem bytesOf_drop_cons (s : ByteArray) (i : Nat) (h : i < s.size) : (bytesOf s).drop i = bt s (i : Int) :: (bytesOf s).drop (i + 1) := by
  have hl : i < (bytesOf s).length := by rw [bytesOf_length]; exact h
  rw [List.drop_eq_getElem_cons hl, bt_get, List.getD_eq_getElem?_getD, List.getElem?_eq_getElem hl]; rfl
theorem toList_iff (s : ByteArray) (L : List UInt8) : s.toList = L ↔ bytesOf s = L.map fun b => (b.toNat : Int) := by
  rw [ByteArray.toList_eq]
  unfold bytesOf
  constructor
  · intro h; rw [h]
  · intro h; exact (List.map_inj_right (fun x y hxy => UInt8.toNat_inj.1 (Int.ofNat.inj hxy))).1 h
theorem all_drop (s : ByteArray) (p : Int → Bool) (i : Nat) (h : i < s.size) : ((bytesOf s).drop i).all p = (p (bt s (i : Int)) && ((bytesOf s).drop (i + 1)).all p) := by
  rw [bytesOf_drop_cons s i h, List.all_cons]
theorem all_end (s : ByteArray) (p : Int → Bool) (i : Nat) (h : s.size ≤ i) : ((bytesOf s).drop i).all p = true := by
  rw [List.drop_eq_nil_of_le (by rw [bytesOf_length]; exact h)]; rfl
end Go.Proofs.YtiopcpkfjikfdaaGreatDoor.Str
