import Derived.Test.YtiopcpkfjikfdaaGreatDoorXB0
set_option maxHeartbeats 8000000
set_option maxRecDepth 100000
namespace Go.Proofs.YtiopcpkfjikfdaaGreatDoor.PFnClean
open Go.RowKit Go.Proofs.YtiopcpkfjikfdaaGreatDoorW.PrintWords Go.Proofs.YtiopcpkfjikfdaaGreatDoorW.PrintLast Go.Proofs.YtiopcpkfjikfdaaGreatDoorW.PrintMore
attribute [local go_sem] max2_int min2_int max_two min_two max_three min_three max_four min_four   -- for this text's walks alone
set_option linter.unusedVariables false
set_option linter.unusedSimpArgs false
section
open Go.Proofs.YtiopcpkfjikfdaaGreatDoor.Mth Go.Proofs.YtiopcpkfjikfdaaGreatDoor.Str
theorem l1In_any (a b c : Int) (w : World) : Calls Tryz.prog 48 #[.int .i64 a, .int .i64 b, .int .i64 c] w fun e w' => e = .returned (.bool (rgB a b c)) ∧ Drawn0 w w' := spec_l1In.calls a b c _ w (l1In_eq a b c)
theorem nameS_any (s : ByteArray) (w : World) : Calls Tryz.prog 76 #[.string s] w fun e w' => e = .returned (.bool (nmB s)) ∧ Drawn0 w w' := by
 obtain ⟨K, hK⟩ := name_spec s
 exact spec_NameOk.calls K s _ w (hK K (Nat.le_refl _))
theorem targetS_any (s : ByteArray) (hs : s.size ≤ 1048576) (w : World) : Calls Tryz.prog 75 #[.string s] w fun e w' => e = .returned (.bool (tgB s)) ∧ Drawn0 w w' := by
 obtain ⟨K, hK⟩ := target_spec s (by omega)
 exact spec_l4Target.calls K s _ w (hK K (Nat.le_refl _))
theorem atV_neg (l : List S37) (id : Int) : decide (atV l id < 0) = !decide (inoI l id < l.length) := by
 unfold atV
 by_cases h : inoI l id < l.length
 ·rw [if_pos h, zE h]; simp
 ·rw [if_neg h, zG h]; rfl
def nameAtS (l : List S37) (ds : List S59) (i : Nat) : Bool := nmB (dAt ds i).f0 && ((i == 0 || lessS (dAt ds (i - 1)).f0 (dAt ds i).f0) && (!((dAt ds i).f1 == 1) && decide (inoI l (dAt ds i).f1 < l.length)))
def namesFromS (l : List S37) (ds : List S59) : Nat → Nat → Bool
 | 0, _ => true
 | k + 1, i => nameAtS l ds i && namesFromS l ds k (i + 1)
def plainB (p q : Int) (ds : List S59) : Bool := decide (ds.length = 0) && (p == 0 && q == 0)
def inodeOkS (l : List S37) (x1 x2 x3 x4 p q : Int) (s : ByteArray) (ds : List S59) : Bool :=
 rgB x2 0 2047 && (rgB x3 0 1000 && (rgB x4 0 1000 && (if x1 = 1 then plainB p q ds && decide (s.size ≤ 64) else if x1 = 3 then plainB p q ds && (tgB s && x2 == 511) else if x1 = 2 then decide (s.size = 0) && (decide (ds.length ≤ 12) && (rgB p 0 400 && (rgB q 0 24 && namesFromS l ds ds.length 0))) else false)))
theorem nameAtS_eq (l : List S37) (ds : List S59) (i : Nat) : nameAtS l ds i = nameAtB l ds i := by
 unfold nameAtS nameAtB
 generalize nmB (dAt ds i).f0 = a
 generalize (i == 0 || lessS (dAt ds (i - 1)).f0 (dAt ds i).f0) = b
 generalize ((dAt ds i).f1 == 1) = c
 generalize decide (inoI l (dAt ds i).f1 < l.length) = d
 cases a <;> cases b <;> cases c <;> cases d <;> rfl
theorem namesFromS_eq (l : List S37) (ds : List S59) : ∀ k i, namesFrom l ds k i = (namesFromS l ds k i && decide (ds.length ≤ 12))
 | 0, _ => by rw [namesFrom, namesFromS, Bool.true_and]
 | k + 1, i => by rw [namesFrom, namesFromS, namesFromS_eq l ds k (i + 1), nameAtS_eq, Bool.and_assoc]
theorem inodeOkS_eq (l : List S37) (x1 x2 x3 x4 p q : Int) (s : ByteArray) (ds : List S59) : inodeOkS l x1 x2 x3 x4 p q s ds = inodeOkV l x1 x2 x3 x4 p q s ds := by
 unfold inodeOkS inodeOkV plainB
 congr 1; congr 1; congr 1
 have e0 : decide (0 < ds.length) = !decide (ds.length = 0) := by
  by_cases h : ds.length = 0
  ·rw [zE h, zG (by omega)]; rfl
  ·rw [zG h, zE (by omega)]; rfl
 rw [e0]
 by_cases h2 : x1 = 2
 ·subst h2
  rw [if_neg (by decide), if_neg (by decide), if_pos rfl, if_neg (by decide), if_neg (by decide), if_pos rfl, namesOkB, namesFromS_eq]
  generalize decide (s.size = 0) = a
  generalize decide (ds.length ≤ 12) = b
  generalize rgB p 0 400 = c
  generalize rgB q 0 24 = d
  generalize namesFromS l ds ds.length 0 = e
  cases a <;> cases b <;> cases c <;> cases d <;> cases e <;> rfl
 ·have e2 : (x1 == 2) = false := by simpa using h2
  rw [e2, if_neg h2]
  generalize decide (ds.length = 0) = a
  generalize (p == 0) = b
  generalize (q == 0) = d
  by_cases h1 : x1 = 1
  ·rw [if_pos h1, if_pos h1]
   cases a <;> cases b <;> cases d <;> simp
  ·rw [if_neg h1, if_neg h1]
   by_cases h3 : x1 = 3
   ·rw [if_pos h3, if_pos h3]
    cases a <;> cases b <;> cases d <;> simp
   ·rw [if_neg h3, if_neg h3]
    simp [h2]
theorem inodeS_any (w : World) (nx : Int) (A : Option Addr) (c : Nat) (l : List S37) (hr : Kd.C k37 w A l.length l) (hc : l.length ≤ c) (hsv : volSmall l) (x0 x1 x2 x3 x4 p q : Int) (s : ByteArray) (A6 : Option Addr) (c6 : Nat) (ds : List S59) (hR : Kd.C k59 w A6 ds.length ds) (hS : dSmall ds) (hs : s.size ≤ 1048576) :
  Calls Tryz.prog 49 #[.agg #[.int .i64 nx, .slice A l.length c], .agg #[.int .i64 x0, .int .i64 x1, .int .i64 x2, .int .i64 x3, .int .i64 x4, .string s, .slice A6 ds.length c6, .int .i64 p, .int .i64 q]] w fun e w' =>
   e = .returned (.bool (inodeOkS l x1 x2 x3 x4 p q s ds)) ∧ Below w.heap.size w w' := by
 have hu29 := Tryz.underlying26
 have hu45 := Tryz.underlying37
 have hu68 := Tryz.underlying59
 have hm : ds.length ≤ 9223372036854775807 := hR.2.1
 have hml : l.length ≤ 9223372036854775807 := hr.2.1
 have HT := zM (targetS_any s hs)
 have HAt := zM (fun W (hW : Below w.heap.size w W) id => atS_any nx A c l id W (Kd.C_below hr hW) hc hsv)
 have HR := zM hR
 have HS := zM hS
 clear hr hR hS
 cases r1 : rgB x2 0 2047 with
 | false =>
  have HF := zM (show inodeOkS l x1 x2 x3 x4 p q s ds = false from by unfold inodeOkS plainB; simp [r1])
  clear HT HAt HR HS hs
  go_enter Tryz.func49, Tryz.ntmps49
  go_wp2_with (first | (go_at_call 48; refine (l1In_any _ _ _ _).mono ?_; rintro e w1 ⟨rfl, ⟨n, rfl⟩⟩))
  go_ret
  exact ⟨by rw [HF.out]; first | rfl | simp, by repeat (first | exact Below.refl _ _ | apply zA | apply zN | apply zD)⟩
 | true =>
 cases r2 : rgB x3 0 1000 with
 | false =>
  have HF := zM (show inodeOkS l x1 x2 x3 x4 p q s ds = false from by unfold inodeOkS plainB; simp [r1, r2])
  clear HT HAt HR HS hs
  go_enter Tryz.func49, Tryz.ntmps49
  go_wp2_with (first | (go_at_call 48; refine (l1In_any _ _ _ _).mono ?_; rintro e w1 ⟨rfl, ⟨n, rfl⟩⟩))
  go_ret
  exact ⟨by rw [HF.out]; first | rfl | simp, by repeat (first | exact Below.refl _ _ | apply zA | apply zN | apply zD)⟩
 | true =>
 cases r3 : rgB x4 0 1000 with
 | false =>
  have HF := zM (show inodeOkS l x1 x2 x3 x4 p q s ds = false from by unfold inodeOkS plainB; simp [r1, r2, r3])
  clear HT HAt HR HS hs
  go_enter Tryz.func49, Tryz.ntmps49
  go_wp2_with (first | (go_at_call 48; refine (l1In_any _ _ _ _).mono ?_; rintro e w1 ⟨rfl, ⟨n, rfl⟩⟩))
  go_ret
  exact ⟨by rw [HF.out]; first | rfl | simp, by repeat (first | exact Below.refl _ _ | apply zA | apply zN | apply zD)⟩
 | true =>
 by_cases k2 : x1 = 2
 ·subst k2
  have HF0 := zM (show inodeOkS l 2 x2 x3 x4 p q s ds = (decide (s.size = 0) && (decide (ds.length ≤ 12) && (rgB p 0 400 && (rgB q 0 24 && namesFromS l ds ds.length 0)))) from by unfold inodeOkS; simp [r1, r2, r3])
  have e6i : decide ((ds.length : Int) = 0) = decide (ds.length = 0) := decide_eq_decide.2 (by omega)
  have e6j : ((ds.length : Int) == 0) = decide (ds.length = 0) := by apply Bool.eq_iff_iff.2; simp
  by_cases e0 : s.size = 0
  ·have e1 := nil_forms s e0
   have e2 : (s.toList == ([] : List UInt8)) = true := by rw [e1]; rfl
   have e3 : s.toList.isEmpty = true := by rw [e1]; rfl
   by_cases e12 : ds.length ≤ 12
   ·have e12d : decide (12 < (ds.length : Int)) = false := zG (by omega)
    have e12n : decide (12 < ds.length) = false := zG (by omega)
    cases r5 : rgB p 0 400 with
    | false =>
     have HF := zM (show inodeOkS l 2 x2 x3 x4 p q s ds = false from by rw [HF0.out]; simp [r5])
     clear HT HAt HR HS hs HF0
     cases d1 : decide (ds.length = 0) <;> cases d2 : (p == 0)
     all_goals
      rw [d1] at e6i e6j
      go_enter Tryz.func49, Tryz.ntmps49
      go_wp2_with (go_at_call 48; refine (l1In_any _ _ _ _).mono ?_; rintro e w1 ⟨rfl, ⟨n, rfl⟩⟩)
      go_ret
      exact ⟨by rw [HF.out]; rfl, by repeat (first | exact Below.refl _ _ | apply zA | apply zN | apply zD)⟩
    | true =>
     cases r6 : rgB q 0 24 with
     | false =>
      have HF := zM (show inodeOkS l 2 x2 x3 x4 p q s ds = false from by rw [HF0.out]; simp [r6])
      clear HT HAt HR HS hs HF0
      cases d1 : decide (ds.length = 0) <;> cases d2 : (p == 0)
      all_goals
       rw [d1] at e6i e6j
       go_enter Tryz.func49, Tryz.ntmps49
       go_wp2_with (go_at_call 48; refine (l1In_any _ _ _ _).mono ?_; rintro e w1 ⟨rfl, ⟨n, rfl⟩⟩)
       go_ret
       exact ⟨by rw [HF.out]; rfl, by repeat (first | exact Below.refl _ _ | apply zA | apply zN | apply zD)⟩
     | true =>
      have HF := zM (show inodeOkS l 2 x2 x3 x4 p q s ds = namesFromS l ds ds.length 0 from by rw [HF0.out]; simp [e0, e12, r5, r6])
      clear HF0 HT hs e0
      cases d1 : decide (ds.length = 0) <;> cases d2 : (p == 0)
      all_goals
       rw [d1] at e6i e6j
       go_enter Tryz.func49, Tryz.ntmps49
       go_wp2_with (go_at_call 48; refine (l1In_any _ _ _ _).mono ?_; rintro e w1 ⟨rfl, ⟨n, rfl⟩⟩)
       generalize hq : (w.alloc (.cells #[.int .i64 nx, .slice A l.length c] 26)).alloc (.cells #[.int .i64 x0, .int .i64 2, .int .i64 x2, .int .i64 x3, .int .i64 x4, .string s, .slice A6 ds.length c6, .int .i64 p, .int .i64 q] 37) = w1
       have HB1 := zM (show Below w.heap.size w w1 from by rw [← hq]; exact zA (zA (Below.refl _ _) _) _)
       have HK0 := zM (show w1.heap[w.heap.size]? = some (.cells #[.int .i64 nx, .slice A l.length c] 26 (0, 0)) from by rw [← hq]; exact zB (heap_alloc_new w _) _)
       have HK1 := zM (show w1.heap[w.heap.size + 1]? = some (.cells #[.int .i64 x0, .int .i64 2, .int .i64 x2, .int .i64 x3, .int .i64 x4, .string s, .slice A6 ds.length c6, .int .i64 p, .int .i64 q] 37 (0, 0)) from by
        rw [← hq]
        have h1 := heap_alloc_new (w.alloc (.cells #[.int .i64 nx, .slice A l.length c] 26)) (.cells #[.int .i64 x0, .int .i64 2, .int .i64 x2, .int .i64 x3, .int .i64 x4, .string s, .slice A6 ds.length c6, .int .i64 p, .int .i64 q] 37)
        rw [show (w.alloc (.cells #[.int .i64 nx, .slice A l.length c] 26)).heap.size = w.heap.size + 1 from by simp] at h1
        exact h1)
       have HR1 := zM (Kd.C_below HR.out HB1.out)
       have HA1 := zM (fun W (hW : Below w1.heap.size w1 W) id => HAt.out W (zH HB1.out HB1.out.size hW) id)
       generalize w.heap.size + 1 = gb1 at HK1 ⊢
       obtain ⟨gb0, hgb⟩ : ∃ q, q = w.heap.size := ⟨_, rfl⟩
       rw [← hgb] at HK0 ⊢
       have HGB := zM hgb
       clear hq hgb HR HAt r1 r2 r3 r5 r6
       go_loopg [6] ds.length (fun kq v6 w' => ∃ (x : Nat), v6 = .int .i64 (x : Int) ∧ Aside0 (x + kq = ds.length ∧ namesFromS l ds kq x = namesFromS l ds ds.length 0) ∧ Aside0 (Below w1.heap.size w1 w'))
       case atStart => exact ⟨0, rfl, ⟨by omega, rfl⟩, ⟨by repeat (first | exact Below.refl _ _ | apply zA | apply zN | apply zD)⟩⟩
       case round =>
        obtain ⟨x, rfl, HX, HB⟩ := hrel
        have hl : gk ≤ ds.length ∧ x ≤ ds.length := by have := HX.out.1; omega
        have hK6 : wr.cell? ⟨gb1, 6, none⟩ = some (.slice A6 ds.length c6) := (HB.out.cell (p := ⟨gb1, 6, none⟩) (blk_lt HK1.out)).trans ((zC HK1.out 6).trans rfl)
        by_cases hlt : x < ds.length
        ·cases gk with
         | zero => have := HX.out.1; omega
         | succ k1 =>
         obtain ⟨adN, eA, hy0, hy1⟩ := dir_at HR1.out HB.out x hlt
         subst eA
         obtain ⟨sn, hsn⟩ : ∃ q, q = ds[x].f0 := ⟨_, rfl⟩
         obtain ⟨v, hv⟩ : ∃ q, q = ds[x].f1 := ⟨_, rfl⟩
         rw [← hsn] at hy0
         rw [← hv] at hy1
         have HNF := zM (show namesFromS l ds (k1 + 1) x = (nmB sn && ((x == 0 || lessS (dAt ds (x - 1)).f0 sn) && (!(v == 1) && decide (inoI l v < l.length))) && namesFromS l ds k1 (x + 1)) from by
          rw [namesFromS, nameAtS, dAt_eq ds x hlt, ← hsn, ← hv])
         obtain ⟨sp, hsp⟩ : ∃ q, q = (dAt ds (x - 1)).f0 := ⟨_, rfl⟩
         rw [← hsp] at HNF
         have HN0 := nameS_any sn
         have HI0 := fun (W : World) (hW : Below w1.heap.size w1 W) => HA1.out W hW v
         have HAv := zM (atV_neg l v)
         generalize atV l v = av at HI0 HAv
         have HJ := zM (show 0 < x → ∃ j : Int, wrap64 ((x : Int) - 1) = j ∧ 0 ≤ j ∧ j < (ds.length : Int) ∧ ∀ W, Below w1.heap.size w1 W → ∃ ad, some adN = some ad ∧ W.cell? (ad.add (j.toNat * 2)) = some (.string sp) from fun hx => ⟨((x - 1 : Nat) : Int), by unfold wrap64; omega, by omega, by omega, fun W hW => by
          obtain ⟨ad, e1, h1, -⟩ := dir_at HR1.out hW (x - 1) (by omega)
          rw [← dAt_eq ds (x - 1) (by omega), ← hsp] at h1
          exact ⟨ad, e1, by rw [Int.toNat_natCast]; exact h1⟩⟩)
         clear hl hsn hv hsp
         go_wp2
         generalize hq : wr.alloc (.cells #[.string sn, .int .i64 v] 59) = wi
         have HBi := zM (show Below w1.heap.size w1 wi from by rw [← hq]; exact zA HB.out _)
         have hd0 : ∀ y : Grow wi, y.W.cell? ⟨wr.heap.size, 0, none⟩ = some (.string sn) := fun y => y.cell (by rw [← hq]; exact (zC (heap_alloc_new wr _) 0).trans rfl)
         have hd1 : ∀ y : Grow wi, y.W.cell? ⟨wr.heap.size, 1, none⟩ = some (.int .i64 v) := fun y => y.cell (by rw [← hq]; exact (zC (heap_alloc_new wr _) 1).trans rfl)
         have hn6 : ∀ y : Grow wi, y.W.cell? ⟨gb1, 6, none⟩ = some (.slice (some adN) ds.length c6) := fun y => y.cell ((HBi.out.cell (p := ⟨gb1, 6, none⟩) (blk_lt HK1.out)).trans ((zC HK1.out 6).trans rfl))
         have hv0 : ∀ y : Grow wi, y.W.cell? ⟨gb0, 0, none⟩ = some (.int .i64 nx) := fun y => y.cell ((HBi.out.cell (p := ⟨gb0, 0, none⟩) (blk_lt HK0.out)).trans ((zC HK0.out 0).trans rfl))
         have hv1 : ∀ y : Grow wi, y.W.cell? ⟨gb0, 1, none⟩ = some (.slice A l.length c) := fun y => y.cell ((HBi.out.cell (p := ⟨gb0, 1, none⟩) (blk_lt HK0.out)).trans ((zC HK0.out 1).trans rfl))
         generalize wr.heap.size = gd at hd0 hd1 ⊢
         clear hy0 hy1 HB hq hK6
         have HI1 := zM (fun (y : Grow wi) => HI0 y.W (zH HBi.out HBi.out.size y.hb))
         clear HI0
         cases b1 : nmB sn with
         | false =>
          have HG := zM (show namesFromS l ds (k1 + 1) x = false from by rw [HNF.out, b1]; rfl)
          rw [b1] at HN0
          have HN := zM HN0
          have HI := HI1
          clear HN0 HI1 b1
          refine wp_region_grow (by kernel_rfl) (by kernel_rfl) ?_
          repeat (go_big_quiet_step (first | (go_at_call 76; exact grow_draw (HN.out _)) | (go_at_call 31; exact grow_call (HI.out _))))
          refine wpQuiet_nil ?_
          rintro _ ⟨yw, rfl⟩
          have HBy := zM (zH HBi.out HBi.out.size yw.hb)
          generalize yw.W = wy at HBy ⊢
          go_wp2
          go_ret
          exact ⟨by rw [HF.out, ← HX.out.2, HG.out]; rfl, zH HB1.out HB1.out.size HBy.out⟩
         | true =>
          rw [b1] at HN0
          have HN := zM HN0
          clear HN0
          by_cases b4 : 0 < x
          ·obtain ⟨j, hj, hj0, hj1, hjc⟩ := HJ.out b4
           have hjw : IntKind.i64.wrap ((x : Int) - 1) = j := (i64_w _).trans hj
           have b4d : decide (0 < x) = true := zE b4
           have b4i : decide (0 < (x : Int)) = true := zE (by omega)
           have hp0 : ∀ y : Grow wi, y.W.cell? (adN.add (j.toNat * 2)) = some (.string sp) := fun y => by
            obtain ⟨ad, e1, h1⟩ := hjc y.W (zH HBi.out HBi.out.size y.hb)
            injection e1 with e1
            rw [e1]; exact h1
           replace hj0 := eq_true hj0
           replace hj1 := eq_true hj1
           have hx0 : (x == 0) = false := by rw [beq_eq_false_iff_ne]; omega
           cases b5 : lessS sp sn with
           | false =>
            have HG := zM (show namesFromS l ds (k1 + 1) x = false from by rw [HNF.out, b1, hx0, b5]; rfl)
            have b5' : Op.bytesLess sp.toList sn.toList = false := b5
            have HI := HI1
            clear HI1 b1 hx0 b4 hj hjc b5
            refine wp_region_grow (by kernel_rfl) (by kernel_rfl) ?_
            repeat (go_big_quiet_step (first | (go_at_call 76; exact grow_draw (HN.out _)) | (go_at_call 31; exact grow_call (HI.out _))))
            refine wpQuiet_nil ?_
            rintro _ ⟨yw, rfl⟩
            have HBy := zM (zH HBi.out HBi.out.size yw.hb)
            generalize yw.W = wy at HBy ⊢
            go_wp2
            go_ret
            exact ⟨by rw [HF.out, ← HX.out.2, HG.out]; rfl, zH HB1.out HB1.out.size HBy.out⟩
           | true =>
            have b5' : Op.bytesLess sp.toList sn.toList = true := b5
            cases b2 : (v == 1) with
            | true =>
             have HG := zM (show namesFromS l ds (k1 + 1) x = false from by rw [HNF.out, b1, hx0, b5, b2]; rfl)
             have HI := HI1
             clear HI1 b1 hx0 b4 hj hjc b5
             refine wp_region_grow (by kernel_rfl) (by kernel_rfl) ?_
             repeat (go_big_quiet_step (first | (go_at_call 76; exact grow_draw (HN.out _)) | (go_at_call 31; exact grow_call (HI.out _))))
             refine wpQuiet_nil ?_
             rintro _ ⟨yw, rfl⟩
             have HBy := zM (zH HBi.out HBi.out.size yw.hb)
             generalize yw.W = wy at HBy ⊢
             go_wp2
             go_ret
             exact ⟨by rw [HF.out, ← HX.out.2, HG.out]; rfl, zH HB1.out HB1.out.size HBy.out⟩
            | false =>
             cases b3 : decide (inoI l v < l.length) with
             | false =>
              have b3' : decide (av < 0) = true := by rw [HAv.out, b3]; rfl
              have HG := zM (show namesFromS l ds (k1 + 1) x = false from by rw [HNF.out, b1, hx0, b5, b2, b3]; rfl)
              have HI := HI1
              clear HI1 b1 b3 hx0 b4 hj hjc b5
              refine wp_region_grow (by kernel_rfl) (by kernel_rfl) ?_
              repeat (go_big_quiet_step (first | (go_at_call 76; exact grow_draw (HN.out _)) | (go_at_call 31; exact grow_call (HI.out _))))
              refine wpQuiet_nil ?_
              rintro _ ⟨yw, rfl⟩
              have HBy := zM (zH HBi.out HBi.out.size yw.hb)
              generalize yw.W = wy at HBy ⊢
              go_wp2
              go_ret
              exact ⟨by rw [HF.out, ← HX.out.2, HG.out]; rfl, zH HB1.out HB1.out.size HBy.out⟩
             | true =>
              have b3' : decide (av < 0) = false := by rw [HAv.out, b3]; rfl
              have HG := zM (show namesFromS l ds (k1 + 1) x = namesFromS l ds k1 (x + 1) from by rw [HNF.out, b1, hx0, b5, b2, b3]; rfl)
              have HI := HI1
              clear HI1 b1 b3 hx0 b4 hj hjc b5
              refine wp_region_grow (by kernel_rfl) (by kernel_rfl) ?_
              repeat (go_big_quiet_step (first | (go_at_call 76; exact grow_draw (HN.out _)) | (go_at_call 31; exact grow_call (HI.out _))))
              refine wpQuiet_nil ?_
              rintro _ ⟨yw, rfl⟩
              have HBy := zM (zH HBi.out HBi.out.size yw.hb)
              generalize yw.W = wy at HBy ⊢
              go_wp2
              go_roundg k1
              case measure => omega
              case rel => exact ⟨x + 1, by go_num, ⟨by have := HX.out.1; omega, by rw [← HX.out.2, HG.out]⟩, HBy⟩
          ·have hx0 : x = 0 := by omega
           subst hx0
           cases b2 : (v == 1) with
           | true =>
            have HG := zM (show namesFromS l ds (k1 + 1) 0 = false from by rw [HNF.out, b1, b2]; rfl)
            have HI := HI1
            clear HI1 b1 
            refine wp_region_grow (by kernel_rfl) (by kernel_rfl) ?_
            repeat (go_big_quiet_step (first | (go_at_call 76; exact grow_draw (HN.out _)) | (go_at_call 31; exact grow_call (HI.out _))))
            refine wpQuiet_nil ?_
            rintro _ ⟨yw, rfl⟩
            have HBy := zM (zH HBi.out HBi.out.size yw.hb)
            generalize yw.W = wy at HBy ⊢
            go_wp2
            go_ret
            exact ⟨by rw [HF.out, ← HX.out.2, HG.out]; rfl, zH HB1.out HB1.out.size HBy.out⟩
           | false =>
            cases b3 : decide (inoI l v < l.length) with
            | false =>
             have b3' : decide (av < 0) = true := by rw [HAv.out, b3]; rfl
             have HG := zM (show namesFromS l ds (k1 + 1) 0 = false from by rw [HNF.out, b1, b2, b3]; rfl)
             have HI := HI1
             clear HI1 b1 b3 
             refine wp_region_grow (by kernel_rfl) (by kernel_rfl) ?_
             repeat (go_big_quiet_step (first | (go_at_call 76; exact grow_draw (HN.out _)) | (go_at_call 31; exact grow_call (HI.out _))))
             refine wpQuiet_nil ?_
             rintro _ ⟨yw, rfl⟩
             have HBy := zM (zH HBi.out HBi.out.size yw.hb)
             generalize yw.W = wy at HBy ⊢
             go_wp2
             go_ret
             exact ⟨by rw [HF.out, ← HX.out.2, HG.out]; rfl, zH HB1.out HB1.out.size HBy.out⟩
            | true =>
             have b3' : decide (av < 0) = false := by rw [HAv.out, b3]; rfl
             have HG := zM (show namesFromS l ds (k1 + 1) 0 = namesFromS l ds k1 (0 + 1) from by rw [HNF.out, b1, b2, b3]; rfl)
             have HI := HI1
             clear HI1 b1 b3 
             refine wp_region_grow (by kernel_rfl) (by kernel_rfl) ?_
             repeat (go_big_quiet_step (first | (go_at_call 76; exact grow_draw (HN.out _)) | (go_at_call 31; exact grow_call (HI.out _))))
             refine wpQuiet_nil ?_
             rintro _ ⟨yw, rfl⟩
             have HBy := zM (zH HBi.out HBi.out.size yw.hb)
             generalize yw.W = wy at HBy ⊢
             go_wp2
             go_roundg k1
             case measure => omega
             case rel => exact ⟨0 + 1, by go_num, ⟨by have := HX.out.1; omega, by rw [← HX.out.2, HG.out]⟩, HBy⟩
        ·have HG := zM (show namesFromS l ds ds.length 0 = true from by
          have h1 := HX.out
          have e : gk = 0 := by omega
          rw [e] at h1; exact h1.2.symm)
         clear hl
         go_wp2
         go_ret
         exact ⟨by rw [HF.out, HG.out]; rfl, zH HB1.out HB1.out.size HB.out⟩
   ·have e12d : decide (12 < (ds.length : Int)) = true := zE (by omega)
    have e12n : decide (12 < ds.length) = true := zE (by omega)
    have HF := zM (show inodeOkS l 2 x2 x3 x4 p q s ds = false from by rw [HF0.out]; simp [e12])
    clear HT HAt HR HS hs HF0
    cases d1 : decide (ds.length = 0) <;> cases d2 : (p == 0)
    all_goals
     rw [d1] at e6i e6j
     go_enter Tryz.func49, Tryz.ntmps49
     go_wp2_with (go_at_call 48; refine (l1In_any _ _ _ _).mono ?_; rintro e w1 ⟨rfl, ⟨n, rfl⟩⟩)
     go_ret
     exact ⟨by rw [HF.out]; rfl, by repeat (first | exact Below.refl _ _ | apply zA | apply zN | apply zD)⟩
  ·have e1 := nil_not s e0
   have e2 : (s.toList == ([] : List UInt8)) = false := by rw [beq_eq_false_iff_ne]; exact e1
   have e3 : s.toList.isEmpty = false := by cases h : s.toList with
    | nil => exact absurd h e1
    | cons a b => rfl
   have HF := zM (show inodeOkS l 2 x2 x3 x4 p q s ds = false from by rw [HF0.out]; simp [e0])
   clear HT HAt HR HS hs HF0
   cases d1 : decide (ds.length = 0) <;> cases d2 : (p == 0)
   all_goals
    rw [d1] at e6i e6j
    go_enter Tryz.func49, Tryz.ntmps49
    go_wp2_with (go_at_call 48; refine (l1In_any _ _ _ _).mono ?_; rintro e w1 ⟨rfl, ⟨n, rfl⟩⟩)
    go_ret
    exact ⟨by rw [HF.out]; rfl, by repeat (first | exact Below.refl _ _ | apply zA | apply zN | apply zD)⟩
 ·have k2b : (x1 == 2) = false := by simpa using k2
  have e6i : decide ((ds.length : Int) = 0) = decide (ds.length = 0) := decide_eq_decide.2 (by omega)
  have e6j : ((ds.length : Int) == 0) = decide (ds.length = 0) := by apply Bool.eq_iff_iff.2; simp
  have HP : Aside0 (plainB p q ds = (decide (ds.length = 0) && (p == 0 && q == 0))) := ⟨rfl⟩
  by_cases k1 : x1 = 1
  ·subst k1
   clear k2
   cases d1 : decide (ds.length = 0) <;> cases d2 : (p == 0) <;> cases d3 : (q == 0)
   all_goals
    have HF := zM (show inodeOkS l 1 x2 x3 x4 p q s ds = (plainB p q ds && decide ((s.size : Int) ≤ 64)) from by unfold inodeOkS; simp only [r1, r2, r3, Bool.true_and, if_true]; congr 1; exact decide_eq_decide.2 (by omega))
    rw [d1] at e6i e6j
    clear HT HAt HR HS hs
    go_enter Tryz.func49, Tryz.ntmps49
    go_wp2_with (go_at_call 48; refine (l1In_any _ _ _ _).mono ?_; rintro e w1 ⟨rfl, ⟨n, rfl⟩⟩)
    go_ret
    exact ⟨by rw [HF.out, HP.out, d1, d2, d3]; first | rfl | simp, by repeat (first | exact Below.refl _ _ | apply zA | apply zN | apply zD)⟩
  ·have k1b : (x1 == 1) = false := by simpa using k1
   by_cases k3 : x1 = 3
   ·subst k3
    cases d1 : decide (ds.length = 0) <;> cases d2 : (p == 0) <;> cases d3 : (q == 0) <;> cases t1 : tgB s
    all_goals
     have HF := zM (show inodeOkS l 3 x2 x3 x4 p q s ds = (plainB p q ds && (tgB s && x2 == 511)) from by unfold inodeOkS; simp [r1, r2, r3])
     rw [d1] at e6i e6j
     rw [t1] at HT
     clear HAt HR HS hs k2 k1
     go_enter Tryz.func49, Tryz.ntmps49
     go_wp2_with (first | (go_at_call 48; refine (l1In_any _ _ _ _).mono ?_; rintro e w1 ⟨rfl, ⟨n, rfl⟩⟩) | (go_at_call 75; refine (HT.out _).mono ?_; rintro e w1 ⟨rfl, ⟨n, rfl⟩⟩))
     go_ret
     exact ⟨by rw [HF.out, HP.out, d1, d2, d3, t1]; first | rfl | simp, by repeat (first | exact Below.refl _ _ | apply zA | apply zN | apply zD)⟩
   ·have k3b : (x1 == 3) = false := by simpa using k3
    cases d1 : decide (ds.length = 0) <;> cases d2 : (p == 0) <;> cases d3 : (q == 0)
    all_goals
     have HF := zM (show inodeOkS l x1 x2 x3 x4 p q s ds = false from by unfold inodeOkS; simp [k1, k2, k3])
     rw [d1] at e6i e6j
     clear HT HAt HR HS hs k2 k1 k3
     go_enter Tryz.func49, Tryz.ntmps49
     go_wp2_with (go_at_call 48; refine (l1In_any _ _ _ _).mono ?_; rintro e w1 ⟨rfl, ⟨n, rfl⟩⟩)
     go_ret
     exact ⟨by rw [HF.out]; first | rfl | simp, by repeat (first | exact Below.refl _ _ | apply zA | apply zN | apply zD)⟩
end
section
open Go.Proofs.YtiopcpkfjikfdaaGreatDoor.Mth Go.Proofs.YtiopcpkfjikfdaaGreatDoor.Str
def reachAtS (l : List S37) (i : Nat) : Bool := (belowBits l 1).getD i false && !((iAt l i).f1 == 2 && !(namedN l (iAt l i).f0 == 1))
def endS (l : List S37) : Bool := decide (totalN l ≤ 400) && !(overFrom l l.length 0)
def reachFromS (l : List S37) : Nat → Nat → Bool
 | 0, _ => endS l
 | k + 1, i => reachAtS l i && reachFromS l k (i + 1)
def inosFromS (nx : Int) (l : List S37) : Nat → Nat → Bool
 | 0, _ => reachFromS l (l.length - 1) 1
 | k + 1, i => inoAtB nx l i && inosFromS nx l k (i + 1)
def volOkS (nx : Int) (l : List S37) : Bool := rgB nx 2 100000 && (rgB (l.length : Int) 1 24 && ((iAt l 0).f0 == 1 && ((iAt l 0).f1 == 2 && inosFromS nx l l.length 0)))
theorem namedS_any (nx : Int) (A : Option Addr) (c : Nat) (l : List S37) (id : Int) (w : World) (hr : Kd.C k37 w A l.length l) (hc : l.length ≤ c) (hs : volSmall l) : Calls Tryz.prog 51 #[.agg #[.int .i64 nx, .slice A l.length c], .int .i64 id] w fun e w' => e = .returned (.int .i64 ((namedN l id : Nat) : Int)) ∧ Below w.heap.size w w' := by
 obtain ⟨K, hK⟩ := named_ev nx l hs id
 exact spec_l4Named.calls K nx A c l id _ w hr hc (hK K (Nat.le_refl _))
theorem bytesS_any (nx : Int) (A : Option Addr) (c : Nat) (l : List S37) (w : World) (hr : Kd.C k37 w A l.length l) (hc : l.length ≤ c) (hs : volSmall l) : Calls Tryz.prog 52 #[.agg #[.int .i64 nx, .slice A l.length c]] w fun e w' => e = .returned (.int .i64 ((totalN l : Nat) : Int)) ∧ Below w.heap.size w w' := by
 obtain ⟨K, hK⟩ := bytes_ev nx l hs
 exact spec_l4Bytes.calls K nx A c l _ w hr hc (hK K (Nat.le_refl _))
theorem volOkS_any (w : World) (nx : Int) (A : Option Addr) (c : Nat) (l : List S37) (hr : Kd.C k37 w A l.length l) (hc : l.length ≤ c) (hs : volSmall l) :
  Calls Tryz.prog 19 #[.agg #[.int .i64 nx, .slice A l.length c]] w fun e w' => e = .returned (.bool (volOkS nx l)) ∧ Below w.heap.size w w' := by
 have hu29 := Tryz.underlying26
 have hu45 := Tryz.underlying37
 have hm : l.length ≤ 9223372036854775807 := hr.2.1
 have HV0 := zM (show VolAt (w.alloc (.cells #[.int .i64 nx, .slice A l.length c] 26)) w.heap.size nx A c l from ⟨heap_alloc_new w _, Kd.C_below hr (zA (Below.refl _ _) _), hc, hs⟩)
 cases r1 : rgB nx 2 100000 with
 | false =>
  have HF := zM (show volOkS nx l = false from by unfold volOkS; simp [r1])
  clear HV0 hr hc hs
  go_enter Tryz.func19, Tryz.ntmps19
  go_wp2_with (go_at_call 48; refine (l1In_any _ _ _ _).mono ?_; rintro e w1 ⟨rfl, ⟨n, rfl⟩⟩)
  go_ret
  exact ⟨by rw [HF.out]; rfl, (by repeat (first | exact Below.refl _ _ | apply zA | apply zN | apply zD))⟩
 | true =>
 cases r2 : rgB (l.length : Int) 1 24 with
 | false =>
  have HF := zM (show volOkS nx l = false from by unfold volOkS; simp [r1, r2])
  clear HV0 hr hc hs
  go_enter Tryz.func19, Tryz.ntmps19
  go_wp2_with (go_at_call 48; refine (l1In_any _ _ _ _).mono ?_; rintro e w1 ⟨rfl, ⟨n, rfl⟩⟩)
  go_ret
  exact ⟨by rw [HF.out]; rfl, (by repeat (first | exact Below.refl _ _ | apply zA | apply zN | apply zD))⟩
 | true =>
 have hl1 : 1 ≤ l.length ∧ l.length ≤ 24 := by have h1 := zO r2; omega
 have hnx : 2 ≤ nx ∧ nx ≤ 100000 := zO r1
 obtain ⟨ad, A6, c6, eA, hx0, hx1, -, -, -, -, -, -, -, -, -⟩ := at_T37 hr 0 (by omega) (by omega)
 subst eA
 have hz : ad.add 0 = ad := by cases ad; simp [Addr.add]
 have hz2 : rd_T37 l 0 = iAt l 0 := rfl
 rw [show (0 : Int).toNat * 9 = 0 from rfl, hz, hz2] at hx0 hx1
 replace hx0 := pw_cell_below (zA (Below.refl w.heap.size w) (.cells #[.int .i64 nx, .slice (some ad) l.length c] 26)) hx0
 replace hx1 := pw_cell_below (zA (Below.refl w.heap.size w) (.cells #[.int .i64 nx, .slice (some ad) l.length c] 26)) hx1
 have hp0 : (0 < l.length) = True := eq_true (by omega)
 have hp1 : ((0 : Int) < (l.length : Int)) = True := eq_true (by omega)
 clear hz hz2
 cases r3 : ((iAt l 0).f0 == 1) with
 | false =>
  have r3n : ((iAt l 0).f0 != 1) = true := by rw [bne, r3]; rfl
  have HF := zM (show volOkS nx l = false from by unfold volOkS; simp [r1, r2, r3])
  clear HV0 hr hc hs hl1 hnx
  go_enter Tryz.func19, Tryz.ntmps19
  go_wp2_with (go_at_call 48; refine (l1In_any _ _ _ _).mono ?_; rintro e w1 ⟨rfl, ⟨n, rfl⟩⟩)
  go_ret
  exact ⟨by rw [HF.out]; rfl, (by repeat (first | exact Below.refl _ _ | apply zA | apply zN | apply zD))⟩
 | true =>
 have r3n : ((iAt l 0).f0 != 1) = false := by rw [bne, r3]; rfl
 cases r4 : ((iAt l 0).f1 == 2) with
 | false =>
  have r4n : ((iAt l 0).f1 != 2) = true := by rw [bne, r4]; rfl
  have HF := zM (show volOkS nx l = false from by unfold volOkS; simp [r1, r2, r3, r4])
  clear HV0 hr hc hs hl1 hnx
  go_enter Tryz.func19, Tryz.ntmps19
  go_wp2_with (go_at_call 48; refine (l1In_any _ _ _ _).mono ?_; rintro e w1 ⟨rfl, ⟨n, rfl⟩⟩)
  go_ret
  exact ⟨by rw [HF.out]; rfl, (by repeat (first | exact Below.refl _ _ | apply zA | apply zN | apply zD))⟩
 | true =>
 have r4n : ((iAt l 0).f1 != 2) = false := by rw [bne, r4]; rfl
 have HF := zM (show volOkS nx l = inosFromS nx l l.length 0 from by unfold volOkS; simp [r1, r2, r3, r4])
 have HL1 := zM hl1
 have HNX := zM hnx
 clear hr hc hs hl1 hnx
 go_enter Tryz.func19, Tryz.ntmps19
 go_wp2_with (go_at_call 48; refine (l1In_any _ _ _ _).mono ?_; rintro e w1 ⟨rfl, ⟨n, rfl⟩⟩)
 have HBw := zM (zA (Below.refl w.heap.size w) (.cells #[.int .i64 nx, .slice (some ad) l.length c] 26))
 generalize w.alloc (.cells #[.int .i64 nx, .slice (some ad) l.length c] 26) = w1 at HV0 HBw hx0 hx1 ⊢
 generalize w.heap.size = gb at HV0 ⊢
 have HSm := zM HV0.out.small
 clear r2 hx0 hx1 hp0 hp1 r3 r3n r4 r4n
 have HF2 := zM HF.out.symm
 clear HF
 go_loopg [3] l.length (fun kq v38 w' => ∃ (x : Nat), v38 = .int .i64 (x : Int) ∧ Aside0 (x + kq = l.length ∧ inosFromS nx l kq x = volOkS nx l) ∧ Aside0 (Below w1.heap.size w1 w'))
 case atStart => exact ⟨0, rfl, ⟨by omega, HF2.out⟩, ⟨by repeat (first | exact Below.refl _ _ | apply zN)⟩⟩
 case round =>
  obtain ⟨x, rfl, HX, HB⟩ := hrel
  have hcv := (HV0.out.below HB.out).c1
  have hl : gk ≤ l.length ∧ x ≤ l.length := by have := HX.out.1; omega
  by_cases hlt : x < l.length
  ·cases gk with
   | zero => have := HX.out.1; omega
   | succ k1 =>
   obtain ⟨ad2, A6, c6, eA, hx0, hx1, hx2, hx3, hx4, hx5, hx6, hx7, hx8, hl6, hi6⟩ := ino_at HV0.out HB.out x hlt
   obtain rfl : ad = ad2 := by injection eA
   obtain ⟨xi, hxi⟩ : ∃ q, q = l[x] := ⟨_, rfl⟩
   have hxm : xi ∈ l := hxi ▸ List.getElem_mem hlt
   have HSx := zM (show dSmall xi.f6 ∧ xi.f5.size ≤ 1048576 from ⟨⟨HSm.out.2.1 _ hxm, HSm.out.2.2.2 _ hxm⟩, HSm.out.2.2.1 _ hxm⟩)
   rw [← hxi] at hx0 hx1 hx2 hx3 hx4 hx5 hx6 hx7 hx8 hl6 hi6
   have HNF := zM (show inosFromS nx l (k1 + 1) x = (rgB xi.f0 1 (nx - 1) && ((x == 0 || decide ((iAt l (x - 1)).f0 < xi.f0)) && inodeOkB l xi) && inosFromS nx l k1 (x + 1)) from by
    rw [inosFromS, inoAtB, iAt_eq l x hlt, ← hxi])
   obtain ⟨pf, hpf⟩ : ∃ q, q = (iAt l (x - 1)).f0 := ⟨_, rfl⟩
   rw [← hpf] at HNF
   have HJ := zM (show 0 < x → ∃ j : Int, wrap64 ((x : Int) - 1) = j ∧ 0 ≤ j ∧ j < (l.length : Int) ∧ ∀ W, Below w1.heap.size w1 W → W.cell? (ad.add (j.toNat * 9)) = some (.int .i64 pf) from fun hx => ⟨((x - 1 : Nat) : Int), by unfold wrap64; omega, by omega, by omega, fun W hW => by
    obtain ⟨ad3, -, -, e1, h1, -⟩ := ino_at HV0.out hW (x - 1) (by omega)
    obtain rfl : ad = ad3 := by injection e1
    rw [← iAt_eq l (x - 1) (by omega), ← hpf] at h1
    rw [Int.toNat_natCast]; exact h1⟩)
   have HI0 := zM (fun (W : World) (hW : Below w1.heap.size w1 W) => by have h1 := inodeS_any W nx (some ad) c l (HV0.out.below hW).row HV0.out.cap HV0.out.small xi.f0 xi.f1 xi.f2 xi.f3 xi.f4 xi.f7 xi.f8 xi.f5 A6 c6 xi.f6 (Kd.C_below hi6 hW) HSx.out.1 HSx.out.2; rw [inodeOkS_eq] at h1; exact h1)
   obtain ⟨nq, hnq⟩ : ∃ q, q = nx - 1 := ⟨_, rfl⟩
   have hnw : IntKind.i64.wrap (nx - 1) = nq := by rw [hnq, i64_w]; unfold wrap64; have := HNX.out; omega
   rw [← hnq] at HNF
   have HIB : inodeOkB l xi = inodeOkV l xi.f1 xi.f2 xi.f3 xi.f4 xi.f7 xi.f8 xi.f5 xi.f6 := rfl
   rw [HIB] at HNF
   have hmN : xi.f6.length ≤ 9223372036854775807 := hi6.2.1
   clear HIB hnq hpf hxi hxm hi6 hl6 hl eA
   obtain ⟨f0, f1, f2, f3, f4, f5, f6, f7, f8⟩ := xi
   dsimp only at hx0 hx1 hx2 hx3 hx4 hx5 hx6 hx7 hx8 HNF HI0 hmN
   have HW := fun W => l1In_any f0 1 nq W
   go_wp2
   generalize hq : wr.alloc (.cells #[.int .i64 f0, .int .i64 f1, .int .i64 f2, .int .i64 f3, .int .i64 f4, .string f5, .slice A6 f6.length c6, .int .i64 f7, .int .i64 f8] 37) = wi
   have HBi := zM (show Below w1.heap.size w1 wi from by rw [← hq]; exact zA HB.out _)
   have HBX := zM (show wi.heap[wr.heap.size]? = some (.cells #[.int .i64 f0, .int .i64 f1, .int .i64 f2, .int .i64 f3, .int .i64 f4, .string f5, .slice A6 f6.length c6, .int .i64 f7, .int .i64 f8] 37 (0, 0)) from by rw [← hq]; exact heap_alloc_new wr _)
   generalize wr.heap.size = gd at HBX ⊢
   have hd0 : ∀ y : Grow wi, y.W.cell? ⟨gd, 0, none⟩ = some (.int .i64 f0) := fun y => y.cell ((zC HBX.out 0).trans rfl)
   have hd1 : ∀ y : Grow wi, y.W.cell? ⟨gd, 1, none⟩ = some (.int .i64 f1) := fun y => y.cell ((zC HBX.out 1).trans rfl)
   have hd2 : ∀ y : Grow wi, y.W.cell? ⟨gd, 2, none⟩ = some (.int .i64 f2) := fun y => y.cell ((zC HBX.out 2).trans rfl)
   have hd3 : ∀ y : Grow wi, y.W.cell? ⟨gd, 3, none⟩ = some (.int .i64 f3) := fun y => y.cell ((zC HBX.out 3).trans rfl)
   have hd4 : ∀ y : Grow wi, y.W.cell? ⟨gd, 4, none⟩ = some (.int .i64 f4) := fun y => y.cell ((zC HBX.out 4).trans rfl)
   have hd5 : ∀ y : Grow wi, y.W.cell? ⟨gd, 5, none⟩ = some (.string f5) := fun y => y.cell ((zC HBX.out 5).trans rfl)
   have hd6 : ∀ y : Grow wi, y.W.cell? ⟨gd, 6, none⟩ = some (.slice A6 f6.length c6) := fun y => y.cell ((zC HBX.out 6).trans rfl)
   have hd7 : ∀ y : Grow wi, y.W.cell? ⟨gd, 7, none⟩ = some (.int .i64 f7) := fun y => y.cell ((zC HBX.out 7).trans rfl)
   have hd8 : ∀ y : Grow wi, y.W.cell? ⟨gd, 8, none⟩ = some (.int .i64 f8) := fun y => y.cell ((zC HBX.out 8).trans rfl)
   have hv0 : ∀ y : Grow wi, y.W.cell? ⟨gb, 0, none⟩ = some (.int .i64 nx) := fun y => y.cell (HV0.out.below HBi.out).c0
   have hv1 : ∀ y : Grow wi, y.W.cell? ⟨gb, 1, none⟩ = some (.slice (some ad) l.length c) := fun y => y.cell (HV0.out.below HBi.out).c1
   have HI1 := zM (fun (y : Grow wi) => HI0.out y.W (zH HBi.out HBi.out.size y.hb))
   clear hx0 hx1 hx2 hx3 hx4 hx5 hx6 hx7 hx8 HB hq HI0 HBX hcv
   cases b1 : rgB f0 1 nq with
   | false =>
    rw [b1] at HW
    have HG := zM (show inosFromS nx l (k1 + 1) x = false from by rw [HNF.out, b1]; rfl)
    have HI := HI1
    clear HI1 b1
    refine wp_region_grow (by kernel_rfl) (by kernel_rfl) ?_
    repeat (go_big_quiet_step (first | (go_at_call 48; exact grow_draw (HW _)) | (go_at_call 49; exact grow_call (HI.out _))))
    refine wpQuiet_nil ?_
    rintro _ ⟨yw, rfl⟩
    have HBy := zM (zH HBi.out HBi.out.size yw.hb)
    generalize yw.W = wy at HBy ⊢
    go_wp2
    go_ret
    exact ⟨by rw [← HX.out.2, HG.out]; rfl, zH HBw.out HBw.out.size HBy.out⟩
   | true =>
    rw [b1] at HW
    by_cases b4 : 0 < x
    ·obtain ⟨j, hj, hj0, hj1, hjc⟩ := HJ.out b4
     have hjw : IntKind.i64.wrap ((x : Int) - 1) = j := (i64_w _).trans hj
     have b4d : decide (0 < x) = true := zE b4
     have b4i : decide (0 < (x : Int)) = true := zE (by omega)
     have hp0 : ∀ y : Grow wi, y.W.cell? (ad.add (j.toNat * 9)) = some (.int .i64 pf) := fun y => hjc y.W (zH HBi.out HBi.out.size y.hb)
     replace hj0 := eq_true hj0
     replace hj1 := eq_true hj1
     have hx0 : (x == 0) = false := by rw [beq_eq_false_iff_ne]; omega
     by_cases b5 : pf < f0
     ·have b5d : decide (f0 ≤ pf) = false := zG (by omega)
      have b5e : decide (pf < f0) = true := zE b5
      cases b6 : inodeOkV l f1 f2 f3 f4 f7 f8 f5 f6 with
      | false =>
       have HG := zM (show inosFromS nx l (k1 + 1) x = false from by rw [HNF.out, b1, hx0, b5e, b6]; rfl)
       rw [b6] at HI1
       have HI := HI1
       clear HI1 b1 b5 b5e b6 hx0 b4 hj hjc
       refine wp_region_grow (by kernel_rfl) (by kernel_rfl) ?_
       repeat (go_big_quiet_step (first | (go_at_call 48; exact grow_draw (HW _)) | (go_at_call 49; exact grow_call (HI.out _))))
       refine wpQuiet_nil ?_
       rintro _ ⟨yw, rfl⟩
       have HBy := zM (zH HBi.out HBi.out.size yw.hb)
       generalize yw.W = wy at HBy ⊢
       go_wp2
       go_ret
       exact ⟨by rw [← HX.out.2, HG.out]; rfl, zH HBw.out HBw.out.size HBy.out⟩
      | true =>
       have HG := zM (show inosFromS nx l (k1 + 1) x = inosFromS nx l k1 (x + 1) from by rw [HNF.out, b1, hx0, b5e, b6]; rfl)
       rw [b6] at HI1
       have HI := HI1
       clear HI1 b1 b5 b5e b6 hx0 b4 hj hjc
       refine wp_region_grow (by kernel_rfl) (by kernel_rfl) ?_
       repeat (go_big_quiet_step (first | (go_at_call 48; exact grow_draw (HW _)) | (go_at_call 49; exact grow_call (HI.out _))))
       refine wpQuiet_nil ?_
       rintro _ ⟨yw, rfl⟩
       have HBy := zM (zH HBi.out HBi.out.size yw.hb)
       generalize yw.W = wy at HBy ⊢
       go_wp2
       go_roundg k1
       case measure => omega
       case rel => exact ⟨x + 1, by go_num, ⟨by have := HX.out.1; omega, by rw [← HX.out.2, HG.out]⟩, HBy⟩
     ·have b5d : decide (f0 ≤ pf) = true := zE (by omega)
      have b5e : decide (pf < f0) = false := zG b5
      have HG := zM (show inosFromS nx l (k1 + 1) x = false from by rw [HNF.out, b1, hx0, b5e]; rfl)
      have HI := HI1
      clear HI1 b1 b5 b5e hx0 b4 hj hjc
      refine wp_region_grow (by kernel_rfl) (by kernel_rfl) ?_
      repeat (go_big_quiet_step (first | (go_at_call 48; exact grow_draw (HW _)) | (go_at_call 49; exact grow_call (HI.out _))))
      refine wpQuiet_nil ?_
      rintro _ ⟨yw, rfl⟩
      have HBy := zM (zH HBi.out HBi.out.size yw.hb)
      generalize yw.W = wy at HBy ⊢
      go_wp2
      go_ret
      exact ⟨by rw [← HX.out.2, HG.out]; rfl, zH HBw.out HBw.out.size HBy.out⟩
    ·have hx0 : x = 0 := by omega
     subst hx0
     cases b6 : inodeOkV l f1 f2 f3 f4 f7 f8 f5 f6 with
     | false =>
      have HG := zM (show inosFromS nx l (k1 + 1) 0 = false from by rw [HNF.out, b1, b6]; rfl)
      rw [b6] at HI1
      have HI := HI1
      clear HI1 b1 b6
      refine wp_region_grow (by kernel_rfl) (by kernel_rfl) ?_
      repeat (go_big_quiet_step (first | (go_at_call 48; exact grow_draw (HW _)) | (go_at_call 49; exact grow_call (HI.out _))))
      refine wpQuiet_nil ?_
      rintro _ ⟨yw, rfl⟩
      have HBy := zM (zH HBi.out HBi.out.size yw.hb)
      generalize yw.W = wy at HBy ⊢
      go_wp2
      go_ret
      exact ⟨by rw [← HX.out.2, HG.out]; rfl, zH HBw.out HBw.out.size HBy.out⟩
     | true =>
      have HG := zM (show inosFromS nx l (k1 + 1) 0 = inosFromS nx l k1 (0 + 1) from by rw [HNF.out, b1, b6]; rfl)
      rw [b6] at HI1
      have HI := HI1
      clear HI1 b1 b6
      refine wp_region_grow (by kernel_rfl) (by kernel_rfl) ?_
      repeat (go_big_quiet_step (first | (go_at_call 48; exact grow_draw (HW _)) | (go_at_call 49; exact grow_call (HI.out _))))
      refine wpQuiet_nil ?_
      rintro _ ⟨yw, rfl⟩
      have HBy := zM (zH HBi.out HBi.out.size yw.hb)
      generalize yw.W = wy at HBy ⊢
      go_wp2
      go_roundg k1
      case measure => omega
      case rel => exact ⟨0 + 1, by go_num, ⟨by have := HX.out.1; omega, by rw [← HX.out.2, HG.out]⟩, HBy⟩
  ·have HF3 := zM (show reachFromS l (l.length - 1) 1 = volOkS nx l from by
    have h1 := HX.out
    have e : gk = 0 := by omega
    rw [e] at h1; exact h1.2)
   clear hl
   have HBl := zM (belowS_any nx (some ad) c l 1 wr (HV0.out.below HB.out).row HV0.out.cap HV0.out.small)
   have hcv0 := (HV0.out.below HB.out).c0
   go_wp2_with (go_at_call 50; refine HBl.out.mono ?_; rintro e w2 ⟨v, rfl, ho, hb⟩; obtain ⟨A5, c5, rfl, hl5, hr5⟩ := Kd.R_reads ho; have HR5 := zM hr5; have HBa := zM (zH HB.out HB.out.size hb); clear ho hb hr5)
   have HLb := belowBits_len l 1
   obtain ⟨bs, hbs⟩ : ∃ q, q = belowBits l 1 := ⟨_, rfl⟩
   rw [← hbs] at HR5 HLb ⊢
   rw [← hbs] at hl5
   have HBs := zM hbs
   have HLs := zM HLb
   clear hbs HLb HB hcv hcv0
   go_loopg [6] (l.length - 1) (fun kq v6 w' => ∃ (x : Nat), v6 = .int .i64 (x : Int) ∧ Aside0 (x + kq = l.length ∧ reachFromS l kq x = volOkS nx l) ∧ Aside0 (Below w1.heap.size w1 w') ∧ Aside0 (Below w2.heap.size w2 w'))
   case atStart => exact ⟨1, rfl, ⟨by have := HL1.out; omega, HF3.out⟩, HBa, ⟨Below.refl _ _⟩⟩
   case round =>
    clear HX
    obtain ⟨x, rfl, HX, HB, HB2⟩ := hrel
    have hcv := (HV0.out.below HB.out).c1
    have hcv0 := (HV0.out.below HB.out).c0
    have hl : gk ≤ l.length ∧ x ≤ l.length := by have := HX.out.1; omega
    by_cases hlt : x < l.length
    ·cases gk with
     | zero => have := HX.out.1; omega
     | succ k1 =>
     obtain ⟨ad5, eA, hb5⟩ := Kd.at_bool (Kd.C_below HR5.out HB2.out) (x : Int) (by omega) (by have := HLs.out; omega)
     subst eA
     rw [Int.toNat_natCast, rdB] at hb5
     obtain ⟨ad1, A6, c6, eA, hx0, hx1, -, -, -, -, -, -, -, -, -⟩ := ino_at HV0.out HB.out x hlt
     obtain rfl : ad = ad1 := by injection eA
     rw [← iAt_eq l x hlt] at hx0 hx1
     have HNF := zM (show reachFromS l (k1 + 1) x = (bs.getD x false && !((iAt l x).f1 == 2 && !(namedN l (iAt l x).f0 == 1)) && reachFromS l k1 (x + 1)) from by
      rw [reachFromS, reachAtS, HBs.out])
     generalize (iAt l x).f0 = f0 at hx0 HNF
     generalize (iAt l x).f1 = f1 at hx1 HNF
     generalize bs.getD x false = b0 at hb5 HNF
     have HNm0 := fun (y : Grow wr) => namedS_any nx (some ad) c l f0 y.W (HV0.out.below (zH HB.out HB.out.size y.hb)).row HV0.out.cap HV0.out.small
     have hd5 : ∀ y : Grow wr, y.W.cell? (ad5.add x) = some (.bool b0) := fun y => y.cell hb5
     have hd0 : ∀ y : Grow wr, y.W.cell? (ad.add (x * 9)) = some (.int .i64 f0) := fun y => y.cell hx0
     have hd1 : ∀ y : Grow wr, y.W.cell? ⟨(ad.add (x * 9)).block, (ad.add (x * 9)).off + 1, none⟩ = some (.int .i64 f1) := fun y => y.cell hx1
     have hv0 : ∀ y : Grow wr, y.W.cell? ⟨gb, 0, none⟩ = some (.int .i64 nx) := fun y => y.cell hcv0
     have hv1 : ∀ y : Grow wr, y.W.cell? ⟨gb, 1, none⟩ = some (.slice (some ad) l.length c) := fun y => y.cell hcv
     have p0 : (0 ≤ (x : Int)) = True := eq_true (by omega)
     have p1 : ((x : Int) < (l.length : Int)) = True := eq_true (by omega)
     have p2 : (x < l.length) = True := eq_true hlt
     have p3 : ((x : Int) < (bs.length : Int)) = True := eq_true (by have := HLs.out; omega)
     have p4 : (x < bs.length) = True := eq_true (by have := HLs.out; omega)
     clear hb5 hx0 hx1 hl eA
     cases b0 with
     | false =>
      have HG := zM (show reachFromS l (k1 + 1) x = false from by rw [HNF.out]; rfl)
      have HNm := zM HNm0
      clear HNm0
      go_wp2
      refine wp_region_grow (by kernel_rfl) (by kernel_rfl) ?_
      repeat (go_big_quiet_step (first | (go_at_call 51; exact grow_call (HNm.out _))))
      refine wpQuiet_nil ?_
      rintro _ ⟨yw, rfl⟩
      have HBy := zM (zH HB.out HB.out.size yw.hb)
      have HBz := zM (zH HB2.out HB2.out.size yw.hb)
      generalize yw.W = wy at HBy HBz ⊢
      go_wp2
      go_ret
      exact ⟨by rw [← HX.out.2, HG.out]; rfl, zH HBw.out HBw.out.size HBy.out⟩
     | true =>
      cases q2 : (f1 == 2) with
      | false =>
       have HG := zM (show reachFromS l (k1 + 1) x = reachFromS l k1 (x + 1) from by rw [HNF.out, q2]; rfl)
       have HNm := zM HNm0
       clear HNm0
       go_wp2
       refine wp_region_grow (by kernel_rfl) (by kernel_rfl) ?_
       repeat (go_big_quiet_step (first | (go_at_call 51; exact grow_call (HNm.out _))))
       refine wpQuiet_nil ?_
       rintro _ ⟨yw, rfl⟩
       have HBy := zM (zH HB.out HB.out.size yw.hb)
       have HBz := zM (zH HB2.out HB2.out.size yw.hb)
       generalize yw.W = wy at HBy HBz ⊢
       go_wp2
       go_roundg k1
       case measure => omega
       case rel => exact ⟨x + 1, by go_num, ⟨by have := HX.out.1; omega, by rw [← HX.out.2, HG.out]⟩, HBy, HBz⟩
      | true =>
       have hNe : (namedN l f0 == 1) = (((namedN l f0 : Nat) : Int) == 1) := by
        apply Bool.eq_iff_iff.2; simp only [beq_iff_eq]; omega
       rw [hNe] at HNF
       clear hNe
       generalize ((namedN l f0 : Nat) : Int) = nn at HNF HNm0
       have HNm := zM HNm0
       clear HNm0
       cases q3 : (nn == 1) with
       | false =>
        have q3n : (nn != 1) = true := by rw [bne, q3]; rfl
        have HG := zM (show reachFromS l (k1 + 1) x = false from by rw [HNF.out, q2, q3]; rfl)
        go_wp2
        refine wp_region_grow (by kernel_rfl) (by kernel_rfl) ?_
        repeat (go_big_quiet_step (first | (go_at_call 51; exact grow_call (HNm.out _))))
        refine wpQuiet_nil ?_
        rintro _ ⟨yw, rfl⟩
        have HBy := zM (zH HB.out HB.out.size yw.hb)
        have HBz := zM (zH HB2.out HB2.out.size yw.hb)
        generalize yw.W = wy at HBy HBz ⊢
        go_wp2
        go_ret
        exact ⟨by rw [← HX.out.2, HG.out]; rfl, zH HBw.out HBw.out.size HBy.out⟩
       | true =>
        have q3n : (nn != 1) = false := by rw [bne, q3]; rfl
        have HG := zM (show reachFromS l (k1 + 1) x = reachFromS l k1 (x + 1) from by rw [HNF.out, q2, q3]; rfl)
        go_wp2
        refine wp_region_grow (by kernel_rfl) (by kernel_rfl) ?_
        repeat (go_big_quiet_step (first | (go_at_call 51; exact grow_call (HNm.out _))))
        refine wpQuiet_nil ?_
        rintro _ ⟨yw, rfl⟩
        have HBy := zM (zH HB.out HB.out.size yw.hb)
        have HBz := zM (zH HB2.out HB2.out.size yw.hb)
        generalize yw.W = wy at HBy HBz ⊢
        go_wp2
        go_roundg k1
        case measure => omega
        case rel => exact ⟨x + 1, by go_num, ⟨by have := HX.out.1; omega, by rw [← HX.out.2, HG.out]⟩, HBy, HBz⟩
    ·have HE := zM (show endS l = volOkS nx l from by
      have h1 := HX.out
      have e : gk = 0 := by omega
      rw [e] at h1; exact h1.2)
     have HT0 := bytesS_any nx (some ad) c l wr (HV0.out.below HB.out).row HV0.out.cap HV0.out.small
     have HO0 := fun W (hW : Below w1.heap.size w1 W) => overS_any nx (some ad) c l W (HV0.out.below hW).row HV0.out.cap HV0.out.small
     have hTe : decide (totalN l ≤ 400) = decide (((totalN l : Nat) : Int) ≤ 400) := decide_eq_decide.2 (by omega)
     have HE2 := zM (show volOkS nx l = (decide (((totalN l : Nat) : Int) ≤ 400) && !(overFrom l l.length 0)) from by rw [← HE.out, endS, hTe])
     clear hTe hl
     generalize ((totalN l : Nat) : Int) = tt at HT0 HE2
     have HTt := zM HT0
     cases q4 : decide (tt ≤ 400) with
     | false =>
      have HG := zM (show volOkS nx l = false from by rw [HE2.out, q4]; rfl)
      clear HT0 HO0
      go_wp2_with (go_at_call 52; refine HTt.out.mono ?_; rintro e w3 ⟨rfl, hb⟩; have HBn := zM (zH HB.out HB.out.size hb); clear hb)
      go_ret
      exact ⟨by rw [HG.out]; rfl, zH HBw.out HBw.out.size HBn.out⟩
     | true =>
      have HG := zM (show volOkS nx l = !(overFrom l l.length 0) from by rw [HE2.out, q4, Bool.true_and])
      generalize overFrom l l.length 0 = ov at HO0 HG
      have HOv := zM HO0
      clear HT0 HO0
      go_wp2_with (first | (go_at_call 52; refine HTt.out.mono ?_; rintro e w3 ⟨rfl, hb⟩; have HBn := zM (zH HB.out HB.out.size hb); have hc9 := (HV0.out.below HBn.out).c1; have hc8 := (HV0.out.below HBn.out).c0; clear hb) | (go_at_call 53; refine (HOv.out _ HBn.out).mono ?_; rintro e w4 ⟨rfl, hb⟩; have HBo := zM (zH HBn.out HBn.out.size hb); clear hb))
      go_ret
      exact ⟨by rw [HG.out]; rfl, zH HBw.out HBw.out.size HBo.out⟩
end
def slices_Contains_int_int.f (l0 : List Int) (a1 : Int) : Option (Bool) := some (l0.contains a1)
theorem slices_Contains_int_int.calls (A0 : Option Addr) (c0 : Nat) (l0 : List Int) (a1 : Int) (r : Bool) (w : World) (hr0 : Kd.C (Kd.int .i64) w A0 l0.length l0) (hc0 : l0.length ≤ c0) (h : slices_Contains_int_int.f l0 a1 = some r) :
  Calls Tryz.prog 36 #[.slice A0 l0.length c0, .int .i64 a1] w fun e w' => e = .returned (.bool r) ∧ Below w.heap.size w w' := by
 obtain rfl := zI h
 refine (contains_any w A0 c0 l0 a1 (Kd.reads_of_C (d := (0 : Int)) hr0)).mono ?_
 rintro e w' ⟨h1, h2⟩
 exact ⟨h1, h2.below⟩
end Go.Proofs.YtiopcpkfjikfdaaGreatDoor.PFnClean
