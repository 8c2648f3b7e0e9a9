/- The reference's Used, Flaws. The law's small functions; the reference's Trails. The sample of the laws of layer 2; rows of images; a sheet that is stored. open. open, walked. -/
import Derived.Test.YtacioedolmaofaaLBA9
import Derived.Test.YtacioedolmaofaaLBA12
import Derived.Test.YtacioedolmaofaaLBA1
import Derived.BigRegion
namespace Go.Proofs.Ytacioedolmaofaa
open Go.RowKit Go.Shelf
set_option maxHeartbeats 6400000
set_option maxRecDepth 100000
set_option linter.unusedSimpArgs false
set_option linter.unusedVariables false

theorem usedIn_has (l : List ITr) (n : Int) : usedIn l n = l.any fun t => t.hasN n := rfl
theorem irUsed_any (a : Option Addr) (c : Nat) (l : List ITr) (n : Int) (w : World) (hl : TrSl w a l) (hlen : l.length < 9223372036854775807) :
    Calls Try.prog 31 #[.slice a l.length c, .int .i64 n] w fun e w' => e = .returned (.bool (usedIn l n)) ∧ Below w.heap.size w w' := by
  have hli : (l.length : Int) < 9223372036854775807 := by omega
  have HL := Lib.hid hl
  go_enter Try.func31, Try.ntmps31
  go_wp2_with fail
  go_loopw [4, 5] (fun _ i w1 => ∃ k : Nat, k ≤ l.length ∧ i = .int .i64 k ∧ (∀ t ∈ l.take k, t.hasN n = false) ∧ Below w.heap.size w w1) (fun _ i _ => l.length - (intOf i).toNat)
  case atStart => exact ⟨0, Nat.zero_le _, rfl, by simp, Below.refl _ _⟩
  case round =>
    obtain ⟨k, hk, rfl, hno, hB⟩ := hrel
    by_cases hlt : k < l.length
    · have hki : (k : Int) < l.length := by omega
      obtain ⟨b, o, rfl, hbl, e0, e1, e2⟩ := HL.out.below hB (Nat.le_refl _) k hlt
      obtain ⟨x, hx⟩ : ∃ x, l[k] = x := ⟨_, rfl⟩
      have hxm : x ∈ l := by rw [← hx]; exact List.getElem_mem hlt
      rw [hx] at e0 e1 e2
      have HX := Lib.hid hx
      clear hx
      go_wp2_with fail
      refine (irhas_any x n wr).mono ?_
      rintro e w2 ⟨rfl, hb2⟩
      have hB2 := hB.trans (hb2.mono hB.size)
      obtain ⟨q, hq⟩ : ∃ q, x.hasN n = q := ⟨_, rfl⟩
      rw [hq]
      have HQ := Lib.hid hq
      clear hq hb2 e0 e1 e2 hbl
      cases q
      · go_wp2_with fail
        go_roundw
        case rel =>
          refine ⟨k + 1, hlt, by go_num, ?_, hB2⟩
          rw [List.take_succ_eq_append_getElem hlt, HX.out]
          intro t ht
          rcases List.mem_append.1 ht with ht | ht
          · exact hno t ht
          · rw [List.mem_singleton] at ht; rw [ht]; exact HQ.out
        case measure => simp [intOf]; omega
      · have hu : usedIn l n = true := List.any_eq_true.2 ⟨x, hxm, HQ.out⟩
        have HU := Lib.hid hu
        clear hu
        go_wp2_with fail
        go_ret
        exact ⟨by rw [HU.out]; rfl, hB2⟩
    · obtain rfl : k = l.length := by omega
      have hu : usedIn l n = false := by
        rw [usedIn_has, List.any_eq_false]
        intro t ht
        rw [hno t (by rw [List.take_length]; exact ht)]
        simp
      have HU := Lib.hid hu
      clear hu hno
      go_wp2_with fail
      go_ret
      exact ⟨by rw [HU.out]; rfl, hB⟩

/-- How many images, of the first k, are in none of the trails. -/
def flawN (l : List ITr) : Nat → Nat
  | 0 => 0
  | k + 1 => flawN l k + if usedIn l (k : Int) then 0 else 1
theorem flawN_le (l : List ITr) : ∀ k, flawN l k ≤ k
  | 0 => Nat.le_refl _
  | k + 1 => by unfold flawN; have := flawN_le l k; split <;> omega
theorem irFlaws_any (s : ISheet) (fa : Option Addr) (fc : Nat) (a : Option Addr) (c : Nat) (l : List ITr) (w : World) (hl : TrSl w a l) (hlen : l.length < 9223372036854775807) (hsl : s.l.length < 9223372036854775807) :
    Calls Try.prog 36 #[.agg #[.int .i64 s.ax.lo, .int .i64 s.ax.hi, .int .i64 s.ay.lo, .int .i64 s.ay.hi, .int .i64 s.bx.lo, .int .i64 s.bx.hi, .int .i64 s.by'.lo, .int .i64 s.by'.hi, .int .i64 s.f.lo, .int .i64 s.f.hi, .int .i64 s.g.lo, .int .i64 s.g.hi, .int .i64 s.limit, .int .i64 s.flaws, .slice fa s.l.length fc], .slice a l.length c] w fun e w' => e = .returned (.int .i64 (flawN l s.l.length)) ∧ Below w.heap.size w w' := by
  have hsi : (s.l.length : Int) < 9223372036854775807 := by omega
  have HL := Lib.hid hl
  go_enter Try.func36, Try.ntmps36
  go_wp2_with fail
  obtain ⟨W0, hW0⟩ : ∃ W, (w.alloc (.cells #[.int .i64 s.ax.lo, .int .i64 s.ax.hi, .int .i64 s.ay.lo, .int .i64 s.ay.hi, .int .i64 s.bx.lo, .int .i64 s.bx.hi, .int .i64 s.by'.lo, .int .i64 s.by'.hi, .int .i64 s.f.lo, .int .i64 s.f.hi, .int .i64 s.g.lo, .int .i64 s.g.hi, .int .i64 s.limit, .int .i64 s.flaws, .slice fa s.l.length fc] 30)) = W := ⟨_, rfl⟩
  rw [hW0]
  try simp only [Nat.add_assoc, Nat.reduceAdd]
  have hst_W0 : Steps (fun _ => False) w W0 := by rw [← hW0]; exact Steps.alloc _ w _
  have hz_W0 : W0.heap.size = w.heap.size + 1 := by rw [← hW0]; simp
  have g0_W0 : W0.heap[w.heap.size]? = some (.cells #[.int .i64 s.ax.lo, .int .i64 s.ax.hi, .int .i64 s.ay.lo, .int .i64 s.ay.hi, .int .i64 s.bx.lo, .int .i64 s.bx.hi, .int .i64 s.by'.lo, .int .i64 s.by'.hi, .int .i64 s.f.lo, .int .i64 s.f.hi, .int .i64 s.g.lo, .int .i64 s.g.hi, .int .i64 s.limit, .int .i64 s.flaws, .slice fa s.l.length fc] 30) := by rw [← hW0]; simp only [alloc_get, World.size_alloc]; repeat (first | exact if_pos trivial | exact if_pos (by omega) | rw [if_neg (by omega)])
  clear hW0
  have hB0 : Below w.heap.size w W0 := hst_W0.below (Nat.le_refl _) (fun _ _ h => h)
  obtain ⟨z, hz⟩ : ∃ z, w.heap.size = z := ⟨_, rfl⟩
  rw [hz] at g0_W0
  try rw [hz]
  have HZ := Lib.hid hz
  clear hst_W0 hz_W0 hz hl
  go_loopw [5, 6] (fun m i w1 => ∃ k : Nat, k ≤ s.l.length ∧ i = .int .i64 k ∧ m = .int .i64 (flawN l k) ∧ w1.heap[z]? = some (.cells #[.int .i64 s.ax.lo, .int .i64 s.ax.hi, .int .i64 s.ay.lo, .int .i64 s.ay.hi, .int .i64 s.bx.lo, .int .i64 s.bx.hi, .int .i64 s.by'.lo, .int .i64 s.by'.hi, .int .i64 s.f.lo, .int .i64 s.f.hi, .int .i64 s.g.lo, .int .i64 s.g.hi, .int .i64 s.limit, .int .i64 s.flaws, .slice fa s.l.length fc] 30) ∧ Below w.heap.size w w1) (fun _ i _ => s.l.length - (intOf i).toNat)
  case atStart => exact ⟨0, Nat.zero_le _, rfl, rfl, g0_W0, hB0⟩
  case round =>
    obtain ⟨k, hk, rfl, rfl, hx, hB⟩ := hrel
    have c14 := cell_block hx 14
    simp only [gA, gB, gC] at c14
    by_cases hlt : k < s.l.length
    · have hki : (k : Int) < s.l.length := by omega
      have hfl := flawN_le l k
      obtain ⟨f, hf⟩ : ∃ f, flawN l k = f := ⟨_, rfl⟩
      have hst : flawN l (k + 1) = f + if usedIn l (k : Int) then 0 else 1 := by rw [← hf]; rfl
      rw [hf] at hfl
      rw [hf]
      have HS := Lib.hid hst
      clear hf hst
      go_wp2_with fail
      refine (irUsed_any a c l k wr (HL.out.below hB (Nat.le_refl _)) hlen).mono ?_
      rintro e w2 ⟨rfl, hb2⟩
      have hB2 := hB.trans (hb2.mono hB.size)
      have hx2 := obj_later hb2 hx
      obtain ⟨q, hq⟩ : ∃ q, usedIn l (k : Int) = q := ⟨_, rfl⟩
      have hst := HS.out
      rw [hq] at hst
      rw [hq]
      have HS := Lib.hid hst
      clear hq hst hb2 hx c14
      cases q
      · go_wp2_with fail
        go_roundw
        case rel => exact ⟨k + 1, hlt, by go_num, by rw [HS.out]; simp, hx2, hB2⟩
        case measure => simp [intOf]; omega
      · go_wp2_with fail
        go_roundw
        case rel => exact ⟨k + 1, hlt, by go_num, by rw [HS.out]; simp, hx2, hB2⟩
        case measure => simp [intOf]; omega
    · obtain rfl : k = s.l.length := by omega
      go_wp2_with fail
      go_ret
      exact ⟨rfl, hB⟩
end Go.Proofs.Ytacioedolmaofaa
namespace Go.Proofs.Ytacioedolmaofaa
open Go.RowKit Go.Shelf
set_option maxHeartbeats 6400000
set_option maxRecDepth 100000
set_option linter.unusedSimpArgs false
set_option linter.unusedVariables false

theorem ilspan_any (a b : Int) (w : World) : Calls Try.prog 34 #[.int .i64 a, .int .i64 b] w fun e w' => e = .returned (.agg #[.int .i64 a, .int .i64 b]) ∧ Below w.heap.size w w' := by
  go_enter Try.func34, Try.ntmps34
  go_wp2
  have hn := obj_new w (.cells #[.int .i64 a, .int .i64 b] 23)
  have hb := below_alloc w (.cells #[.int .i64 a, .int .i64 b] 23)
  have c0 := cell_block hn 0
  have c1 := cell_block hn 1
  simp only [gA, gB, gC] at c0 c1
  exact bodyPost_ret (v := .agg #[.int .i64 a, .int .i64 b]) (by simp [results, Try.results34, go_sem, c0, c1]) rfl ⟨rfl, hb⟩

theorem ilspot_any (a b c d e f : Int) (w : World) : Calls Try.prog 33 #[.int .i64 a, .int .i64 b, .int .i64 c, .int .i64 d, .int .i64 e, .int .i64 f] w fun u w' => u = .returned (.agg #[.int .i64 a, .int .i64 b, .int .i64 c, .int .i64 d, .int .i64 e, .int .i64 f]) ∧ Below w.heap.size w w' := by
  go_enter Try.func33, Try.ntmps33
  go_wp2_with fail
  have hn := obj_new w (.cells #[.int .i64 0, .int .i64 0, .int .i64 0, .int .i64 0, .int .i64 0, .int .i64 0] 61)
  have hb := below_alloc w (.cells #[.int .i64 0, .int .i64 0, .int .i64 0, .int .i64 0, .int .i64 0, .int .i64 0] 61)
  generalize w.alloc (.cells #[.int .i64 0, .int .i64 0, .int .i64 0, .int .i64 0, .int .i64 0, .int .i64 0] 61) = w1 at hn hb ⊢
  obtain ⟨z, hz⟩ : ∃ z, w.heap.size = z := ⟨_, rfl⟩
  rw [hz] at hn hb
  try rw [hz]
  have HZ := Lib.hid hz
  clear hz
  refine (ilspan_any a b w1).mono ?_
  rintro u w2 ⟨rfl, hb2⟩
  go_wp2_with fail
  refine (ilspan_any c d w2).mono ?_
  rintro u w3 ⟨rfl, hb3⟩
  go_wp2_with fail
  refine (ilspan_any e f w3).mono ?_
  rintro u w4 ⟨rfl, hb4⟩
  have h4 := obj_later hb4 (obj_later hb3 (obj_later hb2 hn))
  have hzl := (Array.getElem?_eq_some_iff.1 hn).1
  have hB : Below z w w4 := by
    have s2 := hb2.size
    have s3 := hb3.size
    exact hb.trans ((hb2.mono (by omega)).trans ((hb3.mono (by omega)).trans (hb4.mono (by omega))))
  clear hn hb hb2 hb3 hb4
  have c0 := cell_block h4 0
  have c1 := cell_block h4 1
  have c2 := cell_block h4 2
  have c3 := cell_block h4 3
  have c4 := cell_block h4 4
  have c5 := cell_block h4 5
  have f0 := frozen_block h4 0
  have f1 := frozen_block h4 1
  have f2 := frozen_block h4 2
  have f3 := frozen_block h4 3
  have f4 := frozen_block h4 4
  have f5 := frozen_block h4 5
  simp only [gA, gB, gC] at c0 c1 c2 c3 c4 c5
  go_wp2_with fail
  have zz : ((((((w4.setCell ⟨z, 0, none⟩ (.int .i64 a)).setCell ⟨z, 1, none⟩ (.int .i64 b)).setCell ⟨z, 2, none⟩ (.int .i64 c)).setCell ⟨z, 3, none⟩ (.int .i64 d)).setCell ⟨z, 4, none⟩ (.int .i64 e)).setCell ⟨z, 5, none⟩ (.int .i64 f)).heap[z]? = some (.cells #[.int .i64 a, .int .i64 b, .int .i64 c, .int .i64 d, .int .i64 e, .int .i64 f] 61) := by
    rw [block_set (block_set (block_set (block_set (block_set (block_set h4 0 _) 1 _) 2 _) 3 _) 4 _) 5 _]
    simp
  have hP := (((((hB.setCell (p := ⟨z, 0, none⟩) (Nat.le_refl _) (.int .i64 a)).setCell (p := ⟨z, 1, none⟩) (Nat.le_refl _) (.int .i64 b)).setCell (p := ⟨z, 2, none⟩) (Nat.le_refl _) (.int .i64 c)).setCell (p := ⟨z, 3, none⟩) (Nat.le_refl _) (.int .i64 d)).setCell (p := ⟨z, 4, none⟩) (Nat.le_refl _) (.int .i64 e)).setCell (p := ⟨z, 5, none⟩) (Nat.le_refl _) (.int .i64 f)
  have m0 := cell_block zz 0
  have m1 := cell_block zz 1
  have m2 := cell_block zz 2
  have m3 := cell_block zz 3
  have m4 := cell_block zz 4
  have m5 := cell_block zz 5
  simp only [gA, gB, gC] at m0 m1 m2 m3 m4 m5
  exact bodyPost_ret (v := .agg #[.int .i64 a, .int .i64 b, .int .i64 c, .int .i64 d, .int .i64 e, .int .i64 f]) (by simp [results, Try.results33, go_sem, m0, m1, m2, m3, m4, m5]) rfl ⟨rfl, by rw [HZ.out]; exact hP⟩

theorem ilheavy_any (s : ISheet) (fa : Option Addr) (fc : Nat) (most : Int) (w : World) (hl : ImSl w fa s.l) (hlen : s.l.length < 9223372036854775807) :
    Calls Try.prog 11 #[.agg #[.int .i64 s.ax.lo, .int .i64 s.ax.hi, .int .i64 s.ay.lo, .int .i64 s.ay.hi, .int .i64 s.bx.lo, .int .i64 s.bx.hi, .int .i64 s.by'.lo, .int .i64 s.by'.hi, .int .i64 s.f.lo, .int .i64 s.f.hi, .int .i64 s.g.lo, .int .i64 s.g.hi, .int .i64 s.limit, .int .i64 s.flaws, .slice fa s.l.length fc], .int .i64 most] w fun e w' => e = .returned (.bool (decide (most < s.l.length) && s.ok)) ∧ Below w.heap.size w w' := by
  by_cases hm : most < s.l.length
  · have hr : (decide (most < (s.l.length : Int)) && s.ok) = s.ok := by simp [hm]
    rw [hr]
    clear hr
    go_enter Try.func11, Try.ntmps11
    go_wp2_with fail
    obtain ⟨W0, hW0⟩ : ∃ W, (w.alloc (.cells #[.int .i64 s.ax.lo, .int .i64 s.ax.hi, .int .i64 s.ay.lo, .int .i64 s.ay.hi, .int .i64 s.bx.lo, .int .i64 s.bx.hi, .int .i64 s.by'.lo, .int .i64 s.by'.hi, .int .i64 s.f.lo, .int .i64 s.f.hi, .int .i64 s.g.lo, .int .i64 s.g.hi, .int .i64 s.limit, .int .i64 s.flaws, .slice fa s.l.length fc] 30)) = W := ⟨_, rfl⟩
    rw [hW0]
    try simp only [Nat.add_assoc, Nat.reduceAdd]
    have hst_W0 : Steps (fun _ => False) w W0 := by rw [← hW0]; exact Steps.alloc _ w _
    have hz_W0 : W0.heap.size = w.heap.size + 1 := by rw [← hW0]; simp
    have g0_W0 : W0.heap[w.heap.size]? = some (.cells #[.int .i64 s.ax.lo, .int .i64 s.ax.hi, .int .i64 s.ay.lo, .int .i64 s.ay.hi, .int .i64 s.bx.lo, .int .i64 s.bx.hi, .int .i64 s.by'.lo, .int .i64 s.by'.hi, .int .i64 s.f.lo, .int .i64 s.f.hi, .int .i64 s.g.lo, .int .i64 s.g.hi, .int .i64 s.limit, .int .i64 s.flaws, .slice fa s.l.length fc] 30) := by rw [← hW0]; simp only [alloc_get, World.size_alloc]; repeat (first | exact if_pos trivial | exact if_pos (by omega) | rw [if_neg (by omega)])
    clear hW0
    have hb0 : Below w.heap.size w W0 := hst_W0.below (Nat.le_refl _) (fun _ _ h => h)
    refine (irSheet_any s fa fc W0 (hl.below hb0 (Nat.le_refl _)) hlen).mono ?_
    rintro e w1 ⟨rfl, hb1⟩
    have hB1 := hb0.trans (hb1.mono hb0.size)
    go_wp2_with fail
    go_ret
    exact ⟨rfl, hB1⟩
  · have hr : (decide (most < (s.l.length : Int)) && s.ok) = false := by simp [hm]
    rw [hr]
    clear hr
    go_enter Try.func11, Try.ntmps11
    go_wp2_with fail
    go_ret
    exact ⟨rfl, below_alloc _ _⟩

theorem irTrails_any (a b : Option Addr) (ca cb : Nat) (l m : List ITr) (w : World) (ha : TrSl w a l) (hb : TrSl w b m) (hla : l.length < 9223372036854775807) (hlb : m.length < 9223372036854775807) :
    Calls Try.prog 27 #[.slice a l.length ca, .slice b m.length cb] w fun e w' => e = .returned (.bool (decide (l = m))) ∧ Below w.heap.size w w' := by
  have hli : (l.length : Int) < 9223372036854775807 := by omega
  have hlm : (m.length : Int) < 9223372036854775807 := by omega
  have HA := Lib.hid ha
  have HB := Lib.hid hb
  by_cases hlen : l.length = m.length
  · go_enter Try.func27, Try.ntmps27
    have hb1 : ((l.length : Int) != (m.length : Int)) = false := by simp [hlen]
    have HLEN := Lib.hid hlen
    clear hlen ha hb
    go_wp2_with fail
    go_loopw [4, 5] (fun _ i w1 => ∃ k : Nat, k ≤ l.length ∧ i = .int .i64 k ∧ l.take k = m.take k ∧ Below w.heap.size w w1) (fun _ i _ => l.length - (intOf i).toNat)
    case atStart => exact ⟨0, Nat.zero_le _, rfl, rfl, Below.refl _ _⟩
    case round =>
      obtain ⟨k, hk, rfl, htk, hBr⟩ := hrel
      by_cases hlt : k < l.length
      · have hltm : k < m.length := by have := HLEN.out; omega
        have hki : (k : Int) < l.length := by omega
        have hkm : (k : Int) < m.length := by omega
        obtain ⟨ba, oa, hfa, hba, e0, e1, e2⟩ := HA.out.below hBr (Nat.le_refl _) k hlt
        obtain ⟨bb, ob, hfb, hbb, d0, d1, d2⟩ := HB.out.below hBr (Nat.le_refl _) k hltm
        subst hfa
        subst hfb
        obtain ⟨x, hx⟩ : ∃ x, l[k] = x := ⟨_, rfl⟩
        obtain ⟨y, hy⟩ : ∃ y, m[k] = y := ⟨_, rfl⟩
        rw [hx] at e0 e1 e2
        rw [hy] at d0 d1 d2
        have HX := Lib.hid hx
        have HY := Lib.hid hy
        have te := tr_eq x.a x.b x.c y.a y.b y.c
        obtain ⟨q, hq⟩ : ∃ q, (x.a == y.a && x.b == y.b && x.c == y.c) = q := ⟨_, rfl⟩
        rw [hq] at te
        have HQ := Lib.hid hq
        have HTK := Lib.hid htk
        clear hx hy hq htk
        go_upto_region 6 with fail
        cases q
        · have hr : decide (l = m) = false := decide_eq_false (fun e => by
            have h := HQ.out
            have hxy : x = y := by rw [← HX.out, ← HY.out]; simp [e]
            rw [hxy] at h
            simp at h)
          have HR := Lib.hid hr
          clear hr
          go_region
          go_wp2_with fail
          go_ret
          exact ⟨by rw [HR.out]; rfl, hBr.drew⟩
        · have hxy : x = y := by
            have h := HQ.out
            simp at h
            obtain ⟨a, b, c⟩ := x
            obtain ⟨d, e, f⟩ := y
            simp at h
            simp [h]
          have htk2 : l.take (k + 1) = m.take (k + 1) := by
            rw [List.take_succ_eq_append_getElem hlt, List.take_succ_eq_append_getElem hltm, HTK.out, HX.out, HY.out, hxy]
          have HT2 := Lib.hid htk2
          clear hxy htk2
          go_region
          go_wp2_with fail
          go_roundw
          case rel => exact ⟨k + 1, hlt, by go_num, HT2.out, hBr.drew⟩
          case measure => simp [intOf]; omega
      · obtain rfl : k = l.length := by omega
        have hr : decide (l = m) = true := by
          rw [List.take_length, HLEN.out, List.take_length] at htk
          exact decide_eq_true htk
        have HR := Lib.hid hr
        clear hr htk
        go_wp2_with fail
        go_ret
        exact ⟨by rw [HR.out]; rfl, hBr⟩
  · have hr : decide (l = m) = false := decide_eq_false (fun e => hlen (by rw [e]))
    have HR := Lib.hid hr
    go_enter Try.func27, Try.ntmps27
    have hb1 : ((l.length : Int) != (m.length : Int)) = true := by simp; omega
    clear hr hlen
    go_wp2_with fail
    go_ret
    exact ⟨by rw [HR.out]; rfl, Below.refl _ _⟩
end Go.Proofs.Ytacioedolmaofaa
namespace Go.Proofs.Ytacioedolmaofaa
open Go.RowKit Go.Shelf
set_option maxHeartbeats 6400000
set_option maxRecDepth 100000
set_option linter.unusedSimpArgs false
set_option linter.unusedVariables false

def imCells (x : ISpot) : List Value := [.int .i64 x.x.lo, .int .i64 x.x.hi, .int .i64 x.y.lo, .int .i64 x.y.hi, .int .i64 x.s.lo, .int .i64 x.s.hi]
def imsCells (l : List ISpot) : List Value := l.flatMap imCells
theorem imsCells_len (l : List ISpot) : (imsCells l).length = l.length * 6 := by
  induction l with
  | nil => rfl
  | cons x l ih => unfold imsCells at *; rw [List.flatMap_cons, List.length_append, ih]; simp [imCells]; omega
theorem imsCells_get : ∀ (l : List ISpot) (k j : Nat) (h : k < l.length) (_ : j < 6), (imsCells l)[k * 6 + j]? = (imCells l[k])[j]?
  | x::l, 0, j, _, hj => by
    unfold imsCells
    rw [List.flatMap_cons, List.getElem?_append_left (by simp [imCells]; omega)]
    simp
  | x::l, k + 1, j, h, hj => by
    have ih := imsCells_get l k j (by simpa using h) hj
    unfold imsCells at *
    rw [List.flatMap_cons, List.getElem?_append_right (by simp [imCells]; omega)]
    have e : (k + 1) * 6 + j - (imCells x).length = k * 6 + j := by simp [imCells]; omega
    rw [e, ih]
    rfl
theorem imCells_one (x : ISpot) : ∀ u ∈ imCells x, u.oneCell' = true := by
  intro u hu
  simp only [imCells, List.mem_cons, List.not_mem_nil, or_false] at hu
  rcases hu with rfl | rfl | rfl | rfl | rfl | rfl <;> rfl
theorem ImSl.of_cells {w : World} {q : Nat} {l : List ISpot} {T : TypeId} {fz : Nat × Nat} {cs : Array Value} (h : w.heap[q]? = some (.cells cs T fz)) (hc : ∀ i, i < l.length * 6 → cs[i]? = (imsCells l)[i]?) : ImSl w (some ⟨q, 0, none⟩) l := fun k hk => by
  have hlt := (Array.getElem?_eq_some_iff.1 h).1
  have hj : ∀ j, j < 6 → w.cell? ⟨q, 0 + k * 6 + j, none⟩ = (imCells l[k])[j]? := fun j hj => by
    rw [cell_block h, hc _ (by omega), Nat.zero_add]
    exact imsCells_get l k j hk hj
  exact ⟨q, 0, rfl, hlt, hj 0 (by omega), hj 1 (by omega), hj 2 (by omega), hj 3 (by omega), hj 4 (by omega), hj 5 (by omega)⟩
theorem ImSl.of_block {w : World} {q : Nat} {l : List ISpot} {T : TypeId} (h : w.heap[q]? = some (.cells (imsCells l).toArray T)) : ImSl w (some ⟨q, 0, none⟩) l := ImSl.of_cells h (fun i _ => by simp)

/-- A sheet is stored. -/
def put15 (w : World) (z : Nat) (a0 a1 a2 a3 a4 a5 a6 a7 a8 a9 a10 a11 a12 a13 a14 : Value) : World := (((((((((((((((w.setCell ⟨z, 0, none⟩ a0).setCell ⟨z, 1, none⟩ a1).setCell ⟨z, 2, none⟩ a2).setCell ⟨z, 3, none⟩ a3).setCell ⟨z, 4, none⟩ a4).setCell ⟨z, 5, none⟩ a5).setCell ⟨z, 6, none⟩ a6).setCell ⟨z, 7, none⟩ a7).setCell ⟨z, 8, none⟩ a8).setCell ⟨z, 9, none⟩ a9).setCell ⟨z, 10, none⟩ a10).setCell ⟨z, 11, none⟩ a11).setCell ⟨z, 12, none⟩ a12).setCell ⟨z, 13, none⟩ a13).setCell ⟨z, 14, none⟩ a14)
theorem put15_same {w : World} {z : Nat} {x0 x1 x2 x3 x4 x5 x6 x7 x8 x9 x10 x11 x12 x13 x14 : Value} {T : TypeId} (h : w.heap[z]? = some (.cells #[x0, x1, x2, x3, x4, x5, x6, x7, x8, x9, x10, x11, x12, x13, x14] T)) (a0 a1 a2 a3 a4 a5 a6 a7 a8 a9 a10 a11 a12 a13 a14 : Value) : (put15 w z a0 a1 a2 a3 a4 a5 a6 a7 a8 a9 a10 a11 a12 a13 a14).heap[z]? = some (.cells #[a0, a1, a2, a3, a4, a5, a6, a7, a8, a9, a10, a11, a12, a13, a14] T) := by
  unfold put15
  rw [block_set (block_set (block_set (block_set (block_set (block_set (block_set (block_set (block_set (block_set (block_set (block_set (block_set (block_set (block_set h 0 _) 1 _) 2 _) 3 _) 4 _) 5 _) 6 _) 7 _) 8 _) 9 _) 10 _) 11 _) 12 _) 13 _) 14 _]
  simp
theorem put15_steps (w : World) (z : Nat) (a0 a1 a2 a3 a4 a5 a6 a7 a8 a9 a10 a11 a12 a13 a14 : Value) : Steps (fun k => k = z) w (put15 w z a0 a1 a2 a3 a4 a5 a6 a7 a8 a9 a10 a11 a12 a13 a14) := by
  have h1 : ∀ (A : World) (o : Nat) (v : Value), Steps (fun k => k = z) A (A.setCell ⟨z, o, none⟩ v) := fun A o v => Steps.setCell (own := fun k => k = z) A (p := ⟨z, o, none⟩) rfl v
  unfold put15
  exact (((((((((((((((h1 _ 0 _).trans (h1 _ 1 _) (fun _ _ h => h)).trans (h1 _ 2 _) (fun _ _ h => h)).trans (h1 _ 3 _) (fun _ _ h => h)).trans (h1 _ 4 _) (fun _ _ h => h)).trans (h1 _ 5 _) (fun _ _ h => h)).trans (h1 _ 6 _) (fun _ _ h => h)).trans (h1 _ 7 _) (fun _ _ h => h)).trans (h1 _ 8 _) (fun _ _ h => h)).trans (h1 _ 9 _) (fun _ _ h => h)).trans (h1 _ 10 _) (fun _ _ h => h)).trans (h1 _ 11 _) (fun _ _ h => h)).trans (h1 _ 12 _) (fun _ _ h => h)).trans (h1 _ 13 _) (fun _ _ h => h)).trans (h1 _ 14 _) (fun _ _ h => h))

def ismp : ISheet := ⟨⟨20, 22⟩, ⟨0, 1⟩, ⟨0, 1⟩, ⟨30, 33⟩, ⟨2, 3⟩, ⟨5, 6⟩, 10, 2, [⟨⟨100, 102⟩, ⟨200, 201⟩, ⟨20, 22⟩⟩, ⟨⟨121, 123⟩, ⟨200, 202⟩, ⟨18, 19⟩⟩, ⟨⟨101, 102⟩, ⟨231, 233⟩, ⟨15, 16⟩⟩, ⟨⟨300, 301⟩, ⟨50, 51⟩, ⟨13, 14⟩⟩, ⟨⟨320, 322⟩, ⟨50, 51⟩, ⟨10, 11⟩⟩, ⟨⟨500, 500⟩, ⟨500, 500⟩, ⟨30, 40⟩⟩]⟩
/-- How the sample is returned. -/
def SmpPost (w : World) (e : Ending) (w' : World) : Prop :=
  ∃ q, e = .returned (.agg #[.int .i64 20, .int .i64 22, .int .i64 0, .int .i64 1, .int .i64 0, .int .i64 1, .int .i64 30, .int .i64 33, .int .i64 2, .int .i64 3, .int .i64 5, .int .i64 6, .int .i64 10, .int .i64 2, .slice (some ⟨q, 0, none⟩) 6 6]) ∧ ImSl w' (some ⟨q, 0, none⟩) ismp.l ∧ Below w.heap.size w w'
theorem ilsample_any (w : World) : Calls Try.prog 39 #[] w (SmpPost w) := by
  go_enter Try.func39, Try.ntmps39
  go_wp2_with fail
  have g0 := obj_new w (.cells #[.int .i64 0, .int .i64 0, .int .i64 0, .int .i64 0, .int .i64 0, .int .i64 0, .int .i64 0, .int .i64 0, .int .i64 0, .int .i64 0, .int .i64 0, .int .i64 0, .int .i64 0, .int .i64 0, .slice none 0 0] 30)
  have hb0 := below_alloc w (.cells #[.int .i64 0, .int .i64 0, .int .i64 0, .int .i64 0, .int .i64 0, .int .i64 0, .int .i64 0, .int .i64 0, .int .i64 0, .int .i64 0, .int .i64 0, .int .i64 0, .int .i64 0, .int .i64 0, .slice none 0 0] 30)
  generalize w.alloc (.cells #[.int .i64 0, .int .i64 0, .int .i64 0, .int .i64 0, .int .i64 0, .int .i64 0, .int .i64 0, .int .i64 0, .int .i64 0, .int .i64 0, .int .i64 0, .int .i64 0, .int .i64 0, .int .i64 0, .slice none 0 0] 30) = W0 at g0 hb0 ⊢
  obtain ⟨z, hz⟩ : ∃ z, w.heap.size = z := ⟨_, rfl⟩
  rw [hz] at g0
  try rw [hz]
  have HZ := Lib.hid hz
  clear hz
  refine (ilspot_any _ _ _ _ _ _ _).mono ?_
  rintro e w1 ⟨rfl, hb⟩
  have g1 := obj_later hb g0
  replace hb0 := hb0.trans (hb.mono hb0.size)
  clear hb g0
  go_wp2_with fail
  refine (ilspot_any _ _ _ _ _ _ _).mono ?_
  rintro e w2 ⟨rfl, hb⟩
  have g2 := obj_later hb g1
  replace hb0 := hb0.trans (hb.mono hb0.size)
  clear hb g1
  go_wp2_with fail
  refine (ilspot_any _ _ _ _ _ _ _).mono ?_
  rintro e w3 ⟨rfl, hb⟩
  have g3 := obj_later hb g2
  replace hb0 := hb0.trans (hb.mono hb0.size)
  clear hb g2
  go_wp2_with fail
  refine (ilspot_any _ _ _ _ _ _ _).mono ?_
  rintro e w4 ⟨rfl, hb⟩
  have g4 := obj_later hb g3
  replace hb0 := hb0.trans (hb.mono hb0.size)
  clear hb g3
  go_wp2_with fail
  refine (ilspot_any _ _ _ _ _ _ _).mono ?_
  rintro e w5 ⟨rfl, hb⟩
  have g5 := obj_later hb g4
  replace hb0 := hb0.trans (hb.mono hb0.size)
  clear hb g4
  go_wp2_with fail
  refine (ilspot_any _ _ _ _ _ _ _).mono ?_
  rintro e w6 ⟨rfl, hb⟩
  have g6 := obj_later hb g5
  replace hb0 := hb0.trans (hb.mono hb0.size)
  clear hb g5
  go_wp2_with fail
  have hl6 : ImSl (w6.alloc (.cells #[.int .i64 100, .int .i64 102, .int .i64 200, .int .i64 201, .int .i64 20, .int .i64 22, .int .i64 121, .int .i64 123, .int .i64 200, .int .i64 202, .int .i64 18, .int .i64 19, .int .i64 101, .int .i64 102, .int .i64 231, .int .i64 233, .int .i64 15, .int .i64 16, .int .i64 300, .int .i64 301, .int .i64 50, .int .i64 51, .int .i64 13, .int .i64 14, .int .i64 320, .int .i64 322, .int .i64 50, .int .i64 51, .int .i64 10, .int .i64 11, .int .i64 500, .int .i64 500, .int .i64 500, .int .i64 500, .int .i64 30, .int .i64 40] 61)) (some ⟨w6.heap.size, 0, none⟩) ismp.l := ImSl.of_block (obj_new w6 (.cells #[.int .i64 100, .int .i64 102, .int .i64 200, .int .i64 201, .int .i64 20, .int .i64 22, .int .i64 121, .int .i64 123, .int .i64 200, .int .i64 202, .int .i64 18, .int .i64 19, .int .i64 101, .int .i64 102, .int .i64 231, .int .i64 233, .int .i64 15, .int .i64 16, .int .i64 300, .int .i64 301, .int .i64 50, .int .i64 51, .int .i64 13, .int .i64 14, .int .i64 320, .int .i64 322, .int .i64 50, .int .i64 51, .int .i64 10, .int .i64 11, .int .i64 500, .int .i64 500, .int .i64 500, .int .i64 500, .int .i64 30, .int .i64 40] 61))
  have hb := below_alloc w6 (.cells #[.int .i64 100, .int .i64 102, .int .i64 200, .int .i64 201, .int .i64 20, .int .i64 22, .int .i64 121, .int .i64 123, .int .i64 200, .int .i64 202, .int .i64 18, .int .i64 19, .int .i64 101, .int .i64 102, .int .i64 231, .int .i64 233, .int .i64 15, .int .i64 16, .int .i64 300, .int .i64 301, .int .i64 50, .int .i64 51, .int .i64 13, .int .i64 14, .int .i64 320, .int .i64 322, .int .i64 50, .int .i64 51, .int .i64 10, .int .i64 11, .int .i64 500, .int .i64 500, .int .i64 500, .int .i64 500, .int .i64 30, .int .i64 40] 61)
  have k0 := obj_later hb g6
  replace hb0 := hb0.trans (hb.mono hb0.size)
  generalize w6.alloc (.cells #[.int .i64 100, .int .i64 102, .int .i64 200, .int .i64 201, .int .i64 20, .int .i64 22, .int .i64 121, .int .i64 123, .int .i64 200, .int .i64 202, .int .i64 18, .int .i64 19, .int .i64 101, .int .i64 102, .int .i64 231, .int .i64 233, .int .i64 15, .int .i64 16, .int .i64 300, .int .i64 301, .int .i64 50, .int .i64 51, .int .i64 13, .int .i64 14, .int .i64 320, .int .i64 322, .int .i64 50, .int .i64 51, .int .i64 10, .int .i64 11, .int .i64 500, .int .i64 500, .int .i64 500, .int .i64 500, .int .i64 30, .int .i64 40] 61) = v0 at hl6 hb k0 hb0 ⊢
  obtain ⟨q, hq⟩ : ∃ q, w6.heap.size = q := ⟨_, rfl⟩
  have hzq : z < q := by rw [← hq]; exact (Array.getElem?_eq_some_iff.1 g6).1
  rw [hq] at hl6 ⊢
  clear hb g6 hq
  refine (ilspan_any _ _ _).mono ?_
  rintro e v1 ⟨rfl, hb⟩
  have k1 := obj_later hb k0
  have hl7 := hl6.below hb (Nat.le_refl _)
  replace hb0 := hb0.trans (hb.mono hb0.size)
  clear hb k0 hl6
  go_wp2_with fail
  refine (ilspan_any _ _ _).mono ?_
  rintro e v2 ⟨rfl, hb⟩
  have k2 := obj_later hb k1
  have hl8 := hl7.below hb (Nat.le_refl _)
  replace hb0 := hb0.trans (hb.mono hb0.size)
  clear hb k1 hl7
  go_wp2_with fail
  refine (ilspan_any _ _ _).mono ?_
  rintro e v3 ⟨rfl, hb⟩
  have k3 := obj_later hb k2
  have hl9 := hl8.below hb (Nat.le_refl _)
  replace hb0 := hb0.trans (hb.mono hb0.size)
  clear hb k2 hl8
  go_wp2_with fail
  refine (ilspan_any _ _ _).mono ?_
  rintro e v4 ⟨rfl, hb⟩
  have k4 := obj_later hb k3
  have hl10 := hl9.below hb (Nat.le_refl _)
  replace hb0 := hb0.trans (hb.mono hb0.size)
  clear hb k3 hl9
  go_wp2_with fail
  refine (ilspan_any _ _ _).mono ?_
  rintro e v5 ⟨rfl, hb⟩
  have k5 := obj_later hb k4
  have hl11 := hl10.below hb (Nat.le_refl _)
  replace hb0 := hb0.trans (hb.mono hb0.size)
  clear hb k4 hl10
  go_wp2_with fail
  refine (ilspan_any _ _ _).mono ?_
  rintro e v6 ⟨rfl, hb⟩
  have k6 := obj_later hb k5
  have hl12 := hl11.below hb (Nat.le_refl _)
  replace hb0 := hb0.trans (hb.mono hb0.size)
  clear hb k5 hl11
  have cz := fun k => cell_block k6 k
  have c0 := cz 0
  have c1 := cz 1
  have c2 := cz 2
  have c3 := cz 3
  have c4 := cz 4
  have c5 := cz 5
  have c6 := cz 6
  have c7 := cz 7
  have c8 := cz 8
  have c9 := cz 9
  have c10 := cz 10
  have c11 := cz 11
  have c12 := cz 12
  have c13 := cz 13
  have c14 := cz 14
  clear cz
  simp only [gA, gB, gC] at c0 c1 c2 c3 c4 c5 c6 c7 c8 c9 c10 c11 c12 c13 c14
  have f0 := frozen_block k6 0
  have f1 := frozen_block k6 1
  have f2 := frozen_block k6 2
  have f3 := frozen_block k6 3
  have f4 := frozen_block k6 4
  have f5 := frozen_block k6 5
  have f6 := frozen_block k6 6
  have f7 := frozen_block k6 7
  have f8 := frozen_block k6 8
  have f9 := frozen_block k6 9
  have f10 := frozen_block k6 10
  have f11 := frozen_block k6 11
  have f12 := frozen_block k6 12
  have f13 := frozen_block k6 13
  have f14 := frozen_block k6 14
  go_wp2_with fail
  have zz := put15_same k6 (.int .i64 20) (.int .i64 22) (.int .i64 0) (.int .i64 1) (.int .i64 0) (.int .i64 1) (.int .i64 30) (.int .i64 33) (.int .i64 2) (.int .i64 3) (.int .i64 5) (.int .i64 6) (.int .i64 10) (.int .i64 2) (.slice (some ⟨q, 0, none⟩) 6 6)
  have hst := put15_steps v6 z (.int .i64 20) (.int .i64 22) (.int .i64 0) (.int .i64 1) (.int .i64 0) (.int .i64 1) (.int .i64 30) (.int .i64 33) (.int .i64 2) (.int .i64 3) (.int .i64 5) (.int .i64 6) (.int .i64 10) (.int .i64 2) (.slice (some ⟨q, 0, none⟩) 6 6)
  have hle : ImSl (put15 v6 z (.int .i64 20) (.int .i64 22) (.int .i64 0) (.int .i64 1) (.int .i64 0) (.int .i64 1) (.int .i64 30) (.int .i64 33) (.int .i64 2) (.int .i64 3) (.int .i64 5) (.int .i64 6) (.int .i64 10) (.int .i64 2) (.slice (some ⟨q, 0, none⟩) 6 6)) (some ⟨q, 0, none⟩) ismp.l := fun k hk => by
    obtain ⟨b, o, e, hlt, hx⟩ := hl12 k hk
    cases e
    exact ⟨_, _, rfl, Nat.lt_of_lt_of_le hlt hst.size, hx.same (hst.block _ hlt (fun e => by omega))⟩
  unfold put15 at zz hst hle
  have cz := fun k => cell_block zz k
  have m0 := cz 0
  have m1 := cz 1
  have m2 := cz 2
  have m3 := cz 3
  have m4 := cz 4
  have m5 := cz 5
  have m6 := cz 6
  have m7 := cz 7
  have m8 := cz 8
  have m9 := cz 9
  have m10 := cz 10
  have m11 := cz 11
  have m12 := cz 12
  have m13 := cz 13
  have m14 := cz 14
  clear cz
  simp only [gA, gB, gC] at m0 m1 m2 m3 m4 m5 m6 m7 m8 m9 m10 m11 m12 m13 m14
  exact bodyPost_ret (v := .agg #[.int .i64 20, .int .i64 22, .int .i64 0, .int .i64 1, .int .i64 0, .int .i64 1, .int .i64 30, .int .i64 33, .int .i64 2, .int .i64 3, .int .i64 5, .int .i64 6, .int .i64 10, .int .i64 2, .slice (some ⟨q, 0, none⟩) 6 6]) (by simp [results, Try.results39, go_sem, m0, m1, m2, m3, m4, m5, m6, m7, m8, m9, m10, m11, m12, m13, m14]) rfl ⟨q, rfl, hle, hb0.trans (hst.below (B := w.heap.size) hb0.size (fun k _ h => by have := HZ.out; omega))⟩
end Go.Proofs.Ytacioedolmaofaa
namespace Go.Proofs.Ytacioedolmaofaa
open Go.RowKit Go.Shelf
set_option maxHeartbeats 6400000
set_option maxRecDepth 100000
set_option linter.unusedSimpArgs false
set_option linter.unusedVariables false

/-- A sheet whose trails are gathered, of a call that began in w0. -/
structure OpenB (w0 w : World) (p : Nat) (s : ISheet) (fa : Option Addr) (fc : Nat) (l : List ITr) (v : Value) : Prop where
  op : OpenI w p s fa fc l v
  im : ImSl w0 fa s.l
  sz : w0.heap.size ≤ p
  bl : Below p w0 w
theorem OpenB.later {w0 w w' : World} {p : Nat} {s : ISheet} {fa : Option Addr} {fc : Nat} {l : List ITr} {v : Value} (h : OpenB w0 w p s fa fc l v) (hb : Below w.heap.size w w') : OpenB w0 w' p s fa fc l v :=
  ⟨h.op.later hb, h.im, h.sz, h.bl.trans (hb.mono (Nat.le_of_lt h.op.lt))⟩

theorem open_reg17 (p q8 : Nat) (fa : Option Addr) (fc : Nat) (s : ISheet) (l : List ITr) (v : Value) (t : ITr) (w00 wA : World) {z0 z1 z2 z3 z5 z6 z7 z9 z10 z11 z12 z13 z14 z15 z16 z17 z18 z19 z20 z21 z22 z23 z24 z25 z26 z27 z28 z29 z30 z31 z32 z33 z34 z35 z36 z37 z38 z39 z40 z41 z42 z43 z44 z45 z46 z47 z48 z49 z50 z51 z62 z63 : Value} {z52 z53 z54 z55 z56 z57 z58 z59 z60 z61 : Value}
    (hI : OpenB w00 wA p s fa fc l v) (hq : wA.heap[q8]? = some (.cells #[.int .i64 t.a, .int .i64 t.b, .int .i64 t.c] 32)) (hpq : p < q8) (hvq : ∀ g, v.ownBlock = some g → g < q8) (hl : l.length ≤ 5000) (K : Act → World → Prop) (Q : Exit → Act → World → Prop)
    (hfin : ∀ (s52 s53 s54 s55 s56 s57 s58 s59 s60 s61 v' : Value) (w3 : World), OpenB w00 w3 p s fa fc (l ++ [t]) v' → wA.heap.size ≤ w3.heap.size → K ⟨(z0::z1::z2::z3::(.pointer (some ⟨p, 0, none⟩))::z5::z6::z7::(.pointer (some ⟨q8, 0, none⟩))::z9::z10::z11::z12::z13::z14::z15::z16::z17::z18::z19::z20::z21::z22::z23::z24::z25::z26::z27::z28::z29::z30::z31::z32::z33::z34::z35::z36::z37::z38::z39::z40::z41::z42::z43::z44::z45::z46::z47::z48::z49::z50::z51::s52::s53::s54::s55::s56::s57::s58::s59::s60::s61::z62::z63 :: []).toArray, []⟩ w3) :
    Code.wp Try.prog (((Try.f40.body.bind (findReg 17)).getD .skip)) (Exit.then K Q) ⟨(z0::z1::z2::z3::(.pointer (some ⟨p, 0, none⟩))::z5::z6::z7::(.pointer (some ⟨q8, 0, none⟩))::z9::z10::z11::z12::z13::z14::z15::z16::z17::z18::z19::z20::z21::z22::z23::z24::z25::z26::z27::z28::z29::z30::z31::z32::z33::z34::z35::z36::z37::z38::z39::z40::z41::z42::z43::z44::z45::z46::z47::z48::z49::z50::z51::z52::z53::z54::z55::z56::z57::z58::z59::z60::z61::z62::z63 :: []).toArray, []⟩ wA := by
  have HFIN := Lib.hid hfin
  obtain ⟨ra, rc, rfl⟩ := ownsRow_form hI.op.row
  have k15 : ∀ W' : World, (W'.heap[p]? = some (.cells (shL s fa fc ++ [Value.slice ra l.length rc]).toArray 109) ∧ W'.heap[q8]? = some (.cells #[.int .i64 t.a, .int .i64 t.b, .int .i64 t.c] 32)) → W'.cell? ⟨p, 15, none⟩ = some (.slice ra l.length rc) := fun W' h => cell_block h.1 15
  have q0 : ∀ W' : World, (W'.heap[p]? = some (.cells (shL s fa fc ++ [Value.slice ra l.length rc]).toArray 109) ∧ W'.heap[q8]? = some (.cells #[.int .i64 t.a, .int .i64 t.b, .int .i64 t.c] 32)) → W'.cell? ⟨q8, 0, none⟩ = some (.int .i64 t.a) := fun W' h => cell_block h.2 0
  have q1 : ∀ W' : World, (W'.heap[p]? = some (.cells (shL s fa fc ++ [Value.slice ra l.length rc]).toArray 109) ∧ W'.heap[q8]? = some (.cells #[.int .i64 t.a, .int .i64 t.b, .int .i64 t.c] 32)) → W'.cell? ⟨q8, 1, none⟩ = some (.int .i64 t.b) := fun W' h => cell_block h.2 1
  have q2 : ∀ W' : World, (W'.heap[p]? = some (.cells (shL s fa fc ++ [Value.slice ra l.length rc]).toArray 109) ∧ W'.heap[q8]? = some (.cells #[.int .i64 t.a, .int .i64 t.b, .int .i64 t.c] 32)) → W'.cell? ⟨q8, 2, none⟩ = some (.int .i64 t.c) := fun W' h => cell_block h.2 2
  have hpl := hI.op.lt
  have hql := (Array.getElem?_eq_some_iff.1 hq).1
  have hsh := hI.op.sh
  have HI := Lib.hid hI
  clear hfin hI
  conv => arg 2; whnf
  refine (wpIn_wide (n := 1)).1 ?_
  refine wpIn_region_Vn (B := [10]) (S := fun W' => W'.heap[p]? = some (.cells (shL s fa fc ++ [Value.slice ra l.length rc]).toArray 109) ∧ W'.heap[q8]? = some (.cells #[.int .i64 t.a, .int .i64 t.b, .int .i64 t.c] 32)) 11 (by kernel_rfl) (by kernel_rfl) ⟨hsh, hq⟩ (fun hS0 => ?_)
  have H0 := below_drew wA
  generalize wA.drew = w0 at H0 hS0 ⊢
  refine wpAnyV_takeD 0 52 (v := ?_) (by kernel_rfl) (by kernel_rfl) (by kernel_rfl) (by kernel_rfl) (fun _ _ _ h => h) (by kernel_rfl) ?_ (by assumption) ?_
  rotate_left
  · intro oi hoi w hSw; (try dsimp only at hSw); simp only [gA, gB, gC, gG] at hoi; subst hoi; go_simp; try with_reducible rfl
  simp only [Act.put, gD, gE, gF]
  refine wpAnyV_takeD 1 53 (v := ?_) (by kernel_rfl) (by kernel_rfl) (by kernel_rfl) (by kernel_rfl) (fun _ _ _ h => h) (by kernel_rfl) ?_ (by assumption) ?_
  rotate_left
  · intro oi hoi w hSw; (try dsimp only at hSw); simp only [gA, gB, gC, gG] at hoi; subst hoi; go_simp; try with_reducible rfl
  simp only [Act.put, gD, gE, gF]
  refine wpAnyV_takeD 2 54 (v := ?_) (by kernel_rfl) (by kernel_rfl) (by kernel_rfl) (by kernel_rfl) (fun _ _ _ h => h) (by kernel_rfl) ?_ (by assumption) ?_
  rotate_left
  · intro oi hoi w hSw; (try dsimp only at hSw); simp only [gA, gB, gC, gG] at hoi; subst hoi; go_simp; try with_reducible rfl
  simp only [Act.put, gD, gE, gF]
  refine wpAnyV_takeD 3 55 (v := ?_) (by kernel_rfl) (by kernel_rfl) (by kernel_rfl) (by kernel_rfl) (fun _ _ _ h => h) (by kernel_rfl) ?_ (by assumption) ?_
  rotate_left
  · intro oi hoi w hSw; (try dsimp only at hSw); simp only [gA, gB, gC, gG] at hoi; subst hoi; go_simp; try with_reducible rfl
  simp only [Act.put, gD, gE, gF]
  refine wpAnyV_takeD 4 56 (v := ?_) (by kernel_rfl) (by kernel_rfl) (by kernel_rfl) (by kernel_rfl) (fun _ _ _ h => h) (by kernel_rfl) ?_ (by assumption) ?_
  rotate_left
  · intro oi hoi w hSw; (try dsimp only at hSw); simp only [gA, gB, gC, gG] at hoi; subst hoi; go_simp; try with_reducible rfl
  simp only [Act.put, gD, gE, gF]
  refine wpAnyV_takeD 5 57 (v := ?_) (by kernel_rfl) (by kernel_rfl) (by kernel_rfl) (by kernel_rfl) (fun _ _ _ h => h) (by kernel_rfl) ?_ (by assumption) ?_
  rotate_left
  · intro oi hoi w hSw; (try dsimp only at hSw); simp only [gA, gB, gC, gG] at hoi; subst hoi; go_simp; try with_reducible rfl
  simp only [Act.put, gD, gE, gF]
  clear k15 q0 q1 q2
  refine wpAnyV_one 6 (by kernel_rfl) (by kernel_rfl) ?_
  intro o ho K hK
  simp only [gA, gB, gC, gG] at ho
  subst ho
  go_simp
  have I0 := HI.out.later H0
  obtain ⟨v', w', hrun, hown', hgrow, hnext⟩ := putTr t I0.op.row hl I0.op.lt
  obtain ⟨xa, xN, xc, rfl⟩ := ownsRow_any hown'
  have hS1 := (below_alloc w0 (.cells #[.int .i64 t.a, .int .i64 t.b, .int .i64 t.c] 32))
  refine hK _ _ (.inr ⟨obj_later hS1 hS0.1, obj_later hS1 hS0.2⟩) (fun _ => ?_)
  clear hK K hS1
  try simp only [Act.put, gD, gE, gF]
  have hlt0 : ∀ g, (Value.slice ra l.length rc).ownBlock = some g → g < q8 := hvq
  have hge0 := fun g hg => (I0.op.row.lt g hg).1
  have hS2 : w'.heap[p]? = some (.cells (shL s fa fc ++ [Value.slice ra l.length rc]).toArray 109) ∧ w'.heap[q8]? = some (.cells #[.int .i64 t.a, .int .i64 t.b, .int .i64 t.c] 32) :=
    ⟨(hgrow.block p (Nat.lt_of_lt_of_le hpl H0.size) (fun e => by have := hge0 p e.symm; omega)).trans hS0.1, (hgrow.block q8 (Nat.lt_of_lt_of_le hql H0.size) (fun e => by have := hlt0 q8 e.symm; omega)).trans hS0.2⟩
  have hB2 : Below (p + 1) w0 w' := ⟨hgrow.os, hgrow.tape, hgrow.output, hgrow.size, fun g hg => hgrow.block g (by have := H0.size; omega) (fun e => by have := hge0 g e.symm; omega)⟩
  refine wpAnyV_one 7 (by kernel_rfl) (by kernel_rfl) ?_
  intro o ho K hK
  simp only [gA, gB, gC, gG] at ho
  subst ho
  refine wpIn_append' (.tmp 56) (.tmp 58) 41 _ _ _ rfl rfl rfl hrun ?_
  refine hK _ _ (.inr hS2) (fun _ => ?_)
  clear hK K hrun
  try simp only [Act.put, gD, gE, gF]
  refine wpAnyV_one 8 (by kernel_rfl) (by kernel_rfl) ?_
  intro o ho K hK
  simp only [gA, gB, gC, gG] at ho
  subst ho
  go_simp
  refine hK _ _ (.inr hS2) (fun _ => ?_)
  clear hK K
  try simp only [Act.put, gD, gE, gF]
  refine wpAnyV_one 9 (by kernel_rfl) (by kernel_rfl) ?_
  intro o ho K hK
  simp only [gA, gB, gC, gG] at ho
  subst ho
  go_simp
  refine hK _ _ (.inr hS2) (fun _ => ?_)
  clear hK K
  try simp only [Act.put, gD, gE, gF]
  have f15 := frozen_block hS2.1 15
  have c15 : w'.cell? ⟨p, 15, none⟩ = some (.slice ra l.length rc) := cell_block hS2.1 15
  refine wpAnyV_one 10 (by kernel_rfl) (by kernel_rfl) ?_
  intro o ho K hK
  simp only [gA, gB, gC, gG] at ho
  subst ho
  go_simp
  have zz := block_set hS2.1 15 (.slice xa xN xc)
  have hF : OpenB w00 (w'.setCell ⟨p, 15, none⟩ (.slice xa xN xc)) p s fa fc (l ++ [t]) (.slice xa xN xc) :=
    ⟨⟨zz.trans (by simp [shL]), HI.out.im.below (I0.bl.trans ((hB2.mono (Nat.le_succ p)).setCell (p := ⟨p, 15, none⟩) (Nat.le_refl _) _)) HI.out.sz, ownsRow_set hown' (Nat.lt_succ_self p)⟩,
      HI.out.im, HI.out.sz, I0.bl.trans ((hB2.mono (Nat.le_succ p)).setCell (p := ⟨p, 15, none⟩) (Nat.le_refl _) _)⟩
  have hz : wA.heap.size ≤ (w'.setCell ⟨p, 15, none⟩ (.slice xa xN xc)).heap.size := by have := H0.size; have := hB2.size; simp; omega
  refine hK _ _ (.inl (by kernel_rfl)) (fun _ => ?_)
  clear hK K
  try simp only [Act.put, gD, gE, gF]
  refine wpAnyV_done (by kernel_rfl) ?_ _
  dsimp only [onNormal]
  exact HFIN.out _ _ _ _ _ _ _ _ _ _ _ _ hF hz
end Go.Proofs.Ytacioedolmaofaa
namespace Go.Proofs.Ytacioedolmaofaa
open Go.RowKit Go.Shelf
set_option maxHeartbeats 6400000
set_option maxRecDepth 100000
set_option linter.unusedSimpArgs false
set_option linter.unusedVariables false

/-- A sheet that is looked at, in memory. -/
structure SheetAt (w : World) (p : Nat) (s : ISheet) (fa : Option Addr) (fc : Nat) (ta : Option Addr) (tc : Nat) (T : List ITr) : Prop where
  sh : w.heap[p]? = some (.cells (shL s fa fc ++ [Value.slice ta T.length tc]).toArray 109)
  im : ImSl w fa s.l
  tr : TrSl w ta T
  tb : ∀ a, ta = some a → a.block < w.heap.size
  tp : ∀ a, ta = some a → p < a.block
theorem OpenI.tb {w : World} {p : Nat} {s : ISheet} {fa : Option Addr} {fc : Nat} {l : List ITr} {ta : Option Addr} {tn tc : Nat} (h : OpenI w p s fa fc l (.slice ta tn tc)) : ∀ a, ta = some a → a.block < w.heap.size := by
  intro a ha
  rcases h.row.2 with ⟨he, _⟩ | ⟨g, cap, cur, he, _, hg, _⟩
  · cases he; cases ha
  · cases he; cases ha; exact (Array.getElem?_eq_some_iff.1 hg).1
theorem OpenI.tp {w : World} {p : Nat} {s : ISheet} {fa : Option Addr} {fc : Nat} {l : List ITr} {ta : Option Addr} {tn tc : Nat} (h : OpenI w p s fa fc l (.slice ta tn tc)) : ∀ a, ta = some a → p < a.block := by
  intro a ha
  rcases h.row.2 with ⟨he, _⟩ | ⟨g, cap, cur, he, hb, hg, _⟩
  · cases he; cases ha
  · cases he; cases ha; exact hb
/-- What open returns. -/
def OpenRet (s : ISheet) (fa : Option Addr) (fc : Nat) (w : World) (e : Ending) (w' : World) : Prop :=
  Below w.heap.size w w' ∧ if s.ok then ∃ p ta tc, e = .returned (.tuple #[.pointer (some ⟨p, 0, none⟩), .int .i64 0]) ∧ w.heap.size ≤ p ∧ SheetAt w' p s fa fc ta tc s.trails else e = .returned (.tuple #[.pointer none, .int .i64 1])

theorem iopen_any (s : ISheet) (fa : Option Addr) (fc : Nat) (w : World) (hl : ImSl w fa s.l) (hlen : s.l.length < 9223372036854775807) :
    Calls Try.prog 40 #[.agg #[.int .i64 s.ax.lo, .int .i64 s.ax.hi, .int .i64 s.ay.lo, .int .i64 s.ay.hi, .int .i64 s.bx.lo, .int .i64 s.bx.hi, .int .i64 s.by'.lo, .int .i64 s.by'.hi, .int .i64 s.f.lo, .int .i64 s.f.hi, .int .i64 s.g.lo, .int .i64 s.g.hi, .int .i64 s.limit, .int .i64 s.flaws, .slice fa s.l.length fc]] w (OpenRet s fa fc w) := by
  go_enter Try.func40, Try.ntmps40
  go_wp2_with fail
  obtain ⟨W0, hW0⟩ : ∃ W, (w.alloc (.cells #[.int .i64 s.ax.lo, .int .i64 s.ax.hi, .int .i64 s.ay.lo, .int .i64 s.ay.hi, .int .i64 s.bx.lo, .int .i64 s.bx.hi, .int .i64 s.by'.lo, .int .i64 s.by'.hi, .int .i64 s.f.lo, .int .i64 s.f.hi, .int .i64 s.g.lo, .int .i64 s.g.hi, .int .i64 s.limit, .int .i64 s.flaws, .slice fa s.l.length fc] 30)) = W := ⟨_, rfl⟩
  rw [hW0]
  try simp only [Nat.add_assoc, Nat.reduceAdd]
  have hst_W0 : Steps (fun _ => False) w W0 := by rw [← hW0]; exact Steps.alloc _ w _
  have hz_W0 : W0.heap.size = w.heap.size + 1 := by rw [← hW0]; simp
  have g0_W0 : W0.heap[w.heap.size]? = some (.cells #[.int .i64 s.ax.lo, .int .i64 s.ax.hi, .int .i64 s.ay.lo, .int .i64 s.ay.hi, .int .i64 s.bx.lo, .int .i64 s.bx.hi, .int .i64 s.by'.lo, .int .i64 s.by'.hi, .int .i64 s.f.lo, .int .i64 s.f.hi, .int .i64 s.g.lo, .int .i64 s.g.hi, .int .i64 s.limit, .int .i64 s.flaws, .slice fa s.l.length fc] 30) := by rw [← hW0]; simp only [alloc_get, World.size_alloc]; repeat (first | exact if_pos trivial | exact if_pos (by omega) | rw [if_neg (by omega)])
  clear hW0
  have hb0 : Below w.heap.size w W0 := hst_W0.below (Nat.le_refl _) (fun _ _ h => h)
  have hl0 := hl.below hb0 (Nat.le_refl _)
  refine (isheet_any s fa fc W0 hl0 hlen).mono ?_
  rintro e w1 ⟨rfl, hb1⟩
  obtain ⟨ok, hok⟩ : ∃ ok, s.ok = ok := ⟨_, rfl⟩
  rw [hok]
  have HOK := Lib.hid hok
  have hl1 := hl0.below hb1 (Nat.le_refl _)
  have hB1 := hb0.trans (hb1.mono hb0.size)
  have hsz0 : w.heap.size < W0.heap.size := by omega
  have hz1 := hb1.size
  obtain ⟨B, hB⟩ : ∃ B, w.heap.size = B := ⟨_, rfl⟩
  have hx1 := obj_later hb1 g0_W0
  rw [hB] at hx1 hB1 hsz0
  try rw [hB]
  have HB := Lib.hid hB
  clear hok hst_W0 hz_W0 hl hl0 hb0 hb1 hB g0_W0
  cases ok
  · go_wp2_with fail
    go_ret2
    refine ⟨by rw [HB.out]; exact hB1, ?_⟩
    rw [if_neg (by rw [HOK.out]; simp)]
    rfl
  · have hok := HOK.out
    have hn9 : s.l.length ≤ 9 := ((iok_iff s).1 hok).2.2.2.2.2.2.2.2.2
    have HRET : Hid (∀ w' ta tc, SheetAt w' w1.heap.size s fa fc ta tc s.trails → Below w1.heap.size w1 w' → OpenRet s fa fc w (.returned (.tuple #[.pointer (some ⟨w1.heap.size, 0, none⟩), .int .i64 0])) w') := Lib.hid (by
      intro w' ta tc h1 h2
      refine ⟨by rw [HB.out]; exact hB1.trans (h2.mono (by omega)), ?_⟩
      rw [if_pos hok]
      exact ⟨_, ta, tc, rfl, by rw [HB.out]; omega, h1⟩)
    have cb := fun i => cell_block hx1 i
    have cb0 := cb 0
    have cb1 := cb 1
    have cb2 := cb 2
    have cb3 := cb 3
    have cb4 := cb 4
    have cb5 := cb 5
    have cb6 := cb 6
    have cb7 := cb 7
    have cb8 := cb 8
    have cb9 := cb 9
    have cb10 := cb 10
    have cb11 := cb 11
    have cb12 := cb 12
    have cb13 := cb 13
    have cb14 := cb 14
    clear cb
    try simp only [gA, gB, gC] at cb0 cb1 cb2 cb3 cb4 cb5 cb6 cb7 cb8 cb9 cb10 cb11 cb12 cb13 cb14
    go_upto_region 4 with fail
    have hnew := obj_new w1 (.cells #[.int .i64 s.ax.lo, .int .i64 s.ax.hi, .int .i64 s.ay.lo, .int .i64 s.ay.hi, .int .i64 s.bx.lo, .int .i64 s.bx.hi, .int .i64 s.by'.lo, .int .i64 s.by'.hi, .int .i64 s.f.lo, .int .i64 s.f.hi, .int .i64 s.g.lo, .int .i64 s.g.hi, .int .i64 s.limit, .int .i64 s.flaws, .slice fa s.l.length fc, .slice none 0 0] 109)
    have hbn := below_alloc w1 (.cells #[.int .i64 s.ax.lo, .int .i64 s.ax.hi, .int .i64 s.ay.lo, .int .i64 s.ay.hi, .int .i64 s.bx.lo, .int .i64 s.bx.hi, .int .i64 s.by'.lo, .int .i64 s.by'.hi, .int .i64 s.f.lo, .int .i64 s.f.hi, .int .i64 s.g.lo, .int .i64 s.g.hi, .int .i64 s.limit, .int .i64 s.flaws, .slice fa s.l.length fc, .slice none 0 0] 109)
    obtain ⟨p, hp⟩ : ∃ p, w1.heap.size = p := ⟨_, rfl⟩
    generalize w1.alloc (.cells #[.int .i64 s.ax.lo, .int .i64 s.ax.hi, .int .i64 s.ay.lo, .int .i64 s.ay.hi, .int .i64 s.bx.lo, .int .i64 s.bx.hi, .int .i64 s.by'.lo, .int .i64 s.by'.hi, .int .i64 s.f.lo, .int .i64 s.f.hi, .int .i64 s.g.lo, .int .i64 s.g.hi, .int .i64 s.limit, .int .i64 s.flaws, .slice fa s.l.length fc, .slice none 0 0] 109) = wz at hnew hbn ⊢
    rw [hp] at hnew hbn HRET hz1
    rw [hp]
    have hO : OpenB w1 wz p s fa fc [] (.slice none 0 0) := ⟨⟨hnew, hl1.below hbn (Nat.le_of_eq hp), World.ownsRow_nil _ _ _ _⟩, hl1, Nat.le_of_eq hp, hbn⟩
    have HPB : Hid (B < p) := Lib.hid (by omega)
    have HX : Hid (w1.cell? ⟨B, 14, none⟩ = some (.slice fa s.l.length fc)) := Lib.hid cb14
    clear hnew hbn hp hz1 cb0 cb1 cb2 cb3 cb4 cb5 cb6 cb7 cb8 cb9 cb10 cb11 cb12 cb13 cb14 hx1 hl1 hB1 hsz0
    have c14 : wz.cell? ⟨B, 14, none⟩ = some (.slice fa s.l.length fc) := (hO.bl.cell (p := ⟨B, 14, none⟩) HPB.out).trans HX.out
    have hni : (s.l.length : Int) ≤ 9 := by omega
    go_wp2_with fail
    go_loopw [5, 6, 7, 8, 9, 10, 20] (fun _ _ _ _ _ _ i wr => ∃ (k : Nat) (v : Value), k ≤ s.l.length ∧ i = .int .i64 k ∧ OpenB w1 wr p s fa fc (opA s k) v) (fun _ _ _ _ _ _ i _ => s.l.length - (intOf i).toNat)
    case atStart => exact ⟨0, _, Nat.zero_le _, rfl, hO⟩
    case round =>
      obtain ⟨k, v, hk, rfl, hOk⟩ := hrel
      clear c14 hO
      have c14 : wr.cell? ⟨B, 14, none⟩ = some (.slice fa s.l.length fc) := (hOk.bl.cell (p := ⟨B, 14, none⟩) HPB.out).trans HX.out
      by_cases hlt : k < s.l.length
      · have hki : (k : Int) < s.l.length := by omega
        go_wp2_with fail
        go_loopw [6, 7, 8, 9, 10] (fun b _ _ _ _ wr => ∃ (kb : Nat) (v : Value), kb ≤ s.l.length + 1 ∧ b = .int .i64 ((kb : Int) - 1) ∧ OpenB w1 wr p s fa fc (opA s k ++ opB s k kb) v) (fun b _ _ _ _ _ => s.l.length + 1 - (intOf b + 1).toNat)
        case atStart => exact ⟨0, _, Nat.zero_le _, rfl, by simpa [opB] using hOk⟩
        case round =>
          obtain ⟨kb, vb, hkb, rfl, hOb⟩ := hrel
          clear c14 hOk
          have c14 : wr.cell? ⟨B, 14, none⟩ = some (.slice fa s.l.length fc) := (hOb.bl.cell (p := ⟨B, 14, none⟩) HPB.out).trans HX.out
          obtain ⟨b, hb⟩ : ∃ b : Int, (kb : Int) - 1 = b := ⟨_, rfl⟩
          rw [hb]
          have HBI := Lib.hid hb
          have hbl : -1 ≤ b := by omega
          by_cases hltb : kb < s.l.length + 1
          · have hbi : b < s.l.length := by omega
            clear hb
            go_wp2_with fail
            go_step3
            go_wp2_with fail
            go_step3
            go_wp2_with fail
            go_loopw [7, 8, 9, 10] (fun c _ _ _ wr => ∃ (kc : Nat) (v : Value), kc ≤ s.l.length + 1 ∧ c = .int .i64 ((kc : Int) - 1) ∧ OpenB w1 wr p s fa fc (opA s k ++ opB s k kb ++ opC s k b kc) v) (fun c _ _ _ _ => s.l.length + 1 - (intOf c + 1).toNat)
            case atStart => exact ⟨0, _, Nat.zero_le _, rfl, by simpa [opC] using hOb⟩
            case round =>
              obtain ⟨kc, vc, hkc, rfl, hOc⟩ := hrel
              clear c14 hOb
              have c14 : wr.cell? ⟨B, 14, none⟩ = some (.slice fa s.l.length fc) := (hOc.bl.cell (p := ⟨B, 14, none⟩) HPB.out).trans HX.out
              obtain ⟨c, hc⟩ : ∃ c : Int, (kc : Int) - 1 = c := ⟨_, rfl⟩
              rw [hc]
              have HCI := Lib.hid hc
              have hcl : -1 ≤ c := by omega
              by_cases hltc : kc < s.l.length + 1
              · have hci : c < s.l.length := by omega
                have hlen2 : (opA s k ++ opB s k kb ++ opC s k b kc).length ≤ 5000 := Nat.le_trans (op_len s hn9 k (by omega) k b kb kc (by omega) (by omega)) (by omega)
                clear hc
                go_wp2_with fail
                have hq := obj_new wr (.cells #[.int .i64 k, .int .i64 b, .int .i64 c] 32)
                have hbq := below_alloc wr (.cells #[.int .i64 k, .int .i64 b, .int .i64 c] 32)
                have hvq : ∀ g, vc.ownBlock = some g → g < wr.heap.size := fun g hg => (hOc.op.row.lt g hg).2
                have hpq : p < wr.heap.size := hOc.op.lt
                generalize wr.alloc (.cells #[.int .i64 k, .int .i64 b, .int .i64 c] 32) = wq at hq hbq ⊢
                have hOq := hOc.later hbq
                obtain ⟨q8, hq8⟩ : ∃ q, wr.heap.size = q := ⟨_, rfl⟩
                rw [hq8] at hq hvq hpq
                try rw [hq8]
                clear hOc hbq hq8 c14
                refine (iisTrail_any p s.l.length fc fa ⟨k, b, c⟩ wq hOq.op.at'.c14 hn9).mono ?_
                rintro e w2 ⟨rfl, hb2⟩
                have hq2 := obj_later hb2 hq
                have hO2 := hOq.later hb2
                clear hOq hq hb2
                obtain ⟨tk, hto⟩ : ∃ tk, (⟨k, b, c⟩ : ITr).ok s.l.length = tk := ⟨_, rfl⟩
                rw [hto]
                have HTO := Lib.hid hto
                cases tk
                · clear hto
                  go_wp2_with fail
                  go_roundw
                  case rel => exact ⟨kc + 1, vc, hltc, by have := HCI.out; congr 1; omega, by rw [opC_succ, HCI.out, HTO.out]; simpa using hO2⟩
                  case measure => simp [intOf]; omega
                · have qc := fun i => cell_block hq2 i
                  have qc0 := qc 0
                  have qc1 := qc 1
                  have qc2 := qc 2
                  try simp only [gA, gB, gC] at qc0 qc1 qc2
                  clear qc
                  go_wp2_with fail
                  refine (istar_any p fc fa s ⟨k, b, c⟩ w2 hok hto hO2.op.at' hO2.op.im).mono ?_
                  rintro e w3 ⟨rfl, hb3⟩
                  have hq3 := obj_later hb3 hq2
                  have hO3 := hO2.later hb3
                  rw [star_same hok]
                  obtain ⟨st, hst⟩ : ∃ st, s.star ⟨k, b, c⟩ = st := ⟨_, rfl⟩
                  rw [hst]
                  have HST := Lib.hid hst
                  clear hto hq2 hO2 hb3 hst qc0 qc1 qc2
                  cases st with
                  | none =>
                    unfold starV
                    go_wp2_with fail
                    go_roundw
                    case rel => exact ⟨kc + 1, vc, hltc, by have := HCI.out; congr 1; omega, by rw [opC_succ, HCI.out, HTO.out, HST.out]; simpa using hO3.later (below_alloc _ _)⟩
                    case measure => simp [intOf]; omega
                  | some o =>
                    unfold starV
                    go_upto_region 17 with fail
                    have hba := below_alloc w3 (.cells #[.int .i64 o.x.lo, .int .i64 o.x.hi, .int .i64 o.y.lo, .int .i64 o.y.hi, .int .i64 o.s.lo, .int .i64 o.s.hi] 84)
                    generalize w3.alloc (.cells #[.int .i64 o.x.lo, .int .i64 o.x.hi, .int .i64 o.y.lo, .int .i64 o.y.hi, .int .i64 o.s.lo, .int .i64 o.s.hi] 84) = w4 at hba ⊢
                    refine wp_last (open_reg17 p q8 fa fc s (opA s k ++ opB s k kb ++ opC s k b kc) vc ⟨k, b, c⟩ w1 w4 (hO3.later hba) (obj_later hba hq3) hpq hvq hlen2 _ _ ?_)
                    intro s52 s53 s54 s55 s56 s57 s58 s59 s60 s61 v' w5 hO5 hz5
                    go_wp2_with fail
                    go_roundw
                    case rel => exact ⟨kc + 1, v', hltc, by have := HCI.out; congr 1; omega, by rw [opC_succ, HCI.out, HTO.out, HST.out]; simpa using hO5⟩
                    case measure => simp [intOf]; omega
              · obtain rfl : kc = s.l.length + 1 := by omega
                have hci : ¬ c < s.l.length := by omega
                go_wp2_with fail
                go_roundw
                case rel => exact ⟨kb + 1, vc, hltb, by have := HBI.out; congr 1; omega, by rw [opB_succ, HBI.out, ← List.append_assoc]; exact hOc⟩
                case measure => simp [intOf]; omega
          · obtain rfl : kb = s.l.length + 1 := by omega
            have hbi : ¬ b < s.l.length := by omega
            go_wp2_with fail
            go_roundw
            case rel => exact ⟨k + 1, vb, hlt, by go_num, by rw [opA_succ]; exact hOb⟩
            case measure => simp [intOf]; omega
      · obtain rfl : k = s.l.length := by omega
        go_wp2_with fail
        rw [opA_all] at hOk
        obtain ⟨ta, tc, rfl⟩ := ownsRow_form hOk.op.row
        go_ret2
        exact HRET.out _ ta tc ⟨hOk.op.sh, hOk.op.im, TrSl.owned hOk.op.row, hOk.op.tb, hOk.op.tp⟩ hOk.bl
end Go.Proofs.Ytacioedolmaofaa
