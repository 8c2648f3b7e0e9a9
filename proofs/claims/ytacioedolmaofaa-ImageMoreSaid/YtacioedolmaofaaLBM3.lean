/- The law ImageMore, walked. ImageMore: its numbers as they come. -/
import Derived.Test.YtacioedolmaofaaLBM2
namespace Go.Proofs.Ytacioedolmaofaa
open Go.RowKit Go.Shelf
set_option maxHeartbeats 12800000
set_option maxRecDepth 100000
set_option linter.unusedSimpArgs false
set_option linter.unusedVariables false

theorem lawMoreI_any (s : ISheet) (fa : Option Addr) (fc wh b : Nat) (t : ITr) (w : World) (hwh : wh < 256) (hb : b < 256) (him : ImSl w fa s.l) :
    Calls Try.prog 9 #[.agg #[.int .i64 s.ax.lo, .int .i64 s.ax.hi, .int .i64 s.ay.lo, .int .i64 s.ay.hi, .int .i64 s.bx.lo, .int .i64 s.bx.hi, .int .i64 s.by'.lo, .int .i64 s.by'.hi, .int .i64 s.f.lo, .int .i64 s.f.hi, .int .i64 s.g.lo, .int .i64 s.g.hi, .int .i64 s.limit, .int .i64 s.flaws, .slice fa s.l.length fc], .int .u8 (wh : Int), .int .u8 (b : Int), .agg #[.int .i64 t.a, .int .i64 t.b, .int .i64 t.c]] w fun e w' => e = .returned (.bool true) ∧ Below w.heap.size w w' := by
  have HIM : Hid (∀ W, Below w.heap.size w W → ImSl W fa s.l) := Lib.hid (fun W h => him.below h (Nat.le_refl _))
  clear him
  go_enter Try.func9, Try.ntmps9
  go_upto_region 1 with fail
  obtain ⟨W0, hW0⟩ : ∃ W, ((w.alloc (.cells #[.int .i64 s.ax.lo, .int .i64 s.ax.hi, .int .i64 s.ay.lo, .int .i64 s.ay.hi, .int .i64 s.bx.lo, .int .i64 s.bx.hi, .int .i64 s.by'.lo, .int .i64 s.by'.hi, .int .i64 s.f.lo, .int .i64 s.f.hi, .int .i64 s.g.lo, .int .i64 s.g.hi, .int .i64 s.limit, .int .i64 s.flaws, .slice fa s.l.length fc] 30)).alloc (.cells #[.int .i64 t.a, .int .i64 t.b, .int .i64 t.c] 32)) = W := ⟨_, rfl⟩
  rw [hW0]
  try simp only [Nat.add_assoc, Nat.reduceAdd]
  have hst_W0 : Steps (fun _ => False) w W0 := by rw [← hW0]; exact (Steps.alloc _ w _).trans (Steps.alloc (fun _ => False) _ _) (fun _ _ h => h)
  have hz_W0 : W0.heap.size = w.heap.size + 2 := by rw [← hW0]; simp
  have g0_W0 : W0.heap[w.heap.size]? = some (.cells #[.int .i64 s.ax.lo, .int .i64 s.ax.hi, .int .i64 s.ay.lo, .int .i64 s.ay.hi, .int .i64 s.bx.lo, .int .i64 s.bx.hi, .int .i64 s.by'.lo, .int .i64 s.by'.hi, .int .i64 s.f.lo, .int .i64 s.f.hi, .int .i64 s.g.lo, .int .i64 s.g.hi, .int .i64 s.limit, .int .i64 s.flaws, .slice fa s.l.length fc] 30) := by rw [← hW0]; simp only [alloc_get, World.size_alloc]; repeat (first | exact if_pos trivial | exact if_pos (by omega) | rw [if_neg (by omega)])
  have g1_W0 : W0.heap[w.heap.size + 1]? = some (.cells #[.int .i64 t.a, .int .i64 t.b, .int .i64 t.c] 32) := by rw [← hW0]; simp only [alloc_get, World.size_alloc]; repeat (first | exact if_pos trivial | exact if_pos (by omega) | rw [if_neg (by omega)])
  clear hW0
  have hb0 : Below w.heap.size w W0 := hst_W0.below (Nat.le_refl _) (fun _ _ h => h)
  have g := g0_W0
  have gt := g1_W0
  obtain ⟨p, hp⟩ : ∃ p, w.heap.size = p := ⟨_, rfl⟩
  have HP := Lib.hid hp
  rw [hp] at g gt
  try rw [hp]
  clear g0_W0 g1_W0 hst_W0 hz_W0 hp
  have cz := fun k => cell_block g k
  have cg0 := cz 0
  have cg1 := cz 1
  have cg2 := cz 2
  have cg3 := cz 3
  have cg4 := cz 4
  have cg5 := cz 5
  have cg6 := cz 6
  have cg7 := cz 7
  have cg8 := cz 8
  have cg9 := cz 9
  have cg10 := cz 10
  have cg11 := cz 11
  have cg12 := cz 12
  have cg13 := cz 13
  have cg14 := cz 14
  clear cz
  simp only [gA, gB, gC] at cg0 cg1 cg2 cg3 cg4 cg5 cg6 cg7 cg8 cg9 cg10 cg11 cg12 cg13 cg14
  by_cases h30 : 30 < (s.l.length : Int)
  · go_wp2_with fail
    refine (iawake_any _).mono ?_
    rintro e w99 ⟨rfl, hb⟩
    go_wp2
    go_ret
    exact ⟨rfl, hb0.trans (hb.mono hb0.size)⟩
  · have hlen : s.l.length < 9223372036854775807 := by omega
    have HLEN := Lib.hid hlen
    clear hlen
    go_wp2_with fail
    have hc := irSheet_any s fa fc W0 (HIM.out W0 hb0) HLEN.out
    refine hc.mono ?_
    clear hc
    rintro e w1 ⟨he, hb⟩
    clear cg0 cg1 cg2 cg3 cg4 cg5 cg6 cg7 cg8 cg9 cg10 cg11 cg12 cg13 cg14
    replace g := obj_later hb g
    replace gt := obj_later hb gt
    replace hb0 := hb0.trans (hb.mono hb0.size)
    clear hb
    subst he
    cases hok : s.ok
    · clear hok
      go_wp2_with fail
      refine (iawake_any _).mono ?_
      rintro e w99 ⟨rfl, hb⟩
      go_wp2
      go_ret
      exact ⟨rfl, hb0.trans (hb.mono hb0.size)⟩
    · by_cases hl0 : s.l.length = 0
      · have cz := fun k => cell_block g k
        have cg0 := cz 0
        have cg1 := cz 1
        have cg2 := cz 2
        have cg3 := cz 3
        have cg4 := cz 4
        have cg5 := cz 5
        have cg6 := cz 6
        have cg7 := cz 7
        have cg8 := cz 8
        have cg9 := cz 9
        have cg10 := cz 10
        have cg11 := cz 11
        have cg12 := cz 12
        have cg13 := cz 13
        have cg14 := cz 14
        clear cz
        simp only [gA, gB, gC] at cg0 cg1 cg2 cg3 cg4 cg5 cg6 cg7 cg8 cg9 cg10 cg11 cg12 cg13 cg14
        have hl00 : ((s.l.length : Int) == 0) = true := by rw [hl0]; rfl
        clear hok
        go_wp2_with fail
        refine (iawake_any _).mono ?_
        rintro e w99 ⟨rfl, hb⟩
        go_wp2
        go_ret
        exact ⟨rfl, hb0.trans (hb.mono hb0.size)⟩
      · have hn : s.l.length ≤ 9 := ((iok_iff s).1 hok).2.2.2.2.2.2.2.2.2
        have hfl := ((iok_iff s).1 hok).2.2.2.2.2.2.2.2.1
        obtain ⟨hf0, hf9⟩ := hfl
        have hl00 : ((s.l.length : Int) == 0) = false := by rw [beq_eq_false_iff_ne]; omega
        have HOK := Lib.hid hok
        have hl0' : ¬ ((s.l.length : Int) = 0) := by omega
        clear hok
        have cz := fun k => cell_block g k
        have cg0 := cz 0
        have cg1 := cz 1
        have cg2 := cz 2
        have cg3 := cz 3
        have cg4 := cz 4
        have cg5 := cz 5
        have cg6 := cz 6
        have cg7 := cz 7
        have cg8 := cz 8
        have cg9 := cz 9
        have cg10 := cz 10
        have cg11 := cz 11
        have cg12 := cz 12
        have cg13 := cz 13
        have cg14 := cz 14
        clear cz
        simp only [gA, gB, gC] at cg0 cg1 cg2 cg3 cg4 cg5 cg6 cg7 cg8 cg9 cg10 cg11 cg12 cg13 cg14
        go_upto_region 3 with fail
        clear cg0 cg1 cg2 cg3 cg4 cg5 cg6 cg7 cg8 cg9 cg10 cg11 cg12 cg13 cg14
        refine lmore_reg3 s fa fc p w1 g _ _ ?_
        intro s55 s56 q9 q10 v3 ⟨g9, g10, hne, h9, h10, hb3⟩
        have hz1 := hb0.size
        have hpl := (Array.getElem?_eq_some_iff.1 g).1
        have hptl := (Array.getElem?_eq_some_iff.1 gt).1
        have hp9 : p ≠ q9 ∧ p + 1 ≠ q9 ∧ p ≠ q10 ∧ p + 1 ≠ q10 := by omega
        replace g := obj_later hb3 g
        replace gt := obj_later hb3 gt
        replace hb0 := hb0.trans (hb3.mono hb0.size)
        have hq9 : w.heap.size ≤ q9 := Nat.le_trans hz1 h9
        have hq10 : w.heap.size ≤ q10 := Nat.le_trans hz1 h10
        obtain ⟨d2, hd2⟩ : ∃ d2, b % 2 = d2 := ⟨_, rfl⟩
        have hd2l : d2 < 2 := by rw [← hd2]; exact Nat.mod_lt _ (by omega)
        have T2 : (b : Int).tmod 2 = (d2 : Int) := by rw [Int.tmod_eq_emod_of_nonneg (by omega), ← hd2]; rfl
        have T0 : IntKind.i64.wrap (b : Int) = (b : Int) := by rw [IntKind.wrap_i64]; omega
        have c13 := cell_block g 13
        simp only [gA, gB, gC] at c13
        have x13 := cell_block g9 13
        simp only [gA, gB, gC] at x13
        have f13 := frozen_block g9 13
        clear hb3
        go_upto_region 5 with fail
        have g9' : (v3.setCell ⟨q9, 13, none⟩ (.int .i64 (if s.flaws + 1 + (d2 : Int) < 9 then s.flaws + 1 + (d2 : Int) else 9))).heap[q9]? = some (.cells #[.int .i64 s.ax.lo, .int .i64 s.ax.hi, .int .i64 s.ay.lo, .int .i64 s.ay.hi, .int .i64 s.bx.lo, .int .i64 s.bx.hi, .int .i64 s.by'.lo, .int .i64 s.by'.hi, .int .i64 s.f.lo, .int .i64 s.f.hi, .int .i64 s.g.lo, .int .i64 s.g.hi, .int .i64 s.limit, .int .i64 (if s.flaws + 1 + (d2 : Int) < 9 then s.flaws + 1 + (d2 : Int) else 9), .slice fa s.l.length fc] 30) := block_set g9 13 _
        have st4 := Steps.setCell (own := fun j => j = q9) v3 (p := ⟨q9, 13, none⟩) rfl (.int .i64 (if s.flaws + 1 + (d2 : Int) < 9 then s.flaws + 1 + (d2 : Int) else 9))
        generalize v3.setCell ⟨q9, 13, none⟩ (.int .i64 (if s.flaws + 1 + (d2 : Int) < 9 then s.flaws + 1 + (d2 : Int) else 9)) = v4 at g9' st4 ⊢
        obtain ⟨FX, hFX⟩ : ∃ F, (if s.flaws + 1 + (d2 : Int) < 9 then s.flaws + 1 + (d2 : Int) else 9) = F := ⟨_, rfl⟩
        rw [hFX] at g9'
        try rw [hFX]
        have hF1 : s.flaws ≤ FX := by rw [← hFX]; split <;> omega
        have hF9 : FX ≤ 9 := by rw [← hFX]; split <;> omega
        clear hFX
        have g4 := st4.obj (k := p) hp9.1 g
        have gt4 := st4.obj (k := p + 1) hp9.2.1 gt
        have g104 := st4.obj (k := q10) (fun e => hne e.symm) g10
        have hb4 : Below w.heap.size w v4 := hb0.trans (st4.below (B := w.heap.size) hb0.size (fun k _ h => by omega))
        clear c13 x13 f13 g9 g10 g gt hb0 st4 T2 hd2l
        have he0 := obj_new v4 (.cells #[] 61)
        have hbe := below_alloc v4 (.cells #[] 61)
        have him5 := HIM.out (v4.alloc (.cells #[] 61)) (hb4.trans (hbe.mono hb4.size))
        obtain ⟨cap, v6, hrun, hR, hb6, hz6⟩ := icopyNew (v4.alloc (.cells #[] 61)) v4.heap.size fa fc s.l (fun e => hl0 (by rw [e]; rfl)) (by omega) him5
        have h46 := hbe.trans (hb6.mono hbe.size)
        have g6 := obj_later h46 g4
        have gt6 := obj_later h46 gt4
        have g96 := obj_later h46 g9'
        have g106 := obj_later h46 g104
        have hb6' := hb4.trans (h46.mono hb4.size)
        have c14 := cell_block (obj_later hbe g4) 14
        simp only [gA, gB, gC] at c14
        have x14 := cell_block g106 14
        simp only [gA, gB, gC] at x14
        have f14 := frozen_block g106 14
        have z14 := cell_block g4 14
        simp only [gA, gB, gC] at z14

        obtain ⟨gw, hgw⟩ : ∃ gw, (v4.alloc (.cells #[] 61)).heap.size = gw := ⟨_, rfl⟩
        rw [hgw] at hrun hR
        have hgwp : p < gw ∧ q10 < gw ∧ q9 < gw ∧ w.heap.size ≤ gw := by
          have a := (Array.getElem?_eq_some_iff.1 g4).1
          have c := (Array.getElem?_eq_some_iff.1 g104).1
          have d := (Array.getElem?_eq_some_iff.1 g9').1
          have := hbe.size
          have := hb4.size
          omega
        clear hb6 hz6 hgw him5 he0 h46 hbe
        go_upto_region 6 with (at_builtin; refine wpList_plain rfl fun K hK => ?_; unfold Oper.wp; simp [execOp, resolve, invoke, builtin, hrun, Result.andThen, Act.eval]; refine hK _ _ ?_; clear hK)
        have g107 : (v6.setCell ⟨q10, 14, none⟩ (.slice (some ⟨gw, 0, none⟩) s.l.length cap)).heap[q10]? = some (.cells #[.int .i64 s.ax.lo, .int .i64 s.ax.hi, .int .i64 s.ay.lo, .int .i64 s.ay.hi, .int .i64 s.bx.lo, .int .i64 s.bx.hi, .int .i64 s.by'.lo, .int .i64 s.by'.hi, .int .i64 s.f.lo, .int .i64 s.f.hi, .int .i64 s.g.lo, .int .i64 s.g.hi, .int .i64 s.limit, .int .i64 s.flaws, .slice (some ⟨gw, 0, none⟩) s.l.length cap] 30) := block_set g106 14 _
        have st7 := Steps.setCell (own := fun j => j = q10) v6 (p := ⟨q10, 14, none⟩) rfl (.slice (some ⟨gw, 0, none⟩) s.l.length cap)
        generalize v6.setCell ⟨q10, 14, none⟩ (.slice (some ⟨gw, 0, none⟩) s.l.length cap) = v7 at g107 st7 ⊢
        have g7 := st7.obj (k := p) hp9.2.2.1 g6
        have gt7 := st7.obj (k := p + 1) hp9.2.2.2 gt6
        have g97 := st7.obj (k := q9) hne g96
        have hR7 := hR.same (st7.block gw hR.lt (fun e => by omega))
        have hb7 : Below w.heap.size w v7 := hb6'.trans (st7.below (B := w.heap.size) hb6'.size (fun k _ h => by omega))
        clear g6 gt6 g96 g106 g4 gt4 g9' g104 hb4 hb6' c14 x14 f14 z14 st7 hR hrun
        obtain ⟨k, hk⟩ : ∃ k, wh % s.l.length = k := ⟨_, rfl⟩
        have hkl : k < s.l.length := by rw [← hk]; exact Nat.mod_lt _ (by omega)
        refine lmore_reg6 s.l.length fc cap p q10 gw k wh fa v7 (by omega) hn hwh hk (cell_block g7 14) (cell_block g107 14) _ _ ?_
        intro s71 s72 s73 s74 s75 s76 s77 s78 s79 v8 hb8
        have g8 := obj_later hb8 g7
        have gt8 := obj_later hb8 gt7
        have g98 := obj_later hb8 g97
        have g108 := obj_later hb8 g107
        have hR8 := hR7.below hb8 (Nat.le_refl _)
        have hbb8 := hb7.trans (hb8.mono hb7.size)
        clear hb8 g7 gt7 g97 g107 hR7 hb7
        go_upto_region 7 with fail
        refine lmore_reg7 gw k b s.l s.l[k] v8 hb hR8 hkl rfl (List.all_eq_true.1 ((iok_iff s).1 HOK.out).2.2.2.2.2.2.1 _ (List.getElem_mem hkl)) _ _ ?_
        intro s80 s81 s82 s83 s84 s85 s86 s87 s88 s89 s90 s91 s92 s93 s94 s95 s96 s97 s98 s99 s100 s101 s102 s103 s104 v9 ⟨hR9, st9⟩
        have g9a := st9.obj (k := p) (by omega) g8
        have gta := st9.obj (k := p + 1) (by omega) gt8
        have g99 := st9.obj (k := q9) (by omega) g98
        have g109 := st9.obj (k := q10) (by omega) g108
        have hb9 : Below w.heap.size w v9 := hbb8.trans (st9.below (B := w.heap.size) hbb8.size (fun k _ h => by omega))
        clear g8 gt8 g98 g108 hbb8 st9 hR8
        have e5 := (hR9.im k (by rw [List.length_set]; exact hkl)).c5
        have hgk : (s.l.set k ⟨⟨max 0 (s.l[k].x.lo - (b % 4 : Nat)), min 1048576 (s.l[k].x.hi + (b / 4 % 4 : Nat))⟩, s.l[k].y, s.l[k].s⟩)[k]'(by rw [List.length_set]; exact hkl) = ⟨⟨max 0 (s.l[k].x.lo - (b % 4 : Nat)), min 1048576 (s.l[k].x.hi + (b / 4 % 4 : Nat))⟩, s.l[k].y, s.l[k].s⟩ := by rw [List.getElem_set_self]
        rw [hgk] at e5
        have f5 := hR9.fz (k * 6 + 4 + 1)
        have T4 : ((b : Int) / 16).tmod 4 = ((b / 16 % 4 : Nat) : Int) := by rw [Int.tmod_eq_emod_of_nonneg (by omega)]; rfl
        have T5 : (b : Int).tdiv 16 = (b : Int) / 16 := Int.tdiv_eq_ediv_of_nonneg (by omega)
        have T6 : IntKind.i64.wrap ((b : Int) / 16) = (b : Int) / 16 := by rw [IntKind.wrap_i64]; omega
        have T7 : (0 : Int) ≤ (b : Int) / 16 := by omega
        have hb16 : b / 16 % 4 < 4 := Nat.mod_lt _ (by omega)
        obtain ⟨r3, er3⟩ : ∃ r, b / 16 % 4 = r := ⟨_, rfl⟩
        rw [er3] at T4 hb16
        obtain ⟨sh, hsh⟩ : ∃ sh, s.l[k].s.hi = sh := ⟨_, rfl⟩
        have hsb := ((spot_iff _).1 (List.all_eq_true.1 ((iok_iff s).1 HOK.out).2.2.2.2.2.2.1 _ (List.getElem_mem hkl))).2.2
        rw [hsh] at hsb
        have e5' : v9.cell? ⟨gw, k * 6 + 4 + 1, none⟩ = some (.int .i64 sh) := by rw [← hsh]; exact e5
        obtain ⟨hsb1, hsb2, hsb3⟩ := hsb
        have U3 : IntKind.i64.wrap (sh + (r3 : Int)) = sh + (r3 : Int) := by rw [IntKind.wrap_i64]; omega
        clear e5 hgk
        go_upto_region 9 with fail
        have hRw : RowIm (v9.setCell ⟨gw, k * 6 + 4 + 1, none⟩ (.int .i64 (if sh + (r3 : Int) < 1000 then sh + (r3 : Int) else 1000))) gw (widenS s k b).l := by
          have hkl2 : k < (s.l.set k ⟨⟨max 0 (s.l[k].x.lo - (b % 4 : Nat)), min 1048576 (s.l[k].x.hi + (b / 4 % 4 : Nat))⟩, s.l[k].y, s.l[k].s⟩).length := by rw [List.length_set]; exact hkl
          have h := RowIm.putH hR9 k ⟨⟨max 0 (s.l[k].x.lo - (b % 4 : Nat)), min 1048576 (s.l[k].x.hi + (b / 4 % 4 : Nat))⟩, s.l[k].y, s.l[k].s⟩ (if sh + (r3 : Int) < 1000 then sh + (r3 : Int) else 1000) hkl2 (by rw [List.getElem_set_self])
          rw [List.set_set] at h
          have hl : (widenS s k b).l = s.l.set k ⟨⟨max 0 (s.l[k].x.lo - (b % 4 : Nat)), min 1048576 (s.l[k].x.hi + (b / 4 % 4 : Nat))⟩, s.l[k].y, ⟨s.l[k].s.lo, (if sh + (r3 : Int) < 1000 then sh + (r3 : Int) else 1000)⟩⟩ := by
            show s.l.set k (widenP (s.l.getD k noSpot) b) = _
            rw [List.getD_eq_getElem?_getD, List.getElem?_eq_getElem hkl]
            show s.l.set k (widenP s.l[k] b) = _
            unfold widenP
            rw [er3, hsh, show min 1000 (sh + (r3 : Int)) = (if sh + (r3 : Int) < 1000 then sh + (r3 : Int) else 1000) by split <;> omega]
          rw [hl]
          exact h
        have sta := Steps.setCell (own := fun j => j = gw) v9 (p := ⟨gw, k * 6 + 4 + 1, none⟩) rfl (.int .i64 (if sh + (r3 : Int) < 1000 then sh + (r3 : Int) else 1000))
        generalize v9.setCell ⟨gw, k * 6 + 4 + 1, none⟩ (.int .i64 (if sh + (r3 : Int) < 1000 then sh + (r3 : Int) else 1000)) = va at hRw sta ⊢
        have g := sta.obj (k := p) (by omega) g9a
        have gt := sta.obj (k := p + 1) (by omega) gta
        have g9 := sta.obj (k := q9) (by omega) g99
        have g10 := sta.obj (k := q10) (by omega) g109
        have hb0 : Below w.heap.size w va := hb9.trans (sta.below (B := w.heap.size) hb9.size (fun k _ h => by omega))
        obtain ⟨SX, hSX⟩ : ∃ x, (if sh + (r3 : Int) < 1000 then sh + (r3 : Int) else 1000) = x := ⟨_, rfl⟩
        try rw [hSX]
        clear hSX
        have hM := moreIs HOK.out hF1 hF9 k b hkl t
        have HM := Lib.hid hM
        have HRW := Lib.hid hRw
        clear g9a gta g99 g109 hb9 sta hR9 e5' f5 T0 T4 T5 T6 T7 hb16 er3 hsh hsb1 hsb2 hsb3 U3 hRw hM hd2 hk
        refine lmore_tail s fa fc p q9 q10 gw cap k b FX t w va HIM HLEN HOK HM hn g g9 g10 gt HRW.out hb0 _ ?_
        assumption
end Go.Proofs.Ytacioedolmaofaa
namespace Go.Proofs.Ytacioedolmaofaa
open Go.RowKit Go.Shelf
set_option maxRecDepth 100000

theorem lawMoreI_u8 (s : ISheet) (fa : Option Addr) (fc : Nat) (x y : Int) (t : ITr) (w : World) (him : ImSl w fa s.l) (hx : 0 ≤ x ∧ x ≤ 255) (hy : 0 ≤ y ∧ y ≤ 255) :
    Calls Try.prog 9 #[.agg #[.int .i64 s.ax.lo, .int .i64 s.ax.hi, .int .i64 s.ay.lo, .int .i64 s.ay.hi, .int .i64 s.bx.lo, .int .i64 s.bx.hi, .int .i64 s.by'.lo, .int .i64 s.by'.hi, .int .i64 s.f.lo, .int .i64 s.f.hi, .int .i64 s.g.lo, .int .i64 s.g.hi, .int .i64 s.limit, .int .i64 s.flaws, .slice fa s.l.length fc], .int .u8 x, .int .u8 y, .agg #[.int .i64 t.a, .int .i64 t.b, .int .i64 t.c]] w fun e w' => e = .returned (.bool true) ∧ Below w.heap.size w w' := by
  obtain ⟨wh, rfl⟩ := Int.eq_ofNat_of_zero_le hx.1
  obtain ⟨b, rfl⟩ := Int.eq_ofNat_of_zero_le hy.1
  exact lawMoreI_any s fa fc wh b t w (by omega) (by omega) him
end Go.Proofs.Ytacioedolmaofaa
