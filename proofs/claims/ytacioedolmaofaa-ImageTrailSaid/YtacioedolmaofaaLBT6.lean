/- The law ImageTrail, walked. -/
import Derived.Test.YtacioedolmaofaaLBT4
namespace Go.Proofs.Ytacioedolmaofaa
open Go.RowKit Go.Shelf
set_option maxHeartbeats 12800000
set_option maxRecDepth 100000
set_option linter.unusedSimpArgs false
set_option linter.unusedVariables false

theorem lawTrail_any (a : Option Addr) (c : Nat) (xs : List Nat) (hx : ∀ x ∈ xs, x < 65536) (hl : xs.length ≤ 9223372036854775807) (b : Bool) (w : World) (hu : U16B w w.heap.size a xs) :
    Calls Try.prog 6 #[.slice a xs.length c, .bool b] w fun e w' => e = .returned (.bool true) ∧ Below w.heap.size w w' := by
  have hxi : (xs.length : Int) ≤ 9223372036854775807 := by omega
  have HLX := Lib.hid (And.intro hl hx)
  clear hx hl
  go_enter Try.func6, Try.ntmps6
  by_cases h0 : xs.length = 0
  · have h00 : ((xs.length : Int) == 0) = true := by rw [h0]; rfl
    go_wp2_with fail
    refine (iawake_any _).mono ?_
    rintro e w99 ⟨rfl, hb⟩
    go_wp2
    go_ret
    exact ⟨rfl, hb⟩
  · have h00 : ((xs.length : Int) == 0) = false := by rw [beq_eq_false_iff_ne]; omega
    have HX : Hid (NumsOk xs) := Lib.hid ⟨by omega, HLX.out.1, HLX.out.2⟩
    clear h0
    go_wp2_with fail
    refine (idraws_any a c xs w hu).mono ?_
    rintro e w1 ⟨pc, pb, rfl, hd1, hpb, hb1⟩
    have hpc := hd1.lt
    have HPC : Hid (w.heap.size ≤ pc) := Lib.hid (by omega)
    clear hu hpb hpc h00
    unfold drawV
    go_wp2_with fail
    refine (idraw_any 20 pc pb a c xs 0 HX.out (by omega) (by omega) w1 hd1).mono ?_
    rintro e w2 ⟨r1, hr1, rfl, hd2, hg2⟩
    have hb2 := hb1.trans (grown_below hg2 HPC.out hb1.size)
    clear hd1 hg2 hb1
    have e1 : IntKind.i64.wrap (10 + (r1 : Int)) = 10 + (r1 : Int) := by rw [IntKind.wrap_i64]; omega
    go_upto_region 5 with fail
    have gp := obj_new w2 (.cells #[.int .i64 0, .int .i64 0, .int .i64 0, .int .i64 0, .int .i64 0, .int .i64 0, .int .i64 0, .int .i64 0, .int .i64 0, .int .i64 0, .int .i64 0, .int .i64 0, .int .i64 (10 + (r1 : Int)), .int .i64 0, .slice none 0 0] 30)
    have hbp := below_alloc w2 (.cells #[.int .i64 0, .int .i64 0, .int .i64 0, .int .i64 0, .int .i64 0, .int .i64 0, .int .i64 0, .int .i64 0, .int .i64 0, .int .i64 0, .int .i64 0, .int .i64 0, .int .i64 (10 + (r1 : Int)), .int .i64 0, .slice none 0 0] 30)
    have hd3 := hd2.below hbp
    have hb3 := hb2.trans (hbp.mono hb2.size)
    have hpcp := hd2.size
    generalize w2.alloc (.cells #[.int .i64 0, .int .i64 0, .int .i64 0, .int .i64 0, .int .i64 0, .int .i64 0, .int .i64 0, .int .i64 0, .int .i64 0, .int .i64 0, .int .i64 0, .int .i64 0, .int .i64 (10 + (r1 : Int)), .int .i64 0, .slice none 0 0] 30) = w3 at gp hbp hd3 hb3 ⊢
    obtain ⟨p, hp⟩ : ∃ p, w2.heap.size = p := ⟨_, rfl⟩
    rw [hp] at gp hpcp ⊢
    obtain ⟨lim, hlim⟩ : ∃ x : Int, 10 + (r1 : Int) = x := ⟨_, rfl⟩
    have hlr : 10 ≤ lim ∧ lim ≤ 29 := by omega
    rw [hlim] at gp ⊢
    have c12 := cell_block gp 12
    simp only [gA, gB, gC] at c12
    clear hp hlim e1 hr1 hd2 hb2 hbp
    refine ltr_reg5 pc pb a c xs 1 p lim w3 HX (by omega) hlr hd3 hpcp (Array.getElem?_eq_some_iff.1 gp).1 c12 _ _ ?_
    intro s35 s36 s37 s38 s39 s40 s41 s42 s43 s44 s45 x y z w4 hxr hyr hzr hd4 hg4
    have HR := Lib.hid (And.intro hlr (And.intro hxr (And.intro hyr hzr)))
    have gp4 := (hg4.block p (Array.getElem?_eq_some_iff.1 gp).1 (fun e => by have := Option.some.inj e; omega)).trans gp
    have hb4 := hb3.trans (grown_below hg4 HPC.out hb3.size)
    clear gp c12 hd3 hb3 hg4 hlr hxr hyr hzr
    go_upto_region 8 with fail
    have gq := obj_new w4 (.cells #[.int .i64 0, .int .i64 (-1), .int .i64 (-1)] 32)
    have hbq := below_alloc w4 (.cells #[.int .i64 0, .int .i64 (-1), .int .i64 (-1)] 32)
    have hd5 := hd4.below hbq
    have hb5 := hb4.trans (hbq.mono hb4.size)
    have gp5 := obj_later hbq gp4
    have hpl := (Array.getElem?_eq_some_iff.1 gp4).1
    generalize w4.alloc (.cells #[.int .i64 0, .int .i64 (-1), .int .i64 (-1)] 32) = w5 at gq hbq hd5 hb5 gp5 ⊢
    obtain ⟨q, hq⟩ : ∃ q, w4.heap.size = q := ⟨_, rfl⟩
    rw [hq] at gq hpl ⊢
    clear hq hd4 hb4 gp4 hbq
    go_wp2_with fail
    refine (ilexact_any x y z w5).mono ?_
    rintro e w6 ⟨rfl, hb56⟩
    have gq6 := obj_later hb56 gq
    have gp6 := obj_later hb56 gp5
    have hd6 := hd5.below hb56
    have hb6 := hb5.trans (hb56.mono hb5.size)
    clear gq gp5 hd5 hb5 hb56
    have hql := (Array.getElem?_eq_some_iff.1 gq6).1
    have hone := oneIm w6 (q + 1) (exIm x y z) hql
    dsimp only [exIm, exSp] at hone
    have hba := below_alloc w6 (.cells #[.int .i64 x, .int .i64 x, .int .i64 y, .int .i64 y, .int .i64 z, .int .i64 z] 61)
    have gq7 := obj_later hba gq6
    have gp7 := obj_later hba gp6
    have hd7 := hd6.below hba
    have hb7 := hb6.trans (hba.mono hb6.size)
    have c14 := cell_block gp7 14
    have f14 := frozen_block gp7 14
    simp only [gA, gB, gC] at c14
    go_upto_region 9 with fail
    generalize w6.alloc (.cells #[.int .i64 x, .int .i64 x, .int .i64 y, .int .i64 y, .int .i64 z, .int .i64 z] 61) = w7 at hone hba gq7 gp7 hd7 hb7 c14 f14 ⊢
    obtain ⟨gr, hgr⟩ : ∃ g, w6.heap.size = g := ⟨_, rfl⟩
    rw [hgr] at hone hql ⊢
    have z8 := block_set gp7 14 (.slice (some ⟨gr, 0, none⟩) 1 1)
    have x8 := Steps.setCell (own := fun j => j = p) w7 (p := ⟨p, 14, none⟩) rfl (.slice (some ⟨gr, 0, none⟩) 1 1)
    have hb8 := hb7.trans (x8.below (B := w.heap.size) hb7.size (fun j _ h => by have := HPC.out; omega))
    have hT8 : TrM (w7.setCell ⟨p, 14, none⟩ (.slice (some ⟨gr, 0, none⟩) 1 1)) p q pc pb a c xs 4 ⟨exSp 0, exSp 0, exSp 0, exSp 0, exSp 0, exSp 0, lim, 0, [exIm x y z]⟩ (some ⟨gr, 0, none⟩) 1 ⟨0, -1, -1⟩ :=
      ⟨hd7.other (fun i hi => x8.block i (Nat.lt_of_le_of_lt hi hd7.size) (fun e => by omega)), z8.trans (by simp [exSp]), ownsRow_same hone (fun g hgg => x8.block g (hone.lt g hgg).2 (fun e => by have := (hone.lt g hgg).1; omega)), (x8.block q (Array.getElem?_eq_some_iff.1 gq7).1 (fun e => by omega)).trans gq7, hpcp, hpl⟩
    generalize w7.setCell ⟨p, 14, none⟩ (.slice (some ⟨gr, 0, none⟩) 1 1) = w8 at hT8 hb8 ⊢
    clear z8 x8 hone hba gq7 gp7 hd7 hb7 c14 f14 gq6 gp6 hd6 hb6 hql hgr hpl hpcp
    refine ltr_loop pc pb a c xs p q _ _ _ _ lim x y z w HX HR HPC w8 hb8 hT8 ⟨rfl, rfl⟩ _ _ _ (by assumption) ?_
    intro s12 s13 s14 s15 s54 s55 s56 s57 s58 s59 s60 s61 s62 s63 s64 s65 s66 s67 s68 s69 s70 s71 s72 s73 s74 s75 s76 s77 s78 s79 s80 s81 s82 s83 s84 s85 s86 s87 s88 s89 s90 s91 s92 s93 s94 s95 s96 s97 s98 s99 s100 s101 s102 s103 s104 s105 s106 s107 s108 fa fc k s t wl hP hT hb
    obtain ⟨e, hin, rfl, rfl, rfl, rfl, rfl, rfl⟩ := hP
    have HIN := Lib.hid hin
    clear hb8 hT8 hin
    go_upto_region 18 with fail
    have hl2 : e.l2.length ≤ 100 := by have := ((iok_iff _).1 (e.sheet_ok HIN.out)).2.2.2.2.2.2.2.2.2; have h3 : e.sheet.l.length = e.l2.length + 1 := (by show (e.l2 ++ [exIm 1000 1000 e.z]).length = _; simp); omega
    refine ltr_reg18 pc pb a c xs k p q _ fa fc _ e.z wl hT hl2 _ _ ?_
    clear hl2
    intro s109 s110 s111 s112 s113 s114 s115 s116 fa' fc' wm hTm hbm
    have hbz := hb.trans (hbm.mono HPC.out)
    have hTz : TrM wm p q pc pb a c xs k e.sheet fa' fc' e.tr := hTm
    have HF := Lib.hid (trF HIN.out)
    have hg := hTz.sh
    have gt : wm.heap[q]? = some (.cells #[.int .i64 0, .int .i64 e.tr.b, .int .i64 e.tr.c] 32) := hTz.tr
    have him := hTz.im
    clear hT hb hbm hTm hTz
    obtain ⟨s, hs⟩ : ∃ s, e.sheet = s := ⟨_, rfl⟩
    obtain ⟨tb, htb⟩ : ∃ s, e.tr.b = s := ⟨_, rfl⟩
    obtain ⟨tc, htc⟩ : ∃ s, e.tr.c = s := ⟨_, rfl⟩
    rw [hs, htb, htc] at HF
    rw [hs] at hg him
    rw [htb, htc] at gt
    clear hs htb htc
    have HLEN : Hid (s.l.length < 9223372036854775807) := Lib.hid (by have := HF.out.n9; omega)
    have cz := fun k => cell_block hg k
    have r0 := cz 0
    have r1 := cz 1
    have r2 := cz 2
    have r3 := cz 3
    have r4 := cz 4
    have r5 := cz 5
    have r6 := cz 6
    have r7 := cz 7
    have r8 := cz 8
    have r9 := cz 9
    have r10 := cz 10
    have r11 := cz 11
    have r12 := cz 12
    have r13 := cz 13
    have r14 := cz 14
    clear cz
    simp only [gA, gB, gC] at r0 r1 r2 r3 r4 r5 r6 r7 r8 r9 r10 r11 r12 r13 r14
    have t0 := cell_block gt 0
    have t1 := cell_block gt 1
    have t2 := cell_block gt 2
    simp only [gA, gB, gC] at t0 t1 t2
    have hcf := iFits_any s fa' fc' ⟨0, tb, tc⟩ wm him HLEN.out
    rw [HF.out.fits] at hcf
    dsimp only at hcf
    have HCF := Lib.hid hcf
    clear hcf
    go_wp2_with fail
    refine HCF.out.mono ?_
    rintro e' wn ⟨rfl, hbn⟩
    have hg2 := obj_later hbn hg
    have gt2 := obj_later hbn gt
    have him2 := him.below hbn (Nat.le_refl _)
    have hB2 := hbz.trans (hbn.mono hbz.size)
    clear r0 r1 r2 r3 r4 r5 r6 r7 r8 r9 r10 r11 r12 r13 r14
    clear t0 t1 t2 hbn hg gt him hbz HCF
    go_upto_region 22 with fail
    refine ltr_end b p q fc' fa' s tb tc w wn HF HLEN hg2 gt2 him2 hB2 _ ?_
    assumption
end Go.Proofs.Ytacioedolmaofaa
