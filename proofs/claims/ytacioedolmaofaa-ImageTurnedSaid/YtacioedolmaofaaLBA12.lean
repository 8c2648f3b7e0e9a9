/- Trails compared. star. Rows of trails that a call owns; what is so of a sheet while its trails are gathered. -/
import Derived.Test.YtacioedolmaofaaLBA11
import Derived.ChangeKeysEq
import Derived.BigRegion
namespace Go.Proofs.Ytacioedolmaofaa
open Go.RowKit Go.Shelf
set_option maxHeartbeats 1600000
set_option maxRecDepth 100000
set_option linter.unusedSimpArgs false
theorem tr_eq (a b c d e f : Int) (w : World) : (Op.equalIn 10000 32 (.agg #[.int .i64 a, .int .i64 b, .int .i64 c]) (.agg #[.int .i64 d, .int .i64 e, .int .i64 f])).run Try.prog w = .ok (a == d && b == e && c == f) w := by
  have hu : Try.prog.underlying 32 = some (.array 3 3) := by kernel_rfl
  obtain ⟨i, hi⟩ := Option.isSome_iff_exists.1 (show (Try.prog.info? 3).isSome = true from by kernel_rfl)
  have hc : Try.prog.cellsOf 3 = 1 := by kernel_rfl
  rw [show (10000 : Nat) = 9999 + 1 from rfl, run_equalIn_array _ _ _ _ hu hi, hc]
  have h3 : List.range 3 = [0, 1, 2] := rfl
  have p0 : ∀ (x y z : Int) (w : World), (part 3 #[.int .i64 x, .int .i64 y, .int .i64 z] (0 * 1)).run Try.prog w = .ok (.int .i64 x) w := fun x y z w => by kernel_rfl
  have p1 : ∀ (x y z : Int) (w : World), (part 3 #[.int .i64 x, .int .i64 y, .int .i64 z] (1 * 1)).run Try.prog w = .ok (.int .i64 y) w := fun x y z w => by kernel_rfl
  have p2 : ∀ (x y z : Int) (w : World), (part 3 #[.int .i64 x, .int .i64 y, .int .i64 z] (2 * 1)).run Try.prog w = .ok (.int .i64 z) w := fun x y z w => by kernel_rfl
  have hi : ∀ (x y : Int) (w : World), (Op.equalIn 9999 3 (.int .i64 x) (.int .i64 y)).run Try.prog w = .ok (x == y) w := fun x y w => by
    rw [run_equalIn_int _ _ _ _ _ _ _ Try.underlying3]
  rw [h3]
  simp only [Op.eqItems, Sem.run_bind, p0, p1, p2, hi, Result.andThen_ok]
  by_cases h1 : a = d <;> by_cases h2 : b = e <;> by_cases h4 : c = f <;> simp [h1, h2, h4, Sem.run_bind, Sem.run_pure, p1, p2, hi]
end Go.Proofs.Ytacioedolmaofaa
namespace Go.Proofs.Ytacioedolmaofaa
open Go.RowKit Go.Shelf
set_option maxHeartbeats 6400000
set_option maxRecDepth 100000
set_option linter.unusedSimpArgs false
set_option linter.unusedVariables false

def ITr.x3 (s : ISheet) (t : ITr) : Sp := backTo (backTo (s.at' t.a).x t.b ((s.at' t.b).x.less s.ax)) t.c ((s.at' t.c).x.less s.bx)
def ITr.y3 (s : ISheet) (t : ITr) : Sp := backTo (backTo (s.at' t.a).y t.b ((s.at' t.b).y.less s.ay)) t.c ((s.at' t.c).y.less s.by')
def ITr.z3 (s : ISheet) (t : ITr) : Sp := backTo (backTo (s.at' t.a).s t.b (sizeBack s (s.at' t.b).s s.f)) t.c (sizeBack s (s.at' t.c).s s.g)
def ITr.xTo (s : ISheet) (t : ITr) (e : Nat) : Sp := if e = 1 then (s.at' t.a).x else if e = 2 then backTo (s.at' t.a).x t.b ((s.at' t.b).x.less s.ax) else t.x3 s
def ITr.yTo (s : ISheet) (t : ITr) (e : Nat) : Sp := if e = 1 then (s.at' t.a).y else if e = 2 then backTo (s.at' t.a).y t.b ((s.at' t.b).y.less s.ay) else t.y3 s
def ITr.zTo (s : ISheet) (t : ITr) (e : Nat) : Sp := if e = 1 then (s.at' t.a).s else if e = 2 then backTo (s.at' t.a).s t.b (sizeBack s (s.at' t.b).s s.f) else t.z3 s
/-- What is known behind k traits. -/
def outTo (s : ISheet) (t : ITr) (k : Nat) : Array Value :=
  #[.int .i64 (if 0 < k then (t.x3 s).lo else 0), .int .i64 (if 0 < k then (t.x3 s).hi else 0), .int .i64 (if 1 < k then (t.y3 s).lo else 0), .int .i64 (if 1 < k then (t.y3 s).hi else 0), .int .i64 (if 2 < k then (t.z3 s).lo else 0), .int .i64 (if 2 < k then (t.z3 s).hi else 0)]

def starV (o : Option IStar) : Value := match o with
  | some o => .tuple #[.agg #[.int .i64 o.x.lo, .int .i64 o.x.hi, .int .i64 o.y.lo, .int .i64 o.y.hi, .int .i64 o.s.lo, .int .i64 o.s.hi], .bool true]
  | none => .tuple #[.agg #[.int .i64 0, .int .i64 0, .int .i64 0, .int .i64 0, .int .i64 0, .int .i64 0], .bool false]

def ITr.hiTo (s : ISheet) (t : ITr) (e : Nat) : Int :=
  let h1 := if t.b = -1 then min (t.z3 s).hi (s.limit - 1 + s.f.hi) else (t.z3 s).hi
  if e = 1 then (t.z3 s).hi else if e = 2 then h1 else if t.c = -1 then min h1 (s.limit - 1 + s.g.hi) else h1
structure Smalls (s : ISheet) : Prop where
  ax : s.ax.small
  ay : s.ay.small
  bx : s.bx.small
  by'' : s.by'.small
  f : s.f.small
  g : s.g.small
  lim : -4000000 ≤ s.limit ∧ s.limit ≤ 4000000
  x : ∀ p ∈ s.l, p.x.small
  y : ∀ p ∈ s.l, p.y.small
  s : ∀ p ∈ s.l, p.s.small
theorem ok_smalls (s : ISheet) (hok : s.ok = true) : Smalls s := by
  have h := (iok_iff s).1 hok
  refine ⟨⟨⟨?_, ?_⟩, ⟨?_, ?_⟩⟩, ⟨⟨?_, ?_⟩, ⟨?_, ?_⟩⟩, ⟨⟨?_, ?_⟩, ⟨?_, ?_⟩⟩, ⟨⟨?_, ?_⟩, ⟨?_, ?_⟩⟩, ⟨⟨?_, ?_⟩, ⟨?_, ?_⟩⟩, ⟨⟨?_, ?_⟩, ⟨?_, ?_⟩⟩, ⟨?_, ?_⟩, ?_, ?_, ?_⟩
  all_goals first | omega | skip
  all_goals
    intro p hp
    have hq := (spot_iff p).1 (List.all_eq_true.1 h.2.2.2.2.2.2.1 p hp)
    refine ⟨⟨?_, ?_⟩, ⟨?_, ?_⟩⟩ <;> omega

theorem iidx0 (g : Nat) (w : World) : (Instr.index 123 (.agg #[.func (.func 85) #[] #[], .func (.func 86) #[] #[.pointer (some ⟨g, 0, none⟩)], .func (.func 87) #[] #[], .func (.func 88) #[] #[.pointer (some ⟨g, 0, none⟩)], .func (.func 89) #[] #[], .func (.func 90) #[] #[]]) (.int .i64 0)).run Try.prog w = .ok (.agg #[.func (.func 85) #[] #[], .func (.func 86) #[] #[.pointer (some ⟨g, 0, none⟩)]]) w := by kernel_rfl
theorem iidx1 (g : Nat) (w : World) : (Instr.index 123 (.agg #[.func (.func 85) #[] #[], .func (.func 86) #[] #[.pointer (some ⟨g, 0, none⟩)], .func (.func 87) #[] #[], .func (.func 88) #[] #[.pointer (some ⟨g, 0, none⟩)], .func (.func 89) #[] #[], .func (.func 90) #[] #[]]) (.int .i64 1)).run Try.prog w = .ok (.agg #[.func (.func 87) #[] #[], .func (.func 88) #[] #[.pointer (some ⟨g, 0, none⟩)]]) w := by kernel_rfl
theorem iidx2 (g : Nat) (w : World) : (Instr.index 123 (.agg #[.func (.func 85) #[] #[], .func (.func 86) #[] #[.pointer (some ⟨g, 0, none⟩)], .func (.func 87) #[] #[], .func (.func 88) #[] #[.pointer (some ⟨g, 0, none⟩)], .func (.func 89) #[] #[], .func (.func 90) #[] #[]]) (.int .i64 2)).run Try.prog w = .ok (.agg #[.func (.func 89) #[] #[], .func (.func 90) #[] #[]]) w := by kernel_rfl
theorem iix0 (a b c d e f : Int) (w : World) : (Instr.index 84 (.agg #[.int .i64 a, .int .i64 b, .int .i64 c, .int .i64 d, .int .i64 e, .int .i64 f]) (.int .i64 0)).run Try.prog w = .ok (.agg #[.int .i64 a, .int .i64 b]) w := by kernel_rfl
theorem iix1 (a b c d e f : Int) (w : World) : (Instr.index 84 (.agg #[.int .i64 a, .int .i64 b, .int .i64 c, .int .i64 d, .int .i64 e, .int .i64 f]) (.int .i64 1)).run Try.prog w = .ok (.agg #[.int .i64 c, .int .i64 d]) w := by kernel_rfl
theorem iix2 (a b c d e f : Int) (w : World) : (Instr.index 84 (.agg #[.int .i64 a, .int .i64 b, .int .i64 c, .int .i64 d, .int .i64 e, .int .i64 f]) (.int .i64 2)).run Try.prog w = .ok (.agg #[.int .i64 e, .int .i64 f]) w := by kernel_rfl

theorem star_put {w : World} {b : Nat} {v0 v1 v2 v3 v4 v5 : Value} {T : TypeId} (h : w.heap[b]? = some (.cells #[v0, v1, v2, v3, v4, v5] T)) (a0 a1 a2 a3 a4 a5 : Value) :
    ((((((w.setCell ⟨b, 0, none⟩ a0).setCell ⟨b, 1, none⟩ a1).setCell ⟨b, 2, none⟩ a2).setCell ⟨b, 3, none⟩ a3).setCell ⟨b, 4, none⟩ a4).setCell ⟨b, 5, none⟩ a5).heap[b]? = some (.cells #[a0, a1, a2, a3, a4, a5] T) := by
  have zz := block_set (block_set (block_set (block_set (block_set (block_set h 0 a0) 1 a1) 2 a2) 3 a3) 4 a4) 5 a5
  rw [zz]
  simp
theorem star_puts {w w1 : World} {b : Nat} (h : Below b w1 w) (a0 a1 a2 a3 a4 a5 : Value) :
    Below b w1 ((((((w.setCell ⟨b, 0, none⟩ a0).setCell ⟨b, 1, none⟩ a1).setCell ⟨b, 2, none⟩ a2).setCell ⟨b, 3, none⟩ a3).setCell ⟨b, 4, none⟩ a4).setCell ⟨b, 5, none⟩ a5) :=
  (((((h.setCell (p := ⟨b, 0, none⟩) (Nat.le_refl _) a0).setCell (p := ⟨b, 1, none⟩) (Nat.le_refl _) a1).setCell (p := ⟨b, 2, none⟩) (Nat.le_refl _) a2).setCell (p := ⟨b, 3, none⟩) (Nat.le_refl _) a3).setCell (p := ⟨b, 4, none⟩) (Nat.le_refl _) a4).setCell (p := ⟨b, 5, none⟩) (Nat.le_refl _) a5

theorem istar_any (p fc : Nat) (fa : Option Addr) (s : ISheet) (t : ITr) (w : World) (hok : s.ok = true) (htk : t.ok s.l.length = true) (hs : ShAt w p s fa fc) (hl : ImSl w fa s.l) :
    Calls Try.prog 42 #[.pointer (some ⟨p, 0, none⟩), .agg #[.int .i64 t.a, .int .i64 t.b, .int .i64 t.c]] w fun e w' => e = .returned (starV (s.starP t)) ∧ Below w.heap.size w w' := by
  obtain ⟨a, b, c⟩ := t
  have hta : 0 ≤ a ∧ a < s.l.length := by
    simp [ITr.ok, isIm] at htk
    omega
  obtain ⟨ka, rfl⟩ : ∃ ka : Nat, a = ka := ⟨a.toNat, by omega⟩
  have hka : ka < s.l.length := by omega
  generalize ht' : (⟨ka, b, c⟩ : ITr) = t at *
  have HT := Lib.hid ht'
  have ea : t.a = ka := by rw [← ht']
  have eb : t.b = b := by rw [← ht']
  have ec : t.c = c := by rw [← ht']
  show Calls Try.prog 42 #[.pointer (some ⟨p, 0, none⟩), .agg #[.int .i64 t.a, .int .i64 t.b, .int .i64 t.c]] w fun e w' => e = .returned (starV (s.starP t)) ∧ Below w.heap.size w w'
  rw [ea, eb, ec]
  clear ht' ea eb ec hta
  go_enter Try.func42, Try.ntmps42
  go_wp2_with fail
  obtain ⟨W0, hW0⟩ : ∃ W, ((w.alloc (.cells #[.int .i64 ka, .int .i64 b, .int .i64 c] 32)).alloc (.cells #[.int .i64 0, .int .i64 0, .int .i64 0, .int .i64 0, .int .i64 0, .int .i64 0] 84)) = W := ⟨_, rfl⟩
  rw [hW0]
  try simp only [Nat.add_assoc, Nat.reduceAdd]
  have hst_W0 : Steps (fun _ => False) w W0 := by rw [← hW0]; exact (Steps.alloc _ w _).trans (Steps.alloc (fun _ => False) _ _) (fun _ _ h => h)
  have hz_W0 : W0.heap.size = w.heap.size + 2 := by rw [← hW0]; simp
  have g0_W0 : W0.heap[w.heap.size]? = some (.cells #[.int .i64 ka, .int .i64 b, .int .i64 c] 32) := by rw [← hW0]; simp only [alloc_get, World.size_alloc]; repeat (first | exact if_pos trivial | exact if_pos (by omega) | rw [if_neg (by omega)])
  have g1_W0 : W0.heap[w.heap.size + 1]? = some (.cells #[.int .i64 0, .int .i64 0, .int .i64 0, .int .i64 0, .int .i64 0, .int .i64 0] 84) := by rw [← hW0]; simp only [alloc_get, World.size_alloc]; repeat (first | exact if_pos trivial | exact if_pos (by omega) | rw [if_neg (by omega)])
  clear hW0
  have hb0 : Below w.heap.size w W0 := hst_W0.below (Nat.le_refl _) (fun _ _ h => h)
  refine (itraits_any _).mono ?_
  rintro e w1 ⟨g, rfl, hg, hgl, hb1⟩
  unfold itraitsV
  have ht := obj_later hb1 g0_W0
  have ho := obj_later hb1 g1_W0
  have hs1 := (hs.later hb0).later hb1
  have hl1 := (hl.below hb0 (Nat.le_refl _)).below hb1 (Nat.le_refl _)
  have hBw := hb0.trans (hb1.mono hb0.size)
  obtain ⟨pt, hpt⟩ : ∃ pt, w.heap.size = pt := ⟨_, rfl⟩
  have hgp : pt + 1 < g := by omega
  rw [hpt] at ht ho hBw
  try rw [hpt]
  have HPT := Lib.hid hpt
  have keep : ∀ W, Below pt w W → ShAt W p s fa fc ∧ ImSl W fa s.l := fun W h => ⟨hs.same (h.block p (by rw [← hpt]; exact hs.lt)), hl.below h (Nat.le_of_eq hpt)⟩
  have KEEP := Lib.hid keep
  have HSM := Lib.hid (ok_smalls s hok)
  clear keep
  clear hb0 hb1 g0_W0 g1_W0 hst_W0 hz_W0 hgl hs hl hpt
  have hgd := cell_later (below_drew w1) hg
  go_wp2_with fail
  go_loopw [6, 7, 8, 9, 16] (fun _ _ _ _ i wr => ∃ k : Nat, k ≤ 3 ∧ i = .int .i64 k ∧ wr.heap[pt + 1]? = some (.cells (outTo s t k) 84) ∧ wr.cell? ⟨g, 0, none⟩ = some (.func (.func 84) #[] #[]) ∧ Below (pt + 1) w1 wr ∧ g < wr.heap.size) (fun _ _ _ _ i _ => 3 - (intOf i).toNat)
  case atStart => exact ⟨0, by omega, rfl, ho, hg, Below.refl _ _, World.block_lt_of_cell? _ _ hg⟩
  case round =>
    rename_i wr
    obtain ⟨k, hk, rfl, ho', hg', hbr, hgl'⟩ := hrel
    by_cases k0 : k = 0
    · subst k0
      have ix := iidx0 g
      go_upto_region 4 with fail
      have hq := obj_new wr (.cells #[.func (.func 85) #[] #[], .func (.func 86) #[] #[.pointer (some ⟨g, 0, none⟩)]] 122)
      have hbq := below_alloc wr (.cells #[.func (.func 85) #[] #[], .func (.func 86) #[] #[.pointer (some ⟨g, 0, none⟩)]] 122)
      generalize wr.alloc (.cells #[.func (.func 85) #[] #[], .func (.func 86) #[] #[.pointer (some ⟨g, 0, none⟩)]] 122) = wa at hq hbq ⊢
      have hpt1 : pt < w1.heap.size := (Array.getElem?_eq_some_iff.1 ht).1
      have hta := obj_later hbq ((hbr.block pt (Nat.lt_succ_self _)).trans ht)
      have hbwa : Below pt w wa := (hBw.trans ((hbr.mono (Nat.le_succ _)))).trans (hbq.mono (Nat.le_trans (by omega) hbr.size))
      obtain ⟨hsa, hla⟩ := KEEP.out _ hbwa
      have hga := cell_later hbq hg'
      have hoa := obj_later hbq ho'
      have hpq : pt + 1 < wr.heap.size := by omega
      have hgq : g < wr.heap.size := hgl'
      obtain ⟨q, hqe⟩ : ∃ q, wr.heap.size = q := ⟨_, rfl⟩
      rw [hqe] at hq hpq hgq
      try rw [hqe]
      have hqa := (Array.getElem?_eq_some_iff.1 hq).1
      refine star_reg4_0 p pt q g fc ka fa s b c wa hsa hla hka hta hq _ _ ?_
      intro s20 s21 s22 s23 s24 s25 s26 s27 s28 s29 s30 s31 s32 q8 w3 h8 hq8 hb3
      have hbw3 := hbwa.trans (hb3.mono (Nat.le_trans (by omega) (Nat.le_of_lt hqa)))
      clear ix hta hsa hla hs1 hl1
      have hx1 : s.l[ka].x = t.xTo s 1 := by
        show _ = (s.at' t.a).x
        rw [← HT.out]
        unfold ISheet.at'
        rw [List.getD_eq_getElem?_getD, Int.toNat_natCast, List.getElem?_eq_getElem hka]
        rfl
      rw [hx1] at h8
      have hq8l := (Array.getElem?_eq_some_iff.1 h8).1
      go_wp2_with fail
      have HZ3 : Below (pt + 1) w1 w3 := (hbr.trans (hbq.mono (by omega))).trans (hb3.mono (by omega))
      go_loopw [9] (fun i wr2 => ∃ e : Nat, 1 ≤ e ∧ e ≤ 3 ∧ i = .int .i64 e ∧ wr2.heap[q8]? = some (.cells #[.int .i64 (t.xTo s e).lo, .int .i64 (t.xTo s e).hi] 82) ∧ Below q8 w3 wr2) (fun i _ => 3 - (intOf i).toNat)
      case atStart => exact ⟨1, by omega, by omega, rfl, h8, Below.refl _ _⟩
      case round =>
        obtain ⟨wz, rfl⟩ : ∃ x, x = wr := ⟨_, rfl⟩
        rename_i wy _
        obtain ⟨e, he1, he3, rfl, h8', hb8⟩ := hrel
        have hbz1 := HZ3.trans (hb8.mono (by omega : pt + 1 ≤ q8))
        have htz := (hbz1.block pt (Nat.lt_succ_self _)).trans ht
        obtain ⟨hsz, hlz⟩ := KEEP.out _ (hbw3.trans (hb8.mono (by omega)))
        have hqz := (hb8.block q (by omega)).trans ((hb3.block q hqa).trans hq)
        have hgz := (hb8.cell (p := ⟨g, 0, none⟩) (by show g < q8; omega)).trans ((hb3.cell (p := ⟨g, 0, none⟩) (by show g < wa.heap.size; omega)).trans hga)
        by_cases e1 : e = 1
        · subst e1
          by_cases hbn : b = -1
          · subst hbn
            have c1 := cell_block htz 1
            try simp only [gA, gB, gC] at c1
            have hxx : t.xTo s 2 = t.xTo s 1 := by rw [← HT.out]; simp [ITr.xTo, ITr.x3, backTo]
            have HXX := Lib.hid hxx
            clear hxx
            go_wp2_with fail
            go_roundw
            case rel => exact ⟨2, by omega, by omega, rfl, by rw [HXX.out]; exact h8', hb8⟩
            case measure => simp [intOf]
          · have htb : 0 ≤ b ∧ b < s.l.length := by
              rw [← HT.out] at htk
              simp [ITr.ok, isIm] at htk
              omega
            obtain ⟨kb, rfl⟩ : ∃ kb : Nat, b = kb := ⟨b.toNat, by omega⟩
            have hkb : kb < s.l.length := by omega
            have c1 := cell_block htz 1
            try simp only [gA, gB, gC] at c1
            have hnb : ((kb : Int) != -1) = true := by simp
            have hat : s.at' kb = s.l[kb] := by
              unfold ISheet.at'
              rw [List.getD_eq_getElem?_getD, Int.toNat_natCast, List.getElem?_eq_getElem hkb]
              rfl
            have hxx : (t.xTo s 1).meet ((s.l[kb].x).less s.ax) = t.xTo s 2 := by
              rw [← HT.out]
              simp only [ITr.xTo, ITr.x3, backTo, if_neg hbn, hat]
              rfl
            have HXX := Lib.hid hxx
            clear hxx hat htb
            go_upto_region 9 with fail
            refine wp_last (star_reg9_0_1 p pt q q8 g fc kb fa s ka c (t.xTo s 1) wz hsz hlz hkb (HSM.out.x _ (List.getElem_mem hkb)) HSM.out.ax HSM.out.lim hgz htz hqz h8' _ _ ?_)
            intro s41 s42 s43 s44 s45 s46 s47 s48 s49 s50 s51 s52 s53 s54 s55 s56 s57 s58 s59 s60 s61 w4 h84 hb4
            go_wp2_with fail
            go_roundw
            case rel => exact ⟨2, by omega, by omega, rfl, by rw [← HXX.out]; exact h84, hb8.trans hb4⟩
            case measure => simp [intOf]
        by_cases e2 : e = 2
        · subst e2
          by_cases hbn : c = -1
          · subst hbn
            have c1 := cell_block htz 2
            try simp only [gA, gB, gC] at c1
            have hxx : t.xTo s 3 = t.xTo s 2 := by rw [← HT.out]; simp [ITr.xTo, ITr.x3, backTo]
            have HXX := Lib.hid hxx
            clear hxx
            go_wp2_with fail
            go_roundw
            case rel => exact ⟨3, by omega, by omega, rfl, by rw [HXX.out]; exact h8', hb8⟩
            case measure => simp [intOf]
          · have htb : 0 ≤ c ∧ c < s.l.length := by
              rw [← HT.out] at htk
              simp [ITr.ok, isIm] at htk
              omega
            obtain ⟨kb, rfl⟩ : ∃ kb : Nat, c = kb := ⟨c.toNat, by omega⟩
            have hkb : kb < s.l.length := by omega
            have c1 := cell_block htz 2
            try simp only [gA, gB, gC] at c1
            have hnb : ((kb : Int) != -1) = true := by simp
            have hat : s.at' kb = s.l[kb] := by
              unfold ISheet.at'
              rw [List.getD_eq_getElem?_getD, Int.toNat_natCast, List.getElem?_eq_getElem hkb]
              rfl
            have hxx : (t.xTo s 2).meet ((s.l[kb].x).less s.bx) = t.xTo s 3 := by
              rw [← HT.out]
              simp only [ITr.xTo, ITr.x3, backTo, if_neg hbn, hat]
              rfl
            have HXX := Lib.hid hxx
            clear hxx hat htb
            go_upto_region 9 with fail
            refine wp_last (star_reg9_0_2 p pt q q8 g fc kb fa s ka b (t.xTo s 2) wz hsz hlz hkb (HSM.out.x _ (List.getElem_mem hkb)) HSM.out.bx HSM.out.lim hgz htz hqz h8' _ _ ?_)
            intro s41 s42 s43 s44 s45 s46 s47 s48 s49 s50 s51 s52 s53 s54 s55 s56 s57 s58 s59 s60 s61 w4 h84 hb4
            go_wp2_with fail
            go_roundw
            case rel => exact ⟨3, by omega, by omega, rfl, by rw [← HXX.out]; exact h84, hb8.trans hb4⟩
            case measure => simp [intOf]
        obtain rfl : e = 3 := by omega
        have a0 := cell_block h8' 0
        have a1 := cell_block h8' 1
        try simp only [gA, gB, gC] at a0 a1
        have hoz := (hb8.block (pt + 1) (by omega)).trans ((hb3.block (pt + 1) (by omega)).trans hoa)
        have oc := fun i => cell_block hoz i
        have o0 := oc 0
        have o1 := oc 1
        have f0 := frozen_block hoz 0
        have f1 := frozen_block hoz 1
        clear oc
        try simp only [outTo, gA, gB, gC] at o0 o1
        go_wp2_with fail
        go_roundw
        case rel =>
          have zz := block_set (block_set hoz 0 (.int .i64 (t.xTo s 3).lo)) 1 (.int .i64 (t.xTo s 3).hi)
          have hB := (hbz1.setCell (p := ⟨pt + 1, 0, none⟩) (Nat.le_refl _) (.int .i64 (t.xTo s 3).lo)).setCell (p := ⟨pt + 1, 1, none⟩) (Nat.le_refl _) (.int .i64 (t.xTo s 3).hi)
          have hgg : g < wz.heap.size := World.block_lt_of_cell? wz _ hgz
          refine ⟨1, by omega, rfl, ?_, (cell_same (block_other (block_other rfl (by omega) _ _) (by omega) _ _)).trans hgz, hB, Nat.lt_of_lt_of_le hgg (by simp)⟩
          rw [zz]
          simp [outTo, ITr.xTo]
        case measure => simp [intOf]
    by_cases k1 : k = 1
    · subst k1
      have ix := iidx1 g
      go_upto_region 4 with fail
      have hq := obj_new wr (.cells #[.func (.func 87) #[] #[], .func (.func 88) #[] #[.pointer (some ⟨g, 0, none⟩)]] 122)
      have hbq := below_alloc wr (.cells #[.func (.func 87) #[] #[], .func (.func 88) #[] #[.pointer (some ⟨g, 0, none⟩)]] 122)
      generalize wr.alloc (.cells #[.func (.func 87) #[] #[], .func (.func 88) #[] #[.pointer (some ⟨g, 0, none⟩)]] 122) = wa at hq hbq ⊢
      have hpt1 : pt < w1.heap.size := (Array.getElem?_eq_some_iff.1 ht).1
      have hta := obj_later hbq ((hbr.block pt (Nat.lt_succ_self _)).trans ht)
      have hbwa : Below pt w wa := (hBw.trans ((hbr.mono (Nat.le_succ _)))).trans (hbq.mono (Nat.le_trans (by omega) hbr.size))
      obtain ⟨hsa, hla⟩ := KEEP.out _ hbwa
      have hga := cell_later hbq hg'
      have hoa := obj_later hbq ho'
      have hpq : pt + 1 < wr.heap.size := by omega
      have hgq : g < wr.heap.size := hgl'
      obtain ⟨q, hqe⟩ : ∃ q, wr.heap.size = q := ⟨_, rfl⟩
      rw [hqe] at hq hpq hgq
      try rw [hqe]
      have hqa := (Array.getElem?_eq_some_iff.1 hq).1
      refine star_reg4_1 p pt q g fc ka fa s b c wa hsa hla hka hta hq _ _ ?_
      intro s20 s21 s22 s23 s24 s25 s26 s27 s28 s29 s30 s31 s32 q8 w3 h8 hq8 hb3
      have hbw3 := hbwa.trans (hb3.mono (Nat.le_trans (by omega) (Nat.le_of_lt hqa)))
      clear ix hta hsa hla hs1 hl1
      have hx1 : s.l[ka].y = t.yTo s 1 := by
        show _ = (s.at' t.a).y
        rw [← HT.out]
        unfold ISheet.at'
        rw [List.getD_eq_getElem?_getD, Int.toNat_natCast, List.getElem?_eq_getElem hka]
        rfl
      rw [hx1] at h8
      have hq8l := (Array.getElem?_eq_some_iff.1 h8).1
      go_wp2_with fail
      have HZ3 : Below (pt + 1) w1 w3 := (hbr.trans (hbq.mono (by omega))).trans (hb3.mono (by omega))
      go_loopw [9] (fun i wr2 => ∃ e : Nat, 1 ≤ e ∧ e ≤ 3 ∧ i = .int .i64 e ∧ wr2.heap[q8]? = some (.cells #[.int .i64 (t.yTo s e).lo, .int .i64 (t.yTo s e).hi] 82) ∧ Below q8 w3 wr2) (fun i _ => 3 - (intOf i).toNat)
      case atStart => exact ⟨1, by omega, by omega, rfl, h8, Below.refl _ _⟩
      case round =>
        obtain ⟨wz, rfl⟩ : ∃ x, x = wr := ⟨_, rfl⟩
        rename_i wy _
        obtain ⟨e, he1, he3, rfl, h8', hb8⟩ := hrel
        have hbz1 := HZ3.trans (hb8.mono (by omega : pt + 1 ≤ q8))
        have htz := (hbz1.block pt (Nat.lt_succ_self _)).trans ht
        obtain ⟨hsz, hlz⟩ := KEEP.out _ (hbw3.trans (hb8.mono (by omega)))
        have hqz := (hb8.block q (by omega)).trans ((hb3.block q hqa).trans hq)
        have hgz := (hb8.cell (p := ⟨g, 0, none⟩) (by show g < q8; omega)).trans ((hb3.cell (p := ⟨g, 0, none⟩) (by show g < wa.heap.size; omega)).trans hga)
        by_cases e1 : e = 1
        · subst e1
          by_cases hbn : b = -1
          · subst hbn
            have c1 := cell_block htz 1
            try simp only [gA, gB, gC] at c1
            have hxx : t.yTo s 2 = t.yTo s 1 := by rw [← HT.out]; simp [ITr.yTo, ITr.y3, backTo]
            have HXX := Lib.hid hxx
            clear hxx
            go_wp2_with fail
            go_roundw
            case rel => exact ⟨2, by omega, by omega, rfl, by rw [HXX.out]; exact h8', hb8⟩
            case measure => simp [intOf]
          · have htb : 0 ≤ b ∧ b < s.l.length := by
              rw [← HT.out] at htk
              simp [ITr.ok, isIm] at htk
              omega
            obtain ⟨kb, rfl⟩ : ∃ kb : Nat, b = kb := ⟨b.toNat, by omega⟩
            have hkb : kb < s.l.length := by omega
            have c1 := cell_block htz 1
            try simp only [gA, gB, gC] at c1
            have hnb : ((kb : Int) != -1) = true := by simp
            have hat : s.at' kb = s.l[kb] := by
              unfold ISheet.at'
              rw [List.getD_eq_getElem?_getD, Int.toNat_natCast, List.getElem?_eq_getElem hkb]
              rfl
            have hxx : (t.yTo s 1).meet ((s.l[kb].y).less s.ay) = t.yTo s 2 := by
              rw [← HT.out]
              simp only [ITr.yTo, ITr.y3, backTo, if_neg hbn, hat]
              rfl
            have HXX := Lib.hid hxx
            clear hxx hat htb
            go_upto_region 9 with fail
            refine wp_last (star_reg9_1_1 p pt q q8 g fc kb fa s ka c (t.yTo s 1) wz hsz hlz hkb (HSM.out.y _ (List.getElem_mem hkb)) HSM.out.ay HSM.out.lim hgz htz hqz h8' _ _ ?_)
            intro s41 s42 s43 s44 s45 s46 s47 s48 s49 s50 s51 s52 s53 s54 s55 s56 s57 s58 s59 s60 s61 w4 h84 hb4
            go_wp2_with fail
            go_roundw
            case rel => exact ⟨2, by omega, by omega, rfl, by rw [← HXX.out]; exact h84, hb8.trans hb4⟩
            case measure => simp [intOf]
        by_cases e2 : e = 2
        · subst e2
          by_cases hbn : c = -1
          · subst hbn
            have c1 := cell_block htz 2
            try simp only [gA, gB, gC] at c1
            have hxx : t.yTo s 3 = t.yTo s 2 := by rw [← HT.out]; simp [ITr.yTo, ITr.y3, backTo]
            have HXX := Lib.hid hxx
            clear hxx
            go_wp2_with fail
            go_roundw
            case rel => exact ⟨3, by omega, by omega, rfl, by rw [HXX.out]; exact h8', hb8⟩
            case measure => simp [intOf]
          · have htb : 0 ≤ c ∧ c < s.l.length := by
              rw [← HT.out] at htk
              simp [ITr.ok, isIm] at htk
              omega
            obtain ⟨kb, rfl⟩ : ∃ kb : Nat, c = kb := ⟨c.toNat, by omega⟩
            have hkb : kb < s.l.length := by omega
            have c1 := cell_block htz 2
            try simp only [gA, gB, gC] at c1
            have hnb : ((kb : Int) != -1) = true := by simp
            have hat : s.at' kb = s.l[kb] := by
              unfold ISheet.at'
              rw [List.getD_eq_getElem?_getD, Int.toNat_natCast, List.getElem?_eq_getElem hkb]
              rfl
            have hxx : (t.yTo s 2).meet ((s.l[kb].y).less s.by') = t.yTo s 3 := by
              rw [← HT.out]
              simp only [ITr.yTo, ITr.y3, backTo, if_neg hbn, hat]
              rfl
            have HXX := Lib.hid hxx
            clear hxx hat htb
            go_upto_region 9 with fail
            refine wp_last (star_reg9_1_2 p pt q q8 g fc kb fa s ka b (t.yTo s 2) wz hsz hlz hkb (HSM.out.y _ (List.getElem_mem hkb)) HSM.out.by'' HSM.out.lim hgz htz hqz h8' _ _ ?_)
            intro s41 s42 s43 s44 s45 s46 s47 s48 s49 s50 s51 s52 s53 s54 s55 s56 s57 s58 s59 s60 s61 w4 h84 hb4
            go_wp2_with fail
            go_roundw
            case rel => exact ⟨3, by omega, by omega, rfl, by rw [← HXX.out]; exact h84, hb8.trans hb4⟩
            case measure => simp [intOf]
        obtain rfl : e = 3 := by omega
        have a0 := cell_block h8' 0
        have a1 := cell_block h8' 1
        try simp only [gA, gB, gC] at a0 a1
        have hoz := (hb8.block (pt + 1) (by omega)).trans ((hb3.block (pt + 1) (by omega)).trans hoa)
        have oc := fun i => cell_block hoz i
        have o0 := oc 2
        have o1 := oc 3
        have f0 := frozen_block hoz 2
        have f1 := frozen_block hoz 3
        clear oc
        try simp only [outTo, gA, gB, gC] at o0 o1
        go_wp2_with fail
        go_roundw
        case rel =>
          have zz := block_set (block_set hoz 2 (.int .i64 (t.yTo s 3).lo)) 3 (.int .i64 (t.yTo s 3).hi)
          have hB := (hbz1.setCell (p := ⟨pt + 1, 2, none⟩) (Nat.le_refl _) (.int .i64 (t.yTo s 3).lo)).setCell (p := ⟨pt + 1, 3, none⟩) (Nat.le_refl _) (.int .i64 (t.yTo s 3).hi)
          have hgg : g < wz.heap.size := World.block_lt_of_cell? wz _ hgz
          refine ⟨2, by omega, rfl, ?_, (cell_same (block_other (block_other rfl (by omega) _ _) (by omega) _ _)).trans hgz, hB, Nat.lt_of_lt_of_le hgg (by simp)⟩
          rw [zz]
          simp [outTo, ITr.yTo]
        case measure => simp [intOf]
    by_cases k2 : k = 2
    · subst k2
      have ix := iidx2 g
      go_upto_region 4 with fail
      have hq := obj_new wr (.cells #[.func (.func 89) #[] #[], .func (.func 90) #[] #[]] 122)
      have hbq := below_alloc wr (.cells #[.func (.func 89) #[] #[], .func (.func 90) #[] #[]] 122)
      generalize wr.alloc (.cells #[.func (.func 89) #[] #[], .func (.func 90) #[] #[]] 122) = wa at hq hbq ⊢
      have hpt1 : pt < w1.heap.size := (Array.getElem?_eq_some_iff.1 ht).1
      have hta := obj_later hbq ((hbr.block pt (Nat.lt_succ_self _)).trans ht)
      have hbwa : Below pt w wa := (hBw.trans ((hbr.mono (Nat.le_succ _)))).trans (hbq.mono (Nat.le_trans (by omega) hbr.size))
      obtain ⟨hsa, hla⟩ := KEEP.out _ hbwa
      have hga := cell_later hbq hg'
      have hoa := obj_later hbq ho'
      have hpq : pt + 1 < wr.heap.size := by omega
      have hgq : g < wr.heap.size := hgl'
      obtain ⟨q, hqe⟩ : ∃ q, wr.heap.size = q := ⟨_, rfl⟩
      rw [hqe] at hq hpq hgq
      try rw [hqe]
      have hqa := (Array.getElem?_eq_some_iff.1 hq).1
      refine star_reg4_2 p pt q g fc ka fa s b c wa hsa hla hka hta hq _ _ ?_
      intro s20 s21 s22 s23 s24 s25 s26 s27 s28 s29 s30 s31 s32 q8 w3 h8 hq8 hb3
      have hbw3 := hbwa.trans (hb3.mono (Nat.le_trans (by omega) (Nat.le_of_lt hqa)))
      clear ix hta hsa hla hs1 hl1
      have hx1 : s.l[ka].s = t.zTo s 1 := by
        show _ = (s.at' t.a).s
        rw [← HT.out]
        unfold ISheet.at'
        rw [List.getD_eq_getElem?_getD, Int.toNat_natCast, List.getElem?_eq_getElem hka]
        rfl
      rw [hx1] at h8
      have hq8l := (Array.getElem?_eq_some_iff.1 h8).1
      go_wp2_with fail
      have HZ3 : Below (pt + 1) w1 w3 := (hbr.trans (hbq.mono (by omega))).trans (hb3.mono (by omega))
      go_loopw [9] (fun i wr2 => ∃ e : Nat, 1 ≤ e ∧ e ≤ 3 ∧ i = .int .i64 e ∧ wr2.heap[q8]? = some (.cells #[.int .i64 (t.zTo s e).lo, .int .i64 (t.zTo s e).hi] 82) ∧ Below q8 w3 wr2) (fun i _ => 3 - (intOf i).toNat)
      case atStart => exact ⟨1, by omega, by omega, rfl, h8, Below.refl _ _⟩
      case round =>
        obtain ⟨wz, rfl⟩ : ∃ x, x = wr := ⟨_, rfl⟩
        rename_i wy _
        obtain ⟨e, he1, he3, rfl, h8', hb8⟩ := hrel
        have hbz1 := HZ3.trans (hb8.mono (by omega : pt + 1 ≤ q8))
        have htz := (hbz1.block pt (Nat.lt_succ_self _)).trans ht
        obtain ⟨hsz, hlz⟩ := KEEP.out _ (hbw3.trans (hb8.mono (by omega)))
        have hqz := (hb8.block q (by omega)).trans ((hb3.block q hqa).trans hq)
        have hgz := (hb8.cell (p := ⟨g, 0, none⟩) (by show g < q8; omega)).trans ((hb3.cell (p := ⟨g, 0, none⟩) (by show g < wa.heap.size; omega)).trans hga)
        by_cases e1 : e = 1
        · subst e1
          by_cases hbn : b = -1
          · subst hbn
            have c1 := cell_block htz 1
            try simp only [gA, gB, gC] at c1
            have hxx : t.zTo s 2 = t.zTo s 1 := by rw [← HT.out]; simp [ITr.zTo, ITr.z3, backTo]
            have HXX := Lib.hid hxx
            clear hxx
            go_wp2_with fail
            go_roundw
            case rel => exact ⟨2, by omega, by omega, rfl, by rw [HXX.out]; exact h8', hb8⟩
            case measure => simp [intOf]
          · have htb : 0 ≤ b ∧ b < s.l.length := by
              rw [← HT.out] at htk
              simp [ITr.ok, isIm] at htk
              omega
            obtain ⟨kb, rfl⟩ : ∃ kb : Nat, b = kb := ⟨b.toNat, by omega⟩
            have hkb : kb < s.l.length := by omega
            have c1 := cell_block htz 1
            try simp only [gA, gB, gC] at c1
            have hnb : ((kb : Int) != -1) = true := by simp
            have hat : s.at' kb = s.l[kb] := by
              unfold ISheet.at'
              rw [List.getD_eq_getElem?_getD, Int.toNat_natCast, List.getElem?_eq_getElem hkb]
              rfl
            have hxx : (t.zTo s 1).meet (sizeBack s (s.l[kb].s) s.f) = t.zTo s 2 := by
              rw [← HT.out]
              simp only [ITr.zTo, ITr.z3, backTo, if_neg hbn, hat]
              rfl
            have HXX := Lib.hid hxx
            clear hxx hat htb
            go_upto_region 9 with fail
            refine wp_last (star_reg9_2_1 p pt q q8 g fc kb fa s ka c (t.zTo s 1) wz hsz hlz hkb (HSM.out.s _ (List.getElem_mem hkb)) HSM.out.f HSM.out.lim hgz htz hqz h8' _ _ ?_)
            intro s41 s42 s43 s44 s45 s46 s47 s48 s49 s50 s51 s52 s53 s54 s55 s56 s57 s58 s59 s60 s61 w4 h84 hb4
            go_wp2_with fail
            go_roundw
            case rel => exact ⟨2, by omega, by omega, rfl, by rw [← HXX.out]; exact h84, hb8.trans hb4⟩
            case measure => simp [intOf]
        by_cases e2 : e = 2
        · subst e2
          by_cases hbn : c = -1
          · subst hbn
            have c1 := cell_block htz 2
            try simp only [gA, gB, gC] at c1
            have hxx : t.zTo s 3 = t.zTo s 2 := by rw [← HT.out]; simp [ITr.zTo, ITr.z3, backTo]
            have HXX := Lib.hid hxx
            clear hxx
            go_wp2_with fail
            go_roundw
            case rel => exact ⟨3, by omega, by omega, rfl, by rw [HXX.out]; exact h8', hb8⟩
            case measure => simp [intOf]
          · have htb : 0 ≤ c ∧ c < s.l.length := by
              rw [← HT.out] at htk
              simp [ITr.ok, isIm] at htk
              omega
            obtain ⟨kb, rfl⟩ : ∃ kb : Nat, c = kb := ⟨c.toNat, by omega⟩
            have hkb : kb < s.l.length := by omega
            have c1 := cell_block htz 2
            try simp only [gA, gB, gC] at c1
            have hnb : ((kb : Int) != -1) = true := by simp
            have hat : s.at' kb = s.l[kb] := by
              unfold ISheet.at'
              rw [List.getD_eq_getElem?_getD, Int.toNat_natCast, List.getElem?_eq_getElem hkb]
              rfl
            have hxx : (t.zTo s 2).meet (sizeBack s (s.l[kb].s) s.g) = t.zTo s 3 := by
              rw [← HT.out]
              simp only [ITr.zTo, ITr.z3, backTo, if_neg hbn, hat]
              rfl
            have HXX := Lib.hid hxx
            clear hxx hat htb
            go_upto_region 9 with fail
            refine wp_last (star_reg9_2_2 p pt q q8 g fc kb fa s ka b (t.zTo s 2) wz hsz hlz hkb (HSM.out.s _ (List.getElem_mem hkb)) HSM.out.g HSM.out.lim hgz htz hqz h8' _ _ ?_)
            intro s41 s42 s43 s44 s45 s46 s47 s48 s49 s50 s51 s52 s53 s54 s55 s56 s57 s58 s59 s60 s61 w4 h84 hb4
            go_wp2_with fail
            go_roundw
            case rel => exact ⟨3, by omega, by omega, rfl, by rw [← HXX.out]; exact h84, hb8.trans hb4⟩
            case measure => simp [intOf]
        obtain rfl : e = 3 := by omega
        have a0 := cell_block h8' 0
        have a1 := cell_block h8' 1
        try simp only [gA, gB, gC] at a0 a1
        have hoz := (hb8.block (pt + 1) (by omega)).trans ((hb3.block (pt + 1) (by omega)).trans hoa)
        have oc := fun i => cell_block hoz i
        have o0 := oc 4
        have o1 := oc 5
        have f0 := frozen_block hoz 4
        have f1 := frozen_block hoz 5
        clear oc
        try simp only [outTo, gA, gB, gC] at o0 o1
        go_wp2_with fail
        go_roundw
        case rel =>
          have zz := block_set (block_set hoz 4 (.int .i64 (t.zTo s 3).lo)) 5 (.int .i64 (t.zTo s 3).hi)
          have hB := (hbz1.setCell (p := ⟨pt + 1, 4, none⟩) (Nat.le_refl _) (.int .i64 (t.zTo s 3).lo)).setCell (p := ⟨pt + 1, 5, none⟩) (Nat.le_refl _) (.int .i64 (t.zTo s 3).hi)
          have hgg : g < wz.heap.size := World.block_lt_of_cell? wz _ hgz
          refine ⟨3, by omega, rfl, ?_, (cell_same (block_other (block_other rfl (by omega) _ _) (by omega) _ _)).trans hgz, hB, Nat.lt_of_lt_of_le hgg (by simp)⟩
          rw [zz]
          simp [outTo, ITr.zTo]
        case measure => simp [intOf]
    have hk3 : k = 3 := by omega
    subst hk3
    have htr := (hbr.block pt (Nat.lt_succ_self _)).trans ht
    have hgl2 : g < wr.heap.size := hgl'
    obtain ⟨hsr, hlr⟩ := KEEP.out _ (hBw.trans (hbr.mono (Nat.le_succ _)))
    have q0 := cell_block htr 0
    have q1 := cell_block htr 1
    have q2 := cell_block htr 2
    try simp only [gA, gB, gC] at q0 q1 q2
    have te := tr_eq ka b c ka (-1) (-1)
    obtain ⟨al, hal⟩ : ∃ al, ((ka : Int) == ka && b == -1 && c == -1) = al := ⟨_, rfl⟩
    rw [hal] at te
    have HAL := Lib.hid hal
    clear hal
    go_upto_region 14 with fail
    have o4 := cell_block ho' 4
    have f4 := frozen_block ho' 4
    have lm := hsr.c12
    try simp only [outTo, gA, gB, gC] at o4
    go_cut [] (fun wx => wx.heap[pt + 1]? = some (.cells #[.int .i64 (t.x3 s).lo, .int .i64 (t.x3 s).hi, .int .i64 (t.y3 s).lo, .int .i64 (t.y3 s).hi, .int .i64 (max (t.z3 s).lo s.limit), .int .i64 (t.z3 s).hi] 84) ∧ Below (pt + 1) w1 wx)
    case first =>
      replace o4 : wr.cell? ⟨pt + 1, 4, none⟩ = some (.int .i64 (t.z3 s).lo) := by rw [o4]; simp
      by_cases hlt : (t.z3 s).lo < s.limit
      · have em : max (t.z3 s).lo s.limit = s.limit := by omega
        go_region
        go_wp2_with fail
        go_meet
        have zz := block_set ho' 4 (.int .i64 s.limit)
        refine ⟨by rw [em]; exact zz.trans (by simp [outTo]), ((hbr.setCell (p := ⟨pt + 1, 4, none⟩) (Nat.le_refl _) _)).drew⟩
      · have em : max (t.z3 s).lo s.limit = (t.z3 s).lo := by omega
        have hge : s.limit ≤ (t.z3 s).lo := by omega
        go_region
        go_wp2_with fail
        go_meet
        have zz := block_set ho' 4 (.int .i64 (t.z3 s).lo)
        refine ⟨by rw [em]; exact zz.trans (by simp [outTo]), ((hbr.setCell (p := ⟨pt + 1, 4, none⟩) (Nat.le_refl _) _)).drew⟩
    case rest =>
      obtain ⟨zo, hbx⟩ := hcut
      clear o4 f4 lm te q0 q1 q2 htr hsr hlr ho' hg' hbr hgl2 hgl'
      go_wp2_with fail
      go_loopw [12] (fun i wy => ∃ e : Nat, 1 ≤ e ∧ e ≤ 3 ∧ i = .int .i64 e ∧ wy.heap[pt + 1]? = some (.cells #[.int .i64 (t.x3 s).lo, .int .i64 (t.x3 s).hi, .int .i64 (t.y3 s).lo, .int .i64 (t.y3 s).hi, .int .i64 (max (t.z3 s).lo s.limit), .int .i64 (t.hiTo s e)] 84) ∧ Below (pt + 1) w1 wy) (fun i _ => 3 - (intOf i).toNat)
      case atStart => exact ⟨1, by omega, by omega, rfl, by rw [zo]; simp [ITr.hiTo], hbx⟩
      case round =>
        clear zo hbx
        obtain ⟨e, he1, he3, rfl, ho2, hb2⟩ := hrel
        have ht2 := (hb2.block pt (Nat.lt_succ_self _)).trans ht
        obtain ⟨hs2, hl2⟩ := KEEP.out _ (hBw.trans (hb2.mono (Nat.le_succ _)))
        have hw0 : IntKind.i64.wrap 0 = 0 := by decide
        have hw1 : IntKind.i64.wrap 1 = 1 := by decide
        by_cases e1 : e = 1
        · subst e1
          have c1 := cell_block ht2 1
          try simp only [gA, gB, gC] at c1
          by_cases hv : b = -1
          · have hh : t.hiTo s 2 = min (t.hiTo s 1) (s.limit - 1 + s.f.hi) := by rw [← HT.out]; simp [ITr.hiTo, hv]
            have HH := Lib.hid hh
            clear hh
            subst hv
            have ew1 : IntKind.i64.wrap (s.limit - 1) = s.limit - 1 := by rw [IntKind.wrap_i64]; have := HSM.out.lim; omega
            have ew2 : IntKind.i64.wrap (s.limit - 1 + s.f.hi) = s.limit - 1 + s.f.hi := by rw [IntKind.wrap_i64]; have := HSM.out.lim; have := HSM.out.f.2; omega
            have lm := hs2.c12
            have fd := hs2.c9
            have o5 := cell_block ho2 5
            have f5 := frozen_block ho2 5
            try simp only [gA, gB, gC] at o5
            have go : ∀ m, m = min (t.hiTo s 1) (s.limit - 1 + s.f.hi) → (wr.setCell ⟨pt + 1, 5, none⟩ (.int .i64 m)).drew.heap[pt + 1]? = some (.cells #[.int .i64 (t.x3 s).lo, .int .i64 (t.x3 s).hi, .int .i64 (t.y3 s).lo, .int .i64 (t.y3 s).hi, .int .i64 (max (t.z3 s).lo s.limit), .int .i64 (t.hiTo s 2)] 84) ∧ Below (pt + 1) w1 (wr.setCell ⟨pt + 1, 5, none⟩ (.int .i64 m)).drew := by
              intro m hm
              have zz := block_set ho2 5 (.int .i64 m)
              refine ⟨zz.trans (by rw [HH.out, ← hm]; simp), ((hb2.setCell (p := ⟨pt + 1, 5, none⟩) (Nat.le_refl _) _)).drew⟩
            have GO := Lib.hid go
            clear go
            by_cases hlt : t.hiTo s 1 ≤ s.limit - 1 + s.f.hi
            · have em := Lib.hid (show t.hiTo s 1 = min (t.hiTo s 1) (s.limit - 1 + s.f.hi) by omega)
              cases al
              · go_upto_region 19 with fail
                go_region
                go_wp2_with fail
                go_roundw
                case rel =>
                  have gg := GO.out _ em.out
                  exact ⟨2, by omega, by omega, rfl, gg.1, gg.2⟩
                case measure => simp [intOf]
              · go_upto_region 19 with fail
                go_region
                go_wp2_with fail
                go_roundw
                case rel =>
                  have gg := GO.out _ em.out
                  exact ⟨2, by omega, by omega, rfl, gg.1, gg.2⟩
                case measure => simp [intOf]
            · have em := Lib.hid (show s.limit - 1 + s.f.hi = min (t.hiTo s 1) (s.limit - 1 + s.f.hi) by omega)
              have hge : s.limit - 1 + s.f.hi < t.hiTo s 1 := by omega
              cases al
              · go_upto_region 19 with fail
                go_region
                go_wp2_with fail
                go_roundw
                case rel =>
                  have gg := GO.out _ em.out
                  exact ⟨2, by omega, by omega, rfl, gg.1, gg.2⟩
                case measure => simp [intOf]
              · go_upto_region 19 with fail
                go_region
                go_wp2_with fail
                go_roundw
                case rel =>
                  have gg := GO.out _ em.out
                  exact ⟨2, by omega, by omega, rfl, gg.1, gg.2⟩
                case measure => simp [intOf]
          · have hh : t.hiTo s 2 = t.hiTo s 1 := by rw [← HT.out]; simp [ITr.hiTo, hv]
            have HH := Lib.hid hh
            clear hh
            have hal : al = false := by rw [← HAL.out]; simp [hv]
            subst hal
            have hne : (b == -1) = false := by simp [hv]
            go_wp2_with fail
            go_roundw
            case rel => exact ⟨2, by omega, by omega, rfl, by rw [HH.out]; exact ho2, hb2⟩
            case measure => simp [intOf]
        by_cases e2 : e = 2
        · subst e2
          have c1 := cell_block ht2 2
          try simp only [gA, gB, gC] at c1
          by_cases hv : c = -1
          · have hh : t.hiTo s 3 = min (t.hiTo s 2) (s.limit - 1 + s.g.hi) := by rw [← HT.out]; simp [ITr.hiTo, hv]
            have HH := Lib.hid hh
            clear hh
            subst hv
            have ew1 : IntKind.i64.wrap (s.limit - 1) = s.limit - 1 := by rw [IntKind.wrap_i64]; have := HSM.out.lim; omega
            have ew2 : IntKind.i64.wrap (s.limit - 1 + s.g.hi) = s.limit - 1 + s.g.hi := by rw [IntKind.wrap_i64]; have := HSM.out.lim; have := HSM.out.g.2; omega
            have lm := hs2.c12
            have fd := hs2.c11
            have o5 := cell_block ho2 5
            have f5 := frozen_block ho2 5
            try simp only [gA, gB, gC] at o5
            have go : ∀ m, m = min (t.hiTo s 2) (s.limit - 1 + s.g.hi) → (wr.setCell ⟨pt + 1, 5, none⟩ (.int .i64 m)).drew.heap[pt + 1]? = some (.cells #[.int .i64 (t.x3 s).lo, .int .i64 (t.x3 s).hi, .int .i64 (t.y3 s).lo, .int .i64 (t.y3 s).hi, .int .i64 (max (t.z3 s).lo s.limit), .int .i64 (t.hiTo s 3)] 84) ∧ Below (pt + 1) w1 (wr.setCell ⟨pt + 1, 5, none⟩ (.int .i64 m)).drew := by
              intro m hm
              have zz := block_set ho2 5 (.int .i64 m)
              refine ⟨zz.trans (by rw [HH.out, ← hm]; simp), ((hb2.setCell (p := ⟨pt + 1, 5, none⟩) (Nat.le_refl _) _)).drew⟩
            have GO := Lib.hid go
            clear go
            by_cases hlt : t.hiTo s 2 ≤ s.limit - 1 + s.g.hi
            · have em := Lib.hid (show t.hiTo s 2 = min (t.hiTo s 2) (s.limit - 1 + s.g.hi) by omega)
              cases al
              · go_upto_region 19 with fail
                go_region
                go_wp2_with fail
                go_roundw
                case rel =>
                  have gg := GO.out _ em.out
                  exact ⟨3, by omega, by omega, rfl, gg.1, gg.2⟩
                case measure => simp [intOf]
              · go_upto_region 19 with fail
                go_region
                go_wp2_with fail
                go_roundw
                case rel =>
                  have gg := GO.out _ em.out
                  exact ⟨3, by omega, by omega, rfl, gg.1, gg.2⟩
                case measure => simp [intOf]
            · have em := Lib.hid (show s.limit - 1 + s.g.hi = min (t.hiTo s 2) (s.limit - 1 + s.g.hi) by omega)
              have hge : s.limit - 1 + s.g.hi < t.hiTo s 2 := by omega
              cases al
              · go_upto_region 19 with fail
                go_region
                go_wp2_with fail
                go_roundw
                case rel =>
                  have gg := GO.out _ em.out
                  exact ⟨3, by omega, by omega, rfl, gg.1, gg.2⟩
                case measure => simp [intOf]
              · go_upto_region 19 with fail
                go_region
                go_wp2_with fail
                go_roundw
                case rel =>
                  have gg := GO.out _ em.out
                  exact ⟨3, by omega, by omega, rfl, gg.1, gg.2⟩
                case measure => simp [intOf]
          · have hh : t.hiTo s 3 = t.hiTo s 2 := by rw [← HT.out]; simp [ITr.hiTo, hv]
            have HH := Lib.hid hh
            clear hh
            have hal : al = false := by rw [← HAL.out]; simp [hv]
            subst hal
            have hne : (c == -1) = false := by simp [hv]
            go_wp2_with fail
            go_roundw
            case rel => exact ⟨3, by omega, by omega, rfl, by rw [HH.out]; exact ho2, hb2⟩
            case measure => simp [intOf]
        obtain rfl : e = 3 := by omega
        have h3 : ((3 : Nat) : Int) = 3 := rfl
        try rw [h3]
        clear h3
        have hend : s.starP t = starEnd ⟨t.x3 s, t.y3 s, ⟨max (t.z3 s).lo s.limit, t.hiTo s 3⟩⟩ := rfl
        obtain ⟨X, hX⟩ : ∃ X, t.x3 s = X := ⟨_, rfl⟩
        obtain ⟨Y, hY⟩ : ∃ Y, t.y3 s = Y := ⟨_, rfl⟩
        obtain ⟨Z, hZ⟩ : ∃ Z : Sp, (⟨max (t.z3 s).lo s.limit, t.hiTo s 3⟩ : Sp) = Z := ⟨_, rfl⟩
        have hZ1 : max (t.z3 s).lo s.limit = Z.lo := by rw [← hZ]
        have hZ2 : t.hiTo s 3 = Z.hi := by rw [← hZ]
        rw [hX, hY, hZ1, hZ2] at ho2
        rw [hX, hY, hZ] at hend
        have HEND := Lib.hid hend
        clear hs2 hl2 hw0 hw1 hX hY hZ hZ1 hZ2 hend HAL HSM HT
        have oc := fun i => cell_block ho2 i
        have o0 := oc 0
        have o1 := oc 1
        have o2 := oc 2
        have o3 := oc 3
        have o4 := oc 4
        have o5 := oc 5
        clear oc
        try simp only [gA, gB, gC] at o0 o1 o2 o3 o4 o5
        have gt : ∀ w', Below (pt + 1) w1 w' → Below w.heap.size w w' := fun w' h => by rw [HPT.out]; exact hBw.trans (h.mono (Nat.le_succ _))
        have GT := Lib.hid gt
        clear gt hBw KEEP ht2
        go_wp2_with fail


        go_loopw [5, 14, 121] (fun _ _ i wy => ∃ k : Nat, k ≤ 3 ∧ i = .int .i64 k ∧ (0 < k → X.none = false) ∧ (1 < k → Y.none = false) ∧ (2 < k → Z.none = false) ∧ wy.heap[pt + 1]? = some (.cells #[.int .i64 X.lo, .int .i64 X.hi, .int .i64 Y.lo, .int .i64 Y.hi, .int .i64 Z.lo, .int .i64 Z.hi] 84) ∧ Below (pt + 1) w1 wy) (fun _ _ i _ => 3 - (intOf i).toNat)
        case atStart => exact ⟨0, by omega, rfl, by omega, by omega, by omega, ho2, hb2⟩
        case round =>

          obtain ⟨k, hk, rfl, nX, nY, nZ, ho3, hb3⟩ := hrel
          have ho3l := (Array.getElem?_eq_some_iff.1 ho3).1
          by_cases k0 : k = 0
          · subst k0
            have ix := iix0 X.lo X.hi Y.lo Y.hi Z.lo Z.hi
            go_wp2_with fail
            have hba := below_alloc wr (.cells #[.int .i64 X.lo, .int .i64 X.hi] 82)
            generalize wr.alloc (.cells #[.int .i64 X.lo, .int .i64 X.hi] 82) = wa at hba ⊢
            refine (inone_any X _).mono ?_
            rintro e w4 ⟨rfl, hb4⟩
            have hb5 : Below (pt + 1) w1 w4 := (hb3.trans (hba.mono (by omega))).trans (hb4.mono (by have := hba.size; omega))
            have ho5 := (hb4.block (pt + 1) (by have := hba.size; omega)).trans ((hba.block (pt + 1) (by omega)).trans ho3)
            obtain ⟨n, hn⟩ : ∃ n, X.none = n := ⟨_, rfl⟩
            rw [hn]
            have HN := Lib.hid hn
            clear hn ix
            cases n
            · go_wp2_with fail
              go_roundw
              case rel =>

                exact ⟨1, by omega, rfl, fun _ => HN.out, by omega, by omega, ho5, hb5⟩
              case measure => simp [intOf]
            · have hst : starV (s.starP t) = .tuple #[.agg #[.int .i64 0, .int .i64 0, .int .i64 0, .int .i64 0, .int .i64 0, .int .i64 0], .bool false] := by
                rw [HEND.out]
                simp [starEnd, HN.out, starV]
              have HST := Lib.hid hst
              clear hst
              have fc := fun i => frozen_block ho5 i
              have f0 := fc 0
              have f1 := fc 1
              have f2 := fc 2
              have f3 := fc 3
              have f4 := fc 4
              have f5 := fc 5
              have oc := fun i => cell_block ho5 i
              have o0 := oc 0
              have o1 := oc 1
              have o2 := oc 2
              have o3 := oc 3
              have o4 := oc 4
              have o5 := oc 5
              clear fc oc
              try simp only [gA, gB, gC] at o0 o1 o2 o3 o4 o5
              go_wp2_with fail
              have zz := star_put ho5 (.int .i64 0) (.int .i64 0) (.int .i64 0) (.int .i64 0) (.int .i64 0) (.int .i64 0)
              have hB := star_puts hb5 (.int .i64 0) (.int .i64 0) (.int .i64 0) (.int .i64 0) (.int .i64 0) (.int .i64 0)
              have mc := fun i => cell_block zz i
              have m0 := mc 0
              have m1 := mc 1
              have m2 := mc 2
              have m3 := mc 3
              have m4 := mc 4
              have m5 := mc 5
              clear mc
              simp only [gA, gB, gC] at m0 m1 m2 m3 m4 m5
              exact bodyPost_ret (v := .tuple #[.agg #[.int .i64 0, .int .i64 0, .int .i64 0, .int .i64 0, .int .i64 0, .int .i64 0], .bool false]) (by simp [results, Try.results42, go_sem, m0, m1, m2, m3, m4, m5]) rfl ⟨by rw [HST.out], GT.out _ hB⟩
          by_cases k1 : k = 1
          · subst k1
            have ix := iix1 X.lo X.hi Y.lo Y.hi Z.lo Z.hi
            go_wp2_with fail
            have hba := below_alloc wr (.cells #[.int .i64 Y.lo, .int .i64 Y.hi] 82)
            generalize wr.alloc (.cells #[.int .i64 Y.lo, .int .i64 Y.hi] 82) = wa at hba ⊢
            refine (inone_any Y _).mono ?_
            rintro e w4 ⟨rfl, hb4⟩
            have hb5 : Below (pt + 1) w1 w4 := (hb3.trans (hba.mono (by omega))).trans (hb4.mono (by have := hba.size; omega))
            have ho5 := (hb4.block (pt + 1) (by have := hba.size; omega)).trans ((hba.block (pt + 1) (by omega)).trans ho3)
            obtain ⟨n, hn⟩ : ∃ n, Y.none = n := ⟨_, rfl⟩
            rw [hn]
            have HN := Lib.hid hn
            clear hn ix
            cases n
            · go_wp2_with fail
              go_roundw
              case rel =>

                exact ⟨2, by omega, rfl, fun _ => nX (by omega), fun _ => HN.out, by omega, ho5, hb5⟩
              case measure => simp [intOf]
            · have hst : starV (s.starP t) = .tuple #[.agg #[.int .i64 0, .int .i64 0, .int .i64 0, .int .i64 0, .int .i64 0, .int .i64 0], .bool false] := by
                rw [HEND.out]
                simp [starEnd, HN.out, starV]
              have HST := Lib.hid hst
              clear hst
              have fc := fun i => frozen_block ho5 i
              have f0 := fc 0
              have f1 := fc 1
              have f2 := fc 2
              have f3 := fc 3
              have f4 := fc 4
              have f5 := fc 5
              have oc := fun i => cell_block ho5 i
              have o0 := oc 0
              have o1 := oc 1
              have o2 := oc 2
              have o3 := oc 3
              have o4 := oc 4
              have o5 := oc 5
              clear fc oc
              try simp only [gA, gB, gC] at o0 o1 o2 o3 o4 o5
              go_wp2_with fail
              have zz := star_put ho5 (.int .i64 0) (.int .i64 0) (.int .i64 0) (.int .i64 0) (.int .i64 0) (.int .i64 0)
              have hB := star_puts hb5 (.int .i64 0) (.int .i64 0) (.int .i64 0) (.int .i64 0) (.int .i64 0) (.int .i64 0)
              have mc := fun i => cell_block zz i
              have m0 := mc 0
              have m1 := mc 1
              have m2 := mc 2
              have m3 := mc 3
              have m4 := mc 4
              have m5 := mc 5
              clear mc
              simp only [gA, gB, gC] at m0 m1 m2 m3 m4 m5
              exact bodyPost_ret (v := .tuple #[.agg #[.int .i64 0, .int .i64 0, .int .i64 0, .int .i64 0, .int .i64 0, .int .i64 0], .bool false]) (by simp [results, Try.results42, go_sem, m0, m1, m2, m3, m4, m5]) rfl ⟨by rw [HST.out], GT.out _ hB⟩
          by_cases k2 : k = 2
          · subst k2
            have ix := iix2 X.lo X.hi Y.lo Y.hi Z.lo Z.hi
            go_wp2_with fail
            have hba := below_alloc wr (.cells #[.int .i64 Z.lo, .int .i64 Z.hi] 82)
            generalize wr.alloc (.cells #[.int .i64 Z.lo, .int .i64 Z.hi] 82) = wa at hba ⊢
            refine (inone_any Z _).mono ?_
            rintro e w4 ⟨rfl, hb4⟩
            have hb5 : Below (pt + 1) w1 w4 := (hb3.trans (hba.mono (by omega))).trans (hb4.mono (by have := hba.size; omega))
            have ho5 := (hb4.block (pt + 1) (by have := hba.size; omega)).trans ((hba.block (pt + 1) (by omega)).trans ho3)
            obtain ⟨n, hn⟩ : ∃ n, Z.none = n := ⟨_, rfl⟩
            rw [hn]
            have HN := Lib.hid hn
            clear hn ix
            cases n
            · go_wp2_with fail
              go_roundw
              case rel =>

                exact ⟨3, by omega, rfl, fun _ => nX (by omega), fun _ => nY (by omega), fun _ => HN.out, ho5, hb5⟩
              case measure => simp [intOf]
            · have hst : starV (s.starP t) = .tuple #[.agg #[.int .i64 0, .int .i64 0, .int .i64 0, .int .i64 0, .int .i64 0, .int .i64 0], .bool false] := by
                rw [HEND.out]
                simp [starEnd, HN.out, starV]
              have HST := Lib.hid hst
              clear hst
              have fc := fun i => frozen_block ho5 i
              have f0 := fc 0
              have f1 := fc 1
              have f2 := fc 2
              have f3 := fc 3
              have f4 := fc 4
              have f5 := fc 5
              have oc := fun i => cell_block ho5 i
              have o0 := oc 0
              have o1 := oc 1
              have o2 := oc 2
              have o3 := oc 3
              have o4 := oc 4
              have o5 := oc 5
              clear fc oc
              try simp only [gA, gB, gC] at o0 o1 o2 o3 o4 o5
              go_wp2_with fail
              have zz := star_put ho5 (.int .i64 0) (.int .i64 0) (.int .i64 0) (.int .i64 0) (.int .i64 0) (.int .i64 0)
              have hB := star_puts hb5 (.int .i64 0) (.int .i64 0) (.int .i64 0) (.int .i64 0) (.int .i64 0) (.int .i64 0)
              have mc := fun i => cell_block zz i
              have m0 := mc 0
              have m1 := mc 1
              have m2 := mc 2
              have m3 := mc 3
              have m4 := mc 4
              have m5 := mc 5
              clear mc
              simp only [gA, gB, gC] at m0 m1 m2 m3 m4 m5
              exact bodyPost_ret (v := .tuple #[.agg #[.int .i64 0, .int .i64 0, .int .i64 0, .int .i64 0, .int .i64 0, .int .i64 0], .bool false]) (by simp [results, Try.results42, go_sem, m0, m1, m2, m3, m4, m5]) rfl ⟨by rw [HST.out], GT.out _ hB⟩
          obtain rfl : k = 3 := by omega
          have nX := nX (by omega)
          have nY := nY (by omega)
          have nZ := nZ (by omega)
          have oc := fun i => cell_block ho3 i
          have o0 := oc 0
          have o1 := oc 1
          have o2 := oc 2
          have o3 := oc 3
          have o4 := oc 4
          have o5 := oc 5
          have fc := fun i => frozen_block ho3 i
          have f0 := fc 0
          have f1 := fc 1
          have f2 := fc 2
          have f3 := fc 3
          have f4 := fc 4
          have f5 := fc 5
          clear oc fc
          try simp only [gA, gB, gC] at o0 o1 o2 o3 o4 o5
          have hst : starV (s.starP t) = .tuple #[.agg #[.int .i64 X.lo, .int .i64 X.hi, .int .i64 Y.lo, .int .i64 Y.hi, .int .i64 Z.lo, .int .i64 Z.hi], .bool true] := by
            rw [HEND.out]
            simp [starEnd, nX, nY, nZ, starV]
          have HST := Lib.hid hst
          clear hst
          go_wp2_with fail
          have zz := star_put ho3 (.int .i64 X.lo) (.int .i64 X.hi) (.int .i64 Y.lo) (.int .i64 Y.hi) (.int .i64 Z.lo) (.int .i64 Z.hi)
          have hB := star_puts hb3 (.int .i64 X.lo) (.int .i64 X.hi) (.int .i64 Y.lo) (.int .i64 Y.hi) (.int .i64 Z.lo) (.int .i64 Z.hi)
          have mc := fun i => cell_block zz i
          have m0 := mc 0
          have m1 := mc 1
          have m2 := mc 2
          have m3 := mc 3
          have m4 := mc 4
          have m5 := mc 5
          clear mc
          simp only [gA, gB, gC] at m0 m1 m2 m3 m4 m5
          exact bodyPost_ret (v := .tuple #[.agg #[.int .i64 X.lo, .int .i64 X.hi, .int .i64 Y.lo, .int .i64 Y.hi, .int .i64 Z.lo, .int .i64 Z.hi], .bool true]) (by simp [results, Try.results42, go_sem, m0, m1, m2, m3, m4, m5]) rfl ⟨by rw [HST.out], GT.out _ hB⟩
end Go.Proofs.Ytacioedolmaofaa
namespace Go.Proofs.Ytacioedolmaofaa
open Go.RowKit Go.Shelf
set_option maxHeartbeats 6400000
set_option maxRecDepth 100000
set_option linter.unusedSimpArgs false
set_option linter.unusedVariables false

def trCells (t : ITr) : List Value := [.int .i64 t.a, .int .i64 t.b, .int .i64 t.c]
def trsCells (l : List ITr) : List Value := l.flatMap trCells
theorem trsCells_len (l : List ITr) : (trsCells l).length = l.length * 3 := by
  induction l with
  | nil => rfl
  | cons x l ih => unfold trsCells at *; rw [List.flatMap_cons, List.length_append, ih]; simp [trCells]; omega
theorem trsCells_snoc (l : List ITr) (x : ITr) : trsCells (l ++ [x]) = trsCells l ++ trCells x := by simp [trsCells]
theorem trsCells_get : ∀ (l : List ITr) (k j : Nat) (h : k < l.length) (_ : j < 3), (trsCells l)[k * 3 + j]? = (trCells l[k])[j]?
  | x::l, 0, j, _, hj => by
    unfold trsCells
    rw [List.flatMap_cons, List.getElem?_append_left (by simp [trCells]; omega)]
    simp
  | x::l, k + 1, j, h, hj => by
    have ih := trsCells_get l k j (by simpa using h) hj
    unfold trsCells at *
    rw [List.flatMap_cons, List.getElem?_append_right (by simp [trCells]; omega)]
    have e : (k + 1) * 3 + j - (trCells x).length = k * 3 + j := by simp [trCells]; omega
    rw [e, ih]
    rfl
theorem infoTr : (Try.prog.info? 32).map (fun i => (i.zero, i.size, i.bytes)) = some (some (.agg #[.int .i64 0, .int .i64 0, .int .i64 0]), 3, 24) := by kernel_rfl
theorem trCells_one (x : ITr) : ∀ u ∈ trCells x, u.oneCell' = true := by
  intro u hu
  simp only [trCells, List.mem_cons, List.not_mem_nil, or_false] at hu
  rcases hu with rfl | rfl | rfl <;> rfl
/-- A slice at a reads as the list l. -/
structure TrAt (w : World) (b o : Nat) (x : ITr) : Prop where
  c0 : w.cell? ⟨b, o, none⟩ = some (.int .i64 x.a)
  c1 : w.cell? ⟨b, o+1, none⟩ = some (.int .i64 x.b)
  c2 : w.cell? ⟨b, o+2, none⟩ = some (.int .i64 x.c)
theorem TrAt.same {w w' : World} {b o : Nat} {x : ITr} (h : TrAt w b o x) (hb : w'.heap[b]? = w.heap[b]?) : TrAt w' b o x :=
  ⟨(cell_same hb).trans h.c0, (cell_same hb).trans h.c1, (cell_same hb).trans h.c2⟩
def TrSl (w : World) (a : Option Addr) (l : List ITr) : Prop :=
  ∀ k (h : k < l.length), ∃ b o, a = some ⟨b, o, none⟩ ∧ b < w.heap.size ∧ TrAt w b (o + k * 3) l[k]
theorem TrSl.below {B : Nat} {w w' : World} {a : Option Addr} {l : List ITr} (h : TrSl w a l) (hb : Below B w w') (hB : w.heap.size ≤ B) : TrSl w' a l := by
  intro k hk
  obtain ⟨b, o, ha, hlt, hx⟩ := h k hk
  exact ⟨b, o, ha, Nat.lt_of_lt_of_le hlt hb.size, hx.same (hb.block b (by omega))⟩
theorem TrSl.nil (w : World) (a : Option Addr) : TrSl w a [] := fun k h => absurd h (Nat.not_lt_zero k)
theorem TrSl.owned {w : World} {base : Nat} {a : Option Addr} {c : Nat} {l : List ITr} (h : w.ownsRow base 32 3 (.slice a l.length c) l.length (trsCells l)) : TrSl w a l := by
  rcases h.2 with ⟨he, hn⟩ | ⟨g, cap, cur, he, hb, hg, hnc, hcm, hcs, htake⟩
  · intro k hk
    rw [hn] at hk
    cases hk
  · cases he
    intro k hk
    have hj : ∀ j, j < 3 → w.cell? ⟨g, 0 + k * 3 + j, none⟩ = (trCells l[k])[j]? := fun j hj => by
      have hi : k * 3 + j < l.length * 3 := by omega
      rw [cell_block hg, Nat.zero_add, ← trsCells_get l k j hk hj, ← htake, List.getElem?_take, if_pos hi, Array.getElem?_toList]
    exact ⟨g, 0, rfl, (Array.getElem?_eq_some_iff.1 hg).1, hj 0 (by omega), hj 1 (by omega), hj 2 (by omega)⟩

/-- A trail more in an owned row. -/
theorem putTr {w : World} {base : Nat} {v : Value} {l : List ITr} (x : ITr) (ho : w.ownsRow base 32 3 v l.length (trsCells l)) (hl : l.length ≤ 5000) (hbase : base ≤ w.heap.size) :
    ∃ v' w', (Builtin.append_ #[41, 41] 41 #[v, .slice (some ⟨w.heap.size, 0, none⟩) 1 1]).run Try.prog (w.alloc (.cells #[.int .i64 x.a, .int .i64 x.b, .int .i64 x.c] 32)) = .ok v' w' ∧ w'.ownsRow base 32 3 v' (l ++ [x]).length (trsCells (l ++ [x])) ∧ w.grownBy w' v.ownBlock ∧ RowNext w v v' := by
  obtain ⟨i0, hi, hz0, hz1, hz2⟩ := info_parts infoTr
  obtain ⟨v', w', hrun, hown', hgrow, hnext⟩ := appendSome (w.alloc (.cells #[.int .i64 x.a, .int .i64 x.b, .int .i64 x.c] 32)) base 41 32 i0 _ 3 24 Try.underlying41 hi hz0 hz1 hz2 rfl (by decide) v l.length _ (ho.alloc _) (trCells x) rfl (trCells_one x) w.heap.size 1 (fun j u h => cell_new _ _ _ j _ (by rw [← h]; unfold trCells; simp)) (by omega) (by unfold maxLen; omega) (by rw [World.size_alloc]; omega)
  refine ⟨v', w', hrun, by rw [trsCells_snoc, List.length_append]; exact hown', grown_trans (World.grownBy_alloc w _ _) hgrow (.inl rfl), ?_⟩
  rcases hnext with h | ⟨g, h1, h2⟩
  · exact .inl h
  · exact .inr ⟨g, h1, by rw [World.size_alloc] at h2; omega⟩

/-- A sheet that is looked at, in memory, with the trails so far in a row of its own. -/
structure OpenI (w : World) (p : Nat) (s : ISheet) (fa : Option Addr) (fc : Nat) (l : List ITr) (v : Value) : Prop where
  sh : w.heap[p]? = some (.cells (shL s fa fc ++ [v]).toArray 109)
  im : ImSl w fa s.l
  row : w.ownsRow (p + 1) 32 3 v l.length (trsCells l)
theorem OpenI.at' {w : World} {p : Nat} {s : ISheet} {fa : Option Addr} {fc : Nat} {l : List ITr} {v : Value} (h : OpenI w p s fa fc l v) : ShAt w p s fa fc := ShAt.of h.sh
theorem OpenI.c15 {w : World} {p : Nat} {s : ISheet} {fa : Option Addr} {fc : Nat} {l : List ITr} {v : Value} (h : OpenI w p s fa fc l v) : w.cell? ⟨p, 15, none⟩ = some v := cell_block h.sh 15
theorem OpenI.lt {w : World} {p : Nat} {s : ISheet} {fa : Option Addr} {fc : Nat} {l : List ITr} {v : Value} (h : OpenI w p s fa fc l v) : p < w.heap.size := (Array.getElem?_eq_some_iff.1 h.sh).1
theorem OpenI.later {w w' : World} {p : Nat} {s : ISheet} {fa : Option Addr} {fc : Nat} {l : List ITr} {v : Value} (h : OpenI w p s fa fc l v) (hb : Below w.heap.size w w') : OpenI w' p s fa fc l v :=
  ⟨obj_later hb h.sh, h.im.below hb (Nat.le_refl _), ownsRow_same h.row (fun g hg => hb.block g (h.row.lt g hg).2)⟩

/-- The trails of one pair of first images, up to the k-th third one; of one first image, up to the k-th second one; all, up to the k-th first one. -/
def opC (s : ISheet) (a b : Int) (k : Nat) : List ITr := ((List.range k).map fun (j : Nat) => (⟨a, b, (j : Int) - 1⟩ : ITr)).filter fun t => t.ok s.l.length && (s.star t).isSome
def opB (s : ISheet) (a : Int) (k : Nat) : List ITr := (List.range k).flatMap fun (j : Nat) => opC s a ((j : Int) - 1) (s.l.length + 1)
def opA (s : ISheet) (k : Nat) : List ITr := (List.range k).flatMap fun (j : Nat) => opB s (j : Int) (s.l.length + 1)
theorem opC_succ (s : ISheet) (a b : Int) (k : Nat) : opC s a b (k + 1) = opC s a b k ++ if (⟨a, b, (k : Int) - 1⟩ : ITr).ok s.l.length && (s.star ⟨a, b, (k : Int) - 1⟩).isSome then [⟨a, b, (k : Int) - 1⟩] else [] := by
  simp only [opC, List.range_succ, List.map_append, List.map_cons, List.map_nil, List.filter_append, List.filter_cons, List.filter_nil]
theorem opB_succ (s : ISheet) (a : Int) (k : Nat) : opB s a (k + 1) = opB s a k ++ opC s a ((k : Int) - 1) (s.l.length + 1) := by
  simp only [opB, List.range_succ, List.flatMap_append, List.flatMap_cons, List.flatMap_nil, List.append_nil]
theorem opA_succ (s : ISheet) (k : Nat) : opA s (k + 1) = opA s k ++ opB s (k : Int) (s.l.length + 1) := by
  simp only [opA, List.range_succ, List.flatMap_append, List.flatMap_cons, List.flatMap_nil, List.append_nil]
theorem opA_all (s : ISheet) : opA s s.l.length = s.trails := by
  simp only [opA, opB, opC, ISheet.trails, fromNo, List.flatMap_map, List.map_map]
  rfl
theorem opC_len (s : ISheet) (a b : Int) (k : Nat) : (opC s a b k).length ≤ k := by
  refine Nat.le_trans (List.length_filter_le _ _) ?_
  simp
theorem opB_len (s : ISheet) (a : Int) (k : Nat) : (opB s a k).length ≤ k * (s.l.length + 1) := by
  induction k with
  | zero => simp [opB]
  | succ k ih => rw [opB_succ, List.length_append, Nat.succ_mul]; have := opC_len s a ((k : Int) - 1) (s.l.length + 1); omega
theorem opA_len (s : ISheet) (k : Nat) : (opA s k).length ≤ k * ((s.l.length + 1) * (s.l.length + 1)) := by
  induction k with
  | zero => simp [opA]
  | succ k ih => rw [opA_succ, List.length_append, Nat.succ_mul]; have := opB_len s (k : Int) (s.l.length + 1); omega
theorem op_len (s : ISheet) (hn : s.l.length ≤ 9) (ka : Nat) (ha : ka ≤ 9) (a b : Int) (kb kc : Nat) (hb : kb ≤ 10) (hc : kc ≤ 10) : (opA s ka ++ opB s a kb ++ opC s a b kc).length ≤ 2000 := by
  rw [List.length_append, List.length_append]
  have h1 := opA_len s ka
  have h2 := opB_len s a kb
  have h3 := opC_len s a b kc
  have hm : (s.l.length + 1) * (s.l.length + 1) ≤ 10 * 10 := Nat.mul_le_mul (by omega) (by omega)
  have h4 : ka * ((s.l.length + 1) * (s.l.length + 1)) ≤ 9 * (10 * 10) := Nat.mul_le_mul ha hm
  have h5 : kb * (s.l.length + 1) ≤ 10 * 10 := Nat.mul_le_mul hb (by omega)
  omega
end Go.Proofs.Ytacioedolmaofaa
