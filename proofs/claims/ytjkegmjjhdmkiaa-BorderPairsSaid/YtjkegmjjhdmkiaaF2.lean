/- The document's answer: which borders are valid. -/
import Derived.Test.YtjkegmjjhdmkiaaF1
namespace Go.Proofs.Ytjkegmjjhdmkiaa
open Go.RowKit Go.Shelf
set_option maxHeartbeats 1600000
set_option maxRecDepth 100000
set_option linter.unusedSimpArgs false

theorem all_take_succ (p : Ed → Bool) (l : List Ed) (k : Nat) (h : k < l.length) : (l.take (k + 1)).all p = ((l.take k).all p && p l[k]) := by
  rw [List.take_succ_eq_append_getElem h, List.all_append]; simp

theorem edges_any (a : Option Addr) (c : Nat) (l : List Ed) (w : World) (hl : l.length < 9223372036854775807) (hx : EdSl w a l) :
    Calls Try.prog 64 #[.slice a l.length c] w fun e w' => e = .returned (.bool (l.all Ed.ok && decide (l.length ≤ 6))) ∧ Below w.heap.size w w' := by
  have hli : (l.length : Int) < 9223372036854775807 := by omega
  go_enter Try.func64, Try.ntmps64
  go_wp2
  go_loopw [3] (fun i wr => ∃ k : Nat, k ≤ l.length ∧ i = .int .i64 k ∧ (l.take k).all Ed.ok = true ∧ Below w.heap.size w wr) (fun i _ => l.length - (intOf i).toNat)
  case atStart => exact ⟨0, Nat.zero_le _, rfl, rfl, Below.refl _ _⟩
  case round =>
    rename_i wr
    obtain ⟨k, hk, rfl, hall, hbw⟩ := hrel
    have HALL := Lib.hid hall
    clear hall
    by_cases hlt : k < l.length
    · obtain ⟨b, o, rfl, hb, hxk⟩ := hx k hlt
      have hxk' := hxk.same (hbw.block b hb)
      have hsucc := all_take_succ Ed.ok l k hlt
      have hno : l[k].ok = false → l.all Ed.ok = false := fun h => by
        rw [List.all_eq_false]
        exact ⟨_, List.getElem_mem hlt, by simp [h]⟩
      have HS := Lib.hid hsucc
      have HNO := Lib.hid hno
      clear hsucc hno hxk
      generalize hX : l[k] = x at hxk' HS HNO
      clear hX
      have hdef : x.ok = (x.e.ok (-1048576) 1048576 && x.n.ok (-1048576) 1048576 && x.b.ok 0 2000) := rfl
      have HD := Lib.hid hdef
      clear hdef
      have hxo := hxk'
      obtain ⟨c0, c1, c2, c3, c4, c5, c6⟩ := hxk'
      go_wp2_with fail
      refine (rspan_any x.e (-1048576) 1048576 _).mono ?_
      rintro e w1 ⟨rfl, hb1⟩
      have hz1 := hb1.size
      have hx1 : EdAt w1 b (o + k * 7) x := hxo.same (hb1.block b (by have := hbw.size; omega))
      clear c0 c1 c2 c3 c4 c5 c6
      cases h1 : x.e.ok (-1048576) 1048576
      all_goals
        have H1 := Lib.hid h1
        clear h1
      · go_wp2
        go_ret
        exact ⟨ret_bool (by rw [HNO.out (by rw [HD.out, H1.out]; rfl)]; rfl), hbw.trans (hb1.mono hbw.size)⟩
      · obtain ⟨c0, c1, c2, c3, c4, c5, c6⟩ := hx1
        have hx1 : EdAt w1 b (o + k * 7) x := ⟨c0, c1, c2, c3, c4, c5, c6⟩
        go_wp2_with fail
        refine (rspan_any x.n (-1048576) 1048576 _).mono ?_
        rintro e w2 ⟨rfl, hb2⟩
        have hz2 := hb2.size
        have hx2 : EdAt w2 b (o + k * 7) x := hx1.same (hb2.block b (by have := hbw.size; omega))
        clear c0 c1 c2 c3 c4 c5 c6
        cases h2 : x.n.ok (-1048576) 1048576
        all_goals
          have H2 := Lib.hid h2
          clear h2
        · go_wp2
          go_ret
          exact ⟨ret_bool (by rw [HNO.out (by rw [HD.out, H1.out, H2.out]; rfl)]; rfl), hbw.trans ((hb1.mono hbw.size).trans (hb2.mono (Nat.le_trans hbw.size hz1)))⟩
        · obtain ⟨c0, c1, c2, c3, c4, c5, c6⟩ := hx2
          go_wp2_with fail
          refine (rspan_any x.b 0 2000 _).mono ?_
          rintro e w3 ⟨rfl, hb3⟩
          have hz3 := hb3.size
          clear c0 c1 c2 c3 c4 c5 c6
          cases h3 : x.b.ok 0 2000
          all_goals
            have H3 := Lib.hid h3
            clear h3
          · go_wp2
            go_ret
            exact ⟨ret_bool (by rw [HNO.out (by rw [HD.out, H1.out, H2.out, H3.out]; rfl)]; rfl), hbw.trans ((hb1.mono hbw.size).trans ((hb2.mono (Nat.le_trans hbw.size hz1)).trans (hb3.mono (Nat.le_trans hbw.size (Nat.le_trans hz1 hz2)))))⟩
          · go_wp2
            go_roundw
            case rel => exact ⟨k + 1, by omega, by go_num, by rw [HS.out, HALL.out, HD.out, H1.out, H2.out, H3.out]; rfl, hbw.trans ((hb1.mono hbw.size).trans ((hb2.mono (Nat.le_trans hbw.size hz1)).trans (hb3.mono (Nat.le_trans hbw.size (Nat.le_trans hz1 hz2)))))⟩
            case measure => simp [intOf]; omega
    · obtain rfl : k = l.length := by omega
      have hall := HALL.out
      rw [List.take_length] at hall
      have HA := Lib.hid hall
      clear hall
      go_wp2
      go_ret
      refine ⟨?_, hbw⟩
      rw [HA.out, Bool.true_and]
      exact ret_bool (by simp; omega)

/-- Is a border valid? -/
theorem border_any (b : Bo) (fa sa : Option Addr) (fc sc : Nat) (w : World) (hb : BoArg w b fa sa) :
    Calls Try.prog 32 #[.agg #[.int .i64 b.e.lo, .int .i64 b.e.hi, .int .i64 b.n.lo, .int .i64 b.n.hi, .slice fa b.fs.length fc, .slice sa b.ss.length sc]] w fun e w' => e = .returned (.bool b.ok) ∧ Below w.heap.size w w' := by
  obtain ⟨hf, hs, hlf, hls⟩ := hb
  have hdef : b.ok = (b.e.ok (-20) 20 && b.n.ok (-20) 20 && (b.fs.all Ed.ok && decide (b.fs.length ≤ 6)) && (b.ss.all Ed.ok && decide (b.ss.length ≤ 6))) := by
    unfold Bo.ok
    cases b.e.ok (-20) 20 <;> cases b.n.ok (-20) 20 <;> cases b.fs.all Ed.ok <;> cases b.ss.all Ed.ok <;> cases decide (b.fs.length ≤ 6) <;> cases decide (b.ss.length ≤ 6) <;> rfl
  have HD := Lib.hid hdef
  clear hdef
  go_enter Try.func32, Try.ntmps32
  go_wp2_with fail
  obtain ⟨W0, hW0⟩ : ∃ W, (w.alloc (.cells #[.int .i64 b.e.lo, .int .i64 b.e.hi, .int .i64 b.n.lo, .int .i64 b.n.hi, .slice fa b.fs.length fc, .slice sa b.ss.length sc] 26)) = W := ⟨_, rfl⟩
  rw [hW0]
  try simp only [Nat.add_assoc, Nat.reduceAdd]
  have hst_W0 : Steps (fun _ => False) w W0 := by rw [← hW0]; exact Steps.alloc _ w _
  have hz_W0 : W0.heap.size = w.heap.size + 1 := by rw [← hW0]; simp
  have g0_W0 : W0.heap[w.heap.size]? = some (.cells #[.int .i64 b.e.lo, .int .i64 b.e.hi, .int .i64 b.n.lo, .int .i64 b.n.hi, .slice fa b.fs.length fc, .slice sa b.ss.length sc] 26) := by rw [← hW0]; simp only [alloc_get, World.size_alloc]; repeat (first | exact if_pos trivial | exact if_pos (by omega) | rw [if_neg (by omega)])
  clear hW0
  have hb0 : Below w.heap.size w W0 := hst_W0.below (Nat.le_refl _) (fun _ _ h => h)
  refine (rspan_any b.e (-20) 20 _).mono ?_
  rintro e w1 ⟨rfl, hb1⟩
  have g1 := obj_later hb1 g0_W0
  replace hb0 := hb0.trans (hb1.mono hb0.size)
  clear hb1 g0_W0
  cases h1 : b.e.ok (-20) 20
  all_goals
    have H1 := Lib.hid h1
    clear h1
  · go_wp2
    go_ret
    exact ⟨ret_bool (by rw [HD.out, H1.out]; rfl), hb0⟩
  · have c2 := cell_block g1 2
    have c3 := cell_block g1 3
    simp only [List.getElem?_toArray, List.getElem?_cons_zero, List.getElem?_cons_succ] at c2 c3
    go_wp2_with fail
    refine (rspan_any b.n (-20) 20 _).mono ?_
    rintro e w2 ⟨rfl, hb1⟩
    have g2 := obj_later hb1 g1
    replace hb0 := hb0.trans (hb1.mono hb0.size)
    clear hb1 g1 c2 c3
    cases h2 : b.n.ok (-20) 20
    all_goals
      have H2 := Lib.hid h2
      clear h2
    · go_wp2
      go_ret
      exact ⟨ret_bool (by rw [HD.out, H1.out, H2.out]; rfl), hb0⟩
    · have c4 := cell_block g2 4
      simp only [List.getElem?_toArray, List.getElem?_cons_zero, List.getElem?_cons_succ] at c4
      go_wp2_with fail
      refine (edges_any fa fc b.fs _ hlf (hf.below hb0 (Nat.le_refl _))).mono ?_
      rintro e w3 ⟨rfl, hb1⟩
      have g3 := obj_later hb1 g2
      replace hb0 := hb0.trans (hb1.mono hb0.size)
      clear hb1 g2 c4
      cases h3 : (b.fs.all Ed.ok && decide (b.fs.length ≤ 6))
      all_goals
        have H3 := Lib.hid h3
        clear h3
      · go_wp2
        go_ret
        exact ⟨ret_bool (by rw [HD.out, H1.out, H2.out, H3.out]; rfl), hb0⟩
      · have c5 := cell_block g3 5
        simp only [List.getElem?_toArray, List.getElem?_cons_zero, List.getElem?_cons_succ] at c5
        go_wp2_with fail
        refine (edges_any sa sc b.ss _ hls (hs.below hb0 (Nat.le_refl _))).mono ?_
        rintro e w4 ⟨rfl, hb1⟩
        replace hb0 := hb0.trans (hb1.mono hb0.size)
        clear hb1 g3 c5
        go_wp2
        go_ret
        exact ⟨ret_bool (by rw [HD.out, H1.out, H2.out, H3.out]; rfl), hb0⟩
end Go.Proofs.Ytjkegmjjhdmkiaa
