/- The document's joinings, walked. The document's answer: rows of joinings with their shifts; all joinings with a shift. The document's answer: all joinings with all shifts. The document's answer: all joinings with all shifts, walked. The document's answer: all joinings or the error; how many there are with a shift; can two stars be the same. -/
import Derived.Test.YtjkegmjjhdmkiaaBU26
import Derived.BigQuiet
namespace Go.Proofs.Ytjkegmjjhdmkiaa
open Go.RowKit Go.Shelf
set_option maxHeartbeats 12800000
set_option maxRecDepth 100000
set_option linter.unusedSimpArgs false

theorem jk_zero (b : Bo) (z : Int × Int) (r : Nat) (l : List Int) : jk b z r l 0 = [] := rfl
theorem grownRefl (w : World) (rb : Option Nat) : w.grownBy w rb := ⟨rfl, rfl, rfl, Nat.le_refl _, fun _ _ _ => rfl⟩
theorem OutIs.blk_ge {w : World} {base g : Nat} {v : Value} {L : List (List Int)} (h : OutIs w base v L) (e : v.ownBlock = some g) : base ≤ g := by
  obtain ⟨xs, hown, _⟩ := h
  exact (hown.lt g e).1
theorem _root_.Go.World.grownBy.below3 {w w1 w2 : World} {rb : Option Nat} (h : w.grownBy w1 rb) (k : Below w1.heap.size w1 w2) : w.grownBy w2 rb := grown_trans h (Below.grownB k rb) (.inl rfl)

theorem wp_last {P : Program} {c : Code} {Q : Exit → Act → World → Prop} {a : Act} {w : World} (h : Code.wp P c (Exit.then (fun a w => Q .normal a w) Q) a w) : Code.wp P c Q a w := by
  refine Code.wp_mono (fun e a w h => ?_) h
  cases e <;> exact h

theorem joinings_any (b : Bo) (fa sa : Option Addr) (fc sc : Nat) (hok : b.ok = true) (z : Int × Int) (hz : b.shift z = true) (base : Nat) (w0 : World) (hb : BoArg w0 b fa sa) (hb0 : w0.heap.size ≤ base) :
    ∀ (r : Nat) (l : List Int) (a : Option Addr) (cap : Nat) (v : Value) (L : List (List Int)) (w : World), l.length + r = b.fs.length → Below w0.heap.size w0 w → OutIs w base v L → L.length + (b.ss.length + 1) ^ r ≤ 1000000000000 → ElAt w base v.ownBlock l (.slice a l.length cap) → base ≤ w.heap.size →
    Calls Try.prog 76 #[.agg #[.int .i64 b.e.lo, .int .i64 b.e.hi, .int .i64 b.n.lo, .int .i64 b.n.hi, .slice fa b.fs.length fc, .slice sa b.ss.length sc], .int .i64 z.1, .int .i64 z.2, .slice a l.length cap, v] w (JPost base v (L ++ jl b z r l) w) := by
  have HOK := Lib.hid hok
  have HZ := Lib.hid hz
  have HB := Lib.hid hb
  intro r
  induction r with
  | zero =>
    intro l a cap v L w hl hw ho hL he hbase
    exact joinings_leaf b fa sa fc sc hok z base l a cap v L w (by omega) (hb.below hw) ho (by omega) he hbase
  | succ r ih =>
    intro l a cap v L w hl hw ho hL he hbase
    have hlens := bo_lens hok
    have hlt : l.length < b.fs.length := by omega
    have hlb : ((l.length : Int) == (b.fs.length : Int)) = false := by simp; omega
    have hll : (l.length : Int) < b.fs.length := by omega
    have hl6 : l.length ≤ 6 := by omega
    have hfl : (b.fs.length : Int) ≤ 6 := by omega
    have hsl : (b.ss.length : Int) ≤ 6 := by omega
    have hp1 : (b.ss.length + 1) ^ (r + 1) = b.ss.length * (b.ss.length + 1) ^ r + (b.ss.length + 1) ^ r := by rw [Nat.pow_succ, Nat.mul_comm, Nat.succ_mul]
    have hL0 : L.length + (b.ss.length + 1) ^ r ≤ 1000000000000 := by omega
    have HLS : Hid (∀ n, n ≤ (b.ss.length + 1) ^ r → ∀ k, k < b.ss.length → L.length + n + (jk b z r l k).length + (b.ss.length + 1) ^ r ≤ 1000000000000) := Lib.hid (by
      intro n hn k hk
      have h1 := jk_len b z r l k
      have h2 : (k + 1) * (b.ss.length + 1) ^ r ≤ b.ss.length * (b.ss.length + 1) ^ r := Nat.mul_le_mul_right _ hk
      rw [Nat.succ_mul] at h2
      omega)
    have HL0 := Lib.hid hL0
    have hjs := jl_succ b z r l
    have HJ := Lib.hid hjs
    have HIH := Lib.hid ih
    have HO := Lib.hid ho
    have HE := Lib.hid he
    have HW := Lib.hid hw
    have HL := Lib.hid hl
    clear hb ho he hl hjs hL hp1 hL0 ih hok hz hw
    go_enter Try.func76, Try.ntmps76
    go_upto_region 9 with fail
    have ho0 := HO.out.alloc (.cells #[.int .i64 b.e.lo, .int .i64 b.e.hi, .int .i64 b.n.lo, .int .i64 b.n.hi, .slice fa b.fs.length fc, .slice sa b.ss.length sc] 26)
    have he0 := HE.out.alloc (.cells #[.int .i64 b.e.lo, .int .i64 b.e.hi, .int .i64 b.n.lo, .int .i64 b.n.hi, .slice fa b.fs.length fc, .slice sa b.ss.length sc] 26)
    have hgw := World.grownBy_alloc w (.cells #[.int .i64 b.e.lo, .int .i64 b.e.hi, .int .i64 b.n.lo, .int .i64 b.n.hi, .slice fa b.fs.length fc, .slice sa b.ss.length sc] 26) v.ownBlock
    have g0 := obj_new w (.cells #[.int .i64 b.e.lo, .int .i64 b.e.hi, .int .i64 b.n.lo, .int .i64 b.n.hi, .slice fa b.fs.length fc, .slice sa b.ss.length sc] 26)
    have hb1 := below_alloc w (.cells #[.int .i64 b.e.lo, .int .i64 b.e.hi, .int .i64 b.n.lo, .int .i64 b.n.hi, .slice fa b.fs.length fc, .slice sa b.ss.length sc] 26)
    generalize w.alloc (.cells #[.int .i64 b.e.lo, .int .i64 b.e.hi, .int .i64 b.n.lo, .int .i64 b.n.hi, .slice fa b.fs.length fc, .slice sa b.ss.length sc] 26) = W0 at ho0 he0 hgw g0 hb1 ⊢
    obtain ⟨p, hp⟩ : ∃ p, w.heap.size = p := ⟨_, rfl⟩
    rw [hp] at g0 ⊢
    have hbase0 : base ≤ W0.heap.size := Nat.le_trans hbase hb1.size
    have ltp := (Array.getElem?_eq_some_iff.1 g0).1
    have HW0 := Lib.hid (HW.out.trans (hb1.mono HW.out.size))
    have HO0 := Lib.hid ho0
    have HE0 := Lib.hid he0
    have HNB := Lib.hid (ho0.not_box g0)
    clear ho0 he0 HO HE hp hb1 HW
    have c4 := cell_block g0 4
    simp only [List.getElem?_toArray, List.getElem?_cons_zero, List.getElem?_cons_succ] at c4
    obtain ⟨bq, bo, hfa, hbql, hE⟩ := (HB.out.f.below HW0.out (Nat.le_refl _)) l.length hlt
    have c6 := hE.c6
    have hsa : sureAt b.fs l.length = b.fs[l.length].sure := by simp [sureAt, hlt]
    rw [← hsa] at c6
    rw [hfa] at c4
    have HFA := Lib.hid hfa
    clear hE hsa hfa
    generalize sureAt b.fs l.length = s at c6 HJ
    cases s
    · go_upto_region 10 with fail
      clear c4 c6
      refine join_reg10 b fa sa fc sc p cap base z a l v L (L ++ jl b z r (l ++ [-1])) W0 g0 HO0.out HE0 hl6 hbase0 _ _ ?_ ?_
      · intro a' cap' w' hbw hel
        have h1 := HIH.out (l ++ [-1]) a' cap' v L w' (by rw [List.length_append]; show l.length + 1 + r = _; have := HL.out; omega) (HW0.out.trans (hbw.mono HW0.out.size)) (HO0.out.grown (Below.grownB hbw none) (fun q e => by cases e)) (HL0.out) (by rw [List.length_append]; exact hel) (Nat.le_trans hbase0 hbw.size)
        rw [List.length_append] at h1
        exact h1
      · intro s52 s53 s54 s55 s56 s57 s58 s59 s60 s61 v1 W1 ho1 hg1 hn1
        have HO1 := Lib.hid ho1
        have HG1 := Lib.hid hg1
        have HN1 := Lib.hid hn1
        have hj1 : L ++ jl b z (r + 1) l = (L ++ jl b z r (l ++ [-1])) ++ jk b z r l b.ss.length := by rw [HJ.out, if_neg (by simp), List.append_assoc]
        have HJ1 := Lib.hid hj1
        have HL1 : Hid (∀ k, k < b.ss.length → ((L ++ jl b z r (l ++ [-1])) ++ jk b z r l k).length + (b.ss.length + 1) ^ r ≤ 1000000000000) := Lib.hid (fun k hk => by
          have h1 := HLS.out _ (jl_len b z r (l ++ [-1])) k hk
          rw [List.length_append, List.length_append]; exact h1)
        generalize L ++ jl b z r (l ++ [-1]) = L1 at HO1 HJ1 HL1
        clear ho1 hg1 hn1 hj1 HJ HLS
        have hszW : W0.heap.size ≤ W1.heap.size := HG1.out.size
        go_wp2_with fail
        clear hszW
        go_loopw [4, 13] (fun u4 i wr => ∃ k : Nat, k ≤ b.ss.length ∧ i = .int .i64 k ∧ OutIs wr base u4 (L1 ++ jk b z r l k) ∧ W1.grownBy wr v1.ownBlock ∧ RowNext W1 v1 u4) (fun _ i _ => b.ss.length - (intOf i).toNat)
        case atStart => exact ⟨0, Nat.zero_le _, rfl, by rw [jk_zero, List.append_nil]; exact HO1.out, grownRefl _ _, .inl rfl⟩
        case round =>
          obtain ⟨k, hk, rfl, ho, hg, hn⟩ := hrel
          have hgr := grown_trans HG1.out hg HN1.out
          have hnr : RowNext W0 v u4 := RowNext.trans HN1.out hn HG1.out.size
          have PAr := (hgr.block p ltp (fun e => HNB.out e.symm)).trans g0
          have HEr := Lib.hid (HE0.out.grown hgr hnr)
          have hbr := HW0.out.grown hgr HW0.out.size (fun q hq => Nat.le_trans hb0 (HO0.out.blk_ge hq))
          have hszW : W0.heap.size ≤ wr.heap.size := hgr.size
          have HBR := Lib.hid hbr
          have HOr := Lib.hid ho
          have HGr := Lib.hid hg
          have HNr := Lib.hid hn
          clear hgr hnr hbr ho hg hn
          have c5 := cell_block PAr 5
          simp only [List.getElem?_toArray, List.getElem?_cons_zero, List.getElem?_cons_succ] at c5
          by_cases hlt2 : k < b.ss.length
          · have hki : (k : Int) < b.ss.length := by omega
            go_upto_region 14 with fail
            refine join_reg14 b fa sa fc sc p cap z a l k u4 wr PAr (Lib.hid (HB.out.below HBR.out)) HOK.out HZ.out HEr.out.ints.1 hlt hlt2 _ _ ?_
            intro s69 s70 s71 s72 s73 s74 s75 s76 s77 s78 s79 s80 s81 s82 s83 s84 s85 s86 w3 hb3
            have hjn := jk_succ b z r l k
            have HJN := Lib.hid hjn
            have PA3 := (hb3.block p (Nat.lt_of_lt_of_le ltp hszW)).trans PAr
            have HO3 := Lib.hid (HOr.out.grown (Below.grownB hb3 none) (fun q e => by cases e))
            have HG3 := Lib.hid (HGr.out.below3 hb3)
            have HE3 := Lib.hid (HEr.out.grown (Below.grownB hb3 _) (.inl rfl))
            have HB3 := Lib.hid (HBR.out.trans (hb3.mono HBR.out.size))
            have hsz3 : W0.heap.size ≤ w3.heap.size := Nat.le_trans hszW hb3.size
            have HLK := Lib.hid (HL1.out k hlt2)
            clear hjn hb3 c5 PAr hszW
            generalize (b.same z l.length k && !l.contains (k : Int)) = q at HJN ⊢
            cases q
            · go_wp2_with fail
              go_roundw
              case rel => exact ⟨k + 1, by omega, by go_num, by rw [HJN.out, if_neg (by simp), List.append_nil]; exact HO3.out, HG3.out, HNr.out⟩
              case measure => simp [intOf]; omega
            · go_upto_region 15 with fail
              refine wp_last (join_reg15 b fa sa fc sc p cap base z a l k u4 (L1 ++ jk b z r l k) ((L1 ++ jk b z r l k) ++ jl b z r (l ++ [(k : Int)])) w3 PA3 HO3.out HE3 hl6 (Nat.le_trans hbase0 hsz3) _ _ ?_ ?_)
              · intro a' cap' w' hbw hel
                have h1 := HIH.out (l ++ [(k : Int)]) a' cap' u4 (L1 ++ jk b z r l k) w' (by rw [List.length_append]; show l.length + 1 + r = _; have := HL.out; omega) (HB3.out.trans (hbw.mono HB3.out.size)) (HO3.out.grown (Below.grownB hbw none) (fun q e => by cases e)) HLK.out (by rw [List.length_append]; exact hel) (Nat.le_trans (Nat.le_trans hbase0 hsz3) hbw.size)
                rw [List.length_append] at h1
                exact h1
              · intro s88 s89 s90 s91 s92 s93 s94 s95 s96 s97 s98 v5 w5 ho5 hg5 hn5
                have HO5 := Lib.hid ho5
                have HG5 := Lib.hid (grown_trans HG3.out hg5 HNr.out)
                have HN5 := Lib.hid (RowNext.trans HNr.out hn5 HG3.out.size)
                clear ho5 hg5 hn5 PA3
                go_wp2_with fail
                go_roundw
                case rel => exact ⟨k + 1, by omega, by go_num, by rw [HJN.out, if_pos rfl, ← List.append_assoc]; exact HO5.out, HG5.out, HN5.out⟩
                case measure => simp [intOf]; omega
          · obtain rfl : k = b.ss.length := by omega
            go_wp2_with fail
            go_ret
            exact ⟨u4, rfl, by rw [HJ1.out]; exact HOr.out, grown_trans (hgw) (grown_trans HG1.out HGr.out HN1.out) (.inl rfl), RowNext.trans (.inl rfl) (RowNext.trans HN1.out HNr.out HG1.out.size) hgw.size⟩
    · have HO1 := HO0
      have HG1 : Hid (W0.grownBy W0 v.ownBlock) := Lib.hid (grownRefl _ _)
      have HN1 : Hid (RowNext W0 v v) := Lib.hid (.inl rfl)
      have hj1 : L ++ jl b z (r + 1) l = L ++ jk b z r l b.ss.length := by rw [HJ.out, if_pos (by rfl), List.nil_append]
      have HJ1 := Lib.hid hj1
      have HL1 : Hid (∀ k, k < b.ss.length → (L ++ jk b z r l k).length + (b.ss.length + 1) ^ r ≤ 1000000000000) := Lib.hid (fun k hk => by
        have h1 := HLS.out 0 (Nat.zero_le _) k hk
        rw [List.length_append]; omega)
      go_wp2_with fail
      clear hj1 HJ HLS c4 c6
      have hszW : W0.heap.size ≤ W0.heap.size := HG1.out.size
      clear hszW
      go_loopw [4, 13] (fun u4 i wr => ∃ k : Nat, k ≤ b.ss.length ∧ i = .int .i64 k ∧ OutIs wr base u4 (L ++ jk b z r l k) ∧ W0.grownBy wr v.ownBlock ∧ RowNext W0 v u4) (fun _ i _ => b.ss.length - (intOf i).toNat)
      case atStart => exact ⟨0, Nat.zero_le _, rfl, by rw [jk_zero, List.append_nil]; exact HO1.out, grownRefl _ _, .inl rfl⟩
      case round =>
        obtain ⟨k, hk, rfl, ho, hg, hn⟩ := hrel
        have hgr := grown_trans HG1.out hg HN1.out
        have hnr : RowNext W0 v u4 := RowNext.trans HN1.out hn HG1.out.size
        have PAr := (hgr.block p ltp (fun e => HNB.out e.symm)).trans g0
        have HEr := Lib.hid (HE0.out.grown hgr hnr)
        have hbr := HW0.out.grown hgr HW0.out.size (fun q hq => Nat.le_trans hb0 (HO0.out.blk_ge hq))
        have hszW : W0.heap.size ≤ wr.heap.size := hgr.size
        have HBR := Lib.hid hbr
        have HOr := Lib.hid ho
        have HGr := Lib.hid hg
        have HNr := Lib.hid hn
        clear hgr hnr hbr ho hg hn
        have c5 := cell_block PAr 5
        simp only [List.getElem?_toArray, List.getElem?_cons_zero, List.getElem?_cons_succ] at c5
        by_cases hlt2 : k < b.ss.length
        · have hki : (k : Int) < b.ss.length := by omega
          go_upto_region 14 with fail
          refine join_reg14 b fa sa fc sc p cap z a l k u4 wr PAr (Lib.hid (HB.out.below HBR.out)) HOK.out HZ.out HEr.out.ints.1 hlt hlt2 _ _ ?_
          intro s69 s70 s71 s72 s73 s74 s75 s76 s77 s78 s79 s80 s81 s82 s83 s84 s85 s86 w3 hb3
          have hjn := jk_succ b z r l k
          have HJN := Lib.hid hjn
          have PA3 := (hb3.block p (Nat.lt_of_lt_of_le ltp hszW)).trans PAr
          have HO3 := Lib.hid (HOr.out.grown (Below.grownB hb3 none) (fun q e => by cases e))
          have HG3 := Lib.hid (HGr.out.below3 hb3)
          have HE3 := Lib.hid (HEr.out.grown (Below.grownB hb3 _) (.inl rfl))
          have HB3 := Lib.hid (HBR.out.trans (hb3.mono HBR.out.size))
          have hsz3 : W0.heap.size ≤ w3.heap.size := Nat.le_trans hszW hb3.size
          have HLK := Lib.hid (HL1.out k hlt2)
          clear hjn hb3 c5 PAr hszW
          generalize (b.same z l.length k && !l.contains (k : Int)) = q at HJN ⊢
          cases q
          · go_wp2_with fail
            go_roundw
            case rel => exact ⟨k + 1, by omega, by go_num, by rw [HJN.out, if_neg (by simp), List.append_nil]; exact HO3.out, HG3.out, HNr.out⟩
            case measure => simp [intOf]; omega
          · go_upto_region 15 with fail
            refine wp_last (join_reg15 b fa sa fc sc p cap base z a l k u4 (L ++ jk b z r l k) ((L ++ jk b z r l k) ++ jl b z r (l ++ [(k : Int)])) w3 PA3 HO3.out HE3 hl6 (Nat.le_trans hbase0 hsz3) _ _ ?_ ?_)
            · intro a' cap' w' hbw hel
              have h1 := HIH.out (l ++ [(k : Int)]) a' cap' u4 (L ++ jk b z r l k) w' (by rw [List.length_append]; show l.length + 1 + r = _; have := HL.out; omega) (HB3.out.trans (hbw.mono HB3.out.size)) (HO3.out.grown (Below.grownB hbw none) (fun q e => by cases e)) HLK.out (by rw [List.length_append]; exact hel) (Nat.le_trans (Nat.le_trans hbase0 hsz3) hbw.size)
              rw [List.length_append] at h1
              exact h1
            · intro s88 s89 s90 s91 s92 s93 s94 s95 s96 s97 s98 v5 w5 ho5 hg5 hn5
              have HO5 := Lib.hid ho5
              have HG5 := Lib.hid (grown_trans HG3.out hg5 HNr.out)
              have HN5 := Lib.hid (RowNext.trans HNr.out hn5 HG3.out.size)
              clear ho5 hg5 hn5 PA3
              go_wp2_with fail
              go_roundw
              case rel => exact ⟨k + 1, by omega, by go_num, by rw [HJN.out, if_pos rfl, ← List.append_assoc]; exact HO5.out, HG5.out, HN5.out⟩
              case measure => simp [intOf]; omega
        · obtain rfl : k = b.ss.length := by omega
          go_wp2_with fail
          go_ret
          exact ⟨u4, rfl, by rw [HJ1.out]; exact HOr.out, grown_trans (hgw) (grown_trans HG1.out HGr.out HN1.out) (.inl rfl), RowNext.trans (.inl rfl) (RowNext.trans HN1.out HNr.out HG1.out.size) hgw.size⟩
end Go.Proofs.Ytjkegmjjhdmkiaa
namespace Go.Proofs.Ytjkegmjjhdmkiaa
open Go.RowKit Go.Shelf
set_option maxHeartbeats 6400000
set_option maxRecDepth 100000
set_option linter.unusedSimpArgs false

theorem addr0 (m j : Nat) : ((⟨m, 0, none⟩ : Addr).add j) = ⟨m, j, none⟩ := by simp [Addr.add]; omega
theorem infoJn : (Try.prog.info? 98).map (fun i => (i.zero, i.size, i.bytes)) = some (some (.agg #[.int .i64 0, .int .i64 0, .slice none 0 0]), 3, 40) := by kernel_rfl

/-- One element of some cells is appended to an owned row. -/
theorem appendSome (w : World) (base : Nat) (t e : TypeId) (i : TypeInfo) (z : Value) (size bytes : Nat) (ht : Try.prog.underlying t = some (.slice e)) (hi : Try.prog.info? e = some i) (hz : i.zero = some z) (hsize : i.size = size) (hby : i.bytes = bytes) (hzs : z.cells.size = size) (hsz : 0 < size)
    (v : Value) (n : Nat) (xs : List Value) (hown : w.ownsRow base e size v n xs) (us : List Value) (hus : us.length = size) (hu : ∀ u ∈ us, u.oneCell' = true) (m c : Nat) (hm : ∀ j u, us[j]? = some u → w.cell? ⟨m, j, none⟩ = some u) (hn : (n + 1) * bytes ≤ 140737488355328) (hn2 : n + 1 ≤ maxLen) (hbase : base ≤ w.heap.size) :
    ∃ v' w', (Builtin.append_ #[t, t] t #[v, .slice (some ⟨m, 0, none⟩) 1 c]).run Try.prog w = .ok v' w' ∧ w'.ownsRow base e size v' (n + 1) (xs ++ us) ∧ w.grownBy w' v.ownBlock ∧ RowNext w v v' := by
  have hnews : ∀ j x, us[j]? = some x → w.cell? ((⟨m, 0, none⟩ : Addr).add j) = some x := by
    intro j x hx
    have e : ((⟨m, 0, none⟩ : Addr).add j) = ⟨m, j, none⟩ := addr0 m j
    rw [e]; exact hm j x hx
  have hm' := hn2
  unfold maxLen at hm'
  obtain ⟨v', w', hrun, hown', hgrow, hnil⟩ := run_append_own (P := Try.prog) w base t t e i z size bytes ht hi hz hsize hby hzs hsz v n xs hown ⟨m, 0, none⟩ 1 c us (by rw [hus, Nat.one_mul]) hnews hu hn2 hn hbase
  refine ⟨v', w', hrun, hown', hgrow, ?_⟩
  rcases hown.2 with ⟨rfl, rfl⟩ | ⟨g, cap, cur, rfl, hbg, hg, hnc, hcm, hcs, htake⟩
  · have hr := run_append_nil (P := Try.prog) w t t e i z ht hi hz ⟨m, 0, none⟩ 1 c us (by rw [hsize, hus, Nat.one_mul]) hnews (by omega) (by omega) (by rw [hby]; omega)
    rw [hrun] at hr
    cases hr
    exact .inr ⟨_, rfl, Nat.le_refl _⟩
  · by_cases hroom : n + 1 ≤ cap
    · have hmul : (n + 1) * size ≤ cap * size := Nat.mul_le_mul_right _ hroom
      rw [Nat.succ_mul] at hmul
      have hr := run_append_room (P := Try.prog) w t t e i ht hi g n cap cur hg ⟨m, 0, none⟩ 1 c us (by rw [hsize, hus, Nat.one_mul]) hnews hu hroom (by rw [hsize, hcs, hus]; omega)
      rw [hrun] at hr
      cases hr
      exact .inl rfl
    · have holds : ∀ j x, xs[j]? = some x → w.cell? ((⟨g, 0, none⟩ : Addr).add j) = some x := hown.cells (g := g) rfl
      have hr := run_append_grow (P := Try.prog) w t t e i z ht hi hz ⟨g, 0, none⟩ n cap xs (by rw [hsize]; exact hown.1) holds ⟨m, 0, none⟩ 1 c us (by rw [hsize, hus, Nat.one_mul]) hnews (by omega) (by omega) (by rw [hby]; exact growslice_fits (by omega) hn)
      rw [hrun] at hr
      cases hr
      exact .inr ⟨_, rfl, Nat.le_refl _⟩

/-- What is collected: joinings with their shifts. -/
def OutJ (w : World) (base : Nat) (v : Value) (L : List Joined) : Prop :=
  ∃ xs, w.ownsRow base 98 3 v L.length xs ∧ ∀ i (h : i < L.length), xs[i * 3]? = some (.int .i64 L[i].1.1) ∧ xs[i * 3 + 1]? = some (.int .i64 L[i].1.2) ∧ ∃ u, xs[i * 3 + 2]? = some u ∧ ElAt w base v.ownBlock L[i].2 u
theorem OutJ.nil (w : World) (base : Nat) : OutJ w base (.slice none 0 0) [] := ⟨[], World.ownsRow_nil w base _ 3, fun i h => by cases h⟩
theorem OutJ.lt {w : World} {base : Nat} {v : Value} {L : List Joined} (h : OutJ w base v L) : ∀ g, v.ownBlock = some g → base ≤ g ∧ g < w.heap.size := by
  obtain ⟨xs, hown, _⟩ := h
  exact hown.lt
theorem OutJ.grown {w w' : World} {base : Nat} {v : Value} {L : List Joined} {rb : Option Nat} (h : OutJ w base v L) (hg : w.grownBy w' rb) (hr : ∀ q, rb = some q → w.heap.size ≤ q) : OutJ w' base v L := by
  obtain ⟨xs, hown, hel⟩ := h
  have hlt := hown.lt
  refine ⟨xs, hown.kept hg ?_, fun i hi => ?_⟩
  · cases hv : v.ownBlock with
    | none => exact .inl rfl
    | some g =>
      right
      intro e
      have := hr g e.symm
      have := (hlt g hv).2
      omega
  · obtain ⟨h0, h1, u, h2, a, cap, rfl, h3⟩ := hel i hi
    refine ⟨h0, h1, _, h2, a, cap, rfl, h3.imp id ?_⟩
    rintro ⟨q, rfl, hI, hb, hq⟩
    refine ⟨q, rfl, hI.later (hg.block q hI.lt (fun e => ?_)), hb, hq⟩
    have := hr q e.symm
    have := hI.lt
    omega
theorem OutJ.below {w w' : World} {base : Nat} {v : Value} {L : List Joined} (h : OutJ w base v L) (hb : Below w.heap.size w w') : OutJ w' base v L := h.grown (Below.grownB hb none) (fun q e => by cases e)

/-- A joining more. -/
theorem OutJ.append (w : World) (base : Nat) (v : Value) (L : List Joined) (h : OutJ w base v L) (y : Joined) (u : Value) (hx : ElAt w base v.ownBlock y.2 u) (m c : Nat)
    (hm0 : w.cell? ⟨m, 0, none⟩ = some (.int .i64 y.1.1)) (hm1 : w.cell? ⟨m, 1, none⟩ = some (.int .i64 y.1.2)) (hm2 : w.cell? ⟨m, 2, none⟩ = some u) (hn : L.length ≤ 1000000000000) (hbase : base ≤ w.heap.size) :
    ∃ v' w', (Builtin.append_ #[94, 94] 94 #[v, .slice (some ⟨m, 0, none⟩) 1 c]).run Try.prog w = .ok v' w' ∧ OutJ w' base v' (L ++ [y]) ∧ w.grownBy w' v.ownBlock ∧ RowNext w v v' := by
  obtain ⟨xs, hown, hel⟩ := h
  obtain ⟨i0, hi, hz0, hz1, hz2⟩ := info_parts infoJn
  have hu : u.oneCell' = true := by obtain ⟨a, cap, rfl, _⟩ := hx; rfl
  obtain ⟨v', w', hrun, hown', hgrow, hnext⟩ := appendSome w base 94 98 i0 _ 3 40 Try.underlying94 hi hz0 hz1 hz2 rfl (by decide) v L.length xs hown [.int .i64 y.1.1, .int .i64 y.1.2, u] rfl (fun x hx' => by
    rcases List.mem_cons.1 hx' with rfl | hx'
    · rfl
    · rcases List.mem_cons.1 hx' with rfl | hx'
      · rfl
      · rw [List.mem_singleton] at hx'; rw [hx']; exact hu) m c (fun j x hx' => by
    match j with
    | 0 => cases hx'; exact hm0
    | 1 => cases hx'; exact hm1
    | 2 => cases hx'; exact hm2
    | j + 3 => cases hx') (by omega) (by unfold maxLen; omega) hbase
  refine ⟨v', w', hrun, ⟨_, by rw [List.length_append]; exact hown', fun i hi => ?_⟩, hgrow, hnext⟩
  have hxl : xs.length = L.length * 3 := hown.1
  by_cases h : i < L.length
  · obtain ⟨h0, h1, u', h2, h3⟩ := hel i h
    rw [List.getElem_append_left h]
    refine ⟨?_, ?_, u', ?_, h3.grown hgrow hnext⟩
    · rw [List.getElem?_append_left (by omega)]; exact h0
    · rw [List.getElem?_append_left (by omega)]; exact h1
    · rw [List.getElem?_append_left (by omega)]; exact h2
  · have : i = L.length := by simp at hi; omega
    subst this
    rw [List.getElem_append_right (by omega)]
    simp only [Nat.sub_self, List.getElem_cons_zero]
    refine ⟨?_, ?_, u, ?_, hx.grown hgrow hnext⟩
    · rw [List.getElem?_append_right (by omega), hxl]; simp
    · rw [List.getElem?_append_right (by omega), hxl]; simp
    · rw [List.getElem?_append_right (by omega), hxl]; simp

theorem grownNone {w w' : World} (h : w.grownBy w' none) : Below w.heap.size w w' := ⟨h.os, h.tape, h.output, h.size, fun k hk => h.block k hk (by simp)⟩

/-- What Joinings returns: a row of its own. -/
def JsPost (w : World) (L : List (List Int)) (e : Ending) (w' : World) : Prop := ∃ v, e = .returned v ∧ OutIs w' w.heap.size v L ∧ Below w.heap.size w w'

theorem rjoinings_any (b : Bo) (fa sa : Option Addr) (fc sc : Nat) (hok : b.ok = true) (z : Int × Int) (hz : b.shift z = true) (w : World) (hb : BoArg w b fa sa) :
    Calls Try.prog 51 #[.agg #[.int .i64 b.e.lo, .int .i64 b.e.hi, .int .i64 b.n.lo, .int .i64 b.n.hi, .slice fa b.fs.length fc, .slice sa b.ss.length sc], .int .i64 z.1, .int .i64 z.2] w (JsPost w (bJoins b (sures b.fs) (sures b.ss) z)) := by
  have hlens := bo_lens hok
  have hpow : (b.ss.length + 1) ^ b.fs.length ≤ 1000000000000 := Nat.le_trans (Nat.pow_le_pow_left (show b.ss.length + 1 ≤ 7 by omega) _) (Nat.le_trans (Nat.pow_le_pow_right (by decide) hlens.1) (by decide))
  have hb0 := below_alloc w (.cells #[.int .i64 b.e.lo, .int .i64 b.e.hi, .int .i64 b.n.lo, .int .i64 b.n.hi, .slice fa b.fs.length fc, .slice sa b.ss.length sc] 26)
  have hcall := fun W (hW : Below w.heap.size w W) => joinings_any b fa sa fc sc hok z hz w.heap.size w hb (Nat.le_refl _) b.fs.length [] none 0 (.slice none 0 0) [] W (by simp) hW (OutIs.nil _ _) (by simpa using hpow) ⟨none, 0, rfl, .inl ⟨rfl, rfl⟩⟩ hW.size
  have HC := Lib.hid hcall
  have hja := jl_all b z
  have HJ := Lib.hid hja
  clear hcall hja hpow hok hz hb
  go_enter Try.func51, Try.ntmps51
  go_wp2_with fail
  refine (HC.out _ hb0).mono ?_
  rintro e w1 ⟨v, rfl, ho, hg, hn⟩
  have HO := Lib.hid ho
  have hbel := hb0.trans ((grownNone hg).mono hb0.size)
  clear ho hg hn
  go_wp2
  go_ret
  exact ⟨v, rfl, by have := HO.out; rw [List.nil_append, HJ.out] at this; exact this, hbel⟩
end Go.Proofs.Ytjkegmjjhdmkiaa
namespace Go.Proofs.Ytjkegmjjhdmkiaa
open Go.RowKit Go.Shelf
set_option maxHeartbeats 12800000
set_option maxRecDepth 100000
set_option linter.unusedSimpArgs false

/-- Lists that a row holds, in blocks from B to S. -/
def LRow (W : World) (B S : Nat) (a : Option Addr) (L : List (List Int)) : Prop :=
  ∀ i (h : i < L.length), ∃ g, a = some ⟨g, 0, none⟩ ∧ B ≤ g ∧ g < S ∧ ∃ ea ec, W.cell? ⟨g, i, none⟩ = some (.slice ea L[i].length ec) ∧ ((ea = none ∧ L[i] = []) ∨ ∃ q, ea = some ⟨q, 0, none⟩ ∧ IntsAt W q L[i] ∧ B ≤ q ∧ q < S)
theorem OutIs.rows {w : World} {base : Nat} {v : Value} {L : List (List Int)} (h : OutIs w base v L) : ∃ a c, v = .slice a L.length c ∧ LRow w base w.heap.size a L := by
  obtain ⟨xs, hown, hel⟩ := h
  rcases hown.2 with ⟨rfl, hn⟩ | ⟨g, cap, cur, rfl, hbg, hg, hnc, hcm, hcs, htake⟩
  · refine ⟨none, 0, by rw [hn], fun i hi => ?_⟩
    rw [hn] at hi
    cases hi
  · refine ⟨some ⟨g, 0, none⟩, cap, rfl, fun i hi => ?_⟩
    obtain ⟨u, h1, ea, ec, rfl, h2⟩ := hel i hi
    have h3 := hown.cells (g := g) rfl i _ h1
    have e : ((⟨g, 0, none⟩ : Addr).add i) = ⟨g, i, none⟩ := addr0 g i
    rw [e] at h3
    refine ⟨g, rfl, hbg, (Array.getElem?_eq_some_iff.1 hg).1, ea, ec, h3, h2.imp id ?_⟩
    rintro ⟨q, rfl, hI, hb, _⟩
    exact ⟨q, rfl, hI, hb, hI.lt⟩
theorem LRow.kept {W W' : World} {B S : Nat} {a : Option Addr} {L : List (List Int)} (h : LRow W B S a L) (hk : ∀ q, B ≤ q → q < S → W'.heap[q]? = W.heap[q]?) : LRow W' B S a L := by
  intro i hi
  obtain ⟨g, rfl, h1, h2, ea, ec, h3, h4⟩ := h i hi
  refine ⟨g, rfl, h1, h2, ea, ec, (World.cell?_of_block (hk g h1 h2)).trans h3, h4.imp id ?_⟩
  rintro ⟨q, rfl, hI, h5, h6⟩
  exact ⟨q, rfl, hI.later (hk q h5 h6), h5, h6⟩

/-- What stands while the joinings with one shift are put with the others. -/
def AllIn (w w1 : World) (base B1 S1 : Nat) (J : List Joined) (v : Value) (wr : World) : Prop :=
  OutJ wr base v J ∧ (∀ q, B1 ≤ q → q < S1 → wr.heap[q]? = w1.heap[q]?) ∧ (∀ g, v.ownBlock = some g → g < B1 ∨ S1 ≤ g) ∧ S1 ≤ wr.heap.size ∧ Below base w wr
theorem AllIn.step {w w1 wr : World} {base B1 S1 : Nat} {J : List Joined} {v : Value} {a : Option Addr} {l : List (List Int)} (h : AllIn w w1 base B1 S1 J v wr) (hl : LRow w1 B1 S1 a l) (hB : base ≤ B1) (hS : B1 ≤ S1) (z : Int × Int) (hJ : J.length ≤ 1000000000000) (k : Nat) (hk : k < l.length) :
    ∃ g ea ec v' w', a = some ⟨g, 0, none⟩ ∧ wr.cell? ⟨g, k, none⟩ = some (.slice ea l[k].length ec) ∧
      (Builtin.append_ #[94, 94] 94 #[v, .slice (some ⟨wr.heap.size, 0, none⟩) 1 1]).run Try.prog (wr.alloc (.cells #[.int .i64 z.1, .int .i64 z.2, .slice ea l[k].length ec] 98)) = .ok v' w' ∧
      AllIn w w1 base B1 S1 (J ++ [(z, l[k])]) v' w' := by
  obtain ⟨ho, hq, hv, hs, hbel⟩ := h
  obtain ⟨g, rfl, h1, h2, ea, ec, h3, h4⟩ := (hl.kept hq) k hk
  have hb := below_alloc wr (.cells #[.int .i64 z.1, .int .i64 z.2, .slice ea l[k].length ec] 98)
  have hel : ElAt (wr.alloc (.cells #[.int .i64 z.1, .int .i64 z.2, .slice ea l[k].length ec] 98)) base v.ownBlock l[k] (.slice ea l[k].length ec) := by
    refine ⟨ea, ec, rfl, h4.imp id ?_⟩
    rintro ⟨q, rfl, hI, h5, h6⟩
    exact ⟨q, rfl, hI.later (hb.block q hI.lt), Nat.le_trans hB h5, fun e => by have := hv q e; omega⟩
  obtain ⟨v', w', hrun, ho', hg', hn'⟩ := OutJ.append _ base v J (ho.below hb) (z, l[k]) _ hel wr.heap.size 1 (cell_new _ _ _ 0 _ rfl) (cell_new _ _ _ 1 _ rfl) (cell_new _ _ _ 2 _ rfl) hJ (Nat.le_trans (Nat.le_trans hB (Nat.le_trans hS hs)) hb.size)
  refine ⟨g, ea, ec, v', w', rfl, h3, hrun, ho', fun q h5 h6 => ?_, fun q e => ?_, Nat.le_trans hs (Nat.le_trans hb.size hg'.size), ?_⟩
  · rw [hg'.block q (Nat.lt_of_lt_of_le (Nat.lt_of_lt_of_le h6 hs) hb.size) (fun e => by have := hv q e.symm; omega), hb.block q (Nat.lt_of_lt_of_le h6 hs)]
    exact hq q h5 h6
  · rcases hn' with hn' | ⟨q', hn', hlt⟩
    · exact hv q (hn' ▸ e)
    · rw [hn'] at e
      cases e
      exact .inr (Nat.le_trans (Nat.le_trans hs hb.size) hlt)
  · have hbb : base ≤ wr.heap.size := Nat.le_trans hB (Nat.le_trans hS hs)
    exact (hbel.trans (hb.mono hbb)).grown hg' (Nat.le_trans hbb hb.size) (fun q e => (ho.lt q e).1)

theorem joinedOf_append (b : Bo) (f s : Nat) (l m : List (Int × Int)) : joinedOf b f s (l ++ m) = joinedOf b f s l ++ joinedOf b f s m := by simp [joinedOf]
theorem joinedOf_len {b : Bo} (hok : b.ok = true) (f s : Nat) : ∀ (l : List (Int × Int)), (joinedOf b f s l).length ≤ l.length * 117649
  | [] => by simp [joinedOf]
  | x :: l => by
    have e : joinedOf b f s (x :: l) = withShift x (bJoins b f s x) ++ joinedOf b f s l := by simp [joinedOf]
    rw [e, List.length_append, List.length_cons, Nat.succ_mul, Nat.add_comm]
    refine Nat.add_le_add (joinedOf_len hok f s l) ?_
    unfold withShift
    rw [List.length_map]
    exact bJoins_len hok f s x
theorem shiftRow_len (b : Bo) (i j : Nat) : (shiftRow b i j).length = j := by simp [shiftRow]
theorem shiftsTo_len (b : Bo) (i : Nat) : (shiftsTo b i).length = i * northN b := by
  induction i with
  | zero => simp [shiftsTo]
  | succ i ih => rw [shiftsTo_succ, List.length_append, ih, shiftRow_len, Nat.succ_mul]
theorem joinedTo_len {b : Bo} (hok : b.ok = true) (f s i j : Nat) (hi : i ≤ 41) (hj : j ≤ 41) (hn : northN b ≤ 41) : (joinedOf b f s (shiftsTo b i ++ shiftRow b i j)).length ≤ 202591578 := by
  refine Nat.le_trans (joinedOf_len hok f s _) ?_
  rw [List.length_append, shiftsTo_len, shiftRow_len]
  have h1 : i * northN b ≤ 41 * 41 := Nat.mul_le_mul hi hn
  omega
theorem joinedOf_withShift (b : Bo) (f s : Nat) (l : List (Int × Int)) (z : Int × Int) : joinedOf b f s l ++ withShift z (bJoins b f s z) = joinedOf b f s (l ++ [z]) := by simp [joinedOf]
theorem withShift_take (z : Int × Int) (l : List (List Int)) (k : Nat) (h : k < l.length) : withShift z (l.take (k + 1)) = withShift z (l.take k) ++ [(z, l[k])] := by
  rw [List.take_succ_eq_append_getElem h, withShift_snoc]

/-- Joinings with their shifts, to be read. -/
def JRow (W : World) (a : Option Addr) (L : List Joined) : Prop :=
  ∀ i (h : i < L.length), ∃ g, a = some ⟨g, 0, none⟩ ∧ g < W.heap.size ∧ W.cell? ⟨g, i * 3, none⟩ = some (.int .i64 L[i].1.1) ∧ W.cell? ⟨g, i * 3 + 1, none⟩ = some (.int .i64 L[i].1.2) ∧ ∃ ea ec, W.cell? ⟨g, i * 3 + 2, none⟩ = some (.slice ea L[i].2.length ec) ∧ IntsV W ea L[i].2
theorem OutJ.rows {w : World} {base : Nat} {v : Value} {L : List Joined} (h : OutJ w base v L) : ∃ a c, v = .slice a L.length c ∧ JRow w a L := by
  obtain ⟨xs, hown, hel⟩ := h
  rcases hown.2 with ⟨rfl, hn⟩ | ⟨g, cap, cur, rfl, hbg, hg, hnc, hcm, hcs, htake⟩
  · refine ⟨none, 0, by rw [hn], fun i hi => ?_⟩
    rw [hn] at hi
    cases hi
  · refine ⟨some ⟨g, 0, none⟩, cap, rfl, fun i hi => ?_⟩
    obtain ⟨h0, h1, u, h2, h5⟩ := hel i hi
    obtain ⟨ea, ec, rfl, h6⟩ := h5
    have h7 : IntsV w ea L[i].2 := (show ElAt w base _ L[i].2 (.slice ea L[i].2.length ec) from ⟨ea, ec, rfl, h6⟩).ints.1
    have e : ∀ j, ((⟨g, 0, none⟩ : Addr).add j) = ⟨g, j, none⟩ := addr0 g
    have k0 := hown.cells (g := g) rfl _ _ h0
    have k1 := hown.cells (g := g) rfl _ _ h1
    have k2 := hown.cells (g := g) rfl _ _ h2
    rw [e] at k0 k1 k2
    exact ⟨g, rfl, (Array.getElem?_eq_some_iff.1 hg).1, k0, k1, ea, ec, k2, h7⟩
theorem JRow.below {W W' : World} {a : Option Addr} {L : List Joined} (h : JRow W a L) (hb : Below W.heap.size W W') : JRow W' a L := by
  intro i hi
  obtain ⟨g, rfl, hg, h0, h1, ea, ec, h2, h3⟩ := h i hi
  exact ⟨g, rfl, Nat.lt_of_lt_of_le hg hb.size, cell_later hb h0, cell_later hb h1, ea, ec, cell_later hb h2, h3.below hb (Nat.le_refl _)⟩
theorem JRow.nil (W : World) : JRow W none [] := fun i h => by cases h

def AllPost (w : World) (L : List Joined) (e : Ending) (w' : World) : Prop := ∃ a c, e = .returned (.slice a L.length c) ∧ JRow w' a L ∧ Below w.heap.size w w'
end Go.Proofs.Ytjkegmjjhdmkiaa
namespace Go.Proofs.Ytjkegmjjhdmkiaa
open Go.RowKit Go.Shelf
set_option maxHeartbeats 12800000
set_option maxRecDepth 100000
set_option linter.unusedSimpArgs false

theorem rall_any (b : Bo) (fa sa : Option Addr) (fc sc : Nat) (hok : b.ok = true) (w : World) (hb : BoArg w b fa sa) :
    Calls Try.prog 59 #[.agg #[.int .i64 b.e.lo, .int .i64 b.e.hi, .int .i64 b.n.lo, .int .i64 b.n.hi, .slice fa b.fs.length fc, .slice sa b.ss.length sc]] w (AllPost w (allOf b (sures b.fs) (sures b.ss))) := by
  obtain ⟨⟨he1, he2, he3⟩, ⟨hn1, hn2, hn3⟩, _⟩ := (ok_iff b).1 hok
  have HOK := Lib.hid hok
  have HB := Lib.hid hb
  have HE : Hid ((eastN b : Int) = b.e.hi - b.e.lo + 1) := Lib.hid (by unfold eastN; omega)
  have HN : Hid ((northN b : Int) = b.n.hi - b.n.lo + 1) := Lib.hid (by unfold northN; omega)
  have hlen : ∀ z, (bJoins b (sures b.fs) (sures b.ss) z).length ≤ 117649 := bJoins_len hok _ _
  have HL := Lib.hid hlen
  obtain ⟨F, hF⟩ : ∃ F, sures b.fs = F := ⟨_, rfl⟩
  obtain ⟨S, hS⟩ : ∃ S, sures b.ss = S := ⟨_, rfl⟩
  have HJO := fun z hz W hW => rjoinings_any b fa sa fc sc hok z hz W (HB.out.below (w' := W) hW)
  have HJO := Lib.hid HJO
  rw [hF, hS] at HJO HL ⊢
  clear hok hb hF hS hlen
  go_enter Try.func59, Try.ntmps59
  go_wp2_with fail
  obtain ⟨W0, hW0⟩ : ∃ W, (w.alloc (.cells #[.int .i64 b.e.lo, .int .i64 b.e.hi, .int .i64 b.n.lo, .int .i64 b.n.hi, .slice fa b.fs.length fc, .slice sa b.ss.length sc] 26)) = W := ⟨_, rfl⟩
  rw [hW0]
  try simp only [Nat.add_assoc, Nat.reduceAdd]
  have hst_W0 : Steps (fun _ => False) w W0 := by rw [← hW0]; exact Steps.alloc _ w _
  have hz_W0 : W0.heap.size = w.heap.size + 1 := by rw [← hW0]; simp
  have g0_W0 : W0.heap[w.heap.size]? = some (.cells #[.int .i64 b.e.lo, .int .i64 b.e.hi, .int .i64 b.n.lo, .int .i64 b.n.hi, .slice fa b.fs.length fc, .slice sa b.ss.length sc] 26) := by rw [← hW0]; simp only [alloc_get, World.size_alloc]; repeat (first | exact if_pos trivial | exact if_pos (by omega) | rw [if_neg (by omega)])
  clear hW0
  have hb0 : Below w.heap.size w W0 := hst_W0.below (Nat.le_refl _) (fun _ _ h => h)
  have ltp := (Array.getElem?_eq_some_iff.1 g0_W0).1
  clear hst_W0 hz_W0
  obtain ⟨p, hp⟩ : ∃ p, w.heap.size = p := ⟨_, rfl⟩
  rw [hp] at g0_W0 ltp ⊢
  have HP := Lib.hid hp
  clear hp
  go_loopw [3, 4] (fun v e wr => ∃ i : Nat, i ≤ eastN b ∧ e = .int .i64 (b.e.lo + i) ∧ OutJ wr W0.heap.size v (joinedOf b F S (shiftsTo b i)) ∧ Below W0.heap.size W0 wr) (fun _ e _ => (b.e.hi + 1 - intOf e).toNat)
  case atStart => exact ⟨0, Nat.zero_le _, by simp, OutJ.nil _ _, Below.refl _ _⟩
  case round =>
    obtain ⟨wo, rfl⟩ : ∃ x, x = wr := ⟨_, rfl⟩
    obtain ⟨i, hi, rfl, ho, hbo⟩ := hrel
    have HO := Lib.hid ho
    have gp := (hbo.block p ltp).trans g0_W0
    have a1 := cell_block gp 1
    have a2 := cell_block gp 2
    have a3 := cell_block gp 3
    simp only [List.getElem?_toArray, List.getElem?_cons_zero, List.getElem?_cons_succ] at a1 a2 a3
    clear ho
    by_cases hlt : i < eastN b
    · have hle : b.e.lo + (i : Int) ≤ b.e.hi := by have := HE.out; omega
      go_wp2_with fail
      go_loopw [3, 5] (fun v n wr => ∃ j : Nat, j ≤ northN b ∧ n = .int .i64 (b.n.lo + j) ∧ OutJ wr W0.heap.size v (joinedOf b F S (shiftsTo b i ++ shiftRow b i j)) ∧ Below W0.heap.size W0 wr) (fun _ n _ => (b.n.hi + 1 - intOf n).toNat)
      case atStart => exact ⟨0, Nat.zero_le _, by simp, by simpa [shiftRow] using HO.out, hbo⟩
      case round =>
        obtain ⟨wq, rfl⟩ : ∃ x, x = wr := ⟨_, rfl⟩
        obtain ⟨j, hj, rfl, ho, hbq⟩ := hrel
        have HO2 := Lib.hid ho
        have gq := (hbq.block p ltp).trans g0_W0
        have c0 := cell_block gq 0
        have c1 := cell_block gq 1
        have c2 := cell_block gq 2
        have c3 := cell_block gq 3
        have c4 := cell_block gq 4
        have c5 := cell_block gq 5
        simp only [List.getElem?_toArray, List.getElem?_cons_zero, List.getElem?_cons_succ] at c0 c1 c2 c3 c4 c5
        clear ho a1 a2 a3
        by_cases hlt2 : j < northN b
        · have hle2 : b.n.lo + (j : Int) ≤ b.n.hi := by have := HN.out; omega
          have hwq : Below w.heap.size w wq := hb0.trans (hbq.mono hb0.size)
          have hjlen := joinedTo_len HOK.out F S i j (by have := HE.out; omega) (by have := HN.out; omega) (by have := HN.out; omega)
          have HJL := Lib.hid hjlen
          clear hjlen
          go_wp2_with fail
          refine (HJO.out (b.e.lo + (i : Int), b.n.lo + (j : Int)) ((shift_iff _ _).2 ⟨⟨by show b.e.lo ≤ b.e.lo + (i : Int); omega, hle⟩, by show b.n.lo ≤ b.n.lo + (j : Int); omega, hle2⟩) wq hwq).mono ?_
          rintro e w1 ⟨v6, rfl, ho6, hb6⟩
          have hll := HL.out (b.e.lo + (i : Int), b.n.lo + (j : Int))
          have HJW : Hid (joinedOf b F S (shiftsTo b i ++ shiftRow b i j) ++ withShift (b.e.lo + (i : Int), b.n.lo + (j : Int)) (bJoins b F S (b.e.lo + (i : Int), b.n.lo + (j : Int))) = joinedOf b F S (shiftsTo b i ++ shiftRow b i (j + 1))) := Lib.hid (by
            rw [joinedOf_withShift, shiftRow_succ, List.append_assoc])
          generalize bJoins b F S (b.e.lo + (i : Int), b.n.lo + (j : Int)) = l at ho6 hll HJW
          obtain ⟨a6, c6, rfl, hl6⟩ := ho6.rows
          have hin : AllIn W0 w1 W0.heap.size wq.heap.size w1.heap.size (joinedOf b F S (shiftsTo b i ++ shiftRow b i j)) (.slice none 0 0) w1 → True := fun _ => trivial
          clear hin
          have hst3 : ∀ v, OutJ wq W0.heap.size v (joinedOf b F S (shiftsTo b i ++ shiftRow b i j)) → AllIn W0 w1 W0.heap.size wq.heap.size w1.heap.size (joinedOf b F S (shiftsTo b i ++ shiftRow b i j)) v w1 := fun v h =>
            ⟨h.below hb6, fun _ _ _ => rfl, fun g e => .inl (h.lt g e).2, Nat.le_refl _, hbq.trans (hb6.mono hbq.size)⟩
          have HST := Lib.hid (hst3 _ HO2.out)
          have HLR := Lib.hid hl6
          have HSZ := Lib.hid (And.intro hbq.size hb6.size)
          have hlli : (l.length : Int) ≤ 117649 := by omega
          clear hst3 hl6 ho6 hb6 hll hwq c0 c1 c2 c3 c4 c5 gq
          go_wp2_with fail
          go_loopw [3, 7] (fun v x wr => ∃ k : Nat, k ≤ l.length ∧ x = .int .i64 k ∧ AllIn W0 w1 W0.heap.size wq.heap.size w1.heap.size (joinedOf b F S (shiftsTo b i ++ shiftRow b i j) ++ withShift (b.e.lo + (i : Int), b.n.lo + (j : Int)) (l.take k)) v wr) (fun _ x _ => l.length - (intOf x).toNat)
          case atStart => exact ⟨0, Nat.zero_le _, rfl, by simpa [withShift] using HST.out⟩
          case round =>
            obtain ⟨k, hk, rfl, hA⟩ := hrel
            by_cases hlt3 : k < l.length
            · have hki : (k : Int) < l.length := by omega
              obtain ⟨g, ea, ec, v', w', rfl, hc, hrun, hA'⟩ := hA.step HLR.out HSZ.out.1 HSZ.out.2 (b.e.lo + (i : Int), b.n.lo + (j : Int)) (by
                rw [List.length_append, withShift, List.length_map, List.length_take]; have := HJL.out; omega) k hlt3
              have HA := Lib.hid hA'
              have hwt := withShift_take (b.e.lo + (i : Int), b.n.lo + (j : Int)) l k hlt3
              have HWT := Lib.hid hwt
              clear hA hA' hwt
              go_wp2_with (at_builtin; refine wpList_plain rfl fun K hK => ?_; unfold Oper.wp; simp [execOp, resolve, invoke, builtin, hrun, Result.andThen, Act.eval]; refine hK _ _ ?_; clear hK)
              go_roundw
              case rel => exact ⟨k + 1, by omega, by go_num, by rw [HWT.out, ← List.append_assoc]; exact HA.out⟩
              case measure => simp [intOf]; omega
            · obtain rfl : k = l.length := by omega
              rw [List.take_length] at hA
              obtain ⟨hA1, _, _, _, hA5⟩ := hA
              rw [HJW.out] at hA1
              have HA1 := Lib.hid hA1
              clear hA1
              go_wp2_with fail
              go_roundw
              case rel => exact ⟨j + 1, by omega, by go_num, HA1.out, hA5⟩
              case measure => simp [intOf]; omega
        · obtain rfl : j = northN b := by omega
          have HNN := HN.out
          go_wp2_with fail
          go_roundw
          case rel => exact ⟨i + 1, by omega, by go_num, by rw [shiftsTo_succ]; exact HO2.out, hbq⟩
          case measure => simp [intOf]; omega
    · obtain rfl : i = eastN b := by omega
      have hEE := HE.out
      have hb9 := hb0.trans (hbo.mono hb0.size)
      obtain ⟨a, c, rfl, hR⟩ := HO.out.rows
      have hall : joinedOf b F S (shiftsTo b (eastN b)) = allOf b F S := rfl
      have HR := Lib.hid hR
      clear hR
      go_wp2_with fail
      go_ret
      exact ⟨a, c, rfl, HR.out, hb9⟩
end Go.Proofs.Ytjkegmjjhdmkiaa
namespace Go.Proofs.Ytjkegmjjhdmkiaa
open Go.RowKit Go.Shelf
set_option maxHeartbeats 6400000
set_option maxRecDepth 100000
set_option linter.unusedSimpArgs false

/-- All joinings, or the error; valid: all else is. -/
def rOpen (b : Bo) (valid : Bool) : List Joined × Int := if b.ok then if valid then if allOf b (sures b.fs) (sures b.ss) = [] then ([], 4) else (allOf b (sures b.fs) (sures b.ss), 0) else ([], 2) else ([], 1)
def OpenPost (b : Bo) (valid : Bool) (w : World) (e : Ending) (w' : World) : Prop := ∃ a c, e = .returned (.tuple #[.slice a (rOpen b valid).1.length c, .int .i64 (rOpen b valid).2]) ∧ JRow w' a (rOpen b valid).1 ∧ Below w.heap.size w w'

theorem ropen_any (b : Bo) (fa sa : Option Addr) (fc sc : Nat) (valid : Bool) (w : World) (hb : BoArg w b fa sa) :
    Calls Try.prog 53 #[.agg #[.int .i64 b.e.lo, .int .i64 b.e.hi, .int .i64 b.n.lo, .int .i64 b.n.hi, .slice fa b.fs.length fc, .slice sa b.ss.length sc], .bool valid] w (OpenPost b valid w) := by
  have hdef : rOpen b valid = if b.ok then if valid then if allOf b (sures b.fs) (sures b.ss) = [] then ([], 4) else (allOf b (sures b.fs) (sures b.ss), 0) else ([], 2) else ([], 1) := rfl
  have HD := Lib.hid hdef
  have HB := Lib.hid hb
  clear hb hdef
  go_enter Try.func53, Try.ntmps53
  go_wp2_with fail
  obtain ⟨W0, hW0⟩ : ∃ W, (w.alloc (.cells #[.int .i64 b.e.lo, .int .i64 b.e.hi, .int .i64 b.n.lo, .int .i64 b.n.hi, .slice fa b.fs.length fc, .slice sa b.ss.length sc] 26)) = W := ⟨_, rfl⟩
  rw [hW0]
  try simp only [Nat.add_assoc, Nat.reduceAdd]
  have hst_W0 : Steps (fun _ => False) w W0 := by rw [← hW0]; exact Steps.alloc _ w _
  have hz_W0 : W0.heap.size = w.heap.size + 1 := by rw [← hW0]; simp
  have g0_W0 : W0.heap[w.heap.size]? = some (.cells #[.int .i64 b.e.lo, .int .i64 b.e.hi, .int .i64 b.n.lo, .int .i64 b.n.hi, .slice fa b.fs.length fc, .slice sa b.ss.length sc] 26) := by rw [← hW0]; simp only [alloc_get, World.size_alloc]; repeat (first | exact if_pos trivial | exact if_pos (by omega) | rw [if_neg (by omega)])
  clear hW0
  have hb0 : Below w.heap.size w W0 := hst_W0.below (Nat.le_refl _) (fun _ _ h => h)
  clear hst_W0 hz_W0
  refine (border_any b fa sa fc sc _ (HB.out.below hb0)).mono ?_
  rintro e w1 ⟨rfl, hb1⟩
  have g1 := obj_later hb1 g0_W0
  replace hb0 := hb0.trans (hb1.mono hb0.size)
  clear hb1 g0_W0
  cases hok : b.ok
  case false =>
    have HR : Hid (rOpen b valid = ([], 1)) := Lib.hid (by rw [HD.out, hok]; rfl)
    clear hok
    go_wp2
    go_ret2
    exact ⟨none, 0, by rw [HR.out]; rfl, by rw [HR.out]; exact JRow.nil _, hb0⟩
  case true =>
    have HOK := Lib.hid hok
    clear hok
    cases valid
    · have HR : Hid (rOpen b false = ([], 2)) := Lib.hid (by rw [HD.out, HOK.out]; rfl)
      go_wp2
      go_ret2
      exact ⟨none, 0, by rw [HR.out]; rfl, by rw [HR.out]; exact JRow.nil _, hb0⟩
    · have HR : Hid (rOpen b true = if allOf b (sures b.fs) (sures b.ss) = [] then ([], 4) else (allOf b (sures b.fs) (sures b.ss), 0)) := Lib.hid (by rw [HD.out, HOK.out]; rfl)
      have c0 := cell_block g1 0
      have c1 := cell_block g1 1
      have c2 := cell_block g1 2
      have c3 := cell_block g1 3
      have c4 := cell_block g1 4
      have c5 := cell_block g1 5
      simp only [List.getElem?_toArray, List.getElem?_cons_zero, List.getElem?_cons_succ] at c0 c1 c2 c3 c4 c5
      go_wp2_with fail
      refine (rall_any b fa sa fc sc HOK.out _ (HB.out.below hb0)).mono ?_
      rintro e w2 ⟨a, c, rfl, hR, hb1⟩
      have HJ := Lib.hid hR
      replace hb0 := hb0.trans (hb1.mono hb0.size)
      clear hb1 hR g1 c0 c1 c2 c3 c4 c5
      generalize allOf b (sures b.fs) (sures b.ss) = L at HR HJ ⊢
      by_cases hL : L = []
      · have hl0 : ((L.length : Int) == 0) = true := by rw [hL]; rfl
        have HL := Lib.hid hL
        clear hL
        go_wp2
        go_ret2
        exact ⟨none, 0, by rw [HR.out, if_pos HL.out]; rfl, by rw [HR.out, if_pos HL.out]; exact JRow.nil _, hb0⟩
      · have hl0 : ((L.length : Int) == 0) = false := by
          have := List.length_pos_iff.2 hL
          simp; exact hL
        have HL := Lib.hid hL
        clear hL
        go_wp2
        go_ret2
        exact ⟨a, c, by rw [HR.out, if_neg HL.out] <;> rfl, by rw [HR.out, if_neg HL.out]; exact HJ.out, hb0⟩

theorem rpossible_any (b : Bo) (east north : Int) (fa sa : Option Addr) (fc sc : Nat) (w : World) (hb : BoArg w b fa sa) :
    Calls Try.prog 16 #[.agg #[.int .i64 b.e.lo, .int .i64 b.e.hi, .int .i64 b.n.lo, .int .i64 b.n.hi, .slice fa b.fs.length fc, .slice sa b.ss.length sc], .int .i64 east, .int .i64 north] w (PossiblePost b east north w) := by
  have hdef : bPossible b east north = if b.ok then if b.shift (east, north) then ((bJoins b (sures b.fs) (sures b.ss) (east, north)).length, 0) else (0, 2) else (0, 1) := rfl
  have HD := Lib.hid hdef
  have HB := Lib.hid hb
  clear hb hdef
  go_enter Try.func16, Try.ntmps16
  go_wp2_with fail
  obtain ⟨W0, hW0⟩ : ∃ W, (w.alloc (.cells #[.int .i64 b.e.lo, .int .i64 b.e.hi, .int .i64 b.n.lo, .int .i64 b.n.hi, .slice fa b.fs.length fc, .slice sa b.ss.length sc] 26)) = W := ⟨_, rfl⟩
  rw [hW0]
  try simp only [Nat.add_assoc, Nat.reduceAdd]
  have hst_W0 : Steps (fun _ => False) w W0 := by rw [← hW0]; exact Steps.alloc _ w _
  have hz_W0 : W0.heap.size = w.heap.size + 1 := by rw [← hW0]; simp
  have g0_W0 : W0.heap[w.heap.size]? = some (.cells #[.int .i64 b.e.lo, .int .i64 b.e.hi, .int .i64 b.n.lo, .int .i64 b.n.hi, .slice fa b.fs.length fc, .slice sa b.ss.length sc] 26) := by rw [← hW0]; simp only [alloc_get, World.size_alloc]; repeat (first | exact if_pos trivial | exact if_pos (by omega) | rw [if_neg (by omega)])
  clear hW0
  have hb0 : Below w.heap.size w W0 := hst_W0.below (Nat.le_refl _) (fun _ _ h => h)
  clear hst_W0 hz_W0
  refine (border_any b fa sa fc sc _ (HB.out.below hb0)).mono ?_
  rintro e w1 ⟨rfl, hb1⟩
  have g1 := obj_later hb1 g0_W0
  replace hb0 := hb0.trans (hb1.mono hb0.size)
  clear hb1 g0_W0
  cases hok : b.ok
  case false =>
    have HR : Hid (bPossible b east north = (0, 1)) := Lib.hid (by rw [HD.out, hok]; rfl)
    clear hok
    go_wp2
    go_ret2
    exact ⟨by rw [HR.out]; rfl, hb0⟩
  case true =>
    have HOK := Lib.hid hok
    clear hok
    have c0 := cell_block g1 0
    have c1 := cell_block g1 1
    have c2 := cell_block g1 2
    have c3 := cell_block g1 3
    have c4 := cell_block g1 4
    have c5 := cell_block g1 5
    simp only [List.getElem?_toArray, List.getElem?_cons_zero, List.getElem?_cons_succ] at c0 c1 c2 c3 c4 c5
    go_wp2_with fail
    refine (rshifted_any b fa sa fc sc east north _).mono ?_
    rintro e w2 ⟨rfl, hb1⟩
    have g2 := obj_later hb1 g1
    replace hb0 := hb0.trans (hb1.mono hb0.size)
    clear hb1 g1 c0 c1 c2 c3 c4 c5
    cases hsh : b.shift (east, north)
    · have HR : Hid (bPossible b east north = (0, 2)) := Lib.hid (by rw [HD.out, HOK.out, hsh]; rfl)
      clear hsh
      go_wp2
      go_ret2
      exact ⟨by rw [HR.out]; rfl, hb0⟩
    · have HR : Hid (bPossible b east north = ((bJoins b (sures b.fs) (sures b.ss) (east, north)).length, 0)) := Lib.hid (by rw [HD.out, HOK.out, hsh]; rfl)
      have HSH := Lib.hid hsh
      clear hsh
      have c0 := cell_block g2 0
      have c1 := cell_block g2 1
      have c2 := cell_block g2 2
      have c3 := cell_block g2 3
      have c4 := cell_block g2 4
      have c5 := cell_block g2 5
      simp only [List.getElem?_toArray, List.getElem?_cons_zero, List.getElem?_cons_succ] at c0 c1 c2 c3 c4 c5
      go_wp2_with fail
      refine (rjoinings_any b fa sa fc sc HOK.out (east, north) HSH.out _ (HB.out.below hb0)).mono ?_
      rintro e w3 ⟨v, rfl, ho, hb1⟩
      obtain ⟨a, c, rfl, _⟩ := ho.rows
      replace hb0 := hb0.trans (hb1.mono hb0.size)
      clear hb1 ho
      go_wp2
      go_ret2
      exact ⟨by rw [HR.out] <;> rfl, hb0⟩

theorem rsame_any (b : Bo) (first second east north : Int) (fa sa : Option Addr) (fc sc : Nat) (w : World) (hb : BoArg w b fa sa) :
    Calls Try.prog 14 #[.agg #[.int .i64 b.e.lo, .int .i64 b.e.hi, .int .i64 b.n.lo, .int .i64 b.n.hi, .slice fa b.fs.length fc, .slice sa b.ss.length sc], .int .i64 first, .int .i64 second, .int .i64 east, .int .i64 north] w (SamePost b first second east north w) := by
  have hdef : bSame b first second east north = if b.ok then if inR first 0 (b.fs.length - 1) && inR second 0 (b.ss.length - 1) && b.shift (east, north) then (b.same (east, north) first.toNat second.toNat, 0) else (false, 2) else (false, 1) := rfl
  have HD := Lib.hid hdef
  have HB := Lib.hid hb
  have hlf := hb.lf
  have hls := hb.ls
  clear hb hdef
  go_enter Try.func14, Try.ntmps14
  go_wp2_with fail
  obtain ⟨W0, hW0⟩ : ∃ W, (w.alloc (.cells #[.int .i64 b.e.lo, .int .i64 b.e.hi, .int .i64 b.n.lo, .int .i64 b.n.hi, .slice fa b.fs.length fc, .slice sa b.ss.length sc] 26)) = W := ⟨_, rfl⟩
  rw [hW0]
  try simp only [Nat.add_assoc, Nat.reduceAdd]
  have hst_W0 : Steps (fun _ => False) w W0 := by rw [← hW0]; exact Steps.alloc _ w _
  have hz_W0 : W0.heap.size = w.heap.size + 1 := by rw [← hW0]; simp
  have g0_W0 : W0.heap[w.heap.size]? = some (.cells #[.int .i64 b.e.lo, .int .i64 b.e.hi, .int .i64 b.n.lo, .int .i64 b.n.hi, .slice fa b.fs.length fc, .slice sa b.ss.length sc] 26) := by rw [← hW0]; simp only [alloc_get, World.size_alloc]; repeat (first | exact if_pos trivial | exact if_pos (by omega) | rw [if_neg (by omega)])
  clear hW0
  have hb0 : Below w.heap.size w W0 := hst_W0.below (Nat.le_refl _) (fun _ _ h => h)
  clear hst_W0 hz_W0
  refine (border_any b fa sa fc sc _ (HB.out.below hb0)).mono ?_
  rintro e w1 ⟨rfl, hb1⟩
  have g1 := obj_later hb1 g0_W0
  replace hb0 := hb0.trans (hb1.mono hb0.size)
  clear hb1 g0_W0
  cases hok : b.ok
  case false =>
    have HR : Hid (bSame b first second east north = (false, 1)) := Lib.hid (by rw [HD.out, hok]; rfl)
    clear hok
    go_wp2
    go_ret2
    exact ⟨by rw [HR.out]; rfl, hb0⟩
  case true =>
    have HOK := Lib.hid hok
    have hlens := bo_lens hok
    have hl1 : (b.fs.length : Int) ≤ 6 := by omega
    have hl2 : (b.ss.length : Int) ≤ 6 := by omega
    clear hok hlf hls hlens
    cases h1 : inR first 0 ((b.fs.length : Int) - 1)
    · have HR : Hid (bSame b first second east north = (false, 2)) := Lib.hid (by rw [HD.out, HOK.out, h1]; rfl)
      have H1 := Lib.hid h1
      clear h1
      have c0 := cell_block g1 0
      have c1 := cell_block g1 1
      have c2 := cell_block g1 2
      have c3 := cell_block g1 3
      have c4 := cell_block g1 4
      have c5 := cell_block g1 5
      simp only [List.getElem?_toArray, List.getElem?_cons_zero, List.getElem?_cons_succ] at c0 c1 c2 c3 c4 c5
      go_wp2_with fail
      refine (rin_any first 0 ((b.fs.length : Int) - 1) _).mono ?_
      rintro e w2 ⟨rfl, rfl⟩
      rw [H1.out]
      go_wp2
      go_ret2
      exact ⟨by rw [HR.out]; rfl, hb0⟩
    have H1 := Lib.hid h1
    clear h1
    cases h2 : inR second 0 ((b.ss.length : Int) - 1)
    · have HR : Hid (bSame b first second east north = (false, 2)) := Lib.hid (by rw [HD.out, HOK.out, H1.out, h2]; rfl)
      have H2 := Lib.hid h2
      clear h2
      have c0 := cell_block g1 0
      have c1 := cell_block g1 1
      have c2 := cell_block g1 2
      have c3 := cell_block g1 3
      have c4 := cell_block g1 4
      have c5 := cell_block g1 5
      simp only [List.getElem?_toArray, List.getElem?_cons_zero, List.getElem?_cons_succ] at c0 c1 c2 c3 c4 c5
      go_wp2_with fail
      refine (rin_any first 0 ((b.fs.length : Int) - 1) _).mono ?_
      rintro e w2 ⟨rfl, rfl⟩
      rw [H1.out]
      go_wp2_with fail
      refine (rin_any second 0 ((b.ss.length : Int) - 1) _).mono ?_
      rintro e w2 ⟨rfl, rfl⟩
      rw [H2.out]
      go_wp2
      go_ret2
      exact ⟨by rw [HR.out]; rfl, hb0⟩
    have H2 := Lib.hid h2
    clear h2
    have c0 := cell_block g1 0
    have c1 := cell_block g1 1
    have c2 := cell_block g1 2
    have c3 := cell_block g1 3
    have c4 := cell_block g1 4
    have c5 := cell_block g1 5
    simp only [List.getElem?_toArray, List.getElem?_cons_zero, List.getElem?_cons_succ] at c0 c1 c2 c3 c4 c5
    go_wp2_with fail
    refine (rin_any first 0 ((b.fs.length : Int) - 1) _).mono ?_
    rintro e w2 ⟨rfl, rfl⟩
    rw [H1.out]
    go_wp2_with fail
    refine (rin_any second 0 ((b.ss.length : Int) - 1) _).mono ?_
    rintro e w2 ⟨rfl, rfl⟩
    rw [H2.out]
    go_wp2_with fail
    refine (rshifted_any b fa sa fc sc east north _).mono ?_
    rintro e w2 ⟨rfl, hb1⟩
    have g2 := obj_later hb1 g1
    replace hb0 := hb0.trans (hb1.mono hb0.size)
    clear hb1 g1 c0 c1 c2 c3 c4 c5
    cases hsh : b.shift (east, north)
    · have HR : Hid (bSame b first second east north = (false, 2)) := Lib.hid (by rw [HD.out, HOK.out, H1.out, H2.out, hsh]; rfl)
      clear hsh
      go_wp2
      go_ret2
      exact ⟨by rw [HR.out]; rfl, hb0⟩
    have HR : Hid (bSame b first second east north = (b.same (east, north) first.toNat second.toNat, 0)) := Lib.hid (by rw [HD.out, HOK.out, H1.out, H2.out, hsh]; rfl)
    have HSH := Lib.hid hsh
    clear hsh
    have hr1 : 0 ≤ first ∧ first ≤ (b.fs.length : Int) - 1 := by have := H1.out; simpa [inR] using this
    have hr2 : 0 ≤ second ∧ second ≤ (b.ss.length : Int) - 1 := by have := H2.out; simpa [inR] using this
    obtain ⟨i, rfl⟩ := Int.eq_ofNat_of_zero_le hr1.1
    obtain ⟨k, rfl⟩ := Int.eq_ofNat_of_zero_le hr2.1
    rw [Int.toNat_natCast, Int.toNat_natCast] at HR
    have hi : i < b.fs.length := by omega
    have hk : k < b.ss.length := by omega
    have hii : (i : Int) < b.fs.length := by omega
    have hkk : (k : Int) < b.ss.length := by omega
    clear hr1 hr2
    go_upto_region 5 with fail
    have HB2 := HB.out.below hb0
    obtain ⟨bf, of, rfl, hbf, hE⟩ := HB2.f i hi
    obtain ⟨bs, os, rfl, hbs, hF⟩ := HB2.s k hk
    have hm : b.same (east, north) i k = b.fs[i].same b.ss[k] (east, north) := by
      unfold Bo.same
      rw [List.getElem?_eq_getElem hi, List.getElem?_eq_getElem hk]
    have hyo : b.ss[k].ok = true := List.all_eq_true.1 ((ok_iff b).1 HOK.out).2.2.2.2.2 _ (List.getElem_mem hk)
    have hzz : (-20 ≤ east ∧ east ≤ 20) ∧ (-20 ≤ north ∧ north ≤ 20) := by have h1 := (ok_iff b).1 HOK.out; have h2 := (shift_iff b (east, north)).1 HSH.out; simp only at h2; omega
    generalize b.fs[i] = x at hE hm
    generalize b.ss[k] = y at hF hm hyo
    have hare := fun W => rare_any x y (east, north) hyo hzz W
    have HARE := Lib.hid hare
    have HM := Lib.hid hm
    have ltp := (Array.getElem?_eq_some_iff.1 g2).1
    have S2 : ∀ W', Below w2.heap.size w2 W' → W'.cell? ⟨w.heap.size, 4, none⟩ = some (.slice (some ⟨bf, of, none⟩) b.fs.length fc) := fun W' h => cell_block ((h.block _ ltp).trans g2) 4
    have S3 : ∀ W', Below w2.heap.size w2 W' → W'.cell? ⟨w.heap.size, 5, none⟩ = some (.slice (some ⟨bs, os, none⟩) b.ss.length sc) := fun W' h => cell_block ((h.block _ ltp).trans g2) 5
    have E0 : ∀ W', Below w2.heap.size w2 W' → W'.cell? ⟨bf, of + i * 7, none⟩ = some (.int .i64 x.e.lo) := fun W' h => (hE.same (h.block bf hbf)).c0
    have E1 : ∀ W', Below w2.heap.size w2 W' → W'.cell? ⟨bf, of + i * 7 + 1, none⟩ = some (.int .i64 x.e.hi) := fun W' h => (hE.same (h.block bf hbf)).c1
    have E2 : ∀ W', Below w2.heap.size w2 W' → W'.cell? ⟨bf, of + i * 7 + 2, none⟩ = some (.int .i64 x.n.lo) := fun W' h => (hE.same (h.block bf hbf)).c2
    have E3 : ∀ W', Below w2.heap.size w2 W' → W'.cell? ⟨bf, of + i * 7 + 3, none⟩ = some (.int .i64 x.n.hi) := fun W' h => (hE.same (h.block bf hbf)).c3
    have E4 : ∀ W', Below w2.heap.size w2 W' → W'.cell? ⟨bf, of + i * 7 + 4, none⟩ = some (.int .i64 x.b.lo) := fun W' h => (hE.same (h.block bf hbf)).c4
    have E5 : ∀ W', Below w2.heap.size w2 W' → W'.cell? ⟨bf, of + i * 7 + 5, none⟩ = some (.int .i64 x.b.hi) := fun W' h => (hE.same (h.block bf hbf)).c5
    have E6 : ∀ W', Below w2.heap.size w2 W' → W'.cell? ⟨bf, of + i * 7 + 6, none⟩ = some (.bool x.sure) := fun W' h => (hE.same (h.block bf hbf)).c6
    have F0 : ∀ W', Below w2.heap.size w2 W' → W'.cell? ⟨bs, os + k * 7, none⟩ = some (.int .i64 y.e.lo) := fun W' h => (hF.same (h.block bs hbs)).c0
    have F1 : ∀ W', Below w2.heap.size w2 W' → W'.cell? ⟨bs, os + k * 7 + 1, none⟩ = some (.int .i64 y.e.hi) := fun W' h => (hF.same (h.block bs hbs)).c1
    have F2 : ∀ W', Below w2.heap.size w2 W' → W'.cell? ⟨bs, os + k * 7 + 2, none⟩ = some (.int .i64 y.n.lo) := fun W' h => (hF.same (h.block bs hbs)).c2
    have F3 : ∀ W', Below w2.heap.size w2 W' → W'.cell? ⟨bs, os + k * 7 + 3, none⟩ = some (.int .i64 y.n.hi) := fun W' h => (hF.same (h.block bs hbs)).c3
    have F4 : ∀ W', Below w2.heap.size w2 W' → W'.cell? ⟨bs, os + k * 7 + 4, none⟩ = some (.int .i64 y.b.lo) := fun W' h => (hF.same (h.block bs hbs)).c4
    have F5 : ∀ W', Below w2.heap.size w2 W' → W'.cell? ⟨bs, os + k * 7 + 5, none⟩ = some (.int .i64 y.b.hi) := fun W' h => (hF.same (h.block bs hbs)).c5
    have F6 : ∀ W', Below w2.heap.size w2 W' → W'.cell? ⟨bs, os + k * 7 + 6, none⟩ = some (.bool y.sure) := fun W' h => (hF.same (h.block bs hbs)).c6
    clear hE hF hare hm hyo hzz HB2 hbf hbs g2
    refine (wpIn_wide (n := 1)).1 ?_
    refine wpIn_region_Wn (S := Below w2.heap.size w2) 15 (by kernel_rfl) (by kernel_rfl) (below_drew w2) (fun hHeld => ?_)
    refine wpAnyW_takeD 0 38 (v := ?_) (by kernel_rfl) (by kernel_rfl) (by kernel_rfl) (by kernel_rfl) (fun _ _ _ h => h) ?_ (by assumption) ?_
    rotate_left
    · intro oi hoi w hSw; (try dsimp only at hSw); simp only [List.getElem?_toArray, List.getElem?_cons_zero, List.getElem?_cons_succ, Option.some.injEq] at hoi; subst hoi; go_simp; try with_reducible rfl
    simp only [Act.put, List.setIfInBounds_toArray, List.set_cons_zero, List.set_cons_succ]
    refine wpAnyW_takeD 1 39 (v := ?_) (by kernel_rfl) (by kernel_rfl) (by kernel_rfl) (by kernel_rfl) (fun _ _ _ h => h) ?_ (by assumption) ?_
    rotate_left
    · intro oi hoi w hSw; (try dsimp only at hSw); simp only [List.getElem?_toArray, List.getElem?_cons_zero, List.getElem?_cons_succ, Option.some.injEq] at hoi; subst hoi; go_simp; try with_reducible rfl
    simp only [Act.put, List.setIfInBounds_toArray, List.set_cons_zero, List.set_cons_succ]
    refine wpAnyW_takeD 2 40 (v := ?_) (by kernel_rfl) (by kernel_rfl) (by kernel_rfl) (by kernel_rfl) (fun _ _ _ h => h) ?_ (by assumption) ?_
    rotate_left
    · intro oi hoi w hSw; (try dsimp only at hSw); simp only [List.getElem?_toArray, List.getElem?_cons_zero, List.getElem?_cons_succ, Option.some.injEq] at hoi; subst hoi; go_simp; try with_reducible rfl
    simp only [Act.put, List.setIfInBounds_toArray, List.set_cons_zero, List.set_cons_succ]
    refine wpAnyW_takeD 3 41 (v := ?_) (by kernel_rfl) (by kernel_rfl) (by kernel_rfl) (by kernel_rfl) (fun _ _ _ h => h) ?_ (by assumption) ?_
    rotate_left
    · intro oi hoi w hSw; (try dsimp only at hSw); simp only [List.getElem?_toArray, List.getElem?_cons_zero, List.getElem?_cons_succ, Option.some.injEq] at hoi; subst hoi; go_simp; try with_reducible rfl
    simp only [Act.put, List.setIfInBounds_toArray, List.set_cons_zero, List.set_cons_succ]
    refine wpAnyW_takeD 4 42 (v := ?_) (by kernel_rfl) (by kernel_rfl) (by kernel_rfl) (by kernel_rfl) (fun _ _ _ h => h) ?_ (by assumption) ?_
    rotate_left
    · intro oi hoi w hSw; (try dsimp only at hSw); simp only [List.getElem?_toArray, List.getElem?_cons_zero, List.getElem?_cons_succ, Option.some.injEq] at hoi; subst hoi; go_simp; try with_reducible rfl
    simp only [Act.put, List.setIfInBounds_toArray, List.set_cons_zero, List.set_cons_succ]
    refine wpAnyW_takeD 5 43 (v := ?_) (by kernel_rfl) (by kernel_rfl) (by kernel_rfl) (by kernel_rfl) (fun _ _ _ h => h) ?_ (by assumption) ?_
    rotate_left
    · intro oi hoi w hSw; (try dsimp only at hSw); simp only [List.getElem?_toArray, List.getElem?_cons_zero, List.getElem?_cons_succ, Option.some.injEq] at hoi; subst hoi; go_simp; try with_reducible rfl
    simp only [Act.put, List.setIfInBounds_toArray, List.set_cons_zero, List.set_cons_succ]
    refine wpAnyW_takeD 6 44 (v := ?_) (by kernel_rfl) (by kernel_rfl) (by kernel_rfl) (by kernel_rfl) (fun _ _ _ h => h) ?_ (by assumption) ?_
    rotate_left
    · intro oi hoi w hSw; (try dsimp only at hSw); simp only [List.getElem?_toArray, List.getElem?_cons_zero, List.getElem?_cons_succ, Option.some.injEq] at hoi; subst hoi; go_simp; try with_reducible rfl
    simp only [Act.put, List.setIfInBounds_toArray, List.set_cons_zero, List.set_cons_succ]
    refine wpAnyW_takeD 7 45 (v := ?_) (by kernel_rfl) (by kernel_rfl) (by kernel_rfl) (by kernel_rfl) (fun _ _ _ h => h) ?_ (by assumption) ?_
    rotate_left
    · intro oi hoi w hSw; (try dsimp only at hSw); simp only [List.getElem?_toArray, List.getElem?_cons_zero, List.getElem?_cons_succ, Option.some.injEq] at hoi; subst hoi; go_simp; try with_reducible rfl
    simp only [Act.put, List.setIfInBounds_toArray, List.set_cons_zero, List.set_cons_succ]
    refine wpAnyW_takeD 8 46 (v := ?_) (by kernel_rfl) (by kernel_rfl) (by kernel_rfl) (by kernel_rfl) (fun _ _ _ h => h) ?_ (by assumption) ?_
    rotate_left
    · intro oi hoi w hSw; (try dsimp only at hSw); simp only [List.getElem?_toArray, List.getElem?_cons_zero, List.getElem?_cons_succ, Option.some.injEq] at hoi; subst hoi; go_simp; try with_reducible rfl
    simp only [Act.put, List.setIfInBounds_toArray, List.set_cons_zero, List.set_cons_succ]
    refine wpAnyW_takeD 9 47 (v := ?_) (by kernel_rfl) (by kernel_rfl) (by kernel_rfl) (by kernel_rfl) (fun _ _ _ h => h) ?_ (by assumption) ?_
    rotate_left
    · intro oi hoi w hSw; (try dsimp only at hSw); simp only [List.getElem?_toArray, List.getElem?_cons_zero, List.getElem?_cons_succ, Option.some.injEq] at hoi; subst hoi; go_simp; try with_reducible rfl
    simp only [Act.put, List.setIfInBounds_toArray, List.set_cons_zero, List.set_cons_succ]
    refine wpAnyW_takeD 10 48 (v := ?_) (by kernel_rfl) (by kernel_rfl) (by kernel_rfl) (by kernel_rfl) (fun _ _ _ h => h) ?_ (by assumption) ?_
    rotate_left
    · intro oi hoi w hSw; (try dsimp only at hSw); simp only [List.getElem?_toArray, List.getElem?_cons_zero, List.getElem?_cons_succ, Option.some.injEq] at hoi; subst hoi; go_simp; try with_reducible rfl
    simp only [Act.put, List.setIfInBounds_toArray, List.set_cons_zero, List.set_cons_succ]
    refine wpAnyW_takeD 11 49 (v := ?_) (by kernel_rfl) (by kernel_rfl) (by kernel_rfl) (by kernel_rfl) (fun _ _ _ h => h) ?_ (by assumption) ?_
    rotate_left
    · intro oi hoi w hSw; (try dsimp only at hSw); simp only [List.getElem?_toArray, List.getElem?_cons_zero, List.getElem?_cons_succ, Option.some.injEq] at hoi; subst hoi; go_simp; try with_reducible rfl
    simp only [Act.put, List.setIfInBounds_toArray, List.set_cons_zero, List.set_cons_succ]
    refine wpAnyW_one 12 (by kernel_rfl) (by kernel_rfl) ?_
    intro o ho K hK
    simp only [List.getElem?_toArray, List.getElem?_cons_zero, List.getElem?_cons_succ, Option.some.injEq] at ho
    subst ho
    go_simp
    refine ⟨trivial, CallsIn.mono (callsIn_wide.2 (HARE.out _)) ?_⟩
    rintro e w3 ⟨rfl, hb1⟩
    have hH3 := hHeld.trans (hb1.mono hHeld.size)
    have hb3 := hb0.trans (hH3.mono hb0.size)
    refine hK _ _ hH3 (fun _ => ?_)
    clear hK K
    try simp only [Act.put, List.setIfInBounds_toArray, List.set_cons_zero, List.set_cons_succ]
    refine wpAnyW_takeD 13 10 (v := ?_) (by kernel_rfl) (by kernel_rfl) (by kernel_rfl) (by kernel_rfl) (fun _ _ _ h => h) ?_ (by assumption) ?_
    rotate_left
    · intro oi hoi w hSw; (try dsimp only at hSw); simp only [List.getElem?_toArray, List.getElem?_cons_zero, List.getElem?_cons_succ, Option.some.injEq] at hoi; subst hoi; go_simp; try with_reducible rfl
    simp only [Act.put, List.setIfInBounds_toArray, List.set_cons_zero, List.set_cons_succ]
    refine wpAnyW_takeD 14 11 (v := ?_) (by kernel_rfl) (by kernel_rfl) (by kernel_rfl) (by kernel_rfl) (fun _ _ _ h => h) ?_ (by assumption) ?_
    rotate_left
    · intro oi hoi w hSw; (try dsimp only at hSw); simp only [List.getElem?_toArray, List.getElem?_cons_zero, List.getElem?_cons_succ, Option.some.injEq] at hoi; subst hoi; go_simp; try with_reducible rfl
    simp only [Act.put, List.setIfInBounds_toArray, List.set_cons_zero, List.set_cons_succ]
    refine wpAnyW_done (by kernel_rfl) ?_ _
    dsimp only [onNormal]
    clear S2 S3 E0 E1 E2 E3 E4 E5 E6 F0 F1 F2 F3 F4 F5 F6
    go_wp2
    go_ret2
    exact ⟨by rw [HR.out, HM.out] <;> rfl, hb3⟩
end Go.Proofs.Ytjkegmjjhdmkiaa
