/- Package border: which lists of stars are bad; opening a border. -/
import Derived.Test.YtjkegmjjhdmkiaaB2
namespace Go.Proofs.Ytjkegmjjhdmkiaa
open Go.RowKit
set_option maxHeartbeats 800000

theorem badTrait_neg (x : Ed) : decide (badTrait x ≥ 0) = !x.ok := by
  unfold badTrait Ed.ok
  cases x.e.ok (-1048576) 1048576 <;> cases x.n.ok (-1048576) 1048576 <;> cases x.b.ok 0 2000 <;> rfl

theorem containsTr (x : Ed) (bt bx : Nat) (w : World) (ht : TrsAt w bt) (hx : EdAt w bx 0 x) :
    Calls Try.prog 83 #[.slice (some ⟨bt, 0, none⟩) 3 3, .func (.func 84) #[] #[.pointer (some ⟨bx, 0, none⟩)]] w
      fun e w' => e = .returned (.bool (!x.ok)) ∧ Below w.heap.size w w' := by
  have H := Lib.hid (badTrait_neg x)
  go_enter Try.func83, Try.ntmps83
  go_wp2_with (go_at_call 94; refine (indexTr x bt bx _ ht hx).mono ?_; rintro e w' ⟨rfl, hb⟩)
  go_ret
  exact ⟨ret_bool H.out, hb⟩

theorem TrsAt.new (w : World) (T : TypeId) : TrsAt (w.alloc (.cells traitsV.cells T)) w.heap.size := by
  unfold traitsV
  exact ⟨⟨cell_new _ _ _ _ _ rfl, cell_new _ _ _ _ _ rfl, cell_new _ _ _ _ _ rfl, cell_new _ _ _ _ _ rfl⟩, ⟨cell_new _ _ _ _ _ rfl, cell_new _ _ _ _ _ rfl, cell_new _ _ _ _ _ rfl, cell_new _ _ _ _ _ rfl⟩, ⟨cell_new _ _ _ _ _ rfl, cell_new _ _ _ _ _ rfl, cell_new _ _ _ _ _ rfl, cell_new _ _ _ _ _ rfl⟩⟩

theorem isBad_any (x : Ed) (w : World) :
    Calls Try.prog 69 #[.agg #[.int .i64 x.e.lo, .int .i64 x.e.hi, .int .i64 x.n.lo, .int .i64 x.n.hi, .int .i64 x.b.lo, .int .i64 x.b.hi, .bool x.sure]] w
      fun e w' => e = .returned (.bool (!x.ok)) ∧ Below w.heap.size w w' := by
  go_enter Try.func69, Try.ntmps69
  go_wp2_with (first | (go_at_call 82; refine (traits_any _).mono ?_; rintro e w1 ⟨rfl, hb⟩; unfold traitsV) | fail)
  refine (containsTr x w1.heap.size w.heap.size _ (TrsAt.new w1 _) (((EdAt.new w x _).later hb).later (below_alloc _ _))).mono ?_
  rintro e w2 ⟨rfl, hb2⟩
  go_wp2
  go_ret
  exact ⟨rfl, ((below_alloc _ _).trans (hb.mono (by simp))).trans ((below_alloc _ _).trans (hb2.mono (by simp)) |>.mono (by have := hb.size; simp at this; omega))⟩

/-- The number of the first bad star; -1: there is none. -/
def firstBad (l : List Ed) : Int := match l.findIdx? (fun x => !x.ok) with | some i => (i : Int) | none => -1

theorem indexEd (a : Option Addr) (cap : Nat) (l : List Ed) (w : World) (hl : l.length < 9223372036854775807) (hx : EdSl w a l) :
    Calls Try.prog 81 #[.slice a l.length cap, .func (.func 69) #[] #[]] w
      fun e w' => e = .returned (.int .i64 (firstBad l)) ∧ Below w.heap.size w w' := by
  go_enter Try.func81, Try.ntmps81
  go_wp2
  go_loopw [4, 5, 8] (fun _ _ i wr => ∃ k : Nat, k ≤ l.length ∧ i = .int .i64 k ∧ (∀ j (h : j < l.length), j < k → l[j].ok = true) ∧ Below w.heap.size w wr) (fun _ _ i _ => l.length - (intOf i).toNat)
  case atStart => exact ⟨0, Nat.zero_le _, rfl, fun j _ h => absurd h (Nat.not_lt_zero _), Below.refl _ _⟩
  case round =>
    rename_i wr
    obtain ⟨k, hk, rfl, hnone, hbw⟩ := hrel
    have HN := Lib.hid hnone
    clear hnone
    by_cases hlt : k < l.length
    · obtain ⟨b, o, rfl, hb, hxk⟩ := hx k hlt
      obtain ⟨c0, c1, c2, c3, c4, c5, c6⟩ := hxk.same (hbw.block b hb)
      cases hq : l[k].ok
      all_goals
        have Hq := Lib.hid hq
        clear hq
        go_wp2_with (go_at_call 69; refine (isBad_any l[k] _).mono ?_; rintro e w' ⟨rfl, hb⟩; rw [Hq.out]; dsimp only [Bool.not_false, Bool.not_true])
      · go_ret
        refine ⟨ret_int ?_, hbw.trans (hb.mono hbw.size)⟩
        have hf : l.findIdx? (fun x => !x.ok) = some k := by
          rw [List.findIdx?_eq_some_iff_getElem]
          exact ⟨hlt, by simp [Hq.out], fun j hj => by simp [HN.out j (by omega) hj]⟩
        unfold firstBad; rw [hf]
      · go_roundw
        case rel => exact ⟨k + 1, by omega, by go_num, fun j h hj => by rcases Nat.lt_succ_iff_lt_or_eq.1 hj with h2 | rfl; exact HN.out j h h2; exact Hq.out, hbw.trans (hb.mono hbw.size)⟩
        case measure => simp [intOf]; omega
    · go_wp2
      go_ret
      obtain rfl : k = l.length := by omega
      refine ⟨ret_int ?_, hbw⟩
      have hf : l.findIdx? (fun x => !x.ok) = none := by
        rw [List.findIdx?_eq_none_iff]
        intro x hx
        obtain ⟨j, hj, rfl⟩ := List.getElem_of_mem hx
        simp [HN.out j hj hj]
      unfold firstBad; rw [hf]

theorem containsEd (a : Option Addr) (cap : Nat) (l : List Ed) (w : World) (hl : l.length < 9223372036854775807) (hx : EdSl w a l) :
    Calls Try.prog 68 #[.slice a l.length cap, .func (.func 69) #[] #[]] w
      fun e w' => e = .returned (.bool (!l.all Ed.ok)) ∧ Below w.heap.size w w' := by
  have h : decide (firstBad l ≥ 0) = !l.all Ed.ok := by
    unfold firstBad
    cases hf : l.findIdx? (fun x => !x.ok) with
    | none =>
      rw [List.findIdx?_eq_none_iff] at hf
      have : l.all Ed.ok = true := List.all_eq_true.2 fun x hx => by simpa using hf x hx
      rw [this]; rfl
    | some i =>
      rw [List.findIdx?_eq_some_iff_getElem] at hf
      obtain ⟨hi, hp, _⟩ := hf
      have : l.all Ed.ok = false := by
        rw [List.all_eq_false]
        exact ⟨l[i], List.getElem_mem hi, by simpa using hp⟩
      rw [this]; simp
  have key := fun W => indexEd a cap l W hl
  generalize firstBad l = n at h key
  have H := Lib.hid h
  clear h
  go_enter Try.func68, Try.ntmps68
  go_wp2_with (go_at_call 81; refine (key _ hx).mono ?_; rintro e w' ⟨rfl, hb⟩)
  go_ret
  exact ⟨ret_bool H.out, hb⟩
end Go.Proofs.Ytjkegmjjhdmkiaa
