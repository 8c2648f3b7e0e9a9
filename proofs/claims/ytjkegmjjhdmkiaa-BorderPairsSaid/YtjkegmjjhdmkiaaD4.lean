/- Package border: what gathers the stars that are in pairs. -/
import Derived.Test.YtjkegmjjhdmkiaaD3
namespace Go.Proofs.Ytjkegmjjhdmkiaa
open Go.RowKit Go.Shelf
set_option maxHeartbeats 1600000
set_option maxRecDepth 100000
set_option linter.unusedSimpArgs false

structure JnAt (w : World) (g a c : Nat) : Prop where
  c0 : w.cell? ⟨g, 0, none⟩ = some (.int .u64 a)
  c1 : w.cell? ⟨g, 1, none⟩ = some (.int .u64 c)
  fz : ∀ i, w.frozen? ⟨g, i, none⟩ = false
theorem JnAt.lt {w : World} {g a c : Nat} (h : JnAt w g a c) : g < w.heap.size := World.block_lt_of_cell? w _ h.c0
theorem JnAt.steps {w w' : World} {own : Nat → Prop} {g a c : Nat} (h : JnAt w g a c) (hs : Steps own w w') (hn : ¬ own g) : JnAt w' g a c := by
  have e := hs.block g h.lt hn
  exact ⟨(World.cell?_of_block e).trans h.c0, (World.cell?_of_block e).trans h.c1, fun i => (World.frozen?_of_block e).trans (h.fz i)⟩
theorem JnAt.set0 {w : World} {g a c : Nat} (h : JnAt w g a c) (v : Nat) : JnAt (w.setCell ⟨g, 0, none⟩ (.int .u64 v)) g v c :=
  ⟨cell_set _ h.c0, cell_far h.c1 (.inr (by omega)), fun i => by rw [World.frozen?_setCell]; exact h.fz i⟩
theorem JnAt.set1 {w : World} {g a c : Nat} (h : JnAt w g a c) (v : Nat) : JnAt (w.setCell ⟨g, 1, none⟩ (.int .u64 v)) g a v :=
  ⟨cell_far h.c0 (.inr (by omega)), cell_set _ h.c1, fun i => by rw [World.frozen?_setCell]; exact h.fz i⟩
theorem JnAt.drew {w : World} {g a c : Nat} (h : JnAt w g a c) : JnAt w.drew g a c := h.steps (Steps.refl (fun _ => False) _).drew (fun h => h)

def Jn2 (w : World) (g a c : Nat) (y : Int) (k : Nat) : Prop := JnAt w g (a ||| (if y = -1 then 0 else 2 ^ k)) (c ||| bitOf y)

/-- What 'joined' holds. -/
structure JoinedA (g : Nat) (b : Bo) (f s : Nat) (own : Nat → Prop) (pre : List Joined) (W : World) : Prop where
  o : ¬ own g
  j : JnAt W g (allFirst (pre.map (·.2))) (allSecond (pre.map (·.2)))
  s : ∀ z ∈ pre, z.2 ∈ bJoins b f s z.1

theorem jFirst_succ (x : List Int) (k : Nat) (h : k < x.length) : jFirst x (k + 1) = jFirst x k ||| (if x[k] = -1 then 0 else 2 ^ k) := by
  unfold jFirst
  simp only [maskOf, List.getElem?_eq_getElem h]
  by_cases e : x[k] = -1 <;> simp [e]
theorem jFirst_lt (x : List Int) (k N : Nat) (h : k ≤ N) : jFirst x k < 2 ^ N := Nat.lt_of_lt_of_le (maskOf_lt _ _) (Nat.pow_le_pow_right (by omega) h)
theorem jSecond_take (x : List Int) (k : Nat) (h : k < x.length) : jSecond (x.take (k + 1)) = jSecond (x.take k) ||| bitOf x[k] := by
  rw [List.take_succ_eq_append_getElem h, jSecond_snoc]

theorem joined_adder (N g r : Nat) (b : Bo) (f s : Nat) (hok : b.ok = true) (hgr : g ≠ r) : Adder 114 g r b f s N (JoinedA g b f s) where
  bides := by
    rintro own own' pre A C ⟨h1, h2, h3⟩ hs ho
    exact ⟨fun h => by rcases ho g h with h | h; exact h1 h; have := h2.lt; omega, h2.steps hs h1, h3⟩
  known := by
    rintro own pre A C ⟨h1, h2, h3⟩ hs
    exact ⟨h1, h2.steps hs hgr, h3⟩
  add := by
    rintro own pre z x q cap W ⟨h1, h2, h3⟩ hz hx hqN hq hqg hqr hql hqi hown
    obtain ⟨hxl, hxe⟩ := bJoins_mem hx
    obtain ⟨l1, l2⟩ := bo_lens hok
    have e1 := allFirst_lt (N := 6) (pre.map (·.2)) (fun y hy => by
      obtain ⟨z', hz', rfl⟩ := List.mem_map.1 hy
      have := (bJoins_mem (h3 z' hz')).1; omega)
    have e2 := allSecond_lt (N := 6) (pre.map (·.2)) (fun y hy e he => by
      obtain ⟨z', hz', rfl⟩ := List.mem_map.1 hy
      have := (bJoins_mem (h3 z' hz')).2 e he; omega)
    have hn1 : allFirst ((pre ++ [(z, x)]).map (·.2)) = allFirst (pre.map (·.2)) ||| jFirst x x.length := by rw [List.map_append, List.map_singleton, allFirst_snoc]
    have hn2 : allSecond ((pre ++ [(z, x)]).map (·.2)) = allSecond (pre.map (·.2)) ||| jSecond x := by rw [List.map_append, List.map_singleton, allSecond_snoc]
    generalize allFirst (pre.map (·.2)) = a at e1 hn1 h2
    generalize allSecond (pre.map (·.2)) = c at e2 hn2 h2
    have hs3 : ∀ z' ∈ pre ++ [(z, x)], z'.2 ∈ bJoins b f s z'.1 := fun z' hz' => by
      rcases List.mem_append.1 hz' with h | h
      · exact h3 z' h
      · rw [List.mem_singleton] at h; subst h; exact hx
    have HN1 := Lib.hid hn1
    have HN2 := Lib.hid hn2
    have HS3 := Lib.hid hs3
    have HXL := Lib.hid hxl
    have hx6 : x.length ≤ 6 := by omega
    clear hn1 hn2 hs3 h3 hx hz hxl
    obtain ⟨ez, er⟩ := z
    unfold shV
    go_enter Try.func114, Try.ntmps114
    go_wp2
    have hst1 : Steps (fun k => k = g) W (W.alloc (.cells #[.int .i64 ez, .int .i64 er] 72)) := Steps.alloc _ W _
    have hj1 : JnAt (W.alloc (.cells #[.int .i64 ez, .int .i64 er] 72)) g a c := h2.steps (Steps.alloc (fun _ => False) _ _) (fun h => h)
    go_loopw [6, 7, 10] (fun _ _ i wr => ∃ k : Nat, k ≤ x.length ∧ i = .int .i64 k ∧ JnAt wr g (a ||| jFirst x k) (c ||| jSecond (x.take k)) ∧ Steps (fun k => k = g) W wr) (fun _ _ i _ => x.length - (intOf i).toNat)
    case atStart => exact ⟨0, Nat.zero_le _, rfl, by simpa [jFirst, maskOf, jSecond] using hj1, hst1⟩
    case round =>
      rename_i wr
      obtain ⟨k, hk, rfl, hjr, hsr⟩ := hrel
      by_cases hlt : k < x.length
      · have hqk := (hqi.later (hsr.block q hql hqg)).cell k hlt
        have hy := hxe x[k] (List.getElem_mem _)
        have hF := jFirst_succ x k hlt
        have hS := jSecond_take x k hlt
        have b1 : a ||| jFirst x k < 2 ^ 6 := Nat.or_lt_two_pow e1 (jFirst_lt x k 6 (by omega))
        have b2 : c ||| jSecond (x.take k) < 2 ^ 6 := Nat.or_lt_two_pow e2 (jSecond_lt _ (fun y hy => by have := hxe y (List.mem_of_mem_take hy); omega))
        have b3 := bitOf_lt (ns := 6) (y := x[k]) (by omega)
        generalize x[k] = y at hqk hy hF hS b3
        have hJ : ∀ W', JnAt W' g ((a ||| jFirst x k) ||| (if y = -1 then 0 else 2 ^ k)) ((c ||| jSecond (x.take k)) ||| bitOf y) → JnAt W' g (a ||| jFirst x (k + 1)) (c ||| jSecond (x.take (k + 1))) := fun W' h => by
          rw [hF, hS, ← Nat.or_assoc, ← Nat.or_assoc]; exact h
        have HJ := Lib.hid hJ
        clear hJ hF hS
        generalize a ||| jFirst x k = a1 at hjr HJ b1
        generalize c ||| jSecond (x.take k) = c1 at hjr HJ b2
        have hjr' := hjr
        obtain ⟨c0, c1', fz⟩ := hjr'
        by_cases hm : y = -1
        · subst hm
          go_wp2_with fail
          go_roundw
          case rel => exact ⟨k + 1, by omega, by go_num, HJ.out _ (by simpa [bitOf] using hjr), hsr⟩
          case measure => simp [intOf]; omega
        · obtain ⟨n, rfl⟩ := Int.eq_ofNat_of_zero_le (show 0 ≤ y by omega)
          have hn64 : (n : Int) < 64 := by omega
          have hk64 : (k : Int) < 64 := by omega
          have f0 := fz 0
          have f1 := fz 1
          have p1 := pow_u64 k (by omega)
          have p2 := pow_u64 n (by omega)
          have hpk : 2 ^ k < 2 ^ 6 := Nat.pow_lt_pow_right (by omega) (by omega)
          have hpn : 2 ^ n < 2 ^ 6 := Nat.pow_lt_pow_right (by omega) (by omega)
          have o1 : bits .or .u64 (a1 : Int) (IntKind.u64.wrap (2 ^ k)) = ((a1 ||| 2 ^ k : Nat) : Int) := by rw [p1]; exact or_u64 _ _ (by omega) (by omega)
          have o2 : bits .or .u64 (c1 : Int) (IntKind.u64.wrap (2 ^ n)) = ((c1 ||| 2 ^ n : Nat) : Int) := by rw [p2]; exact or_u64 _ _ (by omega) (by omega)
          have hpost : ∀ W', JnAt W' g (a1 ||| 2 ^ k) (c1 ||| 2 ^ n) → Jn2 W' g a1 c1 (n : Int) k := fun W' h => by
            have hb : bitOf (n : Int) = 2 ^ n := by simp [bitOf, hm]
            unfold Jn2
            rw [hb, if_neg hm]; exact h
          have HP := Lib.hid hpost
          clear p1 p2 hpost
          go_upto_region 5 with fail
          have k0 : ∀ W', KeepCells (fun k => k = g) wr W' → W'.cell? ⟨g, 0, none⟩ = some (.int .u64 a1) := fun W' h => h ⟨g, 0, none⟩ _ rfl c0
          have k1 : ∀ W', KeepCells (fun k => k = g) wr W' → W'.cell? ⟨g, 1, none⟩ = some (.int .u64 c1) := fun W' h => h ⟨g, 1, none⟩ _ rfl c1'
          refine (wpIn_wide (n := 1)).1 ?_
          refine wpIn_region_V (B := [18, 21]) (S := fun W' => KeepCells (fun k => k = g) wr W') 22 (by kernel_rfl) (by kernel_rfl) (fun a v _ h => h) (fun hHeld => ?_)
          refine wpAnyV_takeP 0 17 (v := ?_) (by kernel_rfl) (by kernel_rfl) (by kernel_rfl) (by kernel_rfl) (fun _ _ _ h => h) ?_ (by kernel_rfl) (by first | exact .inr hHeld | exact .inl (by kernel_rfl)) ?_
          rotate_left
          · intro oi hoi w; simp only [List.getElem?_toArray, List.getElem?_cons_zero, List.getElem?_cons_succ, Option.some.injEq] at hoi; subst hoi; go_simp; try with_reducible rfl
          simp only [Act.put, List.setIfInBounds_toArray, List.set_cons_zero, List.set_cons_succ]
          refine wpAnyV_takeP 1 18 (v := ?_) (by kernel_rfl) (by kernel_rfl) (by kernel_rfl) (by kernel_rfl) (fun _ _ _ h => h) ?_ (by kernel_rfl) (by first | exact .inr hHeld | exact .inl (by kernel_rfl)) ?_
          rotate_left
          · intro oi hoi w; simp only [List.getElem?_toArray, List.getElem?_cons_zero, List.getElem?_cons_succ, Option.some.injEq] at hoi; subst hoi; go_simp; try with_reducible rfl
          simp only [Act.put, List.setIfInBounds_toArray, List.set_cons_zero, List.set_cons_succ]
          refine wpAnyV_takeP 2 19 (v := ?_) (by kernel_rfl) (by kernel_rfl) (by kernel_rfl) (by kernel_rfl) (fun _ _ _ h => h) ?_ (by kernel_rfl) (by first | exact .inr hHeld | exact .inl (by kernel_rfl)) ?_
          rotate_left
          · intro oi hoi w; simp only [List.getElem?_toArray, List.getElem?_cons_zero, List.getElem?_cons_succ, Option.some.injEq] at hoi; subst hoi; go_simp; try with_reducible rfl
          simp only [Act.put, List.setIfInBounds_toArray, List.set_cons_zero, List.set_cons_succ]
          refine wpAnyV_takeP 3 20 (v := ?_) (by kernel_rfl) (by kernel_rfl) (by kernel_rfl) (by kernel_rfl) (fun _ _ _ h => h) ?_ (by kernel_rfl) (by first | exact .inr hHeld | exact .inl (by kernel_rfl)) ?_
          rotate_left
          · intro oi hoi w; simp only [List.getElem?_toArray, List.getElem?_cons_zero, List.getElem?_cons_succ, Option.some.injEq] at hoi; subst hoi; go_simp; try with_reducible rfl
          simp only [Act.put, List.setIfInBounds_toArray, List.set_cons_zero, List.set_cons_succ]
          refine wpAnyV_takeP 4 21 (v := ?_) (by kernel_rfl) (by kernel_rfl) (by kernel_rfl) (by kernel_rfl) (fun _ _ _ h => h) ?_ (by kernel_rfl) (by first | exact .inr hHeld | exact .inl (by kernel_rfl)) ?_
          rotate_left
          · intro oi hoi w; simp only [List.getElem?_toArray, List.getElem?_cons_zero, List.getElem?_cons_succ, Option.some.injEq] at hoi; subst hoi; go_simp; try with_reducible rfl
          simp only [Act.put, List.setIfInBounds_toArray, List.set_cons_zero, List.set_cons_succ]
          refine wpAnyV_takeD 5 22 (v := ?_) (by kernel_rfl) (by kernel_rfl) (by kernel_rfl) (by kernel_rfl) (fun _ _ _ h => h) (by kernel_rfl) ?_ (by assumption) ?_
          rotate_left
          · intro oi hoi w hSw; (try dsimp only at hSw); simp only [List.getElem?_toArray, List.getElem?_cons_zero, List.getElem?_cons_succ, Option.some.injEq] at hoi; subst hoi; go_simp; try with_reducible rfl
          simp only [Act.put, List.setIfInBounds_toArray, List.set_cons_zero, List.set_cons_succ]
          refine wpAnyV_takeP 6 23 (v := ?_) (by kernel_rfl) (by kernel_rfl) (by kernel_rfl) (by kernel_rfl) (fun _ _ _ h => h) ?_ (by kernel_rfl) (by first | exact .inr hHeld | exact .inl (by kernel_rfl)) ?_
          rotate_left
          · intro oi hoi w; simp only [List.getElem?_toArray, List.getElem?_cons_zero, List.getElem?_cons_succ, Option.some.injEq] at hoi; subst hoi; go_simp; try with_reducible rfl
          simp only [Act.put, List.setIfInBounds_toArray, List.set_cons_zero, List.set_cons_succ]
          refine wpAnyV_takeP 7 24 (v := ?_) (by kernel_rfl) (by kernel_rfl) (by kernel_rfl) (by kernel_rfl) (fun _ _ _ h => h) ?_ (by kernel_rfl) (by first | exact .inr hHeld | exact .inl (by kernel_rfl)) ?_
          rotate_left
          · intro oi hoi w; simp only [List.getElem?_toArray, List.getElem?_cons_zero, List.getElem?_cons_succ, Option.some.injEq] at hoi; subst hoi; go_simp; try with_reducible rfl
          simp only [Act.put, List.setIfInBounds_toArray, List.set_cons_zero, List.set_cons_succ]
          refine wpAnyV_takeP 8 25 (v := ?_) (by kernel_rfl) (by kernel_rfl) (by kernel_rfl) (by kernel_rfl) (fun _ _ _ h => h) ?_ (by kernel_rfl) (by first | exact .inr hHeld | exact .inl (by kernel_rfl)) ?_
          rotate_left
          · intro oi hoi w; simp only [List.getElem?_toArray, List.getElem?_cons_zero, List.getElem?_cons_succ, Option.some.injEq] at hoi; subst hoi; go_simp; try with_reducible rfl
          simp only [Act.put, List.setIfInBounds_toArray, List.set_cons_zero, List.set_cons_succ]
          refine wpAnyV_takeP 9 26 (v := ?_) (by kernel_rfl) (by kernel_rfl) (by kernel_rfl) (by kernel_rfl) (fun _ _ _ h => h) ?_ (by kernel_rfl) (by first | exact .inr hHeld | exact .inl (by kernel_rfl)) ?_
          rotate_left
          · intro oi hoi w; simp only [List.getElem?_toArray, List.getElem?_cons_zero, List.getElem?_cons_succ, Option.some.injEq] at hoi; subst hoi; go_simp; try with_reducible rfl
          simp only [Act.put, List.setIfInBounds_toArray, List.set_cons_zero, List.set_cons_succ]
          refine wpAnyV_takeP 10 27 (v := ?_) (by kernel_rfl) (by kernel_rfl) (by kernel_rfl) (by kernel_rfl) (fun _ _ _ h => h) ?_ (by kernel_rfl) (by first | exact .inr hHeld | exact .inl (by kernel_rfl)) ?_
          rotate_left
          · intro oi hoi w; simp only [List.getElem?_toArray, List.getElem?_cons_zero, List.getElem?_cons_succ, Option.some.injEq] at hoi; subst hoi; go_simp; try with_reducible rfl
          simp only [Act.put, List.setIfInBounds_toArray, List.set_cons_zero, List.set_cons_succ]
          refine wpAnyV_takeP 11 28 (v := ?_) (by kernel_rfl) (by kernel_rfl) (by kernel_rfl) (by kernel_rfl) (fun _ _ _ h => h) ?_ (by kernel_rfl) (by first | exact .inr hHeld | exact .inl (by kernel_rfl)) ?_
          rotate_left
          · intro oi hoi w; simp only [List.getElem?_toArray, List.getElem?_cons_zero, List.getElem?_cons_succ, Option.some.injEq] at hoi; subst hoi; go_simp; try with_reducible rfl
          simp only [Act.put, List.setIfInBounds_toArray, List.set_cons_zero, List.set_cons_succ]
          refine wpAnyV_takeD 12 29 (v := ?_) (by kernel_rfl) (by kernel_rfl) (by kernel_rfl) (by kernel_rfl) (fun _ _ _ h => h) (by kernel_rfl) ?_ (by assumption) ?_
          rotate_left
          · intro oi hoi w hSw; (try dsimp only at hSw); simp only [List.getElem?_toArray, List.getElem?_cons_zero, List.getElem?_cons_succ, Option.some.injEq] at hoi; subst hoi; go_simp; try with_reducible rfl
          simp only [Act.put, List.setIfInBounds_toArray, List.set_cons_zero, List.set_cons_succ]
          refine wpAnyV_takeP 13 30 (v := ?_) (by kernel_rfl) (by kernel_rfl) (by kernel_rfl) (by kernel_rfl) (fun _ _ _ h => h) ?_ (by kernel_rfl) (by first | exact .inr hHeld | exact .inl (by kernel_rfl)) ?_
          rotate_left
          · intro oi hoi w; simp only [List.getElem?_toArray, List.getElem?_cons_zero, List.getElem?_cons_succ, Option.some.injEq] at hoi; subst hoi; go_simp; try with_reducible rfl
          simp only [Act.put, List.setIfInBounds_toArray, List.set_cons_zero, List.set_cons_succ]
          refine wpAnyV_takeP 14 31 (v := ?_) (by kernel_rfl) (by kernel_rfl) (by kernel_rfl) (by kernel_rfl) (fun _ _ _ h => h) ?_ (by kernel_rfl) (by first | exact .inr hHeld | exact .inl (by kernel_rfl)) ?_
          rotate_left
          · intro oi hoi w; simp only [List.getElem?_toArray, List.getElem?_cons_zero, List.getElem?_cons_succ, Option.some.injEq] at hoi; subst hoi; go_simp; try with_reducible rfl
          simp only [Act.put, List.setIfInBounds_toArray, List.set_cons_zero, List.set_cons_succ]
          refine wpAnyV_takeP 15 32 (v := ?_) (by kernel_rfl) (by kernel_rfl) (by kernel_rfl) (by kernel_rfl) (fun _ _ _ h => h) ?_ (by kernel_rfl) (by first | exact .inr hHeld | exact .inl (by kernel_rfl)) ?_
          rotate_left
          · intro oi hoi w; simp only [List.getElem?_toArray, List.getElem?_cons_zero, List.getElem?_cons_succ, Option.some.injEq] at hoi; subst hoi; go_simp; try with_reducible rfl
          simp only [Act.put, List.setIfInBounds_toArray, List.set_cons_zero, List.set_cons_succ]
          refine wpAnyV_takeP 16 33 (v := ?_) (by kernel_rfl) (by kernel_rfl) (by kernel_rfl) (by kernel_rfl) (fun _ _ _ h => h) ?_ (by kernel_rfl) (by first | exact .inr hHeld | exact .inl (by kernel_rfl)) ?_
          rotate_left
          · intro oi hoi w; simp only [List.getElem?_toArray, List.getElem?_cons_zero, List.getElem?_cons_succ, Option.some.injEq] at hoi; subst hoi; go_simp; try with_reducible rfl
          simp only [Act.put, List.setIfInBounds_toArray, List.set_cons_zero, List.set_cons_succ]
          refine wpAnyV_takeP 17 34 (v := ?_) (by kernel_rfl) (by kernel_rfl) (by kernel_rfl) (by kernel_rfl) (fun _ _ _ h => h) ?_ (by kernel_rfl) (by first | exact .inr hHeld | exact .inl (by kernel_rfl)) ?_
          rotate_left
          · intro oi hoi w; simp only [List.getElem?_toArray, List.getElem?_cons_zero, List.getElem?_cons_succ, Option.some.injEq] at hoi; subst hoi; go_simp; try with_reducible rfl
          simp only [Act.put, List.setIfInBounds_toArray, List.set_cons_zero, List.set_cons_succ]
          refine wpAnyV_one 18 (by kernel_rfl) (by kernel_rfl) ?_
          intro o ho K hK
          simp only [List.getElem?_toArray, List.getElem?_cons_zero, List.getElem?_cons_succ, Option.some.injEq] at ho
          subst ho
          go_simp
          refine hK _ _ (.inl (by kernel_rfl)) (fun _ => ?_)
          clear hK K
          try simp only [Act.put, List.setIfInBounds_toArray, List.set_cons_zero, List.set_cons_succ]
          refine wpAnyV_takeP 19 35 (v := ?_) (by kernel_rfl) (by kernel_rfl) (by kernel_rfl) (by kernel_rfl) (fun _ _ _ h => h) ?_ (by kernel_rfl) (by first | exact .inr hHeld | exact .inl (by kernel_rfl)) ?_
          rotate_left
          · intro oi hoi w; simp only [List.getElem?_toArray, List.getElem?_cons_zero, List.getElem?_cons_succ, Option.some.injEq] at hoi; subst hoi; go_simp; try with_reducible rfl
          simp only [Act.put, List.setIfInBounds_toArray, List.set_cons_zero, List.set_cons_succ]
          refine wpAnyV_takeP 20 36 (v := ?_) (by kernel_rfl) (by kernel_rfl) (by kernel_rfl) (by kernel_rfl) (fun _ _ _ h => h) ?_ (by kernel_rfl) (by first | exact .inr hHeld | exact .inl (by kernel_rfl)) ?_
          rotate_left
          · intro oi hoi w; simp only [List.getElem?_toArray, List.getElem?_cons_zero, List.getElem?_cons_succ, Option.some.injEq] at hoi; subst hoi; go_simp; try with_reducible rfl
          simp only [Act.put, List.setIfInBounds_toArray, List.set_cons_zero, List.set_cons_succ]
          refine wpAnyV_one 21 (by kernel_rfl) (by kernel_rfl) ?_
          intro o ho K hK
          simp only [List.getElem?_toArray, List.getElem?_cons_zero, List.getElem?_cons_succ, Option.some.injEq] at ho
          subst ho
          go_simp
          refine hK _ _ (.inl (by kernel_rfl)) (fun _ => ?_)
          clear hK K
          try simp only [Act.put, List.setIfInBounds_toArray, List.set_cons_zero, List.set_cons_succ]
          refine wpAnyV_done (by kernel_rfl) ?_ _
          go_wp2_with fail
          go_roundw
          case measure => simp [intOf]; omega
          case rel => exact ⟨k + 1, by omega, by go_num, HJ.out _ (HP.out _ ((hjr.set0 _).set1 _).drew), ((hsr.trans (Steps.setCell (own := fun k => k = g) _ rfl _) (fun _ _ h => h)).trans (Steps.setCell (own := fun k => k = g) _ rfl _) (fun _ _ h => h)).drew⟩
      · obtain rfl : k = x.length := by omega
        go_wp2
        go_end0
        rw [List.take_length] at hjr
        exact ⟨rfl, hsr, h1, by rw [HN1.out, HN2.out]; exact hjr, HS3.out⟩
end Go.Proofs.Ytjkegmjjhdmkiaa
